/- Rows of bytes of one's own, each row too; what is turned in a batch's blocks is none. -/
import Derived.Test.YtfpnodboebpemaaBat6
namespace Go.Proofs.Ytfpnodboebpemaa
open Go.RowKit Go.Proofs.YtfpnodboebpemaaW.PrintWords
set_option linter.unusedVariables false
set_option linter.unusedSimpArgs false

/-! ### Rows that are owned, and the row of them -/
def rowO (x : Option Addr × Nat) (r : List Int) : HP := rowH 5 1 x.1 x.2 r.length (nums .u8 r)
def slO (x : Option Addr × Nat) (r : List Int) : Value := .slice x.1 r.length x.2
def ownL (xs : List (Option Addr × Nat)) (rows : List (List Int)) : HP := starL (List.zipWith rowO xs rows)
def slsO (xs : List (Option Addr × Nat)) (rows : List (List Int)) : List Value := List.zipWith slO xs rows
section
variable {w : World} {M : List HP} {K : List KP} {xs : List (Option Addr × Nat)} {rows : List (List Int)}
theorem Hold.own_nil (h : Hold w M K) : Hold w (ownL [] [] :: M) K := Hold.starL.2 h
theorem Hold.own_snoc {A : Option Addr} {c : Nat} {q : List Int} (h : Hold w (rowH 5 1 A c q.length (nums .u8 q) :: ownL xs rows :: M) K) (hl : xs.length = rows.length) : Hold w (ownL (xs ++ [(A, c)]) (rows ++ [q]) :: M) K := by
  have h1 := Hold.starL.1 (h.pick (.tail .head))
  refine Hold.starL.2 ?_
  rw [List.zipWith_append hl]
  simpa [rowO] using h1
theorem slsO_snoc {A : Option Addr} {c : Nat} {q : List Int} (hl : xs.length = rows.length) : slsO (xs ++ [(A, c)]) (rows ++ [q]) = slsO xs rows ++ [.slice A q.length c] := by
  unfold slsO; rw [List.zipWith_append hl]; rfl
theorem zipO_at {i : Nat} {x : Option Addr × Nat} {r : List Int} (hx : xs[i]? = some x) (hr : rows[i]? = some r) : (List.zipWith rowO xs rows)[i]? = some (rowO x r) := by rw [List.getElem?_zipWith, hx, hr]
theorem slsO_at {i : Nat} {x : Option Addr × Nat} {r : List Int} (hx : xs[i]? = some x) (hr : rows[i]? = some r) : (slsO xs rows)[i]? = some (.slice x.1 r.length x.2) := by unfold slsO; rw [List.getElem?_zipWith, hx, hr]; rfl
def restO (xs : List (Option Addr × Nat)) (rows : List (List Int)) (i : Nat) : HP := starL ((List.zipWith rowO xs rows).eraseIdx i)
theorem Hold.own_focus {i : Nat} {x : Option Addr × Nat} {r : List Int} (h : Hold w (ownL xs rows :: M) K) (hx : xs[i]? = some x) (hr : rows[i]? = some r) : Hold w (rowH 5 1 x.1 x.2 r.length (nums .u8 r) :: restO xs rows i :: M) K := by
  have h1 := (Hold.starL.1 h).pick (pick_at (zipO_at hx hr))
  have h2 : Hold w ((List.zipWith rowO xs rows).eraseIdx i ++ rowO x r :: M) K := h1.unpick (pick_mid _) |> fun h => h
  exact (Hold.starL.2 h2).pick (.tail .head)
theorem zipO_set {i : Nat} {x : Option Addr × Nat} {r' : List Int} (hx : xs[i]? = some x) : List.zipWith rowO xs (rows.set i r') = (List.zipWith rowO xs rows).set i (rowO x r') := by
  induction xs generalizing rows i with
  | nil => simp at hx
  | cons y xs ih =>
    cases rows with
    | nil => simp
    | cons q rows =>
      cases i with
      | zero => simp at hx; subst hx; simp
      | succ i => simp; exact ih (by simpa using hx)
theorem Hold.own_back {i : Nat} {x : Option Addr × Nat} {r r' : List Int} (h : Hold w (rowH 5 1 x.1 x.2 r'.length (nums .u8 r') :: restO xs rows i :: M) K) (hx : xs[i]? = some x) (hr : rows[i]? = some r) : Hold w (ownL xs (rows.set i r') :: M) K := by
  have h2 := Hold.starL.1 (h.pick (.tail .head))
  have h3 : Hold w (rowO x r' :: ((List.zipWith rowO xs rows).eraseIdx i ++ M)) K := h2.pick (pick_mid _)
  refine Hold.starL.2 (h3.unpick (M := List.zipWith rowO xs (rows.set i r') ++ M) ?_)
  rw [zipO_set hx]
  have hlt : i < (List.zipWith rowO xs rows).length := (List.getElem?_eq_some_iff.1 (zipO_at hx hr)).1
  have := pick_at (M := M) (L := (List.zipWith rowO xs rows).set i (rowO x r')) (i := i) (p := rowO x r') (by rw [List.getElem?_set_self hlt])
  rwa [erase_set] at this
theorem slsO_set {i : Nat} {r r' : List Int} (hr : rows[i]? = some r) (hl : r'.length = r.length) : slsO xs (rows.set i r') = slsO xs rows := by
  unfold slsO
  induction xs generalizing rows i with
  | nil => simp
  | cons y xs ih =>
    cases rows with
    | nil => simp at hr
    | cons q rows =>
      cases i with
      | zero => simp at hr; subst hr; simp [slO, hl]
      | succ i => simp; exact ih (by simpa using hr)
theorem Hold.own_freeze : ∀ {xs : List (Option Addr × Nat)} {rows : List (List Int)} {K : List KP}, Hold w (ownL xs rows :: M) K → xs.length = rows.length → (∀ r ∈ rows, IsB r) → Hold w M (rowsV (slsO xs rows) rows :: K)
  | [], [], K, h, _, _ => (Hold.starL.1 h).derive1 fun I _ _ => ⟨rfl, fun i r hr => by simp at hr⟩
  | x :: xs, r :: rows, K, h, hl, hb => by
    have h1 : Hold w (rowO x r :: ownL xs rows :: M) K := Hold.star.1 h
    have h2 := Hold.row_bytes (xs := r) h1 (hb r List.mem_cons_self)
    have h3 := Hold.own_freeze h2 (by simpa using hl) (fun r hr => hb r (List.mem_cons_of_mem _ hr))
    have h4 : Hold w M (rowsV (slsO (x :: xs) (r :: rows)) (r :: rows) :: rowsV (slsO xs rows) rows :: bytesK x.1 x.2 r :: K) := h3.derive1 fun I hI _ =>
      rowsV_sat_append (us := [.slice x.1 r.length x.2]) (r1 := [r]) ⟨rfl, fun i q hq => by
        match i, hq with
        | 0, hq => simp at hq; subst hq; exact ⟨x.1, x.2, rfl, hI _ (List.mem_cons_of_mem _ List.mem_cons_self)⟩
        | i + 1, hq => simp at hq⟩ (hI _ List.mem_cons_self)
    exact h4.know (fun k hk => by
      rcases List.mem_cons.1 hk with rfl | hk
      · exact List.mem_cons_self
      · exact List.mem_cons_of_mem _ (List.mem_cons_of_mem _ (List.mem_cons_of_mem _ hk)))
  | [], _ :: _, K, h, hl, _ => by simp at hl
  | _ :: _, [], K, h, hl, _ => by simp at hl
/-- All of it is given up. -/
theorem Hold.own_rows {A : Option Addr} {c n : Nat} (h : Hold w (rowH 23 1 A c n (slsO xs rows) :: ownL xs rows :: M) K) (hl : xs.length = rows.length) (hn : n = rows.length) (hb : ∀ r ∈ rows, IsB r) : Hold w M (rowsK A c rows :: K) := by
  subst hn
  have h1 := (h.pick (.tail .head)).own_freeze hl hb
  have h2 := h1.freeze
  have h3 : Hold w M (rowsK A c rows :: slK 1 A c rows.length (slsO xs rows) :: rowsV (slsO xs rows) rows :: K) := h2.derive1 fun I hI _ => ⟨slsO xs rows, hI _ List.mem_cons_self, hI _ (List.mem_cons_of_mem _ List.mem_cons_self)⟩
  exact h3.know (fun k hk => by
    rcases List.mem_cons.1 hk with rfl | hk
    · exact List.mem_cons_self
    · exact List.mem_cons_of_mem _ (List.mem_cons_of_mem _ (List.mem_cons_of_mem _ hk)))
theorem Hold.rows_empty {A : Option Addr} {c : Nat} (h : Hold w (rowH 23 1 A c 0 [] :: M) K) : Hold w (rowsH A c [] :: M) K := Hold.ex.2 ⟨[], Hold.knowH.2 (h.derive1 fun I _ _ => ⟨rfl, fun i r hr => by simp at hr⟩)⟩
theorem Hold.rows_pre {A : Option Addr} {c : Nat} (h : Hold w M K) (hm : rowsK A c rows ∈ K) (k : Nat) (hk : k ≤ rows.length) : Hold w M (rowsK A c (rows.take k) :: K) := by
  have h1 := h.rows_cut hm 0 k (Nat.zero_le _) hk
  rwa [slA_zero, List.drop_zero, Nat.sub_zero, Nat.sub_zero] at h1
theorem Hold.rows_suf {A : Option Addr} {c : Nat} (h : Hold w M K) (hm : rowsK A c rows ∈ K) (k : Nat) (hk : k ≤ rows.length) : Hold w M (rowsK (slA A c k 1) (c - k) (rows.drop k) :: K) := by
  have h1 := h.rows_cut hm k rows.length hk (Nat.le_refl _)
  rwa [List.take_of_length_le (by simp)] at h1
end
theorem decode_b_ct' {M : List HP} {K : List KP} {A : Option Addr} {c n : Nat} {l : List (List Int)} (hl : rowsK A c l ∈ K) (hn : n = l.length) (hb : n ≤ 100000) : Fn 69 [.slice A n c] M K (fun _ : Option Addr × Nat => True) (fun r => .tuple [.agg [.int .i64 (decR l).1.num, .slice r.1 (decR l).1.txs.length r.2].toArray, .int .i64 (decR l).2.1, .int .i64 (decR l).2.2, .int .i64 (decE l)].toArray) (fun _ => M) (fun r => viewK 2 txE r.1 r.2 (decR l).1.txs :: K) := by
  subst hn; exact decode_b_ct hl hb

/-! ### One bit turned -/
theorem Yl.shl8 {E : Env} {w : World} {dst : Option Tmp} {ty : Nat} {ps : String} {af : Array Edge} {g : Option (Nat × Bool)} {t t' : TypeId} {x y : Operand} {k' : IntKind} {b : Int} {m : Nat} (hx : ev E x = some (.int .u8 1)) (hy : ev E y = some (.int k' b)) (hb : b = (m : Int)) (hm : m < 8) : Yl ⟨dst, .binOp .shl t x y t', ty, ps, af, g⟩ E (.int .u8 ((2 ^ m : Nat) : Int)) w := by
  subst hb
  have hp : (1 : Int) * 2 ^ m = ((2 ^ m : Nat) : Int) := by rw [Int.one_mul]; norm_cast
  have h2 : 2 ^ m ≤ 2 ^ 7 := Nat.pow_le_pow_right (by decide) (by omega)
  have h3 : IntKind.u8.wrap ((1 : Int) * 2 ^ m) = 1 * 2 ^ m := by
    rw [hp, IntKind.wrap_u8]
    generalize 2 ^ m = z at *
    omega
  have := Yl.shl (w := w) (dst := dst) (ty := ty) (ps := ps) (af := af) (g := g) (t := t) (t' := t') (k := .u8) (n := m) hx hy (by show m ≤ 8; omega) h3
  rwa [hp] at this
theorem pow8 {m : Nat} (hm : m < 8) : (0 : Int) ≤ ((2 ^ m : Nat) : Int) ∧ ((2 ^ m : Nat) : Int) ≤ 255 := by
  have h2 : 2 ^ m ≤ 2 ^ 7 := Nat.pow_le_pow_right (by decide) (by omega)
  generalize 2 ^ m = z at *
  omega
theorem flip_ne {x : Int} {m : Nat} (hx : 0 ≤ x ∧ x ≤ 255) : ((x.toNat ^^^ (((2 ^ m : Nat) : Int)).toNat : Nat) : Int) ≠ x := by
  intro h
  have h1 : x.toNat ^^^ 2 ^ m = x.toNat := by
    have : (((2 ^ m : Nat) : Int)).toNat = 2 ^ m := Int.toNat_natCast _
    rw [this] at h; omega
  have h2 := congrArg (fun z => x.toNat ^^^ z) h1
  simp only [← Nat.xor_assoc, Nat.xor_self, Nat.zero_xor] at h2
  have : 0 < 2 ^ m := Nat.pow_pos (by decide)
  omega
theorem isB_body {f : Fb} (h : f.err = 0) (hb : IsB f.enc) : IsB f.body := by
  have := raw_enc f (err_fits h).1 (err_fits h).2
  rw [← this]
  exact (hb.drop 18).take _
theorem encB_mem {b : BatL} {ep : Int} (h : b.can ep) {q : List Int} (hq : q ∈ encB b ep) : ∃ f : Fb, q = f.enc ∧ f.err = 0 := by
  rw [encB_eq] at hq
  rcases List.mem_append.1 hq with hq | hq
  · obtain ⟨p, hp, rfl⟩ := List.mem_map.1 hq
    exact ⟨_, rfl, data_err h (allPuts_ok h.1 p hp)⟩
  · rw [List.mem_singleton.1 hq]; exact ⟨_, rfl, last_err h⟩
theorem turned_bad {b : BatL} {ep : Int} (h : b.can ep) {q : List Int} (hq : q ∈ encB b ep) (hb : IsB q) {j : Nat} (hj : j < 64) {y : Int} (hy : 0 ≤ y ∧ y ≤ 255) (hne : y ≠ rd q (j : Nat)) : decErr (q.set j y) ≠ 0 := by
  obtain ⟨f, rfl, he⟩ := encB_mem h hq
  rw [dec_flip f (err_fits he).1 (err_fits he).2 (isB_body he hb) j hj y hy hne]; decide
theorem encB_two {b : BatL} {ep : Int} (h : b.can ep) : 2 ≤ (encB b ep).length ∧ (encB b ep).length ≤ 33 := by
  rw [encB_length]
  have h1 := may_sum h.1
  have h2 := h.1.1.2.2.1
  have h3 := may_len h.1 (List.getElem?_eq_getElem h2)
  have h4 : sumP (b.txs.take 1) = sumP (b.txs.take 0) + (b.txs[0]'h2).puts.length := sumP_take (ts := b.txs) (i := 0) (List.getElem?_eq_getElem h2)
  have h5 := sumP_take_le b.txs 1
  omega
theorem encB_64 {b : BatL} {ep : Int} (h : b.can ep) {q : List Int} (hq : q ∈ encB b ep) : q.length = 64 := by
  obtain ⟨f, rfl, he⟩ := encB_mem h hq; exact enc_length f (err_fits he).2
end Go.Proofs.Ytfpnodboebpemaa
