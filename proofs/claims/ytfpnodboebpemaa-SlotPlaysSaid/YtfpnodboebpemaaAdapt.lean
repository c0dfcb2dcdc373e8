/- The elder contracts (bits, crc, frame, slices, alike) as contracts of the second logic. -/
import Derived.Test.YtfpnodboebpemaaDev
import Derived.Test.YtfpnodboebpemaaDecM
import Derived.Test.YtfpnodboebpemaaAlk
namespace Go.Proofs.Ytfpnodboebpemaa
open Go.RowKit Go.Proofs.YtfpnodboebpemaaW.PrintWords
set_option linter.unusedVariables false
set_option linter.unusedSimpArgs false

section
variable {M : List HP} {K : List KP} {f : FuncId} {vs : List Value}
theorem BytO.row {w : World} {base : Nat} {A : Option Addr} {c : Nat} {xs : List Int} {n : Nat} (hn : n = xs.length) (h : BytO w base (.slice A n c) xs) : QRow w base 5 1 (.slice A xs.length c) xs.length (nums .u8 xs) := by subst hn; exact q_of_own h
/-- A contract that hands out bytes of its own. -/
theorem Fn.bytesH {xs : List Int} (h : ∀ w, Hold w M K → Calls Try.prog f vs.toArray w fun e w' => ∃ r, e = .returned r ∧ BytO w' w.heap.size r xs ∧ Below w.heap.size w w') :
    Fn f vs M K (fun _ : Option Addr × Nat => True) (fun r => .slice r.1 xs.length r.2) (fun r => rowH 5 1 r.1 r.2 xs.length (nums .u8 xs) :: M) (fun _ => K) := Fn.intro fun w hh => (h w hh).mono fun e w' ⟨r, he, ho, hb⟩ => by
  obtain ⟨A, c, rfl⟩ := ho.shape
  refine ⟨(A, c), trivial, he, ?_⟩
  have := hh.make (p' := rowH 5 1 A c xs.length (nums .u8 xs)) (K' := []) hb fun I h3 _ =>
    ⟨I, fun b => (Value.slice A xs.length c).ownBlock = some b, ⟨q_lower (q_of_own ho) (Nat.zero_le _), fun _ => Iff.rfl⟩, fun _ h => h, fun _ h => .inl h, fun b hb' => Nat.lt_of_lt_of_le (h3 b hb') hb.size,
      fun b hF hI => by have := (q_typed (q_of_own ho) b hF).1; have := h3 b hI; omega, fun b hF => (q_typed (q_of_own ho) b hF).1, fun k hk => by cases hk⟩
  exact this
theorem Hold.row_bytes {w : World} {A : Option Addr} {c : Nat} {xs : List Int} (h : Hold w (rowH 5 1 A c xs.length (nums .u8 xs) :: M) K) (hb : IsB xs) : Hold w M (bytesK A c xs :: K) :=
  (h.freeze.derive1 (k := bytesK A c xs) fun I hI _ => ⟨hI _ List.mem_cons_self, hb⟩).know (fun k hk => by rcases List.mem_cons.1 hk with rfl | hk; exact List.mem_cons_self; exact List.mem_cons_of_mem _ (List.mem_cons_of_mem _ hk))
theorem Fn.post {α : Type} {φ : α → Prop} {V : α → Value} {Mc Md : α → List HP} {Kc Kd : α → List KP} (h : Fn f vs M K φ V Mc Kc) (hh : ∀ x, φ x → ∀ w, Hold w (Mc x) (Kc x) → Hold w (Md x) (Kd x)) : Fn f vs M K φ V Md Kd :=
  Fn.intro fun w hw => (h.go w hw).mono fun e w' ⟨x, h1, h2, h3⟩ => ⟨x, h1, h2, hh x h1 w' h3⟩
theorem Fn.bytes {xs : List Int} (hb : IsB xs) (h : ∀ w, Hold w M K → Calls Try.prog f vs.toArray w fun e w' => ∃ r, e = .returned r ∧ BytO w' w.heap.size r xs ∧ Below w.heap.size w w') :
    Fn f vs M K (fun _ : Option Addr × Nat => True) (fun r => .slice r.1 xs.length r.2) (fun _ => M) (fun r => bytesK r.1 r.2 xs :: K) := (Fn.bytesH h).post fun _ _ w hw => hw.row_bytes hb
/-- A contract that computes. -/
theorem Fn.same {v : Value} (h : ∀ w, Hold w M K → Calls Try.prog f vs.toArray w fun e w' => e = .returned v ∧ Below w.heap.size w w') : Fn f vs M K (fun _ : Unit => True) (fun _ => v) (fun _ => M) (fun _ => K) :=
  Fn.intro fun w hh => (h w hh).mono fun e w' ⟨he, hb⟩ => ⟨(), trivial, he, hh.below hb⟩
/-- A contract does not know what it does not speak of. -/
theorem Fn.weak {α : Type} {φ : α → Prop} {V : α → Value} {M0 : List HP} {K0 : List KP} {Mc : α → List HP} {Kc : α → List KP} (h : Fn f vs M0 K0 φ V Mc Kc) (hh : ∀ w, Hold w M K → Hold w M0 K0) : Fn f vs M K φ V Mc Kc := Fn.intro fun w hw => h.go w (hh w hw)

theorem ds_below {w : World} {n : Nat} : Below w.heap.size w (w.drewN n) := below_draw w n

/-! ### slices -/
theorem own_byt {w w' : World} {B : Nat} {r : Value} {n : Nat} {xs : List Int} (hn : n = xs.length) (h : w'.ownsRow B 5 1 r n (nums .u8 xs)) : BytO w' B r xs := by subst hn; exact h
theorem clone_ct {A : Option Addr} {c : Nat} {xs : List Int} (hp : bytesK A c xs ∈ K) (hl : xs.length ≤ 1000000) : Fn 91 [.slice A xs.length c] M K (fun _ : Option Addr × Nat => True) (fun r => .slice r.1 xs.length r.2) (fun _ => M) (fun r => bytesK r.1 r.2 xs :: K) :=
  Fn.intro fun w hh => (Fn.bytes (hh.isB hp) (fun w hh => cloneB _ _ _ _ w (hh.byt hp) (nums_one _ _) hl)).go w hh
theorem cloneH_ct {A : Option Addr} {c : Nat} {xs : List Int} (hp : bytesK A c xs ∈ K) (hl : xs.length ≤ 1000000) : Fn 91 [.slice A xs.length c] M K (fun _ : Option Addr × Nat => True) (fun r => .slice r.1 xs.length r.2) (fun r => rowH 5 1 r.1 r.2 xs.length (nums .u8 xs) :: M) (fun _ => K) :=
  Fn.bytesH (fun w hh => cloneB _ _ _ _ w (hh.byt hp) (nums_one _ _) hl)
/-- [][]byte, owned. -/
theorem cloneR_ct {A : Option Addr} {c : Nat} {rows : List (List Int)} (hp : rowsK A c rows ∈ K) (hl : rows.length ≤ 1000000) : Fn 110 [.slice A rows.length c] M K (fun _ : Option Addr × Nat => True) (fun r => .slice r.1 rows.length r.2) (fun r => rowsH r.1 r.2 rows :: M) (fun _ => K) := Fn.intro fun w hh => by
  obtain ⟨vs, hv⟩ := hh.rows hp
  have hone := rows_one hv (List.mem_cons_of_mem _ List.mem_cons_self)
  refine (cloneR _ _ _ vs w (hv.sl List.mem_cons_self) hone hl).mono fun e w' ⟨r, he, ho, hb⟩ => ?_
  obtain ⟨A', c', rfl⟩ := own_shape ho
  refine ⟨(A', c'), trivial, he, Hold.ex.2 ⟨vs, Hold.knowH.2 ?_⟩⟩
  have := hv.make (p' := rowH 23 1 A' c' rows.length vs) (K' := []) hb fun I h3 _ =>
    ⟨I, fun b => (Value.slice A' rows.length c').ownBlock = some b, ⟨q_lower (q_of_own ho) (Nat.zero_le _), fun _ => Iff.rfl⟩, fun _ h => h, fun _ h => .inl h, fun b hb' => Nat.lt_of_lt_of_le (h3 b hb') hb.size,
      fun b hF hI => by have := (q_typed (q_of_own ho) b hF).1; have := h3 b hI; omega, fun b hF => (q_typed (q_of_own ho) b hF).1, fun k hk => by cases hk⟩
  exact this.know (fun k hk => by
    rcases List.mem_cons.1 hk with rfl | hk
    · exact List.mem_cons_of_mem _ List.mem_cons_self
    · exact List.mem_cons_of_mem _ (List.mem_cons_of_mem _ hk))
theorem rowsK_row {w : World} {A : Option Addr} {c : Nat} {rows : List (List Int)} (h : Hold w M K) (hp : rowsK A c rows ∈ K) : Row (fun b => b < w.heap.size) w (.slice A rows.length c) rows := by
  obtain ⟨I, D, h1, h2, h3, h4⟩ := h
  obtain ⟨vs, h5, h6, h7⟩ := h4 _ hp
  refine ⟨vs, SlC.mono (show SlC I w 1 _ _ _ from h5) (fun b _ hb => h3 b hb), fun i r hr => ?_⟩
  obtain ⟨A', c', h8, h9⟩ := h7 i r hr
  exact ⟨_, h8, Byt.mono h9.1 (fun b _ hb => h3 b hb)⟩
theorem flat_b {rows : List (List Int)} (h : ∀ r ∈ rows, IsB r) : IsB rows.flatten := fun x hx => by
  obtain ⟨r, hr, hx⟩ := List.mem_flatten.1 hx; exact h r hr x hx
theorem concat_ct {A : Option Addr} {c : Nat} {rows : List (List Int)} (hp : rowsK A c rows ∈ K) (hl : total rows ≤ 1000000) : Fn 83 [.slice A rows.length c] M K (fun _ : Option Addr × Nat => True) (fun r => .slice r.1 rows.flatten.length r.2) (fun _ => M) (fun r => bytesK r.1 r.2 rows.flatten :: K) :=
  Fn.intro fun w hh => (Fn.bytes (flat_b (hh.rows_b hp)) (fun w hh => concatB _ _ _ w (rowsK_row hh hp) hl)).go w hh
theorem equal_ct {A B : Option Addr} {c k : Nat} {xs ys : List Int} (hx : bytesK A c xs ∈ K) (hy : bytesK B k ys ∈ K) : Fn 101 [.slice A xs.length c, .slice B ys.length k] M K (fun _ : Unit => True) (fun _ => .bool (decide (xs = ys))) (fun _ => M) (fun _ => K) :=
  Fn.same fun w hh => equal_b _ _ _ _ _ _ w (hh.byt hx) (hh.byt hy)
theorem bytes_ct {A B : Option Addr} {c k : Nat} {xs ys : List Int} (hx : bytesK A c xs ∈ K) (hy : bytesK B k ys ∈ K) : Fn 31 [.slice A xs.length c, .slice B ys.length k] M K (fun _ : Unit => True) (fun _ => .bool (decide (xs = ys))) (fun _ => M) (fun _ => K) :=
  Fn.same fun w hh => bytes_b _ _ _ _ _ _ w (hh.byt hx) (hh.byt hy)

/-! ### alike -/
theorem round_ct {k n : Int} (h : 0 < n) (hn : n ≤ 1099511627776) : Fn 37 [.int .i64 k, .int .i64 n] M K (fun _ : Unit => True) (fun _ => .int .i64 (k % n)) (fun _ => M) (fun _ => K) :=
  Fn.same fun w hh => (round_any k n w h hn).mono fun e w' ⟨he, hw⟩ => ⟨he, by rw [← hw]; exact Below.refl _ _⟩
theorem block_ct {a : Int} {k : Int} (n : Nat) (ha : a = (n : Int)) (hn : n ≤ 100000) : Fn 29 [.int .i64 a, .int .i64 k] M K (fun _ : Option Addr × Nat => True) (fun r => .slice r.1 (bk n k).length r.2) (fun _ => M) (fun r => bytesK r.1 r.2 (bk n k) :: K) := by
  subst ha; exact Fn.bytes (bk_b n k) (fun w hh => block_any n k w hn)
theorem data_ct {k : Int} : Fn 44 [.int .i64 k] M K (fun _ : Option Addr × Nat => True) (fun r => .slice r.1 (bk 40 k).length r.2) (fun _ => M) (fun r => bytesK r.1 r.2 (bk 40 k) :: K) :=
  Fn.bytes (bk_b 40 k) (fun w hh => data_any k w)

/-! ### bits, crc -/
theorem put32_ct {a : Int} (v : Nat) (ha : a = (v : Int)) (hv : v < 4294967296) : Fn 84 [.int .u32 a] M K (fun _ : Option Addr × Nat => True) (fun r => .slice r.1 (le v 4).length r.2) (fun _ => M) (fun r => bytesK r.1 r.2 (le v 4) :: K) := by
  subst ha; exact Fn.bytes (le_b v 4) (fun w hh => put32_any v w hv)
theorem put64_ct {a : Int} (v : Nat) (ha : a = (v : Int)) (hv : v < 18446744073709551616) : Fn 85 [.int .u64 a] M K (fun _ : Option Addr × Nat => True) (fun r => .slice r.1 (le v 8).length r.2) (fun _ => M) (fun r => bytesK r.1 r.2 (le v 8) :: K) := by
  subst ha; exact Fn.bytes (le_b v 8) (fun w hh => put64_any v w hv)
theorem get32_ct {A : Option Addr} {c : Nat} {xs : List Int} (hp : bytesK A c xs ∈ K) (hl : 4 ≤ xs.length) : Fn 100 [.slice A xs.length c] M K (fun _ : Unit => True) (fun _ => .tuple #[.int .u32 (ge (xs.take 4)), .bool true]) (fun _ => M) (fun _ => K) :=
  Fn.same fun w hh => (get32_yes _ _ _ w (hh.byt hp) (hh.isB hp) hl).mono fun e w' ⟨he, hw⟩ => ⟨he, by rw [← hw]; exact Below.refl _ _⟩
theorem get64_ct {A : Option Addr} {c : Nat} {xs : List Int} (hp : bytesK A c xs ∈ K) (hl : 8 ≤ xs.length) : Fn 99 [.slice A xs.length c] M K (fun _ : Unit => True) (fun _ => .tuple #[.int .u64 (ge (xs.take 8)), .bool true]) (fun _ => M) (fun _ => K) :=
  Fn.same fun w hh => (get64_yes _ _ _ w (hh.byt hp) (hh.isB hp) hl).mono fun e w' ⟨he, hw⟩ => ⟨he, by rw [← hw]; exact Below.refl _ _⟩
theorem of_ct {A : Option Addr} {c : Nat} {xs : List Int} (hp : bytesK A c xs ∈ K) : Fn 86 [.slice A xs.length c] M K (fun _ : Unit => True) (fun _ => .int .u32 (crcOf xs : Nat)) (fun _ => M) (fun _ => K) :=
  Fn.same fun w hh => of_any _ _ _ w (hh.byt hp) (hh.isB hp)
theorem newSum_ct : Fn 130 [] M K (fun _ : Nat => True) (fun b => ptr b 0) (fun b => pt b 192 [.int .u32 0] :: M) (fun _ => K) :=
  Fn.intro fun w hh => (new_sum w).mono fun e w' ⟨he, hw⟩ => ⟨w.heap.size, trivial, he, by rw [hw]; exact hh.alloc 192 [.int .u32 0]⟩
theorem addSum_ct {g t : Nat} {A : Option Addr} {c : Nat} {xs : List Int} (hp : bytesK A c xs ∈ K) (ht : t < 4294967296) : Fn 131 [ptr g 0, .slice A xs.length c] (pt g 192 [.int .u32 t] :: M) K (fun _ : Unit => True) (fun _ => ptr g 0) (fun _ => pt g 192 [.int .u32 ((crcReg (t ^^^ 4294967295) xs ^^^ 4294967295 : Nat) : Int)] :: M) (fun _ => K) :=
  Fn.intro fun w hh => (add_any _ g t _ xs w (hh.blk List.mem_cons_self) ht (hh.byt hp) (hh.isB hp)).mono fun e w' ⟨he, hw⟩ => ⟨(), trivial, he, by rw [hw]; exact hh.set 0 _⟩
theorem valueSum_ct {g : Nat} {t : Int} : Fn 132 [ptr g 0] (pt g 192 [.int .u32 t] :: M) K (fun _ : Unit => True) (fun _ => .int .u32 t) (fun _ => pt g 192 [.int .u32 t] :: M) (fun _ => K) :=
  Fn.same fun w hh => (value_any g t w (hh.blk List.mem_cons_self)).mono fun e w' ⟨he, hw⟩ => ⟨he, by rw [← hw]; exact Below.refl _ _⟩

/-! ### frame -/
theorem dec_b (p : List Int) (h : IsB p) : IsB (decB p).body := by
  unfold decB; split
  · exact (h.drop 18).take _
  · exact fun x hx => by cases hx

theorem encode_ct (b : Fb) {A : Option Addr} {n c : Nat} (hn : n = b.body.length) (hp : bytesK A c b.body ∈ K) : Fn 28 [.agg [.int .i64 b.kind, .int .i64 b.epoch, .int .i64 b.seq, .int .i64 b.lba, .slice A n c].toArray] M K (fun _ : Option Addr × Nat => True) (fun r => .tuple [.slice r.1 (if b.err = 0 then b.enc else []).length r.2, .int .i64 b.err].toArray) (fun _ => M) (fun r => bytesK r.1 r.2 (if b.err = 0 then b.enc else []) :: K) := by
  subst hn
  refine Fn.intro fun w hh => ?_
  have hB := hh.isB hp
  have hb' : IsB (if b.err = 0 then b.enc else []) := by
    split
    · rename_i h; exact enc_b b (err_fits h).1 (err_fits h).2 hB
    · exact fun x hx => by cases hx
  refine (encode_any _ b _ w (hh.byt hp) hB).mono fun e w' ⟨r, he, ho, hb⟩ => ?_
  obtain ⟨A', c', rfl⟩ := ho.shape
  refine ⟨(A', c'), trivial, he, ?_⟩
  refine hh.fresh hb fun I hI hI' => ⟨?_, hb'⟩
  exact Byt.mono ho.fresh (fun k _ hk => hI k hk)
theorem decode_ct {A : Option Addr} {c : Nat} {p : List Int} (hp : bytesK A c p ∈ K) : Fn 48 [.slice A p.length c] M K (fun _ : Option Addr × Nat => True) (fun r => .tuple [.agg [.int .i64 (decB p).kind, .int .i64 (decB p).epoch, .int .i64 (decB p).seq, .int .i64 (decB p).lba, .slice r.1 (decB p).body.length r.2].toArray, .int .i64 (decErr p)].toArray) (fun _ => M) (fun r => bytesK r.1 r.2 (decB p).body :: K) := by
  refine Fn.intro fun w hh => ?_
  refine (decode_any _ p _ w (hh.byt hp) (hh.isB hp)).mono fun e w' ⟨r, he, ho, hb⟩ => ?_
  obtain ⟨A', c', rfl⟩ := ho.shape
  refine ⟨(A', c'), trivial, he, ?_⟩
  exact hh.fresh hb fun I hI hI' => ⟨Byt.mono ho (fun k _ hk => hI k hk), dec_b p (hh.isB hp)⟩
end
end Go.Proofs.Ytfpnodboebpemaa
