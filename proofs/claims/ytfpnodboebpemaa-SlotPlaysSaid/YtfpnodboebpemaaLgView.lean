/- Typed views of the second logic: bytes, whole numbers, rows of bytes. -/
import Derived.Test.YtfpnodboebpemaaLgEff
namespace Go.Proofs.Ytfpnodboebpemaa
open Go.RowKit Go.Proofs.YtfpnodboebpemaaW.PrintWords
set_option linter.unusedVariables false
set_option linter.unusedSimpArgs false

theorem Hold.bytes {w : World} {M : List HP} {K : List KP} {A : Option Addr} {c : Nat} {xs : List Int} (h : Hold w M K) (hm : bytesK A c xs ∈ K) : SlC (fun _ => True) w 1 (.slice A xs.length c) xs.length (nums .u8 xs) := SlC.mono (h.byt hm) (fun _ _ _ => trivial)
theorem Hold.ints {w : World} {M : List HP} {K : List KP} {A : Option Addr} {c : Nat} {xs : List Int} (h : Hold w M K) (hm : intsK A c xs ∈ K) : SlC (fun _ => True) w 1 (.slice A xs.length c) xs.length (nums .i64 xs) := h.sl hm
theorem nums_at {k : IntKind} {xs : List Int} {j : Nat} (hj : j < xs.length) : (nums k xs)[j]? = some (.int k (rd xs j)) := by simp [nums, rd, hj]

section
variable {E : Env} {w : World} {dst : Option Tmp} {ty : Nat} {ps : String} {af : Array Edge} {g : Option (Nat × Bool)} {M : List HP} {K : List KP}
theorem Yl.ia1 {t e : Nat} {x y : Operand} {A : Option Addr} {m c i : Nat} {k : IntKind} {a : Int} {xs : List Value} (hr : SlC (fun _ => True) w 1 (.slice A m c) m xs) (hu : Try.prog.underlying t = some (.slice e)) (hsz : (Try.prog.info? e).map (·.size) = some 1) (hx : ev E x = some (.slice A m c)) (hy : ev E y = some (.int k a)) (ha : a = (i : Int)) (hi : i < m) : Yl ⟨dst, .indexAddr t x y, ty, ps, af, g⟩ E (ptr (sB A) (sO A + i)) w := by
  have := Yl.ia (dst := dst) (ty := ty) (ps := ps) (af := af) (g := g) hu hsz hx hy ha hi hr
  rwa [Nat.mul_one] at this
theorem Yl.ldB {x : Operand} {A : Option Addr} {c j : Nat} {xs : List Int} (hh : Hold w M K) (hm : bytesK A c xs ∈ K) (hn : NoAgg 5) (hx : ev E x = some (ptr (sB A) (sO A + j))) (hj : j < xs.length) : Yl ⟨dst, .load 5 x, ty, ps, af, g⟩ E (.int .u8 (rd xs j)) w := Yl.ldR (hh.bytes hm) hn hx (nums_at hj)
theorem Yl.ldI {x : Operand} {A : Option Addr} {c j : Nat} {xs : List Int} (hh : Hold w M K) (hm : intsK A c xs ∈ K) (hn : NoAgg 3) (hx : ev E x = some (ptr (sB A) (sO A + j))) (hj : j < xs.length) : Yl ⟨dst, .load 3 x, ty, ps, af, g⟩ E (.int .i64 (rd xs j)) w := Yl.ldR (hh.ints hm) hn hx (nums_at hj)

/-! ### A cell known for good -/
def cellK (b o : Nat) (v : Value) : KP := ⟨fun w I => I b ∧ w.cell? ⟨b, o, none⟩ = some v, fun ⟨h1, h2⟩ ha hi hb => ⟨hi b h1, by rw [World.cell?_of_block (ha.block b h1)]; exact h2⟩⟩
theorem Hold.ck {b o : Nat} {v : Value} (h : Hold w M K) (hm : cellK b o v ∈ K) : w.cell? ⟨b, o, none⟩ = some v := by
  obtain ⟨I, D, h1, h2, h3, h4⟩ := h; exact (h4 _ hm).2
theorem Yl.ldC {t : TypeId} {x : Operand} {b o : Nat} {v : Value} (hh : Hold w M K) (hn : NoAgg t) (hx : ev E x = some (ptr b o)) (hm : cellK b o v ∈ K) : Yl ⟨dst, .load t x, ty, ps, af, g⟩ E v w := Yl.ld hn hx (hh.ck hm)
/-- What follows from what is known is known. -/
theorem Hold.derive {α : Type} {f : α → List KP} (h : Hold w M K) (hk : ∀ I : Nat → Prop, (∀ k ∈ K, k.sat w I) → (∀ b, I b → b < w.heap.size) → ∃ x, ∀ k ∈ f x, k.sat w I) : ∃ x, Hold w M (f x ++ K) := by
  obtain ⟨I, D, h1, h2, h3, h4⟩ := h
  obtain ⟨x, hx⟩ := hk I h4 h3
  exact ⟨x, I, D, h1, h2, h3, fun k hk => (List.mem_append.1 hk).elim (hx k) (h4 k)⟩
theorem Hold.derive1 {k : KP} (h : Hold w M K) (hk : ∀ I : Nat → Prop, (∀ k ∈ K, k.sat w I) → (∀ b, I b → b < w.heap.size) → k.sat w I) : Hold w M (k :: K) := by
  obtain ⟨_, hx⟩ := h.derive (f := fun _ : Unit => [k]) (fun I h h' => ⟨(), fun k' hk' => by rw [List.mem_singleton.1 hk']; exact hk I h h'⟩); exact hx

/-! ### Parts of what reads -/
theorem slA_zero (A : Option Addr) (c sz : Nat) : slA A c 0 sz = A := by
  unfold slA; split
  · rfl
  · cases A with
    | none => rfl
    | some a => simp [Addr.add]
theorem SlC.cut {ok : Nat → Prop} {sz m c l h : Nat} {A : Option Addr} {xs : List Value} (hs : SlC ok w sz (.slice A m c) m xs) (hl : l ≤ h) (hh : h ≤ m) : SlC ok w sz (.slice (slA A c l sz) (h - l) (c - l)) (h - l) ((xs.drop (l * sz)).take ((h - l) * sz)) := by
  obtain ⟨A', c', he, hlen, hmc, hcm, h4⟩ := hs
  injection he with hA _ hc
  subst hA hc
  refine ⟨_, _, rfl, ?_, by omega, by omega, fun hp => ?_⟩
  · rw [List.length_take, List.length_drop, hlen, ← Nat.sub_mul]
    exact Nat.min_eq_left (Nat.mul_le_mul_right _ (by omega))
  · obtain ⟨b, o, hb, hok, hlt, hcell⟩ := h4 (by omega)
    refine ⟨b, o + l * sz, ?_, hok, hlt, fun i u hu => ?_⟩
    · unfold slA; rw [if_neg (by omega), hb, Option.map_some, addr_add]
    · rw [List.getElem?_take] at hu
      split at hu
      · rw [List.getElem?_drop] at hu
        rw [Nat.add_assoc]; exact hcell _ u hu
      · cases hu
theorem Byt.cut {ok : Nat → Prop} {A : Option Addr} {c l h : Nat} {xs : List Int} (hs : Byt ok w (.slice A xs.length c) xs) (hl : l ≤ h) (hh : h ≤ xs.length) : Byt ok w (.slice (slA A c l 1) (h - l) (c - l)) ((xs.drop l).take (h - l)) := by
  have := SlC.cut hs hl hh
  rw [Nat.mul_one, Nat.mul_one] at this
  unfold Byt
  have hn : ((xs.drop l).take (h - l)).length = h - l := by simp; omega
  rw [hn]
  simpa [nums, List.map_take, List.map_drop] using this
theorem Hold.bytes_cut {A : Option Addr} {c : Nat} {xs : List Int} (h : Hold w M K) (hm : bytesK A c xs ∈ K) (l k : Nat) (hl : l ≤ k) (hk : k ≤ xs.length) : Hold w M (bytesK (slA A c l 1) (c - l) ((xs.drop l).take (k - l)) :: K) :=
  h.derive1 fun I hI _ => by
    obtain ⟨hb, hB⟩ := hI _ hm
    have hn : ((xs.drop l).take (k - l)).length = k - l := by simp; omega
    refine ⟨?_, (hB.drop l).take _⟩
    rw [hn]; exact Byt.cut hb hl hk

/-! ### Rows of bytes -/
/-- The values are slices that read the rows. -/
def rowsV (vs : List Value) (rows : List (List Int)) : KP :=
  ⟨fun w I => vs.length = rows.length ∧ ∀ (i : Nat) (r : List Int), rows[i]? = some r → ∃ A c, vs[i]? = some (.slice A r.length c) ∧ (bytesK A c r).sat w I,
   fun ⟨h1, h2⟩ ha hi hb => ⟨h1, fun i r hr => by obtain ⟨A, c, h3, h4⟩ := h2 i r hr; exact ⟨A, c, h3, (bytesK A c r).mono h4 ha hi hb⟩⟩⟩
/-- A [][]byte that reads the rows for good. -/
def rowsK (A : Option Addr) (c : Nat) (rows : List (List Int)) : KP :=
  ⟨fun w I => ∃ vs, (slK 1 A c rows.length vs).sat w I ∧ (rowsV vs rows).sat w I, fun ⟨vs, h1, h2⟩ ha hi hb => ⟨vs, (slK 1 A c rows.length vs).mono h1 ha hi hb, (rowsV vs rows).mono h2 ha hi hb⟩⟩
/-- A [][]byte of one's own. -/
def rowsH (A : Option Addr) (c : Nat) (rows : List (List Int)) : HP := exH fun vs => knowH (rowsV vs rows) (rowH 23 1 A c rows.length vs)

theorem Hold.rows {A : Option Addr} {c : Nat} {rows : List (List Int)} (h : Hold w M K) (hm : rowsK A c rows ∈ K) : ∃ vs, Hold w M (slK 1 A c rows.length vs :: rowsV vs rows :: K) := by
  obtain ⟨vs, hv⟩ := h.derive (f := fun vs => [slK 1 A c rows.length vs, rowsV vs rows]) (fun I hI _ => by
    obtain ⟨vs, h1, h2⟩ := hI _ hm
    exact ⟨vs, fun k hk => by
      rcases List.mem_cons.1 hk with rfl | hk
      · exact h1
      · rw [List.mem_singleton.1 hk]; exact h2⟩)
  exact ⟨vs, hv⟩
theorem Hold.rowsV_len {vs : List Value} {rows : List (List Int)} (h : Hold w M K) (hm : rowsV vs rows ∈ K) : vs.length = rows.length := by
  obtain ⟨I, D, h1, h2, h3, h4⟩ := h; exact (h4 _ hm).1
theorem Hold.rowsV_at {vs : List Value} {rows : List (List Int)} (h : Hold w M K) (hm : rowsV vs rows ∈ K) {i : Nat} {r : List Int} (hi : rows[i]? = some r) : ∃ x : Option Addr × Nat, vs[i]? = some (.slice x.1 r.length x.2) ∧ Hold w M (bytesK x.1 x.2 r :: K) := by
  have h' := h
  obtain ⟨I, D, h1, h2, h3, h4⟩ := h
  obtain ⟨A, c, h5, h6⟩ := (h4 _ hm).2 i r hi
  exact ⟨(A, c), h5, I, D, h1, h2, h3, fun k hk => (List.mem_cons.1 hk).elim (fun e => e ▸ h6) (h4 k)⟩
/-- An element of rows that read for good: its cell, and what it reads. -/
theorem Hold.rows_at {A : Option Addr} {c : Nat} {rows : List (List Int)} (h : Hold w M K) (hm : rowsK A c rows ∈ K) {i : Nat} {r : List Int} (hi : rows[i]? = some r) : ∃ x : Option Addr × Nat, True ∧ Hold w M (cellK (sB A) (sO A + i) (.slice x.1 r.length x.2) :: bytesK x.1 x.2 r :: K) := by
  obtain ⟨I, D, h1, h2, h3, h4⟩ := h
  obtain ⟨vs, h5, _, h6⟩ := h4 _ hm
  obtain ⟨B, k, h7, h8⟩ := h6 i r hi
  refine ⟨(B, k), trivial, I, D, h1, h2, h3, fun k' hk => ?_⟩
  rcases List.mem_cons.1 hk with rfl | hk
  · have hc := SlC.at (show SlC I w 1 (.slice A rows.length c) rows.length vs from h5) h7
    refine ⟨?_, hc⟩
    obtain ⟨A', c', he, _, _, _, h9⟩ := (show SlC I w 1 (.slice A rows.length c) rows.length vs from h5)
    injection he with hA _ _
    obtain ⟨b, o, hb, hI, _⟩ := h9 (by have := (List.getElem?_eq_some_iff.1 hi).1; omega)
    have he : sB A = b := by rw [hA, hb]; rfl
    rw [he]; exact hI
  · rcases List.mem_cons.1 hk with rfl | hk
    · exact h8
    · exact h4 k' hk
theorem Hold.rows_max {A : Option Addr} {c : Nat} {rows : List (List Int)} (h : Hold w M K) (hm : rowsK A c rows ∈ K) : rows.length ≤ maxLen ∧ rows.length ≤ c ∧ c ≤ maxLen := by
  obtain ⟨vs, hv⟩ := h.rows hm
  obtain ⟨A', c', he, h1, h2, h3, _⟩ := hv.sl List.mem_cons_self
  injection he with _ _ hc
  subst hc
  exact ⟨Nat.le_trans h2 h3, h2, h3⟩
theorem Hold.rows_freeze {A : Option Addr} {c : Nat} {rows : List (List Int)} (h : Hold w (rowsH A c rows :: M) K) : Hold w M (rowsK A c rows :: K) := by
  obtain ⟨vs, hv⟩ := Hold.ex.1 h
  have h1 := (Hold.knowH.1 hv).freeze
  have h2 : Hold w M (rowsK A c rows :: slK 1 A c rows.length vs :: rowsV vs rows :: K) := h1.derive1 fun I hI _ => ⟨vs, hI _ List.mem_cons_self, hI _ (List.mem_cons_of_mem _ List.mem_cons_self)⟩
  exact h2.know (fun k hk => by rcases List.mem_cons.1 hk with rfl | hk; exact List.mem_cons_self; exact List.mem_cons_of_mem _ (List.mem_cons_of_mem _ (List.mem_cons_of_mem _ hk)))
theorem Hold.rows_nil (h : Hold w M K) : Hold w (rowsH none 0 [] :: M) K := by
  refine Hold.ex.2 ⟨[], Hold.knowH.2 ?_⟩
  have := (h.row_nil 23 1)
  exact this.derive1 fun I _ _ => ⟨rfl, fun i r hr => by simp at hr⟩
theorem Hold.rowsK_nil (h : Hold w M K) : Hold w M (rowsK none 0 [] :: K) := (h.rows_nil).rows_freeze
theorem Hold.bytesK_nil (h : Hold w M K) : Hold w M (bytesK none 0 [] :: K) := h.derive1 fun I _ _ => ⟨Byt.nil _ _, fun x hx => by cases hx⟩
theorem Hold.rows_b {A : Option Addr} {c : Nat} {rows : List (List Int)} (h : Hold w M K) (hm : rowsK A c rows ∈ K) : ∀ r ∈ rows, IsB r := fun r hr => by
  obtain ⟨i, hi, rfl⟩ := List.getElem_of_mem hr
  obtain ⟨x, _, hx⟩ := h.rows_at hm (List.getElem?_eq_getElem hi)
  exact hx.isB (List.mem_cons_of_mem _ List.mem_cons_self)
theorem rowsV_sat_append {I : Nat → Prop} {us vs : List Value} {r1 r2 : List (List Int)} (h1 : (rowsV us r1).sat w I) (h2 : (rowsV vs r2).sat w I) : (rowsV (us ++ vs) (r1 ++ r2)).sat w I := by
  refine ⟨by rw [List.length_append, List.length_append, h1.1, h2.1], fun i r hr => ?_⟩
  rcases Nat.lt_or_ge i r1.length with hlt | hge
  · rw [List.getElem?_append_left hlt] at hr
    rw [List.getElem?_append_left (by rw [h1.1]; exact hlt)]
    exact h1.2 i r hr
  · rw [List.getElem?_append_right hge] at hr
    rw [List.getElem?_append_right (by rw [h1.1]; exact hge), h1.1]
    exact h2.2 _ r hr
theorem rows_cut_sat {A : Option Addr} {c l k : Nat} {rows : List (List Int)} {I : Nat → Prop} (h : (rowsK A c rows).sat w I) (hl : l ≤ k) (hk : k ≤ rows.length) : (rowsK (slA A c l 1) (c - l) ((rows.drop l).take (k - l))).sat w I := by
  obtain ⟨vs, h1, h2, h3⟩ := h
  have hn : ((rows.drop l).take (k - l)).length = k - l := by simp; omega
  refine ⟨(vs.drop l).take (k - l), ?_, by rw [hn]; simp; omega, fun i r hr => ?_⟩
  · have := SlC.cut (show SlC I w 1 (.slice A rows.length c) rows.length vs from h1) hl hk
    rw [Nat.mul_one, Nat.mul_one] at this
    show SlC I w 1 _ _ _
    rw [hn]; exact this
  · rw [List.getElem?_take] at hr ⊢
    split at hr
    · rename_i hlt
      rw [if_pos hlt]
      rw [List.getElem?_drop] at hr ⊢
      exact h3 _ r hr
    · cases hr
theorem Hold.rows_cut {A : Option Addr} {c : Nat} {rows : List (List Int)} (h : Hold w M K) (hm : rowsK A c rows ∈ K) (l k : Nat) (hl : l ≤ k) (hk : k ≤ rows.length) : Hold w M (rowsK (slA A c l 1) (c - l) ((rows.drop l).take (k - l)) :: K) :=
  h.derive1 fun I hI _ => rows_cut_sat (hI _ hm) hl hk

theorem rows_one {vs : List Value} {rows : List (List Int)} (h : Hold w M K) (hm : rowsV vs rows ∈ K) : ∀ u ∈ vs, u.oneCell' = true := fun u hu => by
  obtain ⟨i, hi, he⟩ := List.getElem_of_mem hu
  have hl := h.rowsV_len hm
  obtain ⟨x, hx, _⟩ := h.rowsV_at hm (List.getElem?_eq_getElem (show i < rows.length by omega))
  have e := Option.some.inj ((List.getElem?_eq_getElem hi).symm.trans hx)
  rw [← he, e]; rfl
/-! ### append onto rows of one's own -/
/-- One row more: the literal that holds it stands among the chunks. -/
theorem OpW.appR {M' : List HP} {x y : Operand} {A B S : Option Addr} {c c2 k : Nat} {rows : List (List Int)} {xs : List Int} (hi : (Try.prog.info? 23).map (fun i => (i.zero, i.size, i.bytes)) = some (some (.slice none 0 0), 1, 24)) (hu : Try.prog.underlying 62 = some (.slice 23))
    (hx : ev E x = some (.slice A rows.length c)) (hy : ev E y = some (.slice S 1 k)) (hs : rowH 23 1 S k 1 [.slice B xs.length c2] ∈ M) (hb : bytesK B c2 xs ∈ K) (hp : Pick M (rowsH A c rows) M') (hl : rows.length + 1 ≤ 1000000) :
    OpW ⟨dst, .call { callee := .builtin .append, args := #[x, y], argTypes := #[62, 62] }, ty, ps, af, g⟩ E M K (fun _ : Option Addr × Nat => True) (fun r => .slice r.1 (rows ++ [xs]).length r.2) (fun r => rowsH r.1 r.2 (rows ++ [xs]) :: M') (fun _ => K) :=
  OpW.val fun ρ w hρ hh => by
    have hsrc := hh.row hs
    obtain ⟨vs, hv⟩ := Hold.ex.1 (hh.pick hp)
    have hv' := Hold.knowH.1 hv
    obtain ⟨A', c', w', hr, hh'⟩ := hv'.append (ty := ty) hu hi rfl (by decide) hsrc (fun u hu => by rw [List.mem_singleton.1 hu]; rfl) (app_max (by omega)) (app_bound (by omega) (by decide))
    have hlen : (rows ++ [xs]).length = rows.length + 1 := by simp
    refine ⟨(A', c'), w', trivial, ?_, ?_⟩
    · simp only [execOp, resolve, invoke, builtin, Sem.run_bind, Sem.run_pure, Result.andThen_ok, List.map_toArray, List.map_cons, List.map_nil, hρ x _ hx, hρ y _ hy, hr, hlen]
    · have h2 : Hold w' (rowH 23 1 A' c' (rows.length + 1) (vs ++ [.slice B xs.length c2]) :: M') (rowsV (vs ++ [.slice B xs.length c2]) (rows ++ [xs]) :: rowsV vs rows :: K) := hh'.derive1 fun I hI _ =>
        rowsV_sat_append (hI _ List.mem_cons_self) ⟨rfl, fun i r hr => by
          match i, hr with
          | 0, hr => simp at hr; subst hr; exact ⟨B, c2, rfl, hI _ (List.mem_cons_of_mem _ hb)⟩
          | i + 1, hr => simp at hr⟩
      refine Hold.ex.2 ⟨vs ++ [.slice B xs.length c2], Hold.knowH.2 ?_⟩
      rw [hlen]
      exact h2.know (fun k hk => by rcases List.mem_cons.1 hk with rfl | hk; exact List.mem_cons_self; exact List.mem_cons_of_mem _ (List.mem_cons_of_mem _ hk))
/-- All the rows of a slice that reads for good. -/
theorem OpW.appRR {M' : List HP} {x y : Operand} {A B : Option Addr} {c c2 : Nat} {rows r2 : List (List Int)} (hi : (Try.prog.info? 23).map (fun i => (i.zero, i.size, i.bytes)) = some (some (.slice none 0 0), 1, 24)) (hu : Try.prog.underlying 62 = some (.slice 23))
    (hx : ev E x = some (.slice A rows.length c)) (hy : ev E y = some (.slice B r2.length c2)) (hb : rowsK B c2 r2 ∈ K) (hp : Pick M (rowsH A c rows) M') (hl : rows.length + r2.length ≤ 1000000) :
    OpW ⟨dst, .call { callee := .builtin .append, args := #[x, y], argTypes := #[62, 62] }, ty, ps, af, g⟩ E M K (fun _ : Option Addr × Nat => True) (fun r => .slice r.1 (rows ++ r2).length r.2) (fun r => rowsH r.1 r.2 (rows ++ r2) :: M') (fun _ => K) :=
  OpW.val fun ρ w hρ hh => by
    obtain ⟨us, hus⟩ := hh.rows hb
    have hsrc := hus.sl List.mem_cons_self
    have hone : ∀ u ∈ us, u.oneCell' = true := fun u hu => by
      exact rows_one hus (List.mem_cons_of_mem _ List.mem_cons_self) u hu
    obtain ⟨vs, hv⟩ := Hold.ex.1 (hus.pick hp)
    have hv' := Hold.knowH.1 hv
    obtain ⟨A', c', w', hr, hh'⟩ := hv'.append (ty := ty) hu hi rfl (by decide) hsrc hone (app_max (by omega)) (app_bound (by omega) (by decide))
    have hlen : (rows ++ r2).length = rows.length + r2.length := by simp
    refine ⟨(A', c'), w', trivial, ?_, ?_⟩
    · simp only [execOp, resolve, invoke, builtin, Sem.run_bind, Sem.run_pure, Result.andThen_ok, List.map_toArray, List.map_cons, List.map_nil, hρ x _ hx, hρ y _ hy, hr, hlen]
    · have h2 := hh'.derive1 (k := rowsV (vs ++ us) (rows ++ r2)) fun I hI _ => rowsV_sat_append (hI _ List.mem_cons_self) (hI _ (List.mem_cons_of_mem _ (List.mem_cons_of_mem _ List.mem_cons_self)))
      refine Hold.ex.2 ⟨vs ++ us, Hold.knowH.2 ?_⟩
      rw [hlen]
      exact h2.know (fun k hk => by rcases List.mem_cons.1 hk with rfl | hk; exact List.mem_cons_self; exact List.mem_cons_of_mem _ (List.mem_cons_of_mem _ (List.mem_cons_of_mem _ (List.mem_cons_of_mem _ hk))))
end
/-! ### Struct results -/
theorem run_loadVarA {t k : Nat} (ha : AggOf t k) {b o : Nat} {vs : List Value} {w : World} (hl : vs.length = k) (hc : ∀ j v, vs[j]? = some v → w.cell? ⟨b, o + j, none⟩ = some v) : (loadVar t ⟨b, o, none⟩).run Try.prog w = .ok (.agg vs.toArray) w := by
  have := run_loadA ha hl hc
  simpa [Instr.loadAt, Instr.sureAddr] using this
section
variable {n : Nat} {E : Env} {M : List HP} {K : List KP} {fn : Func} {α : Type} {φ : α → Prop} {V : α → Value} {Mc : α → List HP} {Kc : α → List KP} {t t' T k b u u1 u2 u3 : Nat} {cs vs : List Value} {v v1 v2 v3 : Value}
theorem X.retC (hr : fn.results = #[.cell t T]) (ha : AggOf T k) (hv : lk E t = some (ptr b 0)) (hm : pt b t' cs ∈ M) (hs : Sub cs 0 k vs)
    (h : ∀ w, Hold w M K → ∃ x, φ x ∧ Value.agg vs.toArray = V x ∧ Hold w (Mc x) (Kc x)) : J n E M K (X .ret (bodyPost Try.prog fn fun e w' => ∃ x, φ x ∧ e = .returned (V x) ∧ Hold w' (Mc x) (Kc x))) := J.intro fun a w ha' hw => by
  obtain ⟨x, h1, h2, h3⟩ := h w hw
  have hrun := run_loadVarA (w := w) ha hs.len (fun j v hj => hw.cell hm (hs.get j v hj))
  refine bodyPost_ret (v := .agg vs.toArray) ?_ ha'.defers ⟨x, h1, by rw [h2], h3⟩
  simp [results, hr, ha'.look _ _ hv, asAddr, hrun]
theorem X.endC (hr : fn.results = #[.cell t T]) (ha : AggOf T k) (hv : lk E t = some (ptr b 0)) (hm : pt b t' cs ∈ M) (hs : Sub cs 0 k vs)
    (h : ∀ w, Hold w M K → ∃ x, φ x ∧ Value.agg vs.toArray = V x ∧ Hold w (Mc x) (Kc x)) : J n E M K (X .normal (bodyPost Try.prog fn fun e w' => ∃ x, φ x ∧ e = .returned (V x) ∧ Hold w' (Mc x) (Kc x))) := J.intro fun a w ha' hw => by
  obtain ⟨x, h1, h2, h3⟩ := h w hw
  have hrun := run_loadVarA (w := w) ha hs.len (fun j v hj => hw.cell hm (hs.get j v hj))
  refine bodyPost_end (v := .agg vs.toArray) ?_ ha'.defers ⟨x, h1, by rw [h2], h3⟩
  simp [results, hr, ha'.look _ _ hv, asAddr, hrun]
theorem X.retCT (hr : fn.results = #[.cell t T, .tmp u]) (ha : AggOf T k) (hv : lk E t = some (ptr b 0)) (hu : lk E u = some v) (hm : pt b t' cs ∈ M) (hs : Sub cs 0 k vs)
    (h : ∀ w, Hold w M K → ∃ x, φ x ∧ Value.tuple [.agg vs.toArray, v].toArray = V x ∧ Hold w (Mc x) (Kc x)) : J n E M K (X .ret (bodyPost Try.prog fn fun e w' => ∃ x, φ x ∧ e = .returned (V x) ∧ Hold w' (Mc x) (Kc x))) := J.intro fun a w ha' hw => by
  obtain ⟨x, h1, h2, h3⟩ := h w hw
  have hrun := run_loadVarA (w := w) ha hs.len (fun j v hj => hw.cell hm (hs.get j v hj))
  refine bodyPost_ret (v := .tuple [.agg vs.toArray, v].toArray) ?_ ha'.defers ⟨x, h1, by rw [h2], h3⟩
  simp [results, hr, ha'.look _ _ hv, ha'.look _ _ hu, asAddr, hrun]
theorem X.retCTTT (hr : fn.results = #[.cell t T, .tmp u1, .tmp u2, .tmp u3]) (ha : AggOf T k) (hv : lk E t = some (ptr b 0)) (hu1 : lk E u1 = some v1) (hu2 : lk E u2 = some v2) (hu3 : lk E u3 = some v3) (hm : pt b t' cs ∈ M) (hs : Sub cs 0 k vs)
    (h : ∀ w, Hold w M K → ∃ x, φ x ∧ Value.tuple [.agg vs.toArray, v1, v2, v3].toArray = V x ∧ Hold w (Mc x) (Kc x)) : J n E M K (X .ret (bodyPost Try.prog fn fun e w' => ∃ x, φ x ∧ e = .returned (V x) ∧ Hold w' (Mc x) (Kc x))) := J.intro fun a w ha' hw => by
  obtain ⟨x, h1, h2, h3⟩ := h w hw
  have hrun := run_loadVarA (w := w) ha hs.len (fun j v hj => hw.cell hm (hs.get j v hj))
  refine bodyPost_ret (v := .tuple [.agg vs.toArray, v1, v2, v3].toArray) ?_ ha'.defers ⟨x, h1, by rw [h2], h3⟩
  simp [results, hr, ha'.look _ _ hv, ha'.look _ _ hu1, ha'.look _ _ hu2, ha'.look _ _ hu3, asAddr, hrun]
theorem X.retTCT (hr : fn.results = #[.tmp u1, .cell t T, .tmp u2]) (ha : AggOf T k) (hv : lk E t = some (ptr b 0)) (hu1 : lk E u1 = some v1) (hu2 : lk E u2 = some v2) (hm : pt b t' cs ∈ M) (hs : Sub cs 0 k vs)
    (h : ∀ w, Hold w M K → ∃ x, φ x ∧ Value.tuple [v1, .agg vs.toArray, v2].toArray = V x ∧ Hold w (Mc x) (Kc x)) : J n E M K (X .ret (bodyPost Try.prog fn fun e w' => ∃ x, φ x ∧ e = .returned (V x) ∧ Hold w' (Mc x) (Kc x))) := J.intro fun a w ha' hw => by
  obtain ⟨x, h1, h2, h3⟩ := h w hw
  have hrun := run_loadVarA (w := w) ha hs.len (fun j v hj => hw.cell hm (hs.get j v hj))
  refine bodyPost_ret (v := .tuple [v1, .agg vs.toArray, v2].toArray) ?_ ha'.defers ⟨x, h1, by rw [h2], h3⟩
  simp [results, hr, ha'.look _ _ hv, ha'.look _ _ hu1, ha'.look _ _ hu2, asAddr, hrun]
end

/-! ### Rows laid open -/
theorem Hold.rowsH_open {w : World} {M : List HP} {K : List KP} {A : Option Addr} {c : Nat} {rows : List (List Int)} (h : Hold w (rowsH A c rows :: M) K) : ∃ vs : List Value, vs.length = rows.length ∧ Hold w (rowH 23 1 A c rows.length vs :: M) (rowsV vs rows :: K) := by
  obtain ⟨vs, hv⟩ := Hold.ex.1 h
  have h1 := Hold.knowH.1 hv
  exact ⟨vs, h1.rowsV_len List.mem_cons_self, h1⟩
theorem Hold.rowsH_shut {w : World} {M : List HP} {K : List KP} {A : Option Addr} {c : Nat} {rows : List (List Int)} {vs : List Value} (h : Hold w (rowH 23 1 A c rows.length vs :: M) K) (hm : rowsV vs rows ∈ K) : Hold w (rowsH A c rows :: M) K :=
  Hold.ex.2 ⟨vs, Hold.knowH.2 (h.know (fun k hk => (List.mem_cons.1 hk).elim (fun e => e ▸ hm) id))⟩
theorem SlC.pre {ok : Nat → Prop} {w : World} {sz m c k : Nat} {A : Option Addr} {xs : List Value} (h : SlC ok w sz (.slice A m c) m xs) (hk : k ≤ m) : SlC ok w sz (.slice A k c) k (xs.take (k * sz)) := by
  have := SlC.cut h (Nat.zero_le k) hk
  rw [slA_zero, Nat.zero_mul, List.drop_zero] at this
  exact this
/-- The length of a row of one's own, and its capacity. -/
theorem Hold.row_len {w : World} {M : List HP} {K : List KP} {e sz c n : Nat} {A : Option Addr} {xs : List Value} (h : Hold w M K) (hm : rowH e sz A c n xs ∈ M) : n ≤ c ∧ c ≤ maxLen ∧ xs.length = n * sz := by
  obtain ⟨A', c', he, h1, h2, h3, _⟩ := h.row hm
  injection he with _ _ hc
  subst hc
  exact ⟨h2, h3, h1⟩
theorem wrap_i64_le (x : Int) : -9223372036854775808 ≤ IntKind.i64.wrap x ∧ IntKind.i64.wrap x ≤ 9223372036854775807 := by rw [IntKind.wrap_i64]; omega
end Go.Proofs.Ytfpnodboebpemaa
