/- The arguments of the laws, as they came, in the words of Mem: slices of whole numbers, of bytes, of rows, of structs; a block by value. -/
import Derived.Test.YtfpnodboebpemaaAlk
import Derived.Test.YtfpnodboebpemaaFrm
import Derived.Deep.Slices
import Derived.Deep.Fields
import Derived.ChangeSame
import Derived.Lib.SmallJoins
namespace Go.Proofs.Ytfpnodboebpemaa
open Go.RowKit Go.Proofs.YtfpnodboebpemaaW.PrintWords Go.ChangeShapes Go.WideShapes Go.Deep
set_option linter.unusedVariables false
set_option linter.unusedSimpArgs false

theorem flatMap_get {n sz : Nat} {C : Nat → List Value} (hC : ∀ i, i < n → (C i).length = sz) {i j : Nat} (hi : i < n) (hj : j < sz) : ((List.range n).flatMap C)[i * sz + j]? = (C i)[j]? := by
  induction n generalizing i with
  | zero => omega
  | succ n ih =>
    rw [List.range_succ, List.flatMap_append]
    have hl : ((List.range n).flatMap C).length = n * sz := by
      clear ih hi
      have hC' : ∀ i, i < n → (C i).length = sz := fun i h => hC i (by omega)
      clear hC
      induction n with
      | zero => simp
      | succ n ih2 =>
        rw [List.range_succ, List.flatMap_append, List.length_append, ih2 (fun i h => hC' i (by omega))]
        simp [hC' n (by omega), Nat.succ_mul]
    rcases Nat.lt_or_ge i n with h | h
    · rw [List.getElem?_append_left (by
        rw [hl]
        have : (i + 1) * sz ≤ n * sz := Nat.mul_le_mul_right _ h
        rw [Nat.succ_mul] at this; omega)]
      exact ih (fun i h => hC i (by omega)) h
    · have : i = n := by omega
      subst this
      rw [List.getElem?_append_right (by rw [hl]; omega), hl]
      simp
theorem flatMap_len {n sz : Nat} {C : Nat → List Value} (hC : ∀ i, i < n → (C i).length = sz) : ((List.range n).flatMap C).length = n * sz := by
  induction n with
  | zero => simp
  | succ n ih =>
    rw [List.range_succ, List.flatMap_append, List.length_append, ih (fun i h => hC i (by omega))]
    simp [hC n (by omega), Nat.succ_mul]

section
variable {H : Type} {enc : TypeId × Value → H} {P : Program} {W : World} {base : Nat} {spare : Nat → Bool} {held : Bool}

theorem spot_none {a : Addr} {v : Value} (h : W.cell? a = some v) : a.spot = none := by
  unfold World.cell? at h
  split at h
  · split at h
    · cases h
    · rename_i hs; cases hsp : a.spot with
      | none => rfl
      | some q => simp [hsp] at hs
  · cases h

/-- A slice, element by element. -/
theorem slice_of {t e sz : Nat} {fuel : Nat} {v : Value} {x : DataW H × List MemPlace} (ht : P.underlying t = some (.slice e)) (hsz : P.cellsOf e = sz) (hp : 0 < sz) (h : DataW.trod enc P W base spare held fuel t [v] = some x) :
    ∃ (n : Nat) (C : Nat → List Value), (∀ i, i < n → (C i).length = sz ∧ ∃ m y, DataW.trod enc P W base spare held m e (C i) = some y) ∧ SlC (fun k => k < W.heap.size) W sz v n ((List.range n).flatMap C) := by
  rcases open_slice ht h with ⟨hcs, _⟩ | ⟨a, len, cap, m, q, D, Pl, hcs, hb, hl, hm, hmm, _, hx⟩
  · injection hcs with hcs
    subst hcs
    exact ⟨0, fun _ => [], fun i hi => by omega, SlC.nil _ _ _⟩
  · injection hcs with hcs
    subst hcs
    rw [hsz] at hx
    have hlm : len ≤ m := by rw [hmm]; split <;> omega
    have hx' : ∀ i, ∃ cs', i < len → (W.cells? base (a.add (i * sz)) sz = some cs' ∧ DataW.trod enc P W base spare held q e cs' = some (D i, Pl i)) := fun i => by
      by_cases hi : i < len
      · obtain ⟨cs', h1, h2⟩ := hx i (by omega)
        exact ⟨cs', fun _ => ⟨h1, h2⟩⟩
      · exact ⟨[], fun h => absurd h hi⟩
    refine ⟨len, fun i => Classical.choose (hx' i), fun i hi => ?_, ⟨some a, cap, rfl, ?_, hl, hm, fun hn => ?_⟩⟩
    · have hc := Classical.choose_spec (hx' i) hi
      exact ⟨(World.cells?_some hc.1).2.1, _, _, hc.2⟩
    · exact flatMap_len (fun i hi => (World.cells?_some (Classical.choose_spec (hx' i) hi).1).2.1)
    · have hlen : ∀ i, i < len → (Classical.choose (hx' i)).length = sz := fun i hi => (World.cells?_some (Classical.choose_spec (hx' i) hi).1).2.1
      have hcell : ∀ i j u, i < len → j < sz → (Classical.choose (hx' i))[j]? = some u → W.cell? ((a.add (i * sz)).add j) = some u := fun i j u hi hj hu => by
        rw [(World.cells?_some (Classical.choose_spec (hx' i) hi).1).2.2 j hj]; exact hu
      obtain ⟨u0, hu0⟩ : ∃ u, (Classical.choose (hx' 0))[0]? = some u := ⟨_, List.getElem?_eq_getElem (by rw [hlen 0 hn]; exact hp)⟩
      have h0 := hcell 0 0 u0 hn hp hu0
      have ha0 : (a.add (0 * sz)).add 0 = a := by simp [Addr.add]
      rw [ha0] at h0
      have hsp := spot_none h0
      obtain ⟨b, o, s⟩ := a
      simp only at hsp
      subst hsp
      refine ⟨b, o, rfl, World.block_lt_of_cell? W _ h0, World.block_lt_of_cell? W _ h0, fun i u hu => ?_⟩
      have hil : i < len * sz := by
        have := (List.getElem?_eq_some_iff.1 hu).1
        rwa [flatMap_len hlen] at this
      have hdiv : i / sz < len := Nat.div_lt_of_lt_mul (by rw [Nat.mul_comm]; exact hil)
      have hmod : i % sz < sz := Nat.mod_lt _ hp
      have hi : i / sz * sz + i % sz = i := by rw [Nat.mul_comm]; exact Nat.div_add_mod i sz
      rw [← hi, flatMap_get hlen hdiv hmod] at hu
      have := hcell (i / sz) (i % sz) u hdiv hmod hu
      rw [add_at, add_at, Nat.add_assoc, hi] at this
      exact this

/-- What is read of each element, put together. -/
theorem elems_of {α : Type} {n : Nat} {p : Nat → α → Prop} (h : ∀ i, i < n → ∃ x, p i x) : ∃ xs : List α, xs.length = n ∧ ∀ (i : Nat) x, xs[i]? = some x → p i x := by
  induction n with
  | zero => exact ⟨[], rfl, fun i x hx => by simp at hx⟩
  | succ n ih =>
    obtain ⟨xs, hl, hx⟩ := ih (fun i hi => h i (by omega))
    obtain ⟨y, hy⟩ := h n (by omega)
    refine ⟨xs ++ [y], by simp [hl], fun i x hi => ?_⟩
    rcases Nat.lt_or_ge i n with h1 | h1
    · rw [List.getElem?_append_left (by omega)] at hi; exact hx i x hi
    · have h2 := (List.getElem?_eq_some_iff.1 hi).1
      simp [hl] at h2
      have : i = n := by omega
      subst this
      rw [List.getElem?_append_right (by omega), hl] at hi
      simp at hi
      subst hi; exact hy

theorem one_cell {l : List Value} (h : l.length = 1) : ∃ u, l = [u] := by
  match l, h with
  | [u], _ => exact ⟨u, rfl⟩
/-- Elements of one cell each. -/
theorem slice_of1 {t e : Nat} {fuel : Nat} {v : Value} {x : DataW H × List MemPlace} (ht : P.underlying t = some (.slice e)) (hsz : P.cellsOf e = 1) (h : DataW.trod enc P W base spare held fuel t [v] = some x) :
    ∃ vs : List Value, SlC (fun k => k < W.heap.size) W 1 v vs.length vs ∧ ∀ u ∈ vs, ∃ m y, DataW.trod enc P W base spare held m e [u] = some y := by
  obtain ⟨n, C, hC, hs⟩ := slice_of ht hsz (by decide) h
  have hl := flatMap_len (fun i hi => (hC i hi).1)
  rw [Nat.mul_one] at hl
  refine ⟨(List.range n).flatMap C, by rw [hl]; exact hs, fun u hu => ?_⟩
  obtain ⟨i, hi, hu⟩ := List.mem_flatMap.1 hu
  have hi := List.mem_range.1 hi
  obtain ⟨hl1, m, y, hy⟩ := hC i hi
  obtain ⟨u', hu'⟩ := one_cell hl1
  rw [hu'] at hu hy
  rw [List.mem_singleton.1 hu]
  exact ⟨m, y, hy⟩
end

/-- A slice of whole numbers that reads xs. -/
def Ints (ok : Nat → Prop) (w : World) (v : Value) (xs : List Int) : Prop := SlC ok w 1 v xs.length (nums .i64 xs)
def IsI (xs : List Int) : Prop := ∀ x ∈ xs, -9223372036854775808 ≤ x ∧ x ≤ 9223372036854775807
theorem wf_u8 {n : Int} (h : (Lit.int .u8 n).wf = true) : 0 ≤ n ∧ n ≤ 255 := by
  simp only [Lit.wf, IntKind.min, IntKind.max, IntKind.signed, IntKind.bits, Bool.and_eq_true, decide_eq_true_eq, if_false, Bool.false_eq_true] at h
  omega
theorem wf_i64 {n : Int} (h : (Lit.int .i64 n).wf = true) : -9223372036854775808 ≤ n ∧ n ≤ 9223372036854775807 := by
  simp only [Lit.wf, IntKind.min, IntKind.max, IntKind.signed, IntKind.bits, Bool.and_eq_true, decide_eq_true_eq, if_true] at h
  omega
theorem cells5 : Try.prog.cellsOf 5 = 1 := by kernel_rfl
theorem cells3 : Try.prog.cellsOf 3 = 1 := by kernel_rfl
theorem cells23 : Try.prog.cellsOf 23 = 1 := by kernel_rfl

section
variable {H : Type} {enc : TypeId × Value → H} {W : World} {base : Nat} {spare : Nat → Bool} {held : Bool}
theorem nums_of {k : IntKind} {e : Nat} (he : Try.prog.underlying e = some (.int k)) {vs : List Value} (h : ∀ u ∈ vs, ∃ m y, DataW.trod enc Try.prog W base spare held m e [u] = some y) : ∃ xs : List Int, vs = nums k xs ∧ ∀ x ∈ xs, (Lit.int k x).wf = true := by
  induction vs with
  | nil => exact ⟨[], rfl, fun x hx => by cases hx⟩
  | cons u vs ih =>
    obtain ⟨xs, rfl, hx⟩ := ih (fun u hu => h u (by simp [hu]))
    obtain ⟨m, y, hy⟩ := h u (by simp)
    obtain ⟨n, hn, _, hw⟩ := DataW.trod_int he hy
    injection hn with hn
    subst hn
    exact ⟨n :: xs, rfl, fun x hx' => by rcases List.mem_cons.1 hx' with rfl | hx'; exact hw; exact hx x hx'⟩
theorem byt_of {fuel : Nat} {v : Value} {x : DataW H × List MemPlace} (h : DataW.trod enc Try.prog W base spare held fuel 23 [v] = some x) : ∃ xs, Byt (fun k => k < W.heap.size) W v xs ∧ IsB xs := by
  obtain ⟨vs, hs, hv⟩ := slice_of1 Try.underlying23 cells5 h
  obtain ⟨xs, rfl, hx⟩ := nums_of Try.underlying5 hv
  rw [nums_length] at hs
  exact ⟨xs, hs, fun x hx' => wf_u8 (hx x hx')⟩
theorem ints_of {fuel : Nat} {v : Value} {x : DataW H × List MemPlace} (h : DataW.trod enc Try.prog W base spare held fuel 37 [v] = some x) : ∃ xs, Ints (fun k => k < W.heap.size) W v xs ∧ IsI xs := by
  obtain ⟨vs, hs, hv⟩ := slice_of1 Try.underlying37 cells3 h
  obtain ⟨xs, rfl, hx⟩ := nums_of Try.underlying3 hv
  rw [nums_length] at hs
  exact ⟨xs, hs, fun x hx' => wf_i64 (hx x hx')⟩
theorem row_of {fuel : Nat} {v : Value} {x : DataW H × List MemPlace} (h : DataW.trod enc Try.prog W base spare held fuel 62 [v] = some x) : ∃ rows, Row (fun k => k < W.heap.size) W v rows ∧ ∀ r ∈ rows, IsB r := by
  obtain ⟨vs, hs, hv⟩ := slice_of1 Try.underlying62 cells23 h
  obtain ⟨rows, hl, hr⟩ := elems_of (n := vs.length) (p := fun i r => ∃ u, vs[i]? = some u ∧ Byt (fun k => k < W.heap.size) W u r ∧ IsB r) (fun i hi => by
    obtain ⟨m, y, hy⟩ := hv (vs[i]) (List.getElem_mem hi)
    obtain ⟨xs, h1, h2⟩ := byt_of hy
    exact ⟨xs, _, List.getElem?_eq_getElem hi, h1, h2⟩)
  refine ⟨rows, ⟨vs, by rw [hl]; exact hs, fun i r hi => ?_⟩, fun r hr' => ?_⟩
  · obtain ⟨u, h1, h2, _⟩ := hr i r hi
    exact ⟨u, h1, h2⟩
  · obtain ⟨i, hi, rfl⟩ := List.getElem_of_mem hr'
    obtain ⟨u, _, _, h3⟩ := hr i _ (List.getElem?_eq_getElem hi)
    exact h3
end

/-! ### A block, by value -/
structure Fb.ints (b : Fb) : Prop where
  kind : -9223372036854775808 ≤ b.kind ∧ b.kind ≤ 9223372036854775807
  epoch : -9223372036854775808 ≤ b.epoch ∧ b.epoch ≤ 9223372036854775807
  seq : -9223372036854775808 ≤ b.seq ∧ b.seq ≤ 9223372036854775807
  lba : -9223372036854775808 ≤ b.lba ∧ b.lba ≤ 9223372036854775807
theorem cells31 : Try.prog.cellsOf 31 = 5 := by kernel_rfl
section
variable {H : Type} {enc : TypeId × Value → H} {W : World} {base : Nat} {spare : Nat → Bool} {held : Bool}
theorem five_cells {l : List Value} (h : l.length = 5) : ∃ a b c d e, l = [a, b, c, d, e] := by
  match l, h with
  | [a, b, c, d, e], _ => exact ⟨a, b, c, d, e, rfl⟩
set_option maxRecDepth 100000 in
theorem blk_cells {fuel : Nat} {cs : List Value} {x : DataW H × List MemPlace} (h : DataW.trod enc Try.prog W base spare held fuel 31 cs = some x) :
    ∃ (b : Fb) (u : Value), cs = [.int .i64 b.kind, .int .i64 b.epoch, .int .i64 b.seq, .int .i64 b.lba, u] ∧ Byt (fun k => k < W.heap.size) W u b.body ∧ IsB b.body ∧ b.ints := by
  obtain ⟨xs, n, _, _, hl, hxl, hf⟩ := DataW.trod_struct Try.underlying31 h
  rw [cells31] at hl
  obtain ⟨a, b, c, d, e, rfl⟩ := five_cells hl
  have get : ∀ i, i < 5 → ∃ y, xs[i]? = some y := fun i hi => ⟨_, List.getElem?_eq_getElem (by rw [hxl]; exact hi)⟩
  obtain ⟨y0, h0⟩ := get 0 (by omega)
  obtain ⟨y1, h1⟩ := get 1 (by omega)
  obtain ⟨y2, h2⟩ := get 2 (by omega)
  obtain ⟨y3, h3⟩ := get 3 (by omega)
  obtain ⟨y4, h4⟩ := get 4 (by omega)
  have g0 : DataW.trod enc Try.prog W base spare held n 3 [a] = some y0 := by have h := (hf 0 _ rfl).trans h0; simpa [cells3] using h
  have g1 : DataW.trod enc Try.prog W base spare held n 3 [b] = some y1 := by have h := (hf 1 _ rfl).trans h1; simpa [cells3] using h
  have g2 : DataW.trod enc Try.prog W base spare held n 3 [c] = some y2 := by have h := (hf 2 _ rfl).trans h2; simpa [cells3] using h
  have g3 : DataW.trod enc Try.prog W base spare held n 3 [d] = some y3 := by have h := (hf 3 _ rfl).trans h3; simpa [cells3] using h
  have g4 : DataW.trod enc Try.prog W base spare held n 23 [e] = some y4 := by have h := (hf 4 _ rfl).trans h4; simpa [cells23] using h
  obtain ⟨n0, e0, _, w0⟩ := DataW.trod_int Try.underlying3 g0
  obtain ⟨n1, e1, _, w1⟩ := DataW.trod_int Try.underlying3 g1
  obtain ⟨n2, e2, _, w2⟩ := DataW.trod_int Try.underlying3 g2
  obtain ⟨n3, e3, _, w3⟩ := DataW.trod_int Try.underlying3 g3
  obtain ⟨bs, hb, hbb⟩ := byt_of g4
  injection e0 with e0
  injection e1 with e1
  injection e2 with e2
  injection e3 with e3
  subst e0 e1 e2 e3
  exact ⟨⟨n0, n1, n2, n3, bs⟩, e, rfl, hb, hbb, ⟨wf_i64 w0, wf_i64 w1, wf_i64 w2, wf_i64 w3⟩⟩
set_option maxRecDepth 100000 in
theorem blk_of {r : Reach} {b0 : Nat} {v : Value} {d : DataW H} {p : List MemPlace} (hv : Value.okWide Try.prog W r b0 31 v) (h : DataW.Trod enc Try.prog W base spare held 31 v d p) :
    ∃ (b : Fb) (u : Value), v = b.val u ∧ Byt (fun k => k < W.heap.size) W u b.body ∧ IsB b.body ∧ b.ints := by
  obtain ⟨cs, rfl, _⟩ := okWide_struct Try.underlying31 hv
  obtain ⟨fuel, hf⟩ := h
  obtain ⟨b, u, hcs, h1⟩ := blk_cells hf
  refine ⟨b, u, ?_, h1⟩
  unfold Fb.val
  congr 1
  exact Array.ext' hcs
end
end Go.Proofs.Ytfpnodboebpemaa
