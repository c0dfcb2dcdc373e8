/- Batches as arguments of the laws. -/
import Derived.Test.YtfpnodboebpemaaArg
import Derived.Test.YtfpnodboebpemaaBat
namespace Go.Proofs.Ytfpnodboebpemaa
open Go.RowKit Go.Proofs.YtfpnodboebpemaaW.PrintWords Go.ChangeShapes Go.WideShapes Go.Deep
set_option linter.unusedVariables false
set_option linter.unusedSimpArgs false
theorem cells61 : Try.prog.cellsOf 61 = 2 := by kernel_rfl
theorem cells58 : Try.prog.cellsOf 58 = 2 := by kernel_rfl
theorem cells55 : Try.prog.cellsOf 55 = 2 := by kernel_rfl
theorem cells53 : Try.prog.cellsOf 53 = 1 := by kernel_rfl
theorem cells56 : Try.prog.cellsOf 56 = 1 := by kernel_rfl
/-- A batch by value. -/
def BatL.val (b : BatL) (A : Option Addr) (c : Nat) : Value := .agg [.int .i64 b.num, .slice A b.txs.length c].toArray
section
variable {H : Type} {enc : TypeId × Value → H} {W : World} {base : Nat} {spare : Nat → Bool} {held : Bool}
theorem two_cells {l : List Value} (h : l.length = 2) : ∃ a b, l = [a, b] := by
  match l, h with
  | [a, b], _ => exact ⟨a, b, rfl⟩
theorem view_of {α : Type} {el : α → List Value → KP} {t e fuel : Nat} {v : Value} {x : DataW H × List MemPlace} (ht : Try.prog.underlying t = some (.slice e)) (hsz : Try.prog.cellsOf e = 2)
    (hel : ∀ m cs y, DataW.trod enc Try.prog W base spare held m e cs = some y → ∃ a, (el a cs).sat W (fun k => k < W.heap.size)) (h : DataW.trod enc Try.prog W base spare held fuel t [v] = some x) :
    ∃ (xs : List α) (A : Option Addr) (c : Nat), v = .slice A xs.length c ∧ (viewK 2 el A c xs).sat W (fun k => k < W.heap.size) := by
  obtain ⟨n, C, hC, hs⟩ := slice_of ht hsz (by decide) h
  obtain ⟨xs, hl, hx⟩ := elems_of (n := n) (p := fun i (a : α) => (el a (C i)).sat W (fun k => k < W.heap.size)) (fun i hi => by
    obtain ⟨_, m, y, hy⟩ := hC i hi
    exact hel m _ y hy)
  have hs' := hs
  obtain ⟨A, c, rfl, _⟩ := hs
  refine ⟨xs, A, c, by rw [hl], (List.range n).flatMap C, ?_, ?_, fun i a ha => ?_⟩
  · show SlC _ _ _ _ _ _
    rw [hl]; exact hs'
  · rw [hl]; exact flatMap_len (fun i hi => (hC i hi).1)
  · have hi : i < n := by rw [← hl]; exact (List.getElem?_eq_some_iff.1 ha).1
    have : (((List.range n).flatMap C).drop (i * 2)).take 2 = C i := by
      refine List.ext_getElem? fun j => ?_
      rw [List.getElem?_take, List.getElem?_drop]
      rcases Nat.lt_or_ge j 2 with hj | hj
      · rw [if_pos hj, flatMap_get (fun i hi => (hC i hi).1) hi hj]
      · rw [if_neg (by omega), List.getElem?_eq_none (by rw [(hC i hi).1]; exact hj)]
    rw [this]; exact hx i a ha
set_option maxRecDepth 100000 in
theorem put_cells {fuel : Nat} {cs : List Value} {x : DataW H × List MemPlace} (h : DataW.trod enc Try.prog W base spare held fuel 61 cs = some x) : ∃ p : PutL, (putE p cs).sat W (fun k => k < W.heap.size) := by
  obtain ⟨xs, n, _, _, hl, hxl, hf⟩ := DataW.trod_struct Try.underlying61 h
  rw [cells61] at hl
  obtain ⟨a, b, rfl⟩ := two_cells hl
  obtain ⟨y0, h0⟩ : ∃ y, xs[0]? = some y := ⟨_, List.getElem?_eq_getElem (by rw [hxl]; decide)⟩
  obtain ⟨y1, h1⟩ : ∃ y, xs[1]? = some y := ⟨_, List.getElem?_eq_getElem (by rw [hxl]; decide)⟩
  have g0 : DataW.trod enc Try.prog W base spare held n 3 [a] = some y0 := by have h := (hf 0 _ rfl).trans h0; simpa [cells3] using h
  have g1 : DataW.trod enc Try.prog W base spare held n 23 [b] = some y1 := by have h := (hf 1 _ rfl).trans h1; simpa [cells23] using h
  obtain ⟨n0, e0, _, w0⟩ := DataW.trod_int Try.underlying3 g0
  obtain ⟨bs, hb, hbb⟩ := byt_of g1
  injection e0 with e0
  subst e0
  have hb' := hb
  obtain ⟨A, c, rfl, _⟩ := hb
  exact ⟨⟨n0, bs⟩, A, c, rfl, hb', hbb⟩
set_option maxRecDepth 100000 in
theorem tx_cells {fuel : Nat} {cs : List Value} {x : DataW H × List MemPlace} (h : DataW.trod enc Try.prog W base spare held fuel 58 cs = some x) : ∃ t : TxL, (txE t cs).sat W (fun k => k < W.heap.size) := by
  obtain ⟨xs, n, _, _, hl, hxl, hf⟩ := DataW.trod_struct Try.underlying58 h
  rw [cells58] at hl
  obtain ⟨a, b, rfl⟩ := two_cells hl
  obtain ⟨y0, h0⟩ : ∃ y, xs[0]? = some y := ⟨_, List.getElem?_eq_getElem (by rw [hxl]; decide)⟩
  obtain ⟨y1, h1⟩ : ∃ y, xs[1]? = some y := ⟨_, List.getElem?_eq_getElem (by rw [hxl]; decide)⟩
  have g0 : DataW.trod enc Try.prog W base spare held n 3 [a] = some y0 := by have h := (hf 0 _ rfl).trans h0; simpa [cells3] using h
  have g1 : DataW.trod enc Try.prog W base spare held n 56 [b] = some y1 := by have h := (hf 1 _ rfl).trans h1; simpa [cells3, cells56] using h
  obtain ⟨n0, e0, _, w0⟩ := DataW.trod_int Try.underlying3 g0
  obtain ⟨ps, A, c, rfl, hk⟩ := view_of Try.underlying56 cells61 (fun m cs y hy => put_cells hy) g1
  injection e0 with e0
  subst e0
  exact ⟨⟨n0, ps⟩, A, c, rfl, hk⟩
set_option maxRecDepth 100000 in
theorem bat_cells {fuel : Nat} {cs : List Value} {x : DataW H × List MemPlace} (h : DataW.trod enc Try.prog W base spare held fuel 55 cs = some x) : ∃ b : BatL, (batE b cs).sat W (fun k => k < W.heap.size) := by
  obtain ⟨xs, n, _, _, hl, hxl, hf⟩ := DataW.trod_struct Try.underlying55 h
  rw [cells55] at hl
  obtain ⟨a, b, rfl⟩ := two_cells hl
  obtain ⟨y0, h0⟩ : ∃ y, xs[0]? = some y := ⟨_, List.getElem?_eq_getElem (by rw [hxl]; decide)⟩
  obtain ⟨y1, h1⟩ : ∃ y, xs[1]? = some y := ⟨_, List.getElem?_eq_getElem (by rw [hxl]; decide)⟩
  have g0 : DataW.trod enc Try.prog W base spare held n 3 [a] = some y0 := by have h := (hf 0 _ rfl).trans h0; simpa [cells3] using h
  have g1 : DataW.trod enc Try.prog W base spare held n 53 [b] = some y1 := by have h := (hf 1 _ rfl).trans h1; simpa [cells3, cells53] using h
  obtain ⟨n0, e0, _, w0⟩ := DataW.trod_int Try.underlying3 g0
  obtain ⟨ts, A, c, rfl, hk⟩ := view_of Try.underlying53 cells58 (fun m cs y hy => tx_cells hy) g1
  injection e0 with e0
  subst e0
  exact ⟨⟨n0, ts⟩, A, c, rfl, hk⟩
set_option maxRecDepth 100000 in
theorem bat_of {r : Go.Reach} {b0 : Nat} {v : Value} {d : DataW H} {p : List MemPlace} (hv : Value.okWide Try.prog W r b0 55 v) (h : DataW.Trod enc Try.prog W base spare held 55 v d p) :
    ∃ (b : BatL) (A : Option Addr) (c : Nat), v = b.val A c ∧ (viewK 2 txE A c b.txs).sat W (fun k => k < W.heap.size) := by
  obtain ⟨cs, rfl, _⟩ := okWide_struct Try.underlying55 hv
  obtain ⟨fuel, hf⟩ := h
  obtain ⟨b, A, c, hcs, hk⟩ := bat_cells hf
  exact ⟨b, A, c, congrArg Value.agg (Array.ext' hcs), hk⟩
theorem bats_of {fuel : Nat} {v : Value} {x : DataW H × List MemPlace} (h : DataW.trod enc Try.prog W base spare held fuel 110 [v] = some x) : ∃ (bs : List BatL) (A : Option Addr) (c : Nat), v = .slice A bs.length c ∧ (viewK 2 batE A c bs).sat W (fun k => k < W.heap.size) :=
  view_of Try.underlying110 cells55 (fun m cs y hy => bat_cells hy) h
end
end Go.Proofs.Ytfpnodboebpemaa
