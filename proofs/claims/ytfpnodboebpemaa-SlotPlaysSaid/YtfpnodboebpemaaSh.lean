/- Short names for the proofs that the generator's lines ask for again and again. -/
import Derived.Test.YtfpnodboebpemaaLgView
import Derived.Test.YtfpnodboebpemaaLgDraw
import Derived.Scope
namespace Go.Proofs.Ytfpnodboebpemaa
open Go.RowKit Go.Proofs.YtfpnodboebpemaaW.PrintWords
set_option linter.unusedVariables false
/-- It stands in the list. -/
theorem mM.{u} {α : Type u} {a : α} {l : List α} (h : a ∈ l := by (repeat (first | assumption | exact List.Mem.head _ | apply List.Mem.tail)); first | done | fail) : a ∈ l := h
theorem pK {M M' : List HP} {p : HP} (h : Pick M p M' := by (repeat (first | exact Pick.head | apply Pick.tail)); first | done | fail) : Pick M p M' := h
theorem sW {M M' : List HP} {p q : HP} (h : Swap M p q M' := by (repeat (first | exact Swap.head | apply Swap.tail)); first | done | fail) : Swap M p q M' := h
theorem uP {l l' : List Value} {i : Nat} {v : Value} (h : Upd1 l i v l' := by (repeat (first | exact Upd1.here | apply Upd1.there)); first | done | fail) : Upd1 l i v l' := h
theorem uL {l l' vs : List Value} {i : Nat} (h : UpdL l i vs l' := by (repeat (first | exact UpdL.nil | exact Upd1.here | apply Upd1.there | apply UpdL.cons)); first | done | fail) : UpdL l i vs l' := h
theorem sU {cs vs : List Value} {o k : Nat} (h : Sub cs o k vs := by (repeat (first | exact Sub.nil | (apply Sub.cons; (focus exact rfl)))); first | done | fail) : Sub cs o k vs := h
theorem pS {M M' : List HP} (h : Picks M M' := by (repeat (first | exact Picks.refl | exact Picks.nil | (apply Picks.cons; (focus ((repeat (first | exact Pick.head | apply Pick.tail)); (first | done | fail)))) | apply Picks.drop)); first | done | fail) : Picks M M' := h
theorem kS {K K' : List KP} (h : Ks K K' := by (repeat (first | exact Ks.refl | exact Ks.nil | (apply Ks.cons; (focus ((repeat (first | assumption | exact List.Mem.head _ | apply List.Mem.tail)); (first | done | fail)))) | apply Ks.drop)); first | done | fail) : Ks K K' := h
theorem Hold.f {w : World} {M M' : List HP} {K K' : List KP} (h : Hold w M K) (hp : Picks M M' := by exact pS) (hk : Ks K K' := by exact kS) : Hold w M' K' := h.fin hp hk
theorem sS {M M1 : List HP} {K K1 : List KP} (hp : Picks M M1 := by exact pS) (hk : Ks K K1 := by exact kS) : ∀ w, Hold w M K → SS M1 K1 w := fun w hw => SS.of hw hp hk
theorem SS.h {M1 : List HP} {K1 : List KP} {w : World} (h : SS M1 K1 w) : Hold w M1 K1 := by
  obtain ⟨K2, h, hk⟩ := h; exact h.know hk
theorem sC {w : World} {sz m c : Nat} {A : Option Addr} {xs : List Value} (h : SlC (fun _ => True) w sz (.slice A m c) m xs := by first | exact Hold.bytes (by assumption) mM | exact Hold.ints (by assumption) mM | exact Hold.sl (by assumption) mM | exact Hold.row (by assumption) mM) : SlC (fun _ => True) w sz (.slice A m c) m xs := h
theorem oN {ys : List Value} (h : ∀ u ∈ ys, u.oneCell' = true := by (intro u hu; repeat (first | (rw [List.mem_singleton.1 hu]; rfl) | (rcases List.mem_cons.1 hu with rfl | hu; rfl))); first | done | fail) : ∀ u ∈ ys, u.oneCell' = true := h
theorem Blind.sc {Q : Exit → Act → World → Prop} (h : Blind Q) : Blind (Exit.noGoto Q) := h
theorem bL {Q : Exit → Act → World → Prop} (h : Blind Q := by (repeat (first | exact Blind.body | refine Blind.then_ ?_ | refine Blind.blk ?_ | refine Blind.sc ?_)); first | done | fail) : Blind Q := h
end Go.Proofs.Ytfpnodboebpemaa
