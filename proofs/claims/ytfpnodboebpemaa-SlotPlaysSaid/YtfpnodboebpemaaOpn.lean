/- How a law's walk starts; small facts. -/
import Derived.Test.YtfpnodboebpemaaAdapt
import Derived.Test.YtfpnodboebpemaaArg
namespace Go.Proofs.Ytfpnodboebpemaa
open Go.RowKit Go.Proofs.YtfpnodboebpemaaW.PrintWords
set_option linter.unusedVariables false
set_option linter.unusedSimpArgs false

section
variable {M : List HP} {K : List KP}
theorem Fn.pure {f : FuncId} {vs : List Value} {α β : Type} {φ : α → Prop} {V : α → Value} {Mc : α → List HP} {Kc : α → List KP} {ψ : β → Prop} {V' : β → Value} {Md : β → List HP} {Kd : β → List KP} (h : Fn f vs M K φ V Mc Kc) (hh : ∀ x, φ x → ∃ y, ψ y ∧ V x = V' y ∧ Mc x = Md y ∧ Kc x = Kd y) : Fn f vs M K ψ V' Md Kd :=
  Fn.intro fun w hw => (h.go w hw).mono fun e w' ⟨x, h1, h2, h3⟩ => by
    obtain ⟨y, h4, h5, h6, h7⟩ := hh x h1
    exact ⟨y, h4, by rw [h2, h5], by rw [← h6, ← h7]; exact h3⟩
end
theorem Hold.intsK_nil {w : World} {M : List HP} {K : List KP} (h : Hold w M K) : Hold w M (intsK none 0 [] :: K) := h.derive1 fun I _ _ => SlC.nil _ _ _

theorem rd_i (xs : List Int) (k : Nat) (h : k < xs.length) (hI : IsI xs) : -9223372036854775808 ≤ rd xs k ∧ rd xs k ≤ 9223372036854775807 := by
  have : rd xs k = xs[k] := by simp [rd, h]
  rw [this]; exact hI _ (List.getElem_mem h)
theorem tdiv_i (a b : Int) (hb : 1 ≤ b) (h : -9223372036854775808 ≤ a ∧ a ≤ 9223372036854775807) : -9223372036854775808 ≤ a.tdiv b ∧ a.tdiv b ≤ 9223372036854775807 := by
  by_cases h0 : 0 ≤ a
  · rw [Int.tdiv_eq_ediv_of_nonneg h0]
    have h1 := Int.ediv_nonneg h0 (show 0 ≤ b by omega)
    have h2 := Int.ediv_le_self b h0
    omega
  · obtain ⟨m, rfl⟩ : ∃ m, a = -m := ⟨-a, by omega⟩
    rw [Int.neg_tdiv, Int.tdiv_eq_ediv_of_nonneg (by omega)]
    have h1 := Int.ediv_nonneg (show 0 ≤ m by omega) (show 0 ≤ b by omega)
    have h2 := Int.ediv_le_self b (show 0 ≤ m by omega)
    omega

theorem Hold.row_ints {w : World} {M : List HP} {K : List KP} {A : Option Addr} {c : Nat} {xs : List Int} (h : Hold w (rowH 3 1 A c xs.length (nums .i64 xs) :: M) K) : Hold w M (intsK A c xs :: K) := h.freeze
/-! ### A law's walk -/
theorem law_of {f : FuncId} {vs : List Value} {w : World} {K K' : List KP} (h : Fn f vs [] (oldK w :: K) (fun _ : Unit => True) (fun _ => .bool true) (fun _ => []) (fun _ => oldK w :: K')) (hk : ∀ k ∈ K, k.sat w (fun b => b < w.heap.size)) :
    Calls Try.prog f vs.toArray w fun e w' => e = .returned (.bool true) ∧ Below w.heap.size w w' :=
  (h.go w (Hold.start w K hk)).mono fun e w' ⟨_, _, he, hw⟩ => ⟨he, hw.old List.mem_cons_self⟩
theorem ints_open {w : World} {v : Value} {xs : List Int} (h : Ints (fun k => k < w.heap.size) w v xs) : ∃ A c, v = .slice A xs.length c ∧ (intsK A c xs).sat w (fun k => k < w.heap.size) := by
  have h' := h
  obtain ⟨A, c, rfl, _⟩ := h
  exact ⟨A, c, rfl, h'⟩
theorem byt_open {w : World} {v : Value} {xs : List Int} (h : Byt (fun k => k < w.heap.size) w v xs) (hb : IsB xs) : ∃ A c, v = .slice A xs.length c ∧ (bytesK A c xs).sat w (fun k => k < w.heap.size) := by
  have h' := h
  obtain ⟨A, c, rfl, _⟩ := h
  exact ⟨A, c, rfl, h', hb⟩
theorem row_open {w : World} {v : Value} {rows : List (List Int)} (h : Row (fun k => k < w.heap.size) w v rows) (hb : ∀ r ∈ rows, IsB r) : ∃ A c, v = .slice A rows.length c ∧ (rowsK A c rows).sat w (fun k => k < w.heap.size) := by
  obtain ⟨vs, h1, h2⟩ := h
  have h1' := h1
  obtain ⟨A, c, rfl, hl, _⟩ := h1
  refine ⟨A, c, rfl, vs, h1', by simpa using hl, fun i r hr => ?_⟩
  obtain ⟨u, h3, h4⟩ := h2 i r hr
  obtain ⟨B, k, rfl, h5⟩ := byt_open h4 (hb r (List.mem_of_getElem? hr))
  exact ⟨B, k, h3, h5⟩
end Go.Proofs.Ytfpnodboebpemaa
