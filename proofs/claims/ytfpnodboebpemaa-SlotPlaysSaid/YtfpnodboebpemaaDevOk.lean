/- What the device's methods keep, as plain data. -/
import Derived.Test.YtfpnodboebpemaaCrsh
namespace Go.Proofs.Ytfpnodboebpemaa
open Go.RowKit Go.Proofs.YtfpnodboebpemaaW.PrintWords
set_option linter.unusedVariables false
set_option linter.unusedSimpArgs false

theorem Dev.begin_ok {D : Dev} (h : D.ok) : D.begin.1.ok := by
  have hw := wrap_i64_le (D.ops + 1)
  by_cases hc : D.off = true ∨ (D.cut = true ∧ D.left < 1)
  · rw [begin_no hc]; exact ⟨h.zones, h.size, hw, h.left, h.full⟩
  · rw [begin_yes hc]
    refine ⟨h.zones, h.size, hw, ?_, h.full⟩
    have := h.left
    show (if D.cut = true then D.left - 1 else D.left : Nat) ≤ _
    split
    · have : ((D.left - 1 : Nat) : Int) ≤ D.left := by omega
      omega
    · exact this
theorem Dev.set_ok {D : Dev} (h : D.ok) (k : Nat) {Z : Zn} (h1 : Z.blocks.length ≤ D.size) (h2 : Z.good ≤ Z.blocks.length) (h3 : ∀ p ∈ Z.blocks, p.length = 64 ∧ IsB p) : (D.set k Z).ok := by
  refine ⟨by simpa [Dev.set] using h.zones, h.size, h.ops, h.left, fun Y hY => ?_⟩
  rcases List.mem_or_eq_of_mem_set hY with hY | rfl
  · exact h.full Y hY
  · exact ⟨h1, h2, h3⟩
theorem zone_at {D : Dev} {i : Int} {k : Nat} (h : D.zone? i = some k) : i = k ∧ D.zones[k]? = some (D.at k) ∧ D.at k ∈ D.zones := by
  unfold Dev.zone? at h
  split at h
  · rename_i hc
    injection h with h
    have hlt : k < D.zones.length := by omega
    have he : D.zones[k]? = some (D.at k) := by unfold Dev.at; rw [List.getD_eq_getElem?_getD, List.getElem?_eq_getElem hlt]; rfl
    exact ⟨by omega, he, List.mem_of_getElem? he⟩
  · cases h
theorem Dev.append_ok {D : Dev} (h : D.ok) (i : Int) {p : List Int} (hB : IsB p) : (D.append i p).1.ok := by
  cases hz : D.zone? i with
  | none => rw [append_none hz]; exact h
  | some k =>
    by_cases hp : p.length = 64
    · cases hb : D.begin.2 with
      | false => rw [append_off hz hp hb]; exact Dev.begin_ok h
      | true =>
        by_cases hs : D.size ≤ (D.at k).blocks.length
        · rw [append_full hz hp hb rfl hs]; exact Dev.begin_ok h
        · rw [Go.Proofs.Ytfpnodboebpemaa.append_ok hz hp hb rfl hs]
          obtain ⟨f1, f2, f3⟩ := h.full _ (zone_at hz).2.2
          refine Dev.set_ok (Dev.begin_ok h) k (by rw [begin_size]; simp; omega) (by simp; omega) (fun q hq => ?_)
          rcases List.mem_append.1 hq with hq | hq
          · exact f3 q hq
          · rw [List.mem_singleton.1 hq]; exact ⟨hp, hB⟩
    · rw [append_len hz hp]; exact h
theorem Dev.reset_ok {D : Dev} (h : D.ok) (i : Int) : (D.reset i).1.ok := by
  cases hz : D.zone? i with
  | none => rw [reset_none hz]; exact h
  | some k =>
    cases hb : D.begin.2 with
    | false => rw [reset_off hz hb]; exact Dev.begin_ok h
    | true =>
      rw [Go.Proofs.Ytfpnodboebpemaa.reset_ok hz hb]
      exact Dev.set_ok (Dev.begin_ok h) k (Nat.zero_le _) (Nat.le_refl _) (fun q hq => by cases hq)
theorem Dev.flush_ok {D : Dev} (h : D.ok) : D.flush.1.ok := by
  have hb' := Dev.begin_ok h
  unfold Dev.flush
  split
  · exact hb'
  · refine ⟨by simpa using h.zones, hb'.size, hb'.ops, hb'.left, fun Y hY => ?_⟩
    obtain ⟨Z, hZ, rfl⟩ := List.mem_map.1 hY
    obtain ⟨f1, f2, f3⟩ := h.full Z hZ
    exact ⟨by rw [begin_size]; exact f1, Nat.le_refl _, f3⟩
theorem Dev.doCut_ok {D : Dev} (h : D.ok) {n : Int} (hn : n ≤ 9223372036854775807) : (D.doCut n).ok :=
  ⟨h.zones, h.size, h.ops, by simp only [Dev.doCut]; omega, h.full⟩

/-! ### The power is on for good -/
structure Dev.fine (D : Dev) (k : Nat) : Prop where
  ok : D.ok
  cut : D.cut = false
  off : D.off = false
  ops : D.ops = k
theorem fine_begin {D : Dev} {k : Nat} (h : D.fine k) (hk : k < 1099511627776) : D.begin = ({ D with ops := ((k + 1 : Nat) : Int) }, true) := by
  rw [begin_yes (by simp [h.cut, h.off]), h.ops, h.cut]
  simp only [Bool.false_eq_true, if_false]
  rw [IntKind.wrap_i64, show (((k : Int) + 1 + 9223372036854775808) % 18446744073709551616 - 9223372036854775808) = ((k + 1 : Nat) : Int) by omega]
  have := h.off; cases D; simp_all
theorem zone_of {D : Dev} {i : Int} {k : Nat} (hi : i = k) (hk : k < D.zones.length) : D.zone? i = some k := by
  unfold Dev.zone?; rw [if_pos (by omega), hi]; simp
theorem at_set {D : Dev} {k : Nat} (hk : k < D.zones.length) (Z : Zn) (j : Nat) : (D.set k Z).at j = if j = k then Z else D.at j := by
  unfold Dev.at Dev.set
  simp only [List.getD_eq_getElem?_getD]
  split
  · rename_i h; subst h; rw [List.getElem?_set_self hk]; rfl
  · rename_i h; rw [List.getElem?_set_ne (fun e => h e.symm)]
theorem set_len (D : Dev) (k : Nat) (Z : Zn) : (D.set k Z).zones.length = D.zones.length := by simp [Dev.set]
theorem fine_set {D : Dev} {n k : Nat} {Z : Zn} (h : ({ D with ops := ((n : Nat) : Int) } : Dev).fine n) (h1 : Z.blocks.length ≤ D.size) (h2 : Z.good ≤ Z.blocks.length) (h3 : ∀ p ∈ Z.blocks, p.length = 64 ∧ IsB p) : (({ D with ops := ((n : Nat) : Int) } : Dev).set k Z).fine n :=
  ⟨Dev.set_ok h.ok k h1 h2 h3, h.cut, h.off, rfl⟩
theorem fine_ops {D : Dev} {k n : Nat} (h : D.fine k) (hn : n < 1099511627776) : ({ D with ops := ((n : Nat) : Int) } : Dev).fine n :=
  ⟨⟨h.ok.zones, h.ok.size, ⟨by simp only; omega, by simp only; omega⟩, h.ok.left, h.ok.full⟩, h.cut, h.off, rfl⟩
/-- What stands at a place, zone by zone. -/
theorem fine_append {D : Dev} {n k : Nat} {p : List Int} (h : D.fine n) (hn : n < 1000000) (hk : k < D.zones.length) (hp : p.length = 64) (hB : IsB p) (hs : (D.at k).blocks.length < D.size) :
    ∃ D', D.append (k : Int) p = (D', ((D.at k).blocks.length : Int), 0) ∧ D'.fine (n + 1) ∧ D'.zones = D.zones.set k ⟨(D.at k).blocks ++ [p], (D.at k).good⟩ ∧ D'.size = D.size := by
  have hz := zone_of (D := D) rfl hk
  have hb := fine_begin h (by omega)
  refine ⟨_, Go.Proofs.Ytfpnodboebpemaa.append_ok hz hp (by rw [hb]) rfl (by omega), ?_, by rw [hb]; rfl, by rw [hb]; rfl⟩
  rw [hb]
  obtain ⟨f1, f2, f3⟩ := h.ok.full _ (zone_at hz).2.2
  refine fine_set (fine_ops h (by omega)) (by simp; omega) (by simp; omega) (fun q hq => ?_)
  rcases List.mem_append.1 hq with hq | hq
  · exact f3 q hq
  · rw [List.mem_singleton.1 hq]; exact ⟨hp, hB⟩
theorem fine_append_full {D : Dev} {n k : Nat} {p : List Int} (h : D.fine n) (hn : n < 1000000) (hk : k < D.zones.length) (hp : p.length = 64) (hs : D.size ≤ (D.at k).blocks.length) :
    ∃ D', D.append (k : Int) p = (D', 0, 9) ∧ D'.fine (n + 1) ∧ D'.zones = D.zones ∧ D'.size = D.size := by
  have hz := zone_of (D := D) rfl hk
  have hb := fine_begin h (by omega)
  refine ⟨_, append_full hz hp (by rw [hb]) rfl hs, ?_, by rw [hb], by rw [hb]⟩
  rw [hb]; exact fine_ops h (by omega)
theorem fine_reset {D : Dev} {n k : Nat} (h : D.fine n) (hn : n < 1000000) (hk : k < D.zones.length) :
    ∃ D', D.reset (k : Int) = (D', 0) ∧ D'.fine (n + 1) ∧ D'.zones = D.zones.set k ⟨[], 0⟩ ∧ D'.size = D.size := by
  have hz := zone_of (D := D) rfl hk
  have hb := fine_begin h (by omega)
  refine ⟨_, Go.Proofs.Ytfpnodboebpemaa.reset_ok hz (by rw [hb]), ?_, by rw [hb]; rfl, by rw [hb]; rfl⟩
  rw [hb]; exact fine_set (fine_ops h (by omega)) (Nat.zero_le _) (Nat.le_refl _) (fun q hq => by cases hq)
theorem fine_flush {D : Dev} {n : Nat} (h : D.fine n) (hn : n < 1000000) :
    ∃ D', D.flush = (D', 0) ∧ D'.fine (n + 1) ∧ D'.zones = (D.zones.map fun Z => ⟨Z.blocks, Z.blocks.length⟩) ∧ D'.size = D.size := by
  have hb := fine_begin h (by omega)
  refine ⟨{ D.begin.1 with zones := D.zones.map fun Z => ⟨Z.blocks, Z.blocks.length⟩ }, by unfold Dev.flush; rw [if_neg (by rw [hb]; simp)], ?_, rfl, by rw [hb]⟩
  have hf := Dev.flush_ok h.ok
  unfold Dev.flush at hf
  rw [if_neg (by rw [hb]; simp)] at hf
  refine ⟨hf, ?_, ?_, ?_⟩
  · rw [hb]; exact h.cut
  · rw [hb]; exact h.off
  · rw [hb]
theorem pointer_at {D : Dev} {k : Nat} (hk : k < D.zones.length) : D.pointer (k : Int) = (((D.at k).blocks.length : Int), 0) := pointer_ok (zone_of rfl hk) rfl
theorem newDev_fine {Z S : Nat} (hZ : 8 ≤ Z ∧ Z ≤ 64) (hS : 96 ≤ S ∧ S ≤ 192) : (newDev Z S).fine 0 := ⟨newDev_ok hZ hS, rfl, rfl, rfl⟩
theorem newDev_at {Z S : Nat} (k : Nat) : (newDev Z S).at k = ⟨[], 0⟩ := by
  unfold newDev Dev.at
  simp only [List.getD_eq_getElem?_getD]
  rcases Nat.lt_or_ge k Z with h | h
  · rw [List.getElem?_replicate, if_pos h]; rfl
  · rw [List.getElem?_eq_none (by simpa using h)]; rfl
theorem newDev_len {Z S : Nat} : (newDev Z S).zones.length = Z := by simp [newDev]
/-- A zone after a write. -/
theorem at_of_zones {D D' : Dev} {k : Nat} {Z : Zn} (hk : k < D.zones.length) (h : D'.zones = D.zones.set k Z) (j : Nat) : D'.at j = if j = k then Z else D.at j := by
  have := at_set hk Z j
  unfold Dev.set at this
  unfold Dev.at at this ⊢
  rw [h]; exact this
theorem at_same {D D' : Dev} (h : D'.zones = D.zones) (j : Nat) : D'.at j = D.at j := by unfold Dev.at; rw [h]
theorem len_of_zones {D D' : Dev} {k : Nat} {Z : Zn} (h : D'.zones = D.zones.set k Z) : D'.zones.length = D.zones.length := by rw [h]; simp
theorem at_flush {D D' : Dev} (h : D'.zones = (D.zones.map fun Z => ⟨Z.blocks, Z.blocks.length⟩)) (j : Nat) : D'.at j = ⟨(D.at j).blocks, (D.at j).blocks.length⟩ := by
  unfold Dev.at
  rw [h, List.getD_eq_getElem?_getD, List.getD_eq_getElem?_getD, List.getElem?_map]
  cases D.zones[j]? <;> rfl
theorem at_crash {D : Dev} {picks torn : List Int} {k : Nat} (hk : k < D.zones.length) : (D.crash picks torn).at k = crashZ (D.at k) (pickL picks k) (pickL torn k) := by
  have h1 : D.zones[k]? = some (D.at k) := (zone_at (zone_of rfl hk)).2.1
  have h2 := crash_at (picks := picks) (torn := torn) h1
  unfold Dev.at at h2 ⊢
  rw [List.getD_eq_getElem?_getD, h2]; rfl
theorem crash_len (D : Dev) (picks torn : List Int) : (D.crash picks torn).zones.length = D.zones.length := by simp [Dev.crash]
theorem crash_fine {D : Dev} (h : D.ok) (picks torn : List Int) : (D.crash picks torn).fine 0 := ⟨crash_ok h picks torn, rfl, rfl, rfl⟩
theorem at_full {D : Dev} (h : D.ok) (k : Nat) : (D.at k).blocks.length ≤ D.size ∧ (D.at k).good ≤ (D.at k).blocks.length ∧ ∀ p ∈ (D.at k).blocks, p.length = 64 ∧ IsB p := by
  unfold Dev.at
  rw [List.getD_eq_getElem?_getD]
  cases hz : D.zones[k]? with
  | none => exact ⟨Nat.zero_le _, Nat.le_refl _, fun p hp => by cases hp⟩
  | some Z => exact h.full Z (List.mem_of_getElem? hz)
theorem at_le {D : Dev} (h : D.ok) (k : Nat) : (D.at k).blocks.length ≤ D.size := (at_full h k).1
/-- The number of zones never changes. -/
theorem append_len' (D : Dev) (i : Int) (p : List Int) : (D.append i p).1.zones.length = D.zones.length := by
  unfold Dev.append
  split
  · rfl
  · split
    · rfl
    · split
      · rw [begin_zones]
      · split
        · rw [begin_zones]
        · rw [set_len, begin_zones]
theorem append_size' (D : Dev) (i : Int) (p : List Int) : (D.append i p).1.size = D.size := by
  unfold Dev.append
  split
  · rfl
  · split
    · rfl
    · split
      · rw [begin_size]
      · split
        · rw [begin_size]
        · exact begin_size D
theorem reset_len' (D : Dev) (i : Int) : (D.reset i).1.zones.length = D.zones.length := by
  unfold Dev.reset
  split
  · rfl
  · split
    · rw [begin_zones]
    · rw [set_len, begin_zones]
end Go.Proofs.Ytfpnodboebpemaa
