/- What a crash and a copy make of a device, as plain data. -/
import Derived.Test.YtfpnodboebpemaaAdapt
import Derived.Test.YtfpnodboebpemaaFrameTornWalk
import Derived.Laws.BitsAllLaws
namespace Go.Proofs.Ytfpnodboebpemaa
open Go.RowKit Go.Proofs.YtfpnodboebpemaaW.PrintWords
set_option linter.unusedVariables false
set_option linter.unusedSimpArgs false

theorem run_xor8 (a b : Nat) (ha : a < 256) (hb : b < 256) (w : World) : (Op.intBits .xor .u8 (a : Int) (b : Int)).run Try.prog w = .ok (.int .u8 ((a ^^^ b : Nat) : Int)) w := by
  have := u8_xor_nat a b ha hb
  show Sem.run Try.prog (pure (Value.int .u8 (bits .xor .u8 (a : Int) (b : Int)))) w = _
  rw [this]; rfl
theorem Yl.xor8 {E : Env} {w : World} {dst : Option Tmp} {ty : Nat} {ps : String} {af : Array Edge} {g : Option (Nat × Bool)} {t t' : TypeId} {x y : Operand} {a b : Int} (hx : ev E x = some (.int .u8 a)) (hy : ev E y = some (.int .u8 b)) (ha : 0 ≤ a ∧ a ≤ 255) (hb : 0 ≤ b ∧ b ≤ 255) :
    Yl ⟨dst, .binOp .xor t x y t', ty, ps, af, g⟩ E (.int .u8 ((a.toNat ^^^ b.toNat : Nat) : Int)) w := Yl.mk fun ρ hρ => by
  have := run_xor8 a.toNat b.toNat (by omega) (by omega) w
  rw [Int.toNat_of_nonneg ha.1, Int.toNat_of_nonneg hb.1] at this
  simp only [execOp, hρ x _ hx, hρ y _ hy, eqGuard, binOp, Sem.run_bind, Sem.run_pure, Result.andThen_ok]
  simp [this]

theorem Hold.zones_nil {w : World} {M : List HP} {K : List KP} (h : Hold w M K) : Hold w (zonesH [] [] :: M) K := Hold.starL.2 h
theorem Hold.zones_snoc {w : World} {M : List HP} {K : List KP} {b : Nat} {Z : Zn} {zs : List Nat} {Zs : List Zn} (h : Hold w (zoneH b Z :: zonesH zs Zs :: M) K) (hl : zs.length = Zs.length) : Hold w (zonesH (zs ++ [b]) (Zs ++ [Z]) :: M) K := by
  have h1 := Hold.starL.1 (h.pick (.tail .head))
  have h3 : Hold w (List.zipWith zoneH zs Zs ++ zoneH b Z :: M) K := h1
  refine Hold.starL.2 ?_
  rw [List.zipWith_append hl]
  simpa using h3

def newDev (Z S : Nat) : Dev := ⟨S, List.replicate Z ⟨[], 0⟩, 0, false, 0, false⟩
theorem newDev_ok {Z S : Nat} (hZ : 8 ≤ Z ∧ Z ≤ 64) (hS : 96 ≤ S ∧ S ≤ 192) : (newDev Z S).ok := by
  refine ⟨by simpa [newDev] using hZ, hS, by simp [newDev], by simp [newDev], fun Z' hZ' => ?_⟩
  have := List.eq_of_mem_replicate hZ'
  subst this
  exact ⟨Nat.zero_le _, Nat.zero_le _, fun p hp => by cases hp⟩

/-- picks[k % len(picks)] -/
def pickL (l : List Int) (k : Nat) : Option Int := if l = [] then none else some (rd l ((k % l.length : Nat) : Int))
def Zn.cutAt (Z : Zn) (x : Option Int) : Nat := Z.good + match x with | none => 0 | some v => (v % ((Z.blocks.length - Z.good + 1 : Nat) : Int)).toNat
def Zn.crash (Z : Zn) (x t : Option Int) : List (List Int) :=
  Z.blocks.take (Z.cutAt x) ++ match t with
    | some v => if Z.cutAt x < Z.blocks.length ∧ v % 2 ≠ 0 then [tornL (Z.blocks.getD (Z.cutAt x) [])] else []
    | none => []
def crashZ (Z : Zn) (x t : Option Int) : Zn := ⟨Z.crash x t, (Z.crash x t).length⟩
def Dev.crash (D : Dev) (picks torn : List Int) : Dev := ⟨D.size, D.zones.mapIdx fun k Z => crashZ Z (pickL picks k) (pickL torn k), 0, false, 0, false⟩
theorem cutAt_le {Z : Zn} (h : Z.good ≤ Z.blocks.length) (x : Option Int) : Z.good ≤ Z.cutAt x ∧ Z.cutAt x ≤ Z.blocks.length := by
  unfold Zn.cutAt
  cases x with
  | none => simp; exact h
  | some v =>
    have h1 := Int.emod_nonneg v (b := ((Z.blocks.length - Z.good + 1 : Nat) : Int)) (by omega)
    have h2 := Int.emod_lt_of_pos v (b := ((Z.blocks.length - Z.good + 1 : Nat) : Int)) (by omega)
    simp only; omega
theorem crash_length {Z : Zn} (h : Z.good ≤ Z.blocks.length) (x t : Option Int) : (Z.crash x t).length ≤ Z.blocks.length := by
  have h1 := cutAt_le h x
  unfold Zn.crash
  rw [List.length_append, List.length_take, Nat.min_eq_left h1.2]
  cases t with
  | none => simp; exact h1.2
  | some v => simp only; split
              · rename_i h2; simp; omega
              · simp; exact h1.2
theorem crash_ok {D : Dev} (h : D.ok) (picks torn : List Int) : (D.crash picks torn).ok := by
  refine ⟨by simpa [Dev.crash] using h.zones, h.size, by simp [Dev.crash], by simp [Dev.crash], fun Z hZ => ?_⟩
  obtain ⟨k, hk, rfl⟩ := List.getElem_of_mem hZ
  simp only [Dev.crash] at hk ⊢
  rw [List.getElem_mapIdx]
  have hk' : k < D.zones.length := by simpa [Dev.crash] using hk
  obtain ⟨f1, f2, f3⟩ := h.full D.zones[k] (List.getElem_mem hk')
  refine ⟨Nat.le_trans (crash_length f2 _ _) f1, Nat.le_refl _, fun p hp => ?_⟩
  unfold crashZ Zn.crash at hp
  rcases List.mem_append.1 hp with hp | hp
  · exact f3 p (List.mem_of_mem_take hp)
  · revert hp
    cases pickL torn k with
    | none => intro hp; cases hp
    | some v =>
      simp only
      intro hp
      split at hp
      · rename_i hc
        rw [List.mem_singleton.1 hp, List.getD_eq_getElem?_getD, List.getElem?_eq_getElem hc.1]
        obtain ⟨g1, g2⟩ := f3 _ (List.getElem_mem hc.1)
        exact ⟨torn_length _ g1, torn_b g2⟩
      · cases hp
theorem nums_set (k : IntKind) (xs : List Int) (j : Nat) (x : Int) : (nums k xs).set j (.int k x) = nums k (xs.set j x) := by simp [nums, List.map_set]
theorem crash_at {D : Dev} {picks torn : List Int} {k : Nat} {Z : Zn} (h : D.zones[k]? = some Z) : (D.crash picks torn).zones[k]? = some (crashZ Z (pickL picks k) (pickL torn k)) := by
  simp [Dev.crash, List.getElem?_mapIdx, h]
/-- The zones as far as the loop has come. -/
def crashTo (D : Dev) (picks torn : List Int) (j : Nat) : List Zn := (D.crash picks torn).zones.take j ++ List.replicate (D.zones.length - j) ⟨[], 0⟩
theorem crashTo_zero (D : Dev) (picks torn : List Int) : crashTo D picks torn 0 = (newDev D.zones.length D.size).zones := by simp [crashTo, newDev]
theorem crashTo_length (D : Dev) (picks torn : List Int) (j : Nat) (h : j ≤ D.zones.length) : (crashTo D picks torn j).length = D.zones.length := by simp [crashTo, Dev.crash]; omega
theorem crashTo_at (D : Dev) (picks torn : List Int) (j : Nat) (h : j < D.zones.length) : (crashTo D picks torn j)[j]? = some ⟨[], 0⟩ := by
  have hl : ((D.crash picks torn).zones.take j).length = j := by simp [Dev.crash]; omega
  unfold crashTo; rw [List.getElem?_append_right (by omega), hl, Nat.sub_self, List.getElem?_replicate]; simp; omega
theorem crashTo_succ {D : Dev} {picks torn : List Int} {j : Nat} {Z : Zn} (h : D.zones[j]? = some Z) : (crashTo D picks torn j).set j (crashZ Z (pickL picks j) (pickL torn j)) = crashTo D picks torn (j + 1) := by
  have hlt := (List.getElem?_eq_some_iff.1 h).1
  have hl : ((D.crash picks torn).zones.take j).length = j := by simp [Dev.crash]; omega
  have hlt' : j < (D.crash picks torn).zones.length := by simpa [Dev.crash] using hlt
  have he : (D.crash picks torn).zones[j] = crashZ Z (pickL picks j) (pickL torn j) := by
    have := crash_at (picks := picks) (torn := torn) h
    rw [List.getElem?_eq_getElem hlt'] at this
    exact Option.some.inj this
  unfold crashTo
  rw [List.set_append_right _ _ (by omega), hl, Nat.sub_self, List.take_succ_eq_append_getElem hlt', List.append_assoc, he]
  congr 1
  rw [show D.zones.length - j = (D.zones.length - (j + 1)) + 1 by omega, List.replicate_succ]
  rfl
theorem crashTo_end (D : Dev) (picks torn : List Int) : crashTo D picks torn D.zones.length = (D.crash picks torn).zones := by
  unfold crashTo; rw [List.take_of_length_le (by simp [Dev.crash])]; simp
theorem torn_odd (v : Int) : (v.tmod 2 ≠ 0) ↔ v % 2 ≠ 0 := by
  by_cases h : 0 ≤ v
  · rw [Int.tmod_eq_emod_of_nonneg h]
  · obtain ⟨m, rfl⟩ : ∃ m, v = -m := ⟨-v, by omega⟩
    rw [Int.neg_tmod, Int.tmod_eq_emod_of_nonneg (by omega)]; omega
end Go.Proofs.Ytfpnodboebpemaa
