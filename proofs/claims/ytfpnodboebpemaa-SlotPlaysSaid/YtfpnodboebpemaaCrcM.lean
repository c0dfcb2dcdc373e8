/- The laws of the check sum: one byte turned, or the latter half torn, and a block's sum is not its own. -/
import Derived.Test.YtfpnodboebpemaaLaw8
import Derived.Test.YtfpnodboebpemaaFrmM
namespace Go.Proofs.Ytfpnodboebpemaa
open Go.RowKit Go.Proofs.YtfpnodboebpemaaW.PrintWords
set_option linter.unusedVariables false
set_option linter.unusedSimpArgs false

theorem xor_half (a b : Nat) : (a ^^^ b) / 2 = a / 2 ^^^ b / 2 := by
  apply Nat.eq_of_testBit_eq; intro i
  simp [Nat.testBit_div_two, Nat.testBit_xor]
theorem xor_mod2 (a b : Nat) : (a ^^^ b) % 2 = (a % 2 + b % 2) % 2 := by
  have h : ((a ^^^ b).testBit 0) = (a.testBit 0 ^^ b.testBit 0) := Nat.testBit_xor ..
  simp only [Nat.testBit_zero] at h
  rcases Nat.mod_two_eq_zero_or_one a with ha | ha <;> rcases Nat.mod_two_eq_zero_or_one b with hb | hb <;> rcases Nat.mod_two_eq_zero_or_one (a ^^^ b) with hc | hc <;> simp_all
theorem crcBit_xor (a b : Nat) : crcBit (a ^^^ b) = crcBit a ^^^ crcBit b := by
  unfold crcBit
  rw [xor_half, xor_mod2]
  rcases Nat.mod_two_eq_zero_or_one a with ha | ha <;> rcases Nat.mod_two_eq_zero_or_one b with hb | hb <;> simp only [ha, hb] <;> apply Nat.eq_of_testBit_eq <;> intro i <;> simp [Nat.testBit_xor] <;> cases (a/2).testBit i <;> cases (b/2).testBit i <;> cases Nat.testBit 2197175160 i <;> rfl
theorem crcBits_xor (n a b : Nat) : crcBits n (a ^^^ b) = crcBits n a ^^^ crcBits n b := by
  induction n generalizing a b with
  | zero => rfl
  | succ n ih => rw [crcBits_succ, crcBits_succ, crcBits_succ, ih, crcBit_xor]
theorem crcBit_zero {r : Nat} (h : r < 4294967296) (h0 : crcBit r = 0) : r = 0 := by
  unfold crcBit at h0
  rcases Nat.mod_two_eq_zero_or_one r with hr | hr
  · rw [hr] at h0; simp at h0; omega
  · rw [hr] at h0
    simp only [if_true] at h0
    have ht : (r / 2 ^^^ 2197175160).testBit 31 = false := by rw [h0]; simp
    rw [Nat.testBit_xor, Nat.testBit_lt_two_pow (show r / 2 < 2 ^ 31 by omega)] at ht
    rw [show Nat.testBit 2197175160 31 = true from by decide] at ht
    cases ht
theorem crcBits_zero (n : Nat) {r : Nat} (h : r < 4294967296) (h0 : crcBits n r = 0) : r = 0 := by
  induction n with
  | zero => exact h0
  | succ n ih =>
    rw [crcBits_succ] at h0
    exact ih (crcBit_zero (crcBits_lt n r h) h0)

/-- xor, byte by byte. -/
def xorL (xs ys : List Int) : List Int := List.zipWith (fun a b => ((a.toNat ^^^ b.toNat : Nat) : Int)) xs ys

theorem crcReg_xor (a b : Nat) (xs ys : List Int) (h : xs.length = ys.length) : crcReg (a ^^^ b) (xorL xs ys) = crcReg a xs ^^^ crcReg b ys := by
  induction xs generalizing a b ys with
  | nil => cases ys with
    | nil => rfl
    | cons y ys => simp at h
  | cons x xs ih => cases ys with
    | nil => simp at h
    | cons y ys =>
      simp only [xorL, List.zipWith_cons_cons, crcReg, Int.toNat_natCast]
      have e : (a ^^^ b) ^^^ (x.toNat ^^^ y.toNat) = (a ^^^ x.toNat) ^^^ (b ^^^ y.toNat) := by
        apply Nat.eq_of_testBit_eq; intro i; simp only [Nat.testBit_xor]
        cases a.testBit i <;> cases b.testBit i <;> cases x.toNat.testBit i <;> cases y.toNat.testBit i <;> rfl
      rw [e, crcBits_xor]
      exact ih _ _ ys (by simpa using h)

theorem xor_right {a b c : Nat} (h : a ^^^ c = b ^^^ c) : a = b := by
  have := congrArg (· ^^^ c) h
  simpa [Nat.xor_assoc] using this
theorem crcBits_inj (n : Nat) {a b : Nat} (ha : a < 4294967296) (hb : b < 4294967296) (h : crcBits n a = crcBits n b) : a = b := by
  have h0 : crcBits n (a ^^^ b) = 0 := by rw [crcBits_xor, h, Nat.xor_self]
  have := crcBits_zero n (Nat.xor_lt_two_pow (n := 32) ha hb) h0
  exact xor_right (c := b) (by rw [this, Nat.xor_self])
theorem crcReg_inj (zs : List Int) {a b : Nat} (ha : a < 4294967296) (hb : b < 4294967296) (hz : IsB zs) (h : crcReg a zs = crcReg b zs) : a = b := by
  induction zs generalizing a b with
  | nil => exact h
  | cons z zs ih =>
    have hz0 := hz z (by simp)
    have la : a ^^^ z.toNat < 4294967296 := Nat.xor_lt_two_pow (n := 32) ha (by omega)
    have lb : b ^^^ z.toNat < 4294967296 := Nat.xor_lt_two_pow (n := 32) hb (by omega)
    exact xor_right (crcBits_inj 8 la lb (ih (crcBits_lt 8 _ la) (crcBits_lt 8 _ lb) (fun y hy => hz y (by simp [hy])) h))
theorem crcReg_one (xs zs : List Int) {a : Nat} {x y : Int} (ha : a < 4294967296) (hx : IsB xs) (hz : IsB zs) (x0 : 0 ≤ x ∧ x ≤ 255) (y0 : 0 ≤ y ∧ y ≤ 255) (h : crcReg a (xs ++ x :: zs) = crcReg a (xs ++ y :: zs)) : x = y := by
  rw [crcReg_append, crcReg_append] at h
  have hr := crcReg_lt a xs ha hx
  generalize crcReg a xs = r at *
  simp only [crcReg] at h
  have lx : r ^^^ x.toNat < 4294967296 := Nat.xor_lt_two_pow (n := 32) hr (by omega)
  have ly : r ^^^ y.toNat < 4294967296 := Nat.xor_lt_two_pow (n := 32) hr (by omega)
  have h1 := crcBits_inj 8 lx ly (crcReg_inj zs (crcBits_lt 8 _ lx) (crcBits_lt 8 _ ly) hz h)
  rw [Nat.xor_comm r, Nat.xor_comm r] at h1
  have := xor_right h1
  omega
theorem crcOf_lt (xs : List Int) (h : IsB xs) : crcOf xs < 4294967296 := Nat.xor_lt_two_pow (n := 32) (crcReg_lt _ _ (by decide) h) (by decide)

/-- 64 bytes that end in their sum. -/
def Summed (p : List Int) : Prop := p.length = 64 ∧ IsB p ∧ p.drop 60 = le (crcOf (p.take 60)) 4
theorem le_inj {a b n : Nat} (ha : a < 256 ^ n) (hb : b < 256 ^ n) (h : le a n = le b n) : a = b := by
  have h1 := ge_le a n ha
  rw [h, ge_le b n hb] at h1
  omega

theorem summed_set {p : List Int} (h : Summed p) (j : Nat) (hj : j < 64) (y : Int) (hq : Summed (p.set j y)) : y = rd p j := by
  obtain ⟨hl, hb, hs⟩ := h
  obtain ⟨hl', hb', hs'⟩ := hq
  have hy : 0 ≤ y ∧ y ≤ 255 := hb' y (List.mem_iff_getElem?.2 ⟨j, by simp [hl, hj]⟩)
  have hpj : rd p j = p[j]'(by omega) := by simp [rd, hl, hj]
  by_cases h60 : j < 60
  · rw [List.drop_set_of_lt (by omega), hs] at hs'
    have e := le_inj (n := 4) (crcOf_lt _ (hb.take 60)) (crcOf_lt _ (hb'.take 60)) hs'
    unfold crcOf at e
    have e := xor_right e
    have hP : (p.take 60).length = 60 := by simp; omega
    have e1 : p.take 60 = (p.take 60).take j ++ rd p j :: (p.take 60).drop (j + 1) := by
      have h1 := List.set_getElem_self (show j < (p.take 60).length by omega)
      rw [List.set_eq_take_append_cons_drop, if_pos (by omega)] at h1
      rw [hpj]
      rw [List.getElem_take] at h1
      exact h1.symm
    rw [List.take_set, List.set_eq_take_append_cons_drop, if_pos (by omega)] at e
    rw [e1] at e
    have t1 : ((p.take 60).take j ++ rd p j :: (p.take 60).drop (j + 1)).take j = (p.take 60).take j := by rw [← e1]
    have t2 : ((p.take 60).take j ++ rd p j :: (p.take 60).drop (j + 1)).drop (j + 1) = (p.take 60).drop (j + 1) := by rw [← e1]
    rw [t1, t2] at e
    exact (crcReg_one _ _ (by decide) ((hb.take 60).take j) ((hb.take 60).drop (j + 1)) (by rw [hpj]; exact hb _ (List.getElem_mem _)) hy e).symm
  · have ht : (p.set j y).take 60 = p.take 60 := by rw [List.take_set, List.set_eq_of_length_le (by simp; omega)]
    rw [ht, ← hs] at hs'
    have h1 := congrArg (fun l => l[j - 60]?) hs'
    simp only [List.getElem?_drop, show 60 + (j - 60) = j by omega] at h1
    rw [hpj]
    simpa [hl, hj] using h1

def tornL (p : List Int) : List Int := p.take 32 ++ (p.drop 32).map (fun x => ((x.toNat ^^^ 85 : Nat) : Int))
theorem map_xorL (xs : List Int) : xs.map (fun x => ((x.toNat ^^^ 85 : Nat) : Int)) = xorL xs (List.replicate xs.length 85) := by
  induction xs with
  | nil => rfl
  | cons x xs ih => simp only [List.map_cons, List.length_cons, List.replicate_succ, xorL, List.zipWith_cons_cons]; rw [ih]; rfl
theorem torn_sum : crcReg 0 (List.replicate 28 85) ≠ 1431655765 := by decide +kernel
theorem xor_byte (c i : Nat) : (c ^^^ 1431655765) / 256 ^ i % 256 = (c / 256 ^ i % 256) ^^^ (1431655765 / 256 ^ i % 256) := by
  rw [show (256 : Nat) ^ i = 2 ^ (8 * i) by rw [Nat.pow_mul]]
  apply Nat.eq_of_testBit_eq; intro j
  rw [show (256 : Nat) = 2 ^ 8 by decide]
  simp only [Nat.testBit_mod_two_pow, Nat.testBit_div_two_pow, Nat.testBit_xor]
  cases decide (j < 8) <;> simp
theorem summed_torn {p : List Int} (h : Summed p) (hq : Summed (tornL p)) : False := by
  obtain ⟨hl, hb, hs⟩ := h
  obtain ⟨hl', hb', hs'⟩ := hq
  have hA : (tornL p).take 60 = p.take 32 ++ ((p.drop 32).take 28).map (fun x => ((x.toNat ^^^ 85 : Nat) : Int)) := by
    unfold tornL
    rw [List.take_append]
    simp [hl, List.map_take, List.take_take]
  have hD : (tornL p).drop 60 = (p.drop 60).map (fun x => ((x.toNat ^^^ 85 : Nat) : Int)) := by
    unfold tornL
    rw [List.drop_append]
    simp [hl, List.map_drop]
  have h28 : ((p.drop 32).take 28).length = 28 := by simp; omega
  have hP : p.take 60 = p.take 32 ++ (p.drop 32).take 28 := by rw [← List.take_add]
  have hsum : crcOf ((tornL p).take 60) = crcOf (p.take 60) ^^^ crcReg 0 (List.replicate 28 85) := by
    unfold crcOf
    rw [hA, hP, crcReg_append, crcReg_append, map_xorL, h28]
    have := crcReg_xor (crcReg 4294967295 (p.take 32)) 0 ((p.drop 32).take 28) (List.replicate 28 85) (by rw [h28]; simp)
    rw [Nat.xor_zero] at this
    rw [this, Nat.xor_assoc, Nat.xor_comm _ 4294967295, ← Nat.xor_assoc]
  have hle : (le (crcOf (p.take 60)) 4).map (fun x => ((x.toNat ^^^ 85 : Nat) : Int)) = le (crcOf (p.take 60) ^^^ 1431655765) 4 := by
    apply List.ext_getElem?
    intro i
    by_cases hi : i < 4
    · rw [List.getElem?_map, le_get _ _ _ hi, le_get _ _ _ hi, xor_byte]
      simp only [Option.map_some, Int.toNat_natCast]
      congr 3
      revert hi; revert i; decide
    · rw [List.getElem?_eq_none (by simp [le_length]; omega), List.getElem?_eq_none (by simp [le_length]; omega)]
  rw [hD, hs, hle, hsum] at hs'
  have hz : crcReg 0 (List.replicate 28 85) < 4294967296 := crcReg_lt _ _ (by decide) (fun x hx => by rw [(List.mem_replicate.1 hx).2]; omega)
  have hc := crcOf_lt _ (hb.take 60)
  have e := le_inj (n := 4) (Nat.xor_lt_two_pow (n := 32) hc (by decide)) (Nat.xor_lt_two_pow (n := 32) hc hz) hs'
  rw [Nat.xor_comm _ 1431655765, Nat.xor_comm (crcOf _)] at e
  exact torn_sum (xor_right e).symm

theorem enc_summed (b : Fb) (h : b.body.length ≤ 40) (hb : IsB b.enc) : Summed b.enc := by
  refine ⟨enc_length b h, hb, ?_⟩
  have hc := core_length b h
  unfold Fb.enc
  rw [List.drop_left' hc, List.take_left' hc]
end Go.Proofs.Ytfpnodboebpemaa
