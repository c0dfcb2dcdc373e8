/- The contracts of scarpref6: Put, Get, Crc, Encode. -/
import Derived.Test.YtfpnodboebpemaaDecM
namespace Go.Proofs.Ytfpnodboebpemaa
open Go.RowKit Go.Proofs.YtfpnodboebpemaaW.PrintWords
set_option linter.unusedVariables false
set_option linter.unusedSimpArgs false

theorem append_bytes (ok : Nat → Prop) (w : World) (base : Nat) (v u : Value) (xs ys : List Int) (h : BytO w base v xs) (hu : Byt ok w u ys) (hb : base ≤ w.heap.size) (hl : xs.length + ys.length ≤ 1000000) :
    ∃ v' w', (Builtin.append_ #[23, 23] 23 #[v, u]).run Try.prog w = .ok v' w' ∧ BytO w' base v' (xs ++ ys) ∧ Below base w w' := by
  obtain ⟨v', w', hr, hown, hg, hat⟩ := run_append_o (P := Try.prog) w base 23 23 5 (.int .u8 0) 1 1 Try.underlying23 info5 rfl (by decide) v xs.length (nums .u8 xs) h u ys.length (nums .u8 ys) hu (nums_one _ _) (by simp only [maxLen]; omega) (by omega) hb
  refine ⟨v', w', hr, ?_, below_app (Below.refl _ _) hb h hg⟩
  unfold BytO
  rw [List.length_append, nums_append]
  exact hown
theorem Byt.one (w : World) (x : Int) : Byt (fun _ => True) (w.alloc (.cells #[.int .u8 x] 5)) (.slice (some ⟨w.heap.size, 0, none⟩) 1 1) [x] :=
  ⟨_, 1, rfl, rfl, by simp, by decide, fun _ => ⟨_, 0, rfl, trivial, by simp, fun i u hu => by
    have h := Blk.new w 5 #[.int .u8 x]
    rw [h.cell, ← hu]
    cases i <;> simp [nums]⟩⟩
theorem append_one (w : World) (base : Nat) (v : Value) (xs : List Int) (x : Int) (h : BytO w base v xs) (hb : base ≤ w.heap.size) (hl : xs.length ≤ 900000) :
    ∃ v' w', (Builtin.append_ #[23, 23] 23 #[v, .slice (some ⟨w.heap.size, 0, none⟩) 1 1]).run Try.prog (w.alloc (.cells #[.int .u8 x] 5)) = .ok v' w' ∧ BytO w' base v' (xs ++ [x]) ∧ Below base w w' := by
  have hB : Below w.heap.size w (w.alloc (.cells #[.int .u8 x] 5)) := (Below.refl _ _).alloc (Nat.le_refl _) _
  obtain ⟨v', w', hr, ho, hb'⟩ := append_bytes _ (w.alloc (.cells #[.int .u8 x] 5)) base v _ xs [x] (h.below' hB) (Byt.one w x) (by simp; omega) (by simp; omega)
  exact ⟨v', w', hr, ho, (hB.mono hb).trans hb'⟩

theorem le_take_step (v n k : Nat) (h : k < n) : (le v n).take (k + 1) = (le v n).take k ++ [(v : Int) / 2 ^ (8 * k) % 256] := by
  rw [List.take_add_one, le_get v n k h]
  have : (2 : Int) ^ (8 * k) = ((256 ^ k : Nat) : Int) := by
    rw [show (256 : Nat) = 2 ^ 8 by decide, ← Nat.pow_mul]; simp
  rw [this]
  simp

set_option maxRecDepth 100000 in
set_option maxHeartbeats 1000000 in
theorem put6_any (v n : Nat) (w : World) (hv : v < 18446744073709551616) (hn : n ≤ 8) :
    Calls Try.prog 97 #[.int .u64 v, .int .i64 n] w fun e w' => ∃ r, e = .returned r ∧ BytO w' w.heap.size r (le v n) ∧ Below w.heap.size w w' := by
  go_enter Try.func97, Try.ntmps97
  go_wp2
  go_loopw [5, 6] (fun r i wr => ∃ k : Nat, k ≤ n ∧ i = .int .i64 k ∧ BytO wr w.heap.size r ((le v n).take k) ∧ Below w.heap.size w wr) (fun _ i _ => n - (intOf i).toNat)
  case atStart => exact ⟨0, Nat.zero_le _, rfl, World.ownsRow_nil _ _ _ _, Below.refl _ _⟩
  case round =>
    obtain ⟨k, hk, rfl, ho, hbe⟩ := hrel
    have hlk : ((le v n).take k).length = k := by simp [le_length]; omega
    by_cases hlt : k < n
    · have hs := hbe.size
      obtain ⟨v1, w1, hr1, ho1, hb1⟩ := append_one _ _ _ _ ((v : Int) / 2 ^ (8 * k) % 256) ho hs (by omega)
      obtain ⟨A, c, rfl⟩ := ho.shape
      obtain ⟨A1, c1, rfl⟩ := ho1.shape
      rw [← le_take_step v n k hlt] at ho1
      have H1 := Lib.hid hr1
      have HO := Lib.hid ho1
      clear hr1 ho ho1
      rw [hlk] at H1 ⊢
      go_wp2_with (at_builtin; refine Lib.wpList_append_run _ rfl _ _ _ _ rfl _ _ rfl rfl _ _ H1.out ?_)
      go_roundw
      case rel => exact ⟨k + 1, by omega, by go_num, by have h := HO.out; rw [show ((le v n).take (k + 1)).length = k + 1 by simp [le_length]; omega] at h; exact h, hbe.trans hb1⟩
      case measure => simp [intOf]; omega
    · obtain ⟨A, c, rfl⟩ := ho.shape
      have hkn : k = n := by omega
      subst hkn
      rw [List.take_of_length_le (by rw [le_length]; omega)] at ho
      go_wp2
      go_ret
      exact ⟨_, rfl, by simpa [le_length, hlk] using ho, hbe⟩

set_option maxRecDepth 100000 in
set_option maxHeartbeats 1000000 in
theorem crc6_any (ok : Nat → Prop) (v : Value) (xs : List Int) (w : World) (hx : Byt ok w v xs) (hb : IsB xs) :
    Calls Try.prog 98 #[v] w fun e w' => e = .returned (.int .u32 (crcOf xs : Nat)) ∧ w = w' := by
  obtain ⟨A, c, rfl, hc, hm, hA⟩ := hx.open_
  unfold maxLen at hm
  go_enter Try.func98, Try.ntmps98
  go_wp2
  go_loop [3, 4] (fun r i => ∃ k : Nat, k ≤ xs.length ∧ i = .int .i64 k ∧ r = .int .u32 (crcReg 4294967295 (xs.take k) : Nat)) (fun _ i => xs.length - (intOf i).toNat)
  case atStart => exact ⟨0, Nat.zero_le _, rfl, rfl⟩
  case round =>
    obtain ⟨k, hk, rfl, rfl⟩ := hrel
    by_cases hlt : k < xs.length
    · obtain ⟨b, o, rfl, _, _, hcell⟩ := hA (by omega)
      have hc := hcell k (by omega)
      obtain ⟨r1, r2⟩ := rd_b xs k hlt hb
      go_wp2
      go_loop [3, 5] (fun r i => ∃ j : Nat, j ≤ 8 ∧ i = .int .i64 j ∧ r = .int .u32 (crcBits j (crcReg 4294967295 (xs.take k) ^^^ (rd xs k).toNat) : Nat)) (fun _ i => 8 - (intOf i).toNat)
      case atStart => exact ⟨0, Nat.zero_le _, rfl, by rw [crc_xor _ _ (crcReg_lt _ _ (by decide) (hb.take k)) r1 r2]; rfl⟩
      case round =>
        obtain ⟨j, hj, rfl, rfl⟩ := hrel
        have hR := crcBits_lt j _ (Nat.xor_lt_two_pow (n := 32) (crcReg_lt 4294967295 (xs.take k) (by decide) (hb.take k)) (show (rd xs k).toNat < 2 ^ 32 by omega))
        have hS := crcBits_succ j (crcReg 4294967295 (xs.take k) ^^^ (rd xs k).toNat)
        have HT := Lib.hid (show crcReg 4294967295 (xs.take (k + 1)) = crcBits 8 (crcReg 4294967295 (xs.take k) ^^^ (rd xs k).toNat) by rw [take_rd xs k hlt, crcReg_append]; rfl)
        by_cases hlj : j < 8
        · generalize crcBits j (crcReg 4294967295 (xs.take k) ^^^ (rd xs k).toNat) = R at *
          have HS := Lib.hid hS
          clear hS
          have e1 : bits .and .u32 (R : Int) 1 = ((R % 2 : Nat) : Int) := by
            have := u32_and_nat R 1 hR (by decide)
            rw [show ((1 : Nat) : Int) = 1 from rfl] at this
            rw [this, Nat.and_one_is_mod]
          rcases Nat.mod_two_eq_zero_or_one R with h2 | h2
          · rw [h2] at e1
            have HN := Lib.hid (show crcBit R = R / 2 by simp [crcBit, h2])
            go_wp2
            go_round
            case rel => exact ⟨j + 1, by omega, by go_num, by rw [HS.out, HN.out]; rfl⟩
            case measure => simp [intOf]; omega
          · rw [h2] at e1
            have HN := Lib.hid (show bits .xor .u32 ((R : Int) / 2) 2197175160 = ((crcBit R : Nat) : Int) by
              rw [show ((R : Int) / 2) = ((R / 2 : Nat) : Int) by omega, show (2197175160 : Int) = ((2197175160 : Nat) : Int) from rfl, u32_xor_nat _ _ (by omega) (by decide)]
              simp [crcBit, h2])
            go_wp2
            go_round
            case rel => exact ⟨j + 1, by omega, by go_num, by rw [HS.out, ← HN.out]⟩
            case measure => simp [intOf]; omega
        · have hj8 : j = 8 := by omega
          subst hj8
          go_wp2
          go_round
          case rel => exact ⟨k + 1, by omega, by go_num, by rw [HT.out]⟩
          case measure => simp [intOf]; omega
    · go_wp2
      go_ret
      rw [List.take_of_length_le (by omega)]
      exact ⟨ret_of (by rw [crc_not _ (crcReg_lt _ _ (by decide) hb)]; rfl), rfl⟩

theorem ge_down (xs : List Int) (n k : Nat) (hk : k < n) (hn : n ≤ xs.length) (h8 : n ≤ 8) (hb : IsB xs) :
    bits .or .u64 (IntKind.u64.wrap (ge ((xs.take n).drop (k + 1)) * 256)) (rd xs k) = ge ((xs.take n).drop k) := by
  have hlt : k < (xs.take n).length := by simp; omega
  have e1 : (xs.take n).drop k = rd xs k :: (xs.take n).drop (k + 1) := by
    rw [List.drop_eq_getElem_cons hlt]
    congr 1
    simp [rd, show k < xs.length by omega]
  obtain ⟨r1, r2⟩ := rd_b xs k (by omega) hb
  obtain ⟨g1, g2⟩ := ge_bound ((xs.take n).drop (k + 1)) ((hb.take n).drop (k + 1))
  have hl : ((xs.take n).drop (k + 1)).length ≤ 7 := by simp; omega
  have g3 : ge ((xs.take n).drop (k + 1)) < 72057594037927936 := by
    have h1 : (256 : Nat) ^ ((xs.take n).drop (k + 1)).length ≤ 72057594037927936 := Nat.le_trans (Nat.pow_le_pow_right (by decide) hl) (by decide)
    have h2 : (256 : Int) ^ ((xs.take n).drop (k + 1)).length = ((256 ^ ((xs.take n).drop (k + 1)).length : Nat) : Int) := by rw [Int.natCast_pow]; rfl
    omega
  rw [e1]
  simp only [ge]
  generalize ge ((xs.take n).drop (k + 1)) = G at *
  generalize rd xs k = r at *
  obtain ⟨a, rfl⟩ := Int.eq_ofNat_of_zero_le g1
  obtain ⟨b, rfl⟩ := Int.eq_ofNat_of_zero_le r1
  have g4 : a < 72057594037927936 := by omega
  have hw : IntKind.u64.wrap ((a : Int) * 256) = ((2 ^ 8 * a : Nat) : Int) := by
    simp only [IntKind.wrap, IntKind.bits, IntKind.signed, Bool.false_and, Bool.false_eq_true, if_false]
    omega
  rw [hw, u64_or_nat _ _ (by omega) (by omega), ← Nat.two_pow_add_eq_or_of_lt (show b < 2 ^ 8 by omega)]
  omega

set_option maxRecDepth 100000 in
set_option maxHeartbeats 1000000 in
theorem get6_any (ok : Nat → Prop) (v : Value) (xs : List Int) (n : Nat) (w : World) (hx : Byt ok w v xs) (hb : IsB xs) (hn : n ≤ 8) (hl : n ≤ xs.length) (h0 : 0 < n) :
    Calls Try.prog 102 #[v, .int .i64 n] w fun e w' => e = .returned (.tuple #[.int .u64 (ge (xs.take n)), .bool true]) ∧ w = w' := by
  obtain ⟨A, c, rfl, hc, hm, hA⟩ := hx.open_
  obtain ⟨b, o, rfl, _, _, hcell⟩ := hA (by omega)
  have hlt : ¬ xs.length < n := by omega
  unfold maxLen at hm
  go_enter Try.func102, Try.ntmps102
  go_wp2
  go_loop [6, 7] (fun u i => ∃ k : Nat, k ≤ n ∧ i = .int .i64 ((k : Int) - 1) ∧ u = .int .u64 (ge ((xs.take n).drop k))) (fun _ i => (intOf i + 1).toNat)
  case atStart => exact ⟨n, Nat.le_refl _, rfl, by rw [List.drop_of_length_le (by simp; omega)]; rfl⟩
  case round =>
    obtain ⟨k, hk, rfl, rfl⟩ := hrel
    by_cases hk0 : 0 < k
    · obtain ⟨j, rfl⟩ : ∃ j, k = j + 1 := ⟨k - 1, by omega⟩
      have ej : ((j + 1 : Nat) : Int) - 1 = (j : Int) := by omega
      have hc := hcell j (by omega)
      obtain ⟨hr1, hr2⟩ := rd_b xs j (by omega) hb
      have HG := Lib.hid (ge_down xs n j (by omega) hl hn hb)
      have hj0 : (0 : Int) ≤ (j : Int) := by omega
      rw [ej]
      go_wp2
      go_round
      case rel => exact ⟨j, by omega, by go_num, by rw [← HG.out]⟩
      case measure => simp [intOf]
    · obtain rfl : k = 0 := by omega
      go_wp2
      go_ret2
      exact ⟨rfl, rfl⟩
end Go.Proofs.Ytfpnodboebpemaa
