/- The contracts of package crc: New, Add, Value, Of. -/
import Derived.Test.YtfpnodboebpemaaBits
namespace Go.Proofs.Ytfpnodboebpemaa
open Go.RowKit Go.Proofs.YtfpnodboebpemaaW.PrintWords
set_option linter.unusedVariables false
set_option linter.unusedSimpArgs false

def crcBit (r : Nat) : Nat := (r / 2) ^^^ (if r % 2 = 1 then 2197175160 else 0)
def crcBits : Nat → Nat → Nat
  | 0, r => r
  | n + 1, r => crcBits n (crcBit r)
def crcReg (r : Nat) : List Int → Nat
  | [] => r
  | c :: xs => crcReg (crcBits 8 (r ^^^ c.toNat)) xs
def crcOf (xs : List Int) : Nat := crcReg 4294967295 xs ^^^ 4294967295

theorem crcBits_succ (n r : Nat) : crcBits (n + 1) r = crcBit (crcBits n r) := by
  induction n generalizing r with
  | zero => rfl
  | succ n ih => rw [crcBits, ih]; rfl
theorem crcReg_append (r : Nat) (xs ys : List Int) : crcReg r (xs ++ ys) = crcReg (crcReg r xs) ys := by
  induction xs generalizing r with
  | nil => rfl
  | cons x xs ih => simp [crcReg, ih]
theorem crcBit_lt (r : Nat) (h : r < 4294967296) : crcBit r < 4294967296 := by
  unfold crcBit
  exact Nat.xor_lt_two_pow (n := 32) (by omega) (by split <;> decide)
theorem crcBits_lt (n r : Nat) (h : r < 4294967296) : crcBits n r < 4294967296 := by
  induction n generalizing r with
  | zero => exact h
  | succ n ih => exact ih _ (crcBit_lt r h)
theorem crcReg_lt (r : Nat) (xs : List Int) (h : r < 4294967296) (hb : IsB xs) : crcReg r xs < 4294967296 := by
  induction xs generalizing r with
  | nil => exact h
  | cons x xs ih =>
    have := hb x (by simp)
    exact ih _ (crcBits_lt 8 _ (Nat.xor_lt_two_pow (n := 32) h (by omega))) (fun y hy => hb y (by simp [hy]))

theorem crc_not (t : Nat) (h : t < 4294967296) : bits .xor .u32 IntKind.u32.max (t : Int) = ((t ^^^ 4294967295 : Nat) : Int) := by
  have e : IntKind.u32.max = ((4294967295 : Nat) : Int) := by rfl
  rw [e, u32_xor_nat _ _ (by decide) h, Nat.xor_comm]
theorem crc_xor (r : Nat) (x : Int) (h : r < 4294967296) (h1 : 0 ≤ x) (h2 : x ≤ 255) : bits .xor .u32 (r : Int) x = ((r ^^^ x.toNat : Nat) : Int) := by
  obtain ⟨n, rfl⟩ := Int.eq_ofNat_of_zero_le h1
  rw [u32_xor_nat _ _ h (by omega)]; rfl
theorem crc_step (r : Nat) (h : r < 4294967296) :
    bits .xor .u32 ((r : Int) / 2) (bits .and .u32 2197175160 (-bits .and .u32 (r : Int) 1 % 4294967296)) = ((crcBit r : Nat) : Int) := by
  have e1 : bits .and .u32 (r : Int) 1 = ((r % 2 : Nat) : Int) := by
    have := u32_and_nat r 1 h (by decide)
    rw [show ((1 : Nat) : Int) = 1 from rfl] at this
    rw [this, Nat.and_one_is_mod]
  rw [e1]
  rcases Nat.mod_two_eq_zero_or_one r with h2 | h2
  · rw [h2]
    have e2 : bits .and .u32 2197175160 (-((0 : Nat) : Int) % 4294967296) = ((0 : Nat) : Int) := by decide +kernel
    rw [e2, show ((r : Int) / 2) = ((r / 2 : Nat) : Int) by omega, u32_xor_nat _ _ (by omega) (by decide)]
    simp [crcBit, h2]
  · rw [h2]
    have e2 : bits .and .u32 2197175160 (-((1 : Nat) : Int) % 4294967296) = ((2197175160 : Nat) : Int) := by decide +kernel
    rw [e2, show ((r : Int) / 2) = ((r / 2 : Nat) : Int) by omega, u32_xor_nat _ _ (by omega) (by decide)]
    simp [crcBit, h2]
set_option maxHeartbeats 400000 in
theorem add_any (ok : Nat → Prop) (g t : Nat) (v : Value) (xs : List Int) (w : World) (hg : Blk w g 192 #[.int .u32 t]) (ht : t < 4294967296) (hx : Byt ok w v xs) (hb : IsB xs) :
    Calls Try.prog 131 #[.pointer (some ⟨g, 0, none⟩), v] w fun e w' => e = .returned (.pointer (some ⟨g, 0, none⟩)) ∧ w' = w.setCell ⟨g, 0, none⟩ (.int .u32 ((crcReg (t ^^^ 4294967295) xs ^^^ 4294967295 : Nat) : Int)) := by
  obtain ⟨A, c, rfl, hc, hm, hA⟩ := hx.open_
  have h0 : w.cell? ⟨g, 0, none⟩ = some (.int .u32 t) := hg.cell 0
  have f0 := hg.frozen 0
  unfold maxLen at hm
  go_enter Try.func131, Try.ntmps131
  go_wp2
  go_loop [5, 17] (fun r i => ∃ k : Nat, k ≤ xs.length ∧ i = .int .i64 k ∧ r = .int .u32 (crcReg (t ^^^ 4294967295) (xs.take k) : Nat)) (fun _ i => xs.length - (intOf i).toNat)
  case atStart => exact ⟨0, Nat.zero_le _, rfl, by rw [crc_not t ht]; rfl⟩
  case round =>
    obtain ⟨k, hk, rfl, rfl⟩ := hrel
    by_cases hlt : k < xs.length
    · obtain ⟨b, o, rfl, _, _, hcell⟩ := hA (by omega)
      have hc := hcell k (by omega)
      obtain ⟨r1, r2⟩ := rd_b xs k hlt hb
      go_wp2
      go_loop [5, 25] (fun r i => ∃ j : Nat, j ≤ 8 ∧ i = .int .i64 j ∧ r = .int .u32 (crcBits j (crcReg (t ^^^ 4294967295) (xs.take k) ^^^ (rd xs k).toNat) : Nat)) (fun _ i => 8 - (intOf i).toNat)
      case atStart => exact ⟨0, Nat.zero_le _, rfl, by rw [crc_xor _ _ (crcReg_lt _ _ (Nat.xor_lt_two_pow (n := 32) ht (by decide)) (hb.take k)) r1 r2]; rfl⟩
      case round =>
        obtain ⟨j, hj, rfl, rfl⟩ := hrel
        by_cases hlj : j < 8
        · go_wp2
          go_round
          case rel => exact ⟨j + 1, by omega, by go_num, by rw [crc_step _ (crcBits_lt j _ (Nat.xor_lt_two_pow (n := 32) (crcReg_lt _ _ (Nat.xor_lt_two_pow (n := 32) ht (by decide)) (hb.take k)) (by omega))), crcBits_succ]⟩
          case measure => simp [intOf]; omega
        · have hj8 : j = 8 := by omega
          subst hj8
          go_wp2
          go_round
          case rel => exact ⟨k + 1, by omega, by go_num, by rw [take_rd xs k hlt, crcReg_append]; rfl⟩
          case measure => simp [intOf]; omega
    · go_wp2
      go_ret
      rw [List.take_of_length_le (by omega), crc_not _ (crcReg_lt _ _ (Nat.xor_lt_two_pow (n := 32) ht (by decide)) hb)]
      exact ⟨rfl, rfl⟩

theorem new_sum (w : World) : Calls Try.prog 130 #[] w fun e w' => e = .returned (.pointer (some ⟨w.heap.size, 0, none⟩)) ∧ w' = w.alloc (.cells #[.int .u32 0] 192) := by
  go_enter Try.func130, Try.ntmps130
  go_wp2
  go_ret
  exact ⟨rfl, rfl⟩

theorem value_any (g : Nat) (t : Int) (w : World) (hg : Blk w g 192 #[.int .u32 t]) :
    Calls Try.prog 132 #[.pointer (some ⟨g, 0, none⟩)] w fun e w' => e = .returned (.int .u32 t) ∧ w = w' := by
  have h0 : w.cell? ⟨g, 0, none⟩ = some (.int .u32 t) := hg.cell 0
  go_enter Try.func132, Try.ntmps132
  go_wp2
  go_ret
  exact ⟨rfl, rfl⟩

set_option maxHeartbeats 400000 in
theorem of_any (ok : Nat → Prop) (v : Value) (xs : List Int) (w : World) (hx : Byt ok w v xs) (hb : IsB xs) :
    Calls Try.prog 86 #[v] w fun e w' => e = .returned (.int .u32 (crcOf xs : Nat)) ∧ Below w.heap.size w w' := by
  go_enter Try.func86, Try.ntmps86
  go_wp2_with fail
  refine (new_sum _).mono ?_
  rintro e w1 ⟨rfl, hw⟩
  have hB : Below w.heap.size w w1 := by rw [hw]; exact (Below.refl _ _).alloc (Nat.le_refl _) _
  have hg : Blk w1 w.heap.size 192 #[.int .u32 ((0 : Nat) : Int)] := by rw [hw]; exact Blk.new w 192 _
  have hx1 : Byt ok w1 v xs := hx.below hB
  clear hw
  go_wp2_with fail
  refine (add_any ok w.heap.size 0 v xs w1 hg (by decide) hx1 hb).mono ?_
  rintro e w2 ⟨rfl, hw⟩
  have hB2 : Below w.heap.size w w2 := by rw [hw]; exact hB.setCell (Nat.le_refl _) _
  have hg2 := hg.set 0 (.int .u32 ((crcReg (0 ^^^ 4294967295) xs ^^^ 4294967295 : Nat) : Int))
  rw [← hw] at hg2
  clear hw
  go_wp2_with fail
  refine (value_any w.heap.size _ w2 hg2).mono ?_
  rintro e w3 ⟨rfl, rfl⟩
  go_wp2
  go_ret
  exact ⟨rfl, hB2⟩
end Go.Proofs.Ytfpnodboebpemaa
