/- The contracts of package scarpalike that the laws use: Round, Block, Data, Bytes. -/
import Derived.Test.YtfpnodboebpemaaSl
namespace Go.Proofs.Ytfpnodboebpemaa
open Go.RowKit Go.Proofs.YtfpnodboebpemaaW.PrintWords
set_option linter.unusedVariables false
set_option linter.unusedSimpArgs false

theorem tmod_neg {k n : Int} (h : 0 < n) (h1 : k.tmod n < 0) : k.tmod n + n = k % n := by
  rw [Int.tmod_eq_emod] at *
  split at h1
  · have := Int.emod_nonneg k (show n ≠ 0 by omega); omega
  · rename_i h2
    split
    · omega
    · have : (n.natAbs : Int) = n := by omega
      omega
theorem tmod_pos {k n : Int} (h : 0 < n) (h1 : ¬ k.tmod n < 0) : k.tmod n = k % n := by
  rw [Int.tmod_eq_emod] at *
  split at h1
  · simp_all
  · rename_i h2
    have h3 : (n.natAbs : Int) = n := by omega
    have := Int.emod_lt_of_pos k h
    have h4 : ¬ (n ∣ k) := fun hd => h2 (.inr hd)
    have := Int.emod_nonneg k (show n ≠ 0 by omega)
    omega

set_option maxRecDepth 100000 in
set_option maxHeartbeats 1000000 in
theorem round_any (k n : Int) (w : World) (h : 0 < n) (hn : n ≤ 1099511627776) : Calls Try.prog 37 #[.int .i64 k, .int .i64 n] w fun e w' => e = .returned (.int .i64 (k % n)) ∧ w = w' := by
  have h0 : n ≠ 0 := by omega
  have b1 := Int.tmod_lt_of_pos k h
  have b2 := Int.lt_tmod_of_pos k h
  have t1 := tmod_neg (k := k) h
  have t2 := tmod_pos (k := k) h
  have T1 := Lib.hid t1
  have T2 := Lib.hid t2
  clear t1 t2
  by_cases h1 : k.tmod n < 0
  · have T3 := Lib.hid (T1.out h1)
    clear T1 T2
    go_enter Try.func37, Try.ntmps37
    go_wp2
    go_ret
    exact ⟨ret_of (by rw [← T3.out]; rfl), rfl⟩
  · have T3 := Lib.hid (T2.out h1)
    clear T1 T2
    go_enter Try.func37, Try.ntmps37
    go_wp2
    go_ret
    exact ⟨ret_of (by rw [← T3.out]; rfl), rfl⟩

/-- The bytes that hang on a number. -/
def bk1 (j k : Int) : Int := wrap64 (wrap64 (j * j + wrap64 (k * 7)) + 1) % 251
def bk (n : Nat) (k : Int) : List Int := (List.range n).map fun (j : Nat) => bk1 (j : Int) k
theorem bk1_b (j k : Int) : 0 ≤ bk1 j k ∧ bk1 j k ≤ 250 := by unfold bk1; omega
theorem bk_length (n : Nat) (k : Int) : (bk n k).length = n := by simp [bk]
theorem bk_b (n : Nat) (k : Int) : IsB (bk n k) := by
  intro x hx
  obtain ⟨j, _, rfl⟩ := List.mem_map.1 hx
  have := bk1_b j k
  omega
theorem bk_step (n : Nat) (k : Int) (j : Nat) (h : j < n) : ((bk n k).take j ++ List.replicate (n - j) (0 : Int)).set j (bk1 j k) = (bk n k).take (j + 1) ++ List.replicate (n - (j + 1)) 0 := by
  have hl := bk_length n k
  apply List.ext_getElem?
  intro i
  rcases Nat.lt_trichotomy i j with h1 | h1 | h1
  · rw [List.getElem?_set_ne (by omega), List.getElem?_append_left (by simp; omega), List.getElem?_append_left (by simp; omega)]
    simp [List.getElem?_take, h1, show i < j + 1 by omega]
  · subst h1
    rw [List.getElem?_set_self (by simp; omega), List.getElem?_append_left (by simp; omega)]
    simp [bk, List.getElem?_take, h]
  · rw [List.getElem?_set_ne (by omega), List.getElem?_append_right (by simp; omega), List.getElem?_append_right (by simp; omega)]
    simp only [List.getElem?_replicate, List.length_take, hl]
    by_cases h2 : i < n
    · rw [if_pos (by omega), if_pos (by omega)]
    · rw [if_neg (by omega), if_neg (by omega)]

set_option maxRecDepth 100000 in
set_option maxHeartbeats 1000000 in
theorem block_any (n : Nat) (k : Int) (w : World) (hn : n ≤ 100000) :
    Calls Try.prog 29 #[.int .i64 n, .int .i64 k] w fun e w' => ∃ r, e = .returned r ∧ BytO w' w.heap.size r (bk n k) ∧ Below w.heap.size w w' := by
  have hmk := print_make (P := Try.prog) 23 5 .u8 1 Try.underlying23 info5 (by decide) n (by omega)
  go_enter Try.func29, Try.ntmps29
  go_wp2
  go_loopw [6] (fun i wr => ∃ j : Nat, j ≤ n ∧ i = .int .i64 j ∧ BA wr w.heap.size ((bk n k).take j ++ List.replicate (n - j) 0) ∧ Below w.heap.size w wr) (fun i _ => n - (intOf i).toNat)
  case atStart => exact ⟨0, Nat.zero_le _, rfl, by simpa using BA.make w n, (Below.refl _ _).alloc (Nat.le_refl _) _⟩
  case round =>
    obtain ⟨j, hj, rfl, hba, hb⟩ := hrel
    have hjj : (j : Int) * (j : Int) ≤ 10000000000 := by
      have : j * j ≤ 100000 * 100000 := Nat.mul_le_mul (by omega) (by omega)
      have h2 : ((j * j : Nat) : Int) ≤ ((100000 * 100000 : Nat) : Int) := by omega
      simpa using h2
    have hjn : 0 ≤ (j : Int) * (j : Int) := Int.mul_nonneg (by omega) (by omega)
    by_cases hlt : j < n
    · have hl : ((bk n k).take j ++ List.replicate (n - j) (0 : Int)).length = n := by simp [bk_length]; omega
      have hc := hba.cell j (by omega)
      have hf := hba.frozen j
      go_wp2_with fail
      refine (round_any _ 251 _ (by omega) (by omega)).mono ?_
      rintro e w1 ⟨rfl, rfl⟩
      have hd : wrap64 (wrap64 ((j : Int) * j + wrap64 (k * 7)) + 1) % 251 = bk1 j k := rfl
      have hd1 := bk1_b j k
      rw [hd]
      obtain ⟨hd2, hd3⟩ := hd1
      clear hd
      go_wp2
      go_roundw
      case rel =>
        refine ⟨j + 1, by omega, by go_num, ?_, hb.setCell (Nat.le_refl _) _⟩
        rw [← bk_step n k j hlt]
        exact hba.set j _
      case measure => simp [intOf]; omega
    · go_wp2
      go_ret
      have hkn : j = n := by omega
      subst hkn
      have hl := bk_length j k
      simp only [Nat.sub_self, List.replicate_zero, List.append_nil] at hba
      rw [List.take_of_length_le (by omega)] at hba
      have hq := hba.o (base := w.heap.size) (Nat.le_refl _) (by simp only [hl, maxLen]; omega)
      rw [hl] at hq
      exact ⟨_, rfl, hq, hb⟩

theorem data_any (k : Int) (w : World) : Calls Try.prog 44 #[.int .i64 k] w fun e w' => ∃ r, e = .returned r ∧ BytO w' w.heap.size r (bk 40 k) ∧ Below w.heap.size w w' := by
  go_enter Try.func44, Try.ntmps44
  go_wp2_with fail
  refine (block_any 40 k _ (by omega)).mono ?_
  rintro e w1 ⟨r, rfl, ho, hb⟩
  go_wp2
  go_ret
  exact ⟨_, rfl, ho, hb⟩

set_option maxRecDepth 100000 in
set_option maxHeartbeats 1000000 in
theorem bytes_any (ok ok' : Nat → Prop) (v v' : Value) (xs ys : List Int) (w : World) (hx : Byt ok w v xs) (hy : Byt ok' w v' ys) :
    Calls Try.prog 31 #[v, v'] w fun e w' => e = .returned (.bool (decide (xs = ys))) ∧ ∃ n, w' = w.drewN n := by
  obtain ⟨A, c, rfl, hc, hm, hA⟩ := hx.open_
  obtain ⟨A', c', rfl, hc', hm', hA'⟩ := hy.open_
  have hlm : xs.length ≤ maxLen := Nat.le_trans hc hm
  clear hm hm' hc hc'
  unfold maxLen at hlm
  by_cases hl : xs.length = ys.length
  · have hb : ((xs.length : Int) != (ys.length : Int)) = false := by simp [hl]
    go_enter Try.func31, Try.ntmps31
    go_wp2
    go_loopw [5] (fun i wr => ∃ k : Nat, k ≤ xs.length ∧ i = .int .i64 k ∧ xs.take k = ys.take k ∧ ∃ n, wr = w.drewN n) (fun i _ => xs.length - (intOf i).toNat)
    case atStart => exact ⟨0, Nat.zero_le _, rfl, rfl, 0, rfl⟩
    case round =>
      obtain ⟨k, hk, rfl, heq, n0, rfl⟩ := hrel
      have HQ := Lib.hid heq
      clear heq
      by_cases hlt : k < xs.length
      · obtain ⟨b, o, rfl, _, _, hcell⟩ := hA (by omega)
        obtain ⟨b', o', rfl, _, _, hcell'⟩ := hA' (by omega)
        have h1 := hcell k hlt
        have h2 := hcell' k (by omega)
        have hk0 : (0 : Int) ≤ (k : Int) := by omega
        have hk1 : (k : Int) < (xs.length : Int) := by omega
        have hk2 : (k : Int) < (ys.length : Int) := by omega
        have e1 := take_rd xs k hlt
        have e2 := take_rd ys k (by omega)
        by_cases he : rd xs k = rd ys k
        · have hne : ((rd xs k) != (rd ys k)) = false := by simp [he]
          have hn : xs.take (k + 1) = ys.take (k + 1) := by rw [e1, e2, HQ.out, he]
          have HN := Lib.hid hn
          clear hn e1 e2 he
          go_wp2
          go_quiet (fail)
          go_wp2
          go_roundw
          case rel => exact ⟨k + 1, by omega, by go_num, HN.out, _, rfl⟩
          case measure => simp [intOf]; omega
        · have hne : ((rd xs k) != (rd ys k)) = true := by simp [he]
          have hn : decide (xs = ys) = false := decide_eq_false (fun h => he (by rw [h]))
          have HN := Lib.hid hn
          clear hn e1 e2 he
          go_wp2
          go_quiet (fail)
          go_wp2
          go_ret
          exact ⟨ret_of (by rw [HN.out]; rfl), _, World.drewN_drewN _ _ _⟩
      · have hn : decide (xs = ys) = true := decide_eq_true (eq_of_take hl k (by omega) HQ.out)
        have HN := Lib.hid hn
        clear hn
        go_wp2
        go_ret
        exact ⟨ret_of (by rw [HN.out]; rfl), _, rfl⟩
  · have hb : ((xs.length : Int) != (ys.length : Int)) = true := by simp; omega
    have hn : decide (xs = ys) = false := decide_eq_false (fun h => hl (by rw [h]))
    have HN := Lib.hid hn
    clear hn
    go_enter Try.func31, Try.ntmps31
    go_wp2
    go_ret
    exact ⟨ret_of (by rw [HN.out]; rfl), 0, rfl⟩
end Go.Proofs.Ytfpnodboebpemaa
