/- The contracts of package bits: put, Put32, Put64, get, Get32, Get64. -/
import Derived.Test.YtfpnodboebpemaaApp
import Derived.Handy
import Derived.Laws.BitsAllLaws
namespace Go.Proofs.Ytfpnodboebpemaa
open Go.RowKit Go.Proofs.YtfpnodboebpemaaW.PrintWords
set_option linter.unusedVariables false
set_option linter.unusedSimpArgs false

/-- A block of bytes. -/
def BA (w : World) (g : Nat) (xs : List Int) : Prop := Blk w g 5 (nums .u8 xs).toArray
theorem BA.cell {w : World} {g : Nat} {xs : List Int} (h : BA w g xs) (i : Nat) (hi : i < xs.length) : w.cell? ⟨g, i, none⟩ = some (.int .u8 (rd xs i)) := by
  rw [Blk.cell h i]; simp [nums, rd, hi]
theorem BA.frozen {w : World} {g : Nat} {xs : List Int} (h : BA w g xs) (i : Nat) : w.frozen? ⟨g, i, none⟩ = false := Blk.frozen h i
theorem BA.set {w : World} {g : Nat} {xs : List Int} (h : BA w g xs) (i : Nat) (x : Int) : BA (w.setCell ⟨g, i, none⟩ (.int .u8 x)) g (xs.set i x) := by
  have := Blk.set h i (.int .u8 x)
  have e : (nums .u8 xs).toArray.setIfInBounds i (Value.int .u8 x) = (nums .u8 (xs.set i x)).toArray := by simp [nums, List.map_set]
  rw [e] at this
  exact this
theorem BA.make (w : World) (m : Nat) : BA (w.alloc (.cells (madeCells #[.int .u8 0] m) 5)) w.heap.size (List.replicate m 0) := by
  unfold BA
  have : (madeCells #[Value.int .u8 0] m) = (nums .u8 (List.replicate m 0)).toArray := by
    apply Array.ext'
    apply List.ext_getElem
    · simp [nums, madeCells]
    · intro i h1 h2
      simp [nums, madeCells, Nat.mod_one]
  rw [this]
  exact Blk.new _ _ _
theorem BA.o {w : World} {g base : Nat} {xs : List Int} (h : BA w g xs) (hb : base ≤ g) (hm : xs.length ≤ maxLen) : BytO w base (.slice (some ⟨g, 0, none⟩) xs.length xs.length) xs := by
  refine ⟨by simp [nums], .inr ⟨g, xs.length, (nums .u8 xs).toArray, rfl, hb, h, Nat.le_refl _, hm, by simp [nums], ?_⟩⟩
  exact List.take_of_length_le (by simp [nums])
theorem BA.q {w : World} {g base : Nat} {xs : List Int} (h : BA w g xs) (hb : base ≤ g) (hm : xs.length ≤ maxLen) : BytQ w base (.slice (some ⟨g, 0, none⟩) xs.length xs.length) xs := (h.o hb hm).q
theorem BA.below {w w' : World} {g : Nat} {xs : List Int} (h : BA w g xs) (k : Below w.heap.size w w') : BA w' g xs := Blk.below h k
theorem BA.lt {w : World} {g : Nat} {xs : List Int} (h : BA w g xs) : g < w.heap.size := Blk.lt h

/-- A number as n bytes, the least first. -/
def le (v : Nat) : Nat → List Int
  | 0 => []
  | n + 1 => ((v % 256 : Nat) : Int) :: le (v / 256) n
theorem le_length (v n : Nat) : (le v n).length = n := by
  induction n generalizing v with
  | zero => rfl
  | succ n ih => simp [le, ih]
theorem le_get (v n i : Nat) (h : i < n) : (le v n)[i]? = some ((v / 256 ^ i % 256 : Nat) : Int) := by
  induction n generalizing v i with
  | zero => omega
  | succ n ih =>
    cases i with
    | zero => simp [le]
    | succ i =>
      simp only [le, List.getElem?_cons_succ]
      rw [ih _ _ (by omega), Nat.div_div_eq_div_mul, Nat.pow_succ, Nat.mul_comm]

theorem le_step (v n k : Nat) (h : k < n) : ((le v n).take k ++ List.replicate (n - k) (0 : Int)).set k ((v : Int) / 2 ^ (8 * k) % 256) = (le v n).take (k + 1) ++ List.replicate (n - (k + 1)) 0 := by
  apply List.ext_getElem?
  intro i
  have hl := le_length v n
  have hg := le_get v n k h
  have hv : ((v : Int) / 2 ^ (8 * k) % 256) = ((v / 256 ^ k % 256 : Nat) : Int) := by
    have e1 : (2 : Nat) ^ (8 * k) = 256 ^ k := by rw [Nat.pow_mul]
    have e2 : (2 : Int) ^ (8 * k) = ((256 ^ k : Nat) : Int) := by rw [← e1]; simp
    rw [e2]; rfl
  rw [hv]
  rcases Nat.lt_trichotomy i k with h1 | h1 | h1
  · rw [List.getElem?_set_ne (by omega), List.getElem?_append_left (by simp; omega), List.getElem?_append_left (by simp; omega)]
    simp [List.getElem?_take, h1, show i < k + 1 by omega]
  · subst h1
    rw [List.getElem?_set_self (by simp; omega), List.getElem?_append_left (by simp; omega)]
    simp [hg]
  · rw [List.getElem?_set_ne (by omega), List.getElem?_append_right (by simp; omega), List.getElem?_append_right (by simp; omega)]
    simp only [List.getElem?_replicate, List.length_take, hl]
    by_cases h2 : i < n
    · rw [if_pos (by omega), if_pos (by omega)]
    · rw [if_neg (by omega), if_neg (by omega)]
set_option maxHeartbeats 400000 in
theorem put_any (v n : Nat) (w : World) (hv : v < 18446744073709551616) (hn : n ≤ 8) :
    Calls Try.prog 129 #[.int .u64 v, .int .i64 n] w fun e w' => ∃ r, e = .returned r ∧ BytO w' w.heap.size r (le v n) ∧ Below w.heap.size w w' := by
  have hmk := print_make (P := Try.prog) 23 5 .u8 1 Try.underlying23 info5 (by decide) n (by omega)
  go_enter Try.func129, Try.ntmps129
  go_wp2
  go_loopw [11] (fun i wr => ∃ k : Nat, k ≤ n ∧ i = .int .i64 k ∧ BA wr w.heap.size ((le v n).take k ++ List.replicate (n - k) 0) ∧ Below w.heap.size w wr) (fun i _ => n - (intOf i).toNat)
  case atStart => exact ⟨0, Nat.zero_le _, rfl, by simpa using BA.make w n, (Below.refl _ _).alloc (Nat.le_refl _) _⟩
  case round =>
    obtain ⟨k, hk, rfl, hba, hbe⟩ := hrel
    by_cases hlt : k < n
    · have hl : ((le v n).take k ++ List.replicate (n - k) (0 : Int)).length = n := by simp [le_length]; omega
      have hc := hba.cell k (by omega)
      have hf := hba.frozen k
      go_wp2
      go_roundw
      case rel =>
        refine ⟨k + 1, by omega, by go_num, ?_, hbe.setCell (Nat.le_refl _) _⟩
        rw [← le_step v n k hlt]
        exact hba.set k _
      case measure => simp [intOf]; omega
    · go_wp2
      go_ret
      have hkn : k = n := by omega
      subst hkn
      have hl := le_length v k
      simp only [Nat.sub_self, List.replicate_zero, List.append_nil] at hba
      rw [List.take_of_length_le (by omega)] at hba
      have hq := hba.o (base := w.heap.size) (Nat.le_refl _) (by simp only [hl, maxLen]; omega)
      rw [hl] at hq
      exact ⟨_, rfl, hq, hbe⟩

theorem put32_any (v : Nat) (w : World) (hv : v < 4294967296) :
    Calls Try.prog 84 #[.int .u32 v] w fun e w' => ∃ r, e = .returned r ∧ BytO w' w.heap.size r (le v 4) ∧ Below w.heap.size w w' := by
  go_enter Try.func84, Try.ntmps84
  go_wp2_with fail
  refine (put_any v 4 _ (by omega) (by omega)).mono ?_
  rintro e w1 ⟨r, rfl, hq, hb⟩
  go_wp2
  go_ret
  exact ⟨_, rfl, hq, hb⟩

theorem put64_any (v : Nat) (w : World) (hv : v < 18446744073709551616) :
    Calls Try.prog 85 #[.int .u64 v] w fun e w' => ∃ r, e = .returned r ∧ BytO w' w.heap.size r (le v 8) ∧ Below w.heap.size w w' := by
  go_enter Try.func85, Try.ntmps85
  go_wp2_with fail
  refine (put_any v 8 _ (by omega) (by omega)).mono ?_
  rintro e w1 ⟨r, rfl, hq, hb⟩
  go_wp2
  go_ret
  exact ⟨_, rfl, hq, hb⟩

/-- The number that bytes are, the least first. -/
def ge : List Int → Int
  | [] => 0
  | x :: xs => x + 256 * ge xs
def IsB (xs : List Int) : Prop := ∀ x ∈ xs, 0 ≤ x ∧ x ≤ 255

theorem ge_bound (xs : List Int) (h : IsB xs) : 0 ≤ ge xs ∧ ge xs < 256 ^ xs.length := by
  induction xs with
  | nil => simp [ge]
  | cons x xs ih =>
    have h1 := h x (by simp)
    have h2 := ih (fun y hy => h y (by simp [hy]))
    simp only [ge, List.length_cons, Int.pow_succ]
    omega
theorem ge_append (xs ys : List Int) : ge (xs ++ ys) = ge xs + 256 ^ xs.length * ge ys := by
  induction xs with
  | nil => simp [ge]
  | cons x xs ih =>
    simp only [List.cons_append, ge, ih, List.length_cons, Int.pow_succ, Int.mul_add]
    rw [show (256 : Int) ^ xs.length * 256 * ge ys = 256 * (256 ^ xs.length * ge ys) by rw [Int.mul_comm ((256 : Int) ^ xs.length) 256, Int.mul_assoc]]
    omega
theorem take_rd (xs : List Int) (k : Nat) (h : k < xs.length) : xs.take (k + 1) = xs.take k ++ [rd xs k] := by
  rw [List.take_succ_eq_append_getElem h]; simp [rd, h]
theorem rd_b (xs : List Int) (k : Nat) (h : k < xs.length) (hb : IsB xs) : 0 ≤ rd xs k ∧ rd xs k ≤ 255 := by
  unfold rd; simp only [Int.toNat_natCast]
  rw [List.getD_eq_getElem?_getD, List.getElem?_eq_getElem (by omega)]
  exact hb _ (List.getElem_mem _)
theorem IsB.take {xs : List Int} (h : IsB xs) (n : Nat) : IsB (xs.take n) := fun x hx => h x (List.mem_of_mem_take hx)
theorem IsB.drop {xs : List Int} (h : IsB xs) (n : Nat) : IsB (xs.drop n) := fun x hx => h x (List.mem_of_mem_drop hx)
/-- A byte is joined on above. -/
theorem ge_step (xs : List Int) (k : Nat) (h : k < xs.length) (hb : IsB xs) (hk : k < 8) :
    bits .or .u64 (ge (xs.take k)) (IntKind.u64.wrap (rd xs k * 2 ^ (8 * k))) = ge (xs.take (k + 1)) := by
  obtain ⟨r1, r2⟩ := rd_b xs k h hb
  obtain ⟨g1, g2⟩ := ge_bound (xs.take k) (hb.take k)
  have hl : (xs.take k).length = k := by simp; omega
  rw [hl] at g2
  rw [take_rd xs k h, ge_append, hl]
  simp only [ge, Int.mul_zero, Int.add_zero]
  obtain ⟨r, hr⟩ := Int.eq_ofNat_of_zero_le r1
  obtain ⟨g, hg⟩ := Int.eq_ofNat_of_zero_le g1
  rw [hr] at r2 ⊢
  rw [hg] at g2 ⊢
  have e1 : (2 : Nat) ^ (8 * k) = 256 ^ k := by rw [Nat.pow_mul]
  have g3 : g < 2 ^ (8 * k) := by
    rw [e1]
    have h := g2
    rw [show ((256 : Int) ^ k) = ((256 ^ k : Nat) : Int) by simp] at h
    omega
  have r3 : r ≤ 255 := by omega
  have h64 : 2 ^ (8 * k) * r < 18446744073709551616 := by
    have : 2 ^ (8 * k) ≤ 2 ^ 56 := Nat.pow_le_pow_right (by decide) (by omega)
    have := Nat.mul_le_mul this r3
    omega
  have g4 : g < 18446744073709551616 := by
    have : 2 ^ (8 * k) ≤ 2 ^ 56 := Nat.pow_le_pow_right (by decide) (by omega)
    omega
  have hw : IntKind.u64.wrap ((r : Int) * 2 ^ (8 * k)) = ((2 ^ (8 * k) * r : Nat) : Int) := by
    have : ((r : Int) * 2 ^ (8 * k)) = ((2 ^ (8 * k) * r : Nat) : Int) := by simp [Int.mul_comm]
    rw [this]
    simp only [IntKind.wrap, IntKind.bits, IntKind.signed]
    simp only [Bool.false_and, Bool.false_eq_true, if_false]
    omega
  rw [hw, u64_or_nat g _ g4 h64, Nat.or_comm, ← Nat.two_pow_add_eq_or_of_lt g3, e1]
  simp only [Int.natCast_add, Int.natCast_mul, Int.natCast_pow]
  rw [Int.add_comm]; rfl

set_option maxHeartbeats 400000 in
theorem get_yes (ok : Nat → Prop) (v : Value) (xs : List Int) (n : Nat) (w : World) (hx : Byt ok w v xs) (hb : IsB xs) (hn : n ≤ 8) (hl : n ≤ xs.length) (h0 : 0 < n) :
    Calls Try.prog 135 #[v, .int .i64 n] w fun e w' => e = .returned (.tuple #[.int .u64 (ge (xs.take n)), .bool true]) ∧ w = w' := by
  obtain ⟨A, c, rfl, hc, hm, hA⟩ := hx.open_
  obtain ⟨b, o, rfl, _, _, hcell⟩ := hA (by omega)
  have hlt : ¬ xs.length < n := by omega
  unfold maxLen at hm
  go_enter Try.func135, Try.ntmps135
  go_wp2
  go_loop [4, 12] (fun u i => ∃ k : Nat, k ≤ n ∧ i = .int .i64 k ∧ u = .int .u64 (ge (xs.take k))) (fun _ i => n - (intOf i).toNat)
  case atStart => exact ⟨0, Nat.zero_le _, rfl, rfl⟩
  case round =>
    obtain ⟨k, hk, rfl, rfl⟩ := hrel
    by_cases hlt : k < n
    · have hc := hcell k (by omega)
      obtain ⟨hr1, hr2⟩ := rd_b xs k (by omega) hb
      go_wp2
      go_round
      case rel => exact ⟨k + 1, by omega, by go_num, by rw [ge_step xs k (by omega) hb (by omega)]⟩
      case measure => simp [intOf]; omega
    · go_wp2
      have hkn : k = n := by omega
      subst hkn
      go_ret2
      exact ⟨rfl, rfl⟩

set_option maxHeartbeats 400000 in
theorem get_no (ok : Nat → Prop) (v : Value) (xs : List Int) (n : Nat) (w : World) (hx : Byt ok w v xs) (hn : n ≤ 8) (hl : xs.length < n) :
    Calls Try.prog 135 #[v, .int .i64 n] w fun e w' => e = .returned (.tuple #[.int .u64 0, .bool false]) ∧ w = w' := by
  obtain ⟨A, c, rfl, hc, hm, hA⟩ := hx.open_
  go_enter Try.func135, Try.ntmps135
  go_wp2
  go_ret2
  exact ⟨rfl, rfl⟩

theorem get32_yes (ok : Nat → Prop) (v : Value) (xs : List Int) (w : World) (hx : Byt ok w v xs) (hb : IsB xs) (hl : 4 ≤ xs.length) :
    Calls Try.prog 100 #[v] w fun e w' => e = .returned (.tuple #[.int .u32 (ge (xs.take 4)), .bool true]) ∧ w = w' := by
  obtain ⟨g1, g2⟩ := ge_bound (xs.take 4) (hb.take 4)
  have hl4 : (xs.take 4).length = 4 := by simp; omega
  rw [hl4] at g2
  have g3 : ge (xs.take 4) < 4294967296 := g2
  clear g2 hl4
  go_enter Try.func100, Try.ntmps100
  go_wp2_with fail
  refine (get_yes ok v xs 4 _ hx hb (by omega) hl (by omega)).mono ?_
  rintro e w1 ⟨rfl, rfl⟩
  go_wp2
  go_ret2
  exact ⟨ret_of (by simp), rfl⟩

theorem get64_yes (ok : Nat → Prop) (v : Value) (xs : List Int) (w : World) (hx : Byt ok w v xs) (hb : IsB xs) (hl : 8 ≤ xs.length) :
    Calls Try.prog 99 #[v] w fun e w' => e = .returned (.tuple #[.int .u64 (ge (xs.take 8)), .bool true]) ∧ w = w' := by
  go_enter Try.func99, Try.ntmps99
  go_wp2_with fail
  refine (get_yes ok v xs 8 _ hx hb (by omega) hl (by omega)).mono ?_
  rintro e w1 ⟨rfl, rfl⟩
  go_wp2
  go_ret2
  exact ⟨rfl, rfl⟩

end Go.Proofs.Ytfpnodboebpemaa
