/- Plain laws of batch: limits; how a queue is cut. -/
import Derived.Test.YtfpnodboebpemaaBat4
namespace Go.Proofs.Ytfpnodboebpemaa
open Go.RowKit Go.Proofs.YtfpnodboebpemaaW.PrintWords
set_option linter.unusedVariables false
set_option linter.unusedSimpArgs false

/-- Puts with the LBAs from 0 on. -/
def puN (m : Nat) : List PutL := (List.range m).map fun k => ⟨(k : Nat), bk 40 (k : Nat)⟩
theorem puN_length (m : Nat) : (puN m).length = m := by simp [puN]
theorem puN_succ (m : Nat) : puN (m + 1) = puN m ++ [⟨(m : Nat), bk 40 (m : Nat)⟩] := by simp [puN, List.range_succ]
theorem puN_at {m k : Nat} (h : k < m) : (puN m)[k]? = some ⟨(k : Nat), bk 40 (k : Nat)⟩ := by simp [puN, h]
theorem puN_rises (m : Nat) : rises (puN m) := fun k hk => by
  rw [puN_length] at hk
  rw [lbaAt_of (puN_at (by omega)), lbaAt_of (puN_at (by omega))]; simp only; omega
theorem puN_ok {m : Nat} (h : m ≤ 1000) : ∀ p ∈ puN m, p.ok := fun p hp => by
  obtain ⟨k, hk, rfl⟩ := List.mem_map.1 hp
  have := List.mem_range.1 hk
  exact ⟨by simp only; omega, by simp only; omega, bk_length _ _⟩

/-! ### Limits -/
def limTx (puts gap i : Nat) : TxL := ⟨((1 + i * gap : Nat) : Int), puN puts⟩
def limTs (puts gap n : Nat) : List TxL := (List.range n).map (limTx puts gap)
theorem limTs_length (puts gap n : Nat) : (limTs puts gap n).length = n := by simp [limTs]
theorem limTs_succ (puts gap n : Nat) : limTs puts gap (n + 1) = limTs puts gap n ++ [limTx puts gap n] := by simp [limTs, List.range_succ]
theorem limTs_at {puts gap n i : Nat} (h : i < n) : (limTs puts gap n)[i]? = some (limTx puts gap i) := by simp [limTs, h]
theorem limTs_sum (puts gap n : Nat) : sumP (limTs puts gap n) = n * puts := by
  induction n with
  | zero => simp [limTs, sumP]
  | succ n ih => rw [limTs_succ, sumP_append, ih]; simp [sumP, limTx, puN_length, Nat.succ_mul]
def limOk (n puts gap : Nat) : Prop := 1 ≤ n ∧ n ≤ 8 ∧ 1 ≤ puts ∧ puts ≤ 16 ∧ n * puts ≤ 32 ∧ (n = 1 ∨ (1 ≤ gap ∧ gap ≤ 65535))
theorem lim_may {n puts gap : Nat} (h1 : n ≤ 12) (h2 : puts ≤ 20) (h3 : gap ≤ 70000) : (⟨1, limTs puts gap n⟩ : BatL).may ↔ limOk n puts gap := by
  have tA : ∀ i, i < n → timeAt (limTs puts gap n) i = ((1 + i * gap : Nat) : Int) := fun i hi => by rw [timeAt_of (limTs_at hi)]; rfl
  have pA : ∀ i, i < n → putsAt (limTs puts gap n) i = puN puts := fun i hi => by rw [putsAt_of (limTs_at hi)]; rfl
  constructor
  · rintro ⟨⟨m1, m2, m3, m4, m5, m6⟩, m7⟩
    simp only [limTs_length] at m3 m4 m5 m7
    unfold blocksN at m6
    simp only [limTs_sum] at m6
    have o0 := m5 0 (by rw [limTs_length]; exact m3)
    have s0 := m7 0 m3
    have p0 := o0.2.2.1
    have p1 := s0.2.1
    rw [pA 0 m3, puN_length] at p0 p1
    refine ⟨m3, m4, p0, p1, by omega, ?_⟩
    rcases Nat.lt_or_ge 1 n with h | h
    · right
      have o1 := (m5 1 (by rw [limTs_length]; exact h)).1
      have s1 := (m7 1 h).1 (by omega)
      unfold prevT at o1
      rw [if_neg (by omega)] at o1
      rw [tA 1 h, tA (1 - 1) (by omega)] at o1 s1
      simp at o1 s1
      omega
    · left; omega
  · rintro ⟨l1, l2, l3, l4, l5, l6⟩
    have hmul : ∀ i, i < n → (1 + i * gap : Nat) ≤ 1 + 12 * 70000 := fun i hi => by
      have := Nat.mul_le_mul (show i ≤ 12 by omega) h3
      omega
    refine ⟨⟨by simp, by simp, by simp only [limTs_length]; omega, by simp only [limTs_length]; omega, fun i hi => ?_, by unfold blocksN; simp only [limTs_sum]; omega⟩, fun i hi => ?_⟩
    · simp only [limTs_length] at hi
      have hm := hmul i hi
      refine ⟨?_, by rw [tA i hi]; omega, by rw [pA i hi, puN_length]; omega, by rw [pA i hi]; exact puN_rises _⟩
      unfold prevT
      split
      · rename_i h0; subst h0; rw [tA 0 hi]; omega
      · rename_i h0
        rw [tA i hi, tA (i - 1) (by omega)]
        obtain ⟨j, rfl⟩ : ∃ j, i = j + 1 := ⟨i - 1, by omega⟩
        rw [Nat.add_sub_cancel, Nat.succ_mul]; omega
    · simp only [limTs_length] at hi
      refine ⟨fun h0 => ?_, by rw [pA i hi, puN_length]; omega, by rw [pA i hi]; exact puN_ok (by omega)⟩
      simp only
      rw [tA i hi, tA (i - 1) (by omega)]
      obtain ⟨j, rfl⟩ : ∃ j, i = j + 1 := ⟨i - 1, by omega⟩
      rw [Nat.add_sub_cancel, Nat.succ_mul]; omega

/-! ### Forms -/
theorem formGo_spec : ∀ (q : List TxL) (n k : Nat), n ≤ 8 → ∃ j, formGo q n k = n + j ∧ j ≤ q.length ∧ n + j ≤ 8 ∧ (j = 0 ∨ n + j = 1 ∨ k + sumP (q.take j) ≤ 32) ∧ (j < q.length → n + j < 8 → 0 < n + j ∧ ∃ t, q[j]? = some t ∧ 32 < k + sumP (q.take j) + t.puts.length)
  | [], n, k, h => ⟨0, rfl, Nat.le_refl _, h, .inl rfl, fun h => by simp at h⟩
  | t :: q, n, k, h => by
    by_cases hc : 8 ≤ n ∨ (0 < n ∧ 32 < k + t.puts.length)
    · refine ⟨0, formGo_stop hc, Nat.zero_le _, h, .inl rfl, fun _ h8 => ?_⟩
      rcases hc with hc | hc
      · omega
      · exact ⟨by omega, t, rfl, by simp [sumP]; omega⟩
    · obtain ⟨j, j1, j2, j3, j4, j5⟩ := formGo_spec q (n + 1) (k + t.puts.length) (by omega)
      refine ⟨j + 1, by rw [formGo_on hc, j1]; omega, by simpa using j2, by omega, ?_, fun hl h8 => ?_⟩
      · rcases j4 with j4 | j4 | j4
        · subst j4
          rcases Nat.eq_zero_or_pos n with h0 | h0
          · right; left; omega
          · right; right; simp [sumP]; omega
        · right; left; omega
        · right; right; simp only [List.take_succ_cons, sumP]; omega
      · obtain ⟨k1, t', k2, k3⟩ := j5 (by simpa using hl) (by omega)
        exact ⟨by omega, t', by simpa using k2, by simp only [List.take_succ_cons, sumP]; omega⟩
theorem formN_spec (q : List TxL) : formN q ≤ q.length ∧ formN q ≤ 8 ∧ (q ≠ [] → 1 ≤ formN q) ∧ (formN q ≤ 1 ∨ sumP (q.take (formN q)) ≤ 32) ∧ (formN q < q.length → formN q < 8 → ∃ t, q[formN q]? = some t ∧ 32 < sumP (q.take (formN q)) + t.puts.length) := by
  obtain ⟨j, j1, j2, j3, j4, j5⟩ := formGo_spec q 0 0 (by omega)
  have hj : formN q = j := by unfold formN; rw [j1]; omega
  rw [hj]
  refine ⟨j2, by omega, fun hne => ?_, by rcases j4 with j4 | j4 | j4 <;> omega, fun h h8 => ?_⟩
  · rcases Nat.eq_zero_or_pos j with h0 | h0
    · have := j5 (by rw [h0]; exact List.length_pos_iff.2 hne) (by omega)
      omega
    · exact h0
  · obtain ⟨_, t, k1, k2⟩ := j5 h (by omega)
    exact ⟨t, k1, by omega⟩
/-- The law's queue. -/
def qTx (sizes : List Int) (i : Nat) : TxL := ⟨((i + 1 : Nat) : Int), puN ((rd sizes i % 16).toNat + 1)⟩
def qTs (sizes : List Int) (n : Nat) : List TxL := (List.range n).map (qTx sizes)
theorem qTs_length (sizes : List Int) (n : Nat) : (qTs sizes n).length = n := by simp [qTs]
theorem qTs_succ (sizes : List Int) (n : Nat) : qTs sizes (n + 1) = qTs sizes n ++ [qTx sizes n] := by simp [qTs, List.range_succ]
theorem qTs_at {sizes : List Int} {n i : Nat} (h : i < n) : (qTs sizes n)[i]? = some (qTx sizes i) := by simp [qTs, h]
theorem qTx_len (sizes : List Int) (i : Nat) : 1 ≤ (qTx sizes i).puts.length ∧ (qTx sizes i).puts.length ≤ 16 := by
  simp only [qTx, puN_length]; omega
theorem qTs_sum (sizes : List Int) (n : Nat) : sumP (qTs sizes n) ≤ n * 16 := by
  have := sumP_le (ts := qTs sizes n) (k := 16) (fun t ht => by
    obtain ⟨i, _, rfl⟩ := List.mem_map.1 ht
    exact (qTx_len sizes i).2)
  rwa [qTs_length] at this
theorem qdrop_at {sizes : List Int} {n o i : Nat} (h : o + i < n) : ((qTs sizes n).drop o)[i]? = some (qTx sizes (o + i)) := by rw [List.getElem?_drop, qTs_at h]
theorem q_may {sizes : List Int} {n o m : Nat} {num : Int} (hn : n ≤ 100) (hm : m = formN ((qTs sizes n).drop o)) (ho : o < n) (hnum : 1 ≤ num ∧ num ≤ 1000) : (⟨num, ((qTs sizes n).drop o).take m⟩ : BatL).may := by
  obtain ⟨f1, f2, f3, f4, f5⟩ := formN_spec ((qTs sizes n).drop o)
  rw [← hm] at f1 f2 f3 f4 f5
  have hl : ((qTs sizes n).drop o).length = n - o := by rw [List.length_drop, qTs_length]
  have hml : (((qTs sizes n).drop o).take m).length = m := by rw [List.length_take]; omega
  have h1 := f3 (fun e => by rw [e] at hl; simp at hl; omega)
  have hat : ∀ i, i < m → (((qTs sizes n).drop o).take m)[i]? = some (qTx sizes (o + i)) := fun i hi => by
    rw [List.getElem?_take, if_pos hi, qdrop_at (by omega)]
  have tA : ∀ i, i < m → timeAt (((qTs sizes n).drop o).take m) i = ((o + i + 1 : Nat) : Int) := fun i hi => by rw [timeAt_of (hat i hi)]; rfl
  have pA : ∀ i, i < m → putsAt (((qTs sizes n).drop o).take m) i = (qTx sizes (o + i)).puts := fun i hi => by rw [putsAt_of (hat i hi)]
  refine ⟨⟨hnum.1, by simp only; omega, by simp only [hml]; omega, by simp only [hml]; omega, fun i hi => ?_, ?_⟩, fun i hi => ?_⟩
  · simp only [hml] at hi
    have hq := qTx_len sizes (o + i)
    refine ⟨?_, by rw [tA i hi]; omega, by rw [pA i hi]; omega, by rw [pA i hi]; exact puN_rises _⟩
    unfold prevT
    split
    · rename_i h0; subst h0; rw [tA 0 hi]; omega
    · rw [tA i hi, tA (i - 1) (by omega)]; omega
  · unfold blocksN
    simp only
    rcases f4 with f4 | f4
    · have hm1 : m = 1 := by omega
      have : sumP (((qTs sizes n).drop o).take m) ≤ m * 16 := by
        have := sumP_le (ts := ((qTs sizes n).drop o).take m) (k := 16) (fun t ht => by
          obtain ⟨i, hi, rfl⟩ := List.getElem_of_mem ht
          rw [hml] at hi
          have := hat i hi
          rw [List.getElem?_eq_getElem (by rw [hml]; exact hi)] at this
          injection this with this
          rw [this]; exact (qTx_len sizes (o + i)).2)
        rwa [hml] at this
      omega
    · omega
  · simp only [hml] at hi
    have hq := qTx_len sizes (o + i)
    refine ⟨fun h0 => ?_, by rw [pA i hi]; omega, by rw [pA i hi]; exact puN_ok (by simp only [qTx, puN_length] at hq; omega)⟩
    simp only
    rw [tA i hi, tA (i - 1) (by omega)]; omega
end Go.Proofs.Ytfpnodboebpemaa
