/- The contracts of the library's generic functions at the types that this program uses: Clone, Grow, Concat, Equal, ContainsFunc. -/
import Derived.Test.YtfpnodboebpemaaCrc
import Derived.Lib.AppendZeros
import Derived.WalkSpells
import Derived.Lib.Hide
import Derived.Deep.QuietTactic
import Derived.BigQuiet
namespace Go.Proofs.Ytfpnodboebpemaa
open Go.RowKit Go.Proofs.YtfpnodboebpemaaW.PrintWords
set_option linter.unusedVariables false
set_option linter.unusedSimpArgs false

/-! ### slices.Clone, slices.Grow, slices.Concat at bytes -/
set_option maxHeartbeats 400000 in
theorem cloneB (ok : Nat → Prop) (v : Value) (n : Nat) (xs : List Value) (w : World) (hx : SlC ok w 1 v n xs) (h1 : ∀ u ∈ xs, u.oneCell' = true) (hn : n ≤ 1000000) :
    Calls Try.prog 91 #[v] w fun e w' => ∃ r, e = .returned r ∧ w'.ownsRow w.heap.size 5 1 r n xs ∧ Below w.heap.size w w' := by
  obtain ⟨A, c, rfl, hl, hc, hm, hA⟩ := hx
  have heq := Lib.run_eql_slice_nil (P := Try.prog) w 23 5 A n c 0 0 Try.underlying23
  cases A with
  | none =>
    have h0 : n = 0 := by
      rcases Nat.eq_zero_or_pos n with h0 | h0
      · exact h0
      · obtain ⟨b, o, h, _⟩ := hA h0; cases h
    subst h0
    have : xs = [] := List.eq_nil_of_length_eq_zero (by rw [hl, Nat.zero_mul])
    subst this
    go_enter Try.func91, Try.ntmps91
    go_wp2
    go_ret
    exact ⟨_, rfl, World.ownsRow_nil _ _ _ _, Below.refl _ _⟩
  | some ad =>
    have hx : SlC ok w 1 (.slice (some ad) n c) n xs := ⟨some ad, c, rfl, hl, hc, hm, hA⟩
    have hx1 : SlC ok (w.alloc (.cells #[] 5)) 1 (.slice (some ad) n c) n xs := hx.below ((Below.refl _ _).alloc (Nat.le_refl _) _)
    have ho := World.ownsRow_made (base := w.heap.size) (e := 5) (size := 1) w #[] 0 (Nat.le_refl _) (by decide) (by simp)
    obtain ⟨v', w', hr, hown, hg, hat⟩ := run_append_o (P := Try.prog) (w.alloc (.cells #[] 5)) w.heap.size 23 23 5 (.int .u8 0) 1 1 Try.underlying23 info5 rfl (by decide) _ 0 [] ho _ n xs hx1 h1 (by simp only [maxLen]; omega) (by omega) (by simp)
    simp only [Nat.zero_add, List.nil_append] at hown
    have hB : Below w.heap.size w w' := below_app ((Below.refl _ _).alloc (Nat.le_refl _) _) (by simp) ho hg
    have H := Lib.hid hr
    clear hr
    go_enter Try.func91, Try.ntmps91
    go_wp2_with (at_builtin; refine Lib.wpList_append_run _ rfl _ _ _ _ rfl _ _ rfl rfl _ _ H.out ?_)
    go_ret
    exact ⟨_, rfl, hown, hB⟩

set_option maxRecDepth 100000 in
set_option maxHeartbeats 400000 in
theorem growB (n : Nat) (w : World) (hn : n ≤ 1000000) :
    Calls Try.prog 128 #[.slice none 0 0, .int .i64 n] w fun e w' => ∃ r, e = .returned r ∧ w'.ownsRow w.heap.size 5 1 r 0 [] ∧ Below w.heap.size w w' := by
  rcases Nat.eq_zero_or_pos n with h0 | h0
  · subst h0
    go_enter Try.func128, Try.ntmps128
    go_wp2
    go_ret
    exact ⟨_, rfl, World.ownsRow_nil _ _ _ _, Below.refl _ _⟩
  · obtain ⟨i, hi, hz, hsz, hby⟩ := info_of info5
    have hr := Lib.run_append_nil_zeros (P := Try.prog) w 23 3 23 5 i (.int .u8 0) .i64 .i64 Try.underlying23 Try.underlying3 hi hz n h0 (by rw [hsz]; decide) (by omega) (by rw [hby]; omega)
    have hge := grownCap_ge w n 0 5
    have hcm : grownCap w n 0 5 ≤ maxLen := grownCap_le_maxLen w n 0 5 (by simp only [maxLen]; omega)
    generalize grownCap w n 0 5 = c at *
    have hs : (Builtin.zeroCells (Value.cells (.int .u8 0)) n ++ Builtin.zeroCells (Value.cells (.int .u8 0)) (c - n)).size = c := by
      rw [Array.size_append, size_zeroCells, size_zeroCells]
      simp [Value.cells]
      omega
    generalize hcs : Builtin.zeroCells (Value.cells (.int .u8 0)) n ++ Builtin.zeroCells (Value.cells (.int .u8 0)) (c - n) = cs at *
    have ho : (w.drew.alloc (.cells cs 5)).ownsRow w.heap.size 5 1 (.slice (some ⟨w.heap.size, 0, none⟩) 0 c) 0 [] := World.ownsRow_made (base := w.heap.size) (e := 5) (size := 1) w.drew cs c (by simp) hcm (by rw [hs, Nat.mul_one])
    have hB : Below w.heap.size w (w.drew.alloc (.cells cs 5)) := (Below.refl _ w).drew.alloc (by simp) _
    have H := Lib.hid hr
    clear hr
    clear hcs hcm hge hz hsz hby hi hs i
    go_enter Try.func128, Try.ntmps128
    go_wp2_with (at_builtin; refine Lib.wpList_append_run _ rfl _ _ _ _ rfl _ _ rfl rfl _ _ H.out ?_)
    go_ret
    exact ⟨_, rfl, ho, hB⟩

/-! ### slices.Clone, slices.Grow, slices.Concat at rows of bytes -/
set_option maxHeartbeats 400000 in
theorem cloneR (ok : Nat → Prop) (v : Value) (n : Nat) (xs : List Value) (w : World) (hx : SlC ok w 1 v n xs) (h1 : ∀ u ∈ xs, u.oneCell' = true) (hn : n ≤ 1000000) :
    Calls Try.prog 110 #[v] w fun e w' => ∃ r, e = .returned r ∧ w'.ownsRow w.heap.size 23 1 r n xs ∧ Below w.heap.size w w' := by
  obtain ⟨A, c, rfl, hl, hc, hm, hA⟩ := hx
  have heq := Lib.run_eql_slice_nil (P := Try.prog) w 62 23 A n c 0 0 Try.underlying62
  cases A with
  | none =>
    have h0 : n = 0 := by
      rcases Nat.eq_zero_or_pos n with h0 | h0
      · exact h0
      · obtain ⟨b, o, h, _⟩ := hA h0; cases h
    subst h0
    have : xs = [] := List.eq_nil_of_length_eq_zero (by rw [hl, Nat.zero_mul])
    subst this
    go_enter Try.func110, Try.ntmps110
    go_wp2
    go_ret
    exact ⟨_, rfl, World.ownsRow_nil _ _ _ _, Below.refl _ _⟩
  | some ad =>
    have hx : SlC ok w 1 (.slice (some ad) n c) n xs := ⟨some ad, c, rfl, hl, hc, hm, hA⟩
    have hx1 : SlC ok (w.alloc (.cells #[] 23)) 1 (.slice (some ad) n c) n xs := hx.below ((Below.refl _ _).alloc (Nat.le_refl _) _)
    have ho := World.ownsRow_made (base := w.heap.size) (e := 23) (size := 1) w #[] 0 (Nat.le_refl _) (by decide) (by simp)
    obtain ⟨v', w', hr, hown, hg, hat⟩ := run_append_o (P := Try.prog) (w.alloc (.cells #[] 23)) w.heap.size 62 62 23 (.slice none 0 0) 1 24 Try.underlying62 info23 rfl (by decide) _ 0 [] ho _ n xs hx1 h1 (by simp only [maxLen]; omega) (by omega) (by simp)
    simp only [Nat.zero_add, List.nil_append] at hown
    have hB : Below w.heap.size w w' := below_app ((Below.refl _ _).alloc (Nat.le_refl _) _) (by simp) ho hg
    have H := Lib.hid hr
    clear hr
    go_enter Try.func110, Try.ntmps110
    go_wp2_with (at_builtin; refine Lib.wpList_append_run _ rfl _ _ _ _ rfl _ _ rfl rfl _ _ H.out ?_)
    go_ret
    exact ⟨_, rfl, hown, hB⟩

set_option maxRecDepth 100000 in
set_option maxHeartbeats 400000 in
theorem growR (n : Nat) (w : World) (hn : n ≤ 1000000) :
    Calls Try.prog 151 #[.slice none 0 0, .int .i64 n] w fun e w' => ∃ r, e = .returned r ∧ w'.ownsRow w.heap.size 23 1 r 0 [] ∧ Below w.heap.size w w' := by
  rcases Nat.eq_zero_or_pos n with h0 | h0
  · subst h0
    go_enter Try.func151, Try.ntmps151
    go_wp2
    go_ret
    exact ⟨_, rfl, World.ownsRow_nil _ _ _ _, Below.refl _ _⟩
  · obtain ⟨i, hi, hz, hsz, hby⟩ := info_of info23
    have hr := Lib.run_append_nil_zeros (P := Try.prog) w 62 3 62 23 i (.slice none 0 0) .i64 .i64 Try.underlying62 Try.underlying3 hi hz n h0 (by rw [hsz]; decide) (by omega) (by rw [hby]; omega)
    have hge := grownCap_ge w n 0 23
    have hcm : grownCap w n 0 23 ≤ maxLen := grownCap_le_maxLen w n 0 23 (by simp only [maxLen]; omega)
    generalize grownCap w n 0 23 = c at *
    have hs : (Builtin.zeroCells (Value.cells (.slice none 0 0)) n ++ Builtin.zeroCells (Value.cells (.slice none 0 0)) (c - n)).size = c := by
      rw [Array.size_append, size_zeroCells, size_zeroCells]
      simp [Value.cells]
      omega
    generalize hcs : Builtin.zeroCells (Value.cells (.slice none 0 0)) n ++ Builtin.zeroCells (Value.cells (.slice none 0 0)) (c - n) = cs at *
    have ho : (w.drew.alloc (.cells cs 23)).ownsRow w.heap.size 23 1 (.slice (some ⟨w.heap.size, 0, none⟩) 0 c) 0 [] := World.ownsRow_made (base := w.heap.size) (e := 23) (size := 1) w.drew cs c (by simp) hcm (by rw [hs, Nat.mul_one])
    have hB : Below w.heap.size w (w.drew.alloc (.cells cs 23)) := (Below.refl _ w).drew.alloc (by simp) _
    have H := Lib.hid hr
    clear hr
    clear hcs hcm hge hz hsz hby hi hs i
    go_enter Try.func151, Try.ntmps151
    go_wp2_with (at_builtin; refine Lib.wpList_append_run _ rfl _ _ _ _ rfl _ _ rfl rfl _ _ H.out ?_)
    go_ret
    exact ⟨_, rfl, ho, hB⟩


/-! ### Rows of bytes -/
/-- A [][]byte that reads as rows. -/
def Row (ok : Nat → Prop) (w : World) (v : Value) (rows : List (List Int)) : Prop :=
  ∃ vs : List Value, SlC ok w 1 v rows.length vs ∧ ∀ (i : Nat) r, rows[i]? = some r → ∃ u, vs[i]? = some u ∧ Byt ok w u r
theorem Row.kp {S ok : Nat → Prop} {w w' : World} {v : Value} {rows : List (List Int)} (h : Row ok w v rows) (k : Kp S w w') (hn : ∀ b, b < w.heap.size → ok b → ¬ S b) : Row ok w' v rows := by
  obtain ⟨vs, h1, h2⟩ := h
  refine ⟨vs, h1.kp k hn, fun i r hi => ?_⟩
  obtain ⟨u, h3, h4⟩ := h2 i r hi
  exact ⟨u, h3, h4.kp k hn⟩
theorem Row.below {ok : Nat → Prop} {w w' : World} {v : Value} {rows : List (List Int)} (h : Row ok w v rows) (k : Below w.heap.size w w') : Row ok w' v rows := h.kp (Kp.of_below k (fun _ => False)) (fun _ _ _ hf => hf)
theorem Row.mono {ok ok' : Nat → Prop} {w : World} {v : Value} {rows : List (List Int)} (h : Row ok w v rows) (hm : ∀ b, b < w.heap.size → ok b → ok' b) : Row ok' w v rows := by
  obtain ⟨vs, h1, h2⟩ := h
  refine ⟨vs, h1.mono hm, fun i r hi => ?_⟩
  obtain ⟨u, h3, h4⟩ := h2 i r hi
  exact ⟨u, h3, h4.mono hm⟩
theorem Row.open_ {ok : Nat → Prop} {w : World} {v : Value} {rows : List (List Int)} (h : Row ok w v rows) :
    ∃ A c, v = .slice A rows.length c ∧ rows.length ≤ c ∧ c ≤ maxLen ∧ (0 < rows.length → ∃ b o, A = some ⟨b, o, none⟩ ∧ ok b ∧ b < w.heap.size ∧
      ∀ i (hi : i < rows.length), ∃ A' c', w.cell? ⟨b, o + i, none⟩ = some (.slice A' (rows[i]'hi).length c') ∧ Byt ok w (.slice A' (rows[i]'hi).length c') (rows[i]'hi)) := by
  obtain ⟨vs, ⟨A, c, rfl, hl, hc, hm, hA⟩, h2⟩ := h
  refine ⟨A, c, rfl, hc, hm, fun hp => ?_⟩
  obtain ⟨b, o, rfl, h3, h4, h5⟩ := hA hp
  refine ⟨b, o, rfl, h3, h4, fun i hi => ?_⟩
  obtain ⟨u, h6, h7⟩ := h2 i _ (List.getElem?_eq_getElem hi)
  obtain ⟨A', c', rfl, _⟩ := h7.open_
  exact ⟨A', c', h5 i _ h6, h7⟩
theorem Row.len {ok : Nat → Prop} {w : World} {v : Value} {rows : List (List Int)} (h : Row ok w v rows) : rows.length ≤ maxLen := by obtain ⟨_, h1, _⟩ := h; exact h1.max

def total (rows : List (List Int)) : Nat := (rows.map List.length).sum
theorem total_take (rows : List (List Int)) (k : Nat) (h : k < rows.length) : total (rows.take (k + 1)) = total (rows.take k) + (rows[k]).length := by
  unfold total; rw [List.take_succ_eq_append_getElem h, List.map_append, List.sum_append]; simp
theorem total_le (rows : List (List Int)) (k : Nat) : total (rows.take k) ≤ total rows := by
  unfold total
  conv => rhs; rw [← List.take_append_drop k rows]
  rw [List.map_append, List.sum_append]; omega
theorem flatten_len (rows : List (List Int)) : rows.flatten.length = total rows := by unfold total; simp [List.length_flatten]

set_option maxRecDepth 100000 in
set_option maxHeartbeats 1000000 in
theorem concatB (ok : Nat → Prop) (v : Value) (rows : List (List Int)) (w : World) (hx : Row ok w v rows) (ht : total rows ≤ 1000000) :
    Calls Try.prog 83 #[v] w fun e w' => ∃ r, e = .returned r ∧ BytO w' w.heap.size r rows.flatten ∧ Below w.heap.size w w' := by
  obtain ⟨A, c, rfl, hc, hm, hA⟩ := hx.open_
  have hlen := hx.len
  unfold maxLen at hm hlen
  have htake := total_le rows
  have HT := Lib.hid htake
  clear htake
  go_enter Try.func83, Try.ntmps83
  go_wp2
  go_loop [3, 11] (fun u i => ∃ k : Nat, k ≤ rows.length ∧ i = .int .i64 k ∧ u = .int .i64 (total (rows.take k) : Nat)) (fun _ i => rows.length - (intOf i).toNat)
  case atStart => exact ⟨0, Nat.zero_le _, rfl, rfl⟩
  case round =>
    obtain ⟨k, hk, rfl, rfl⟩ := hrel
    by_cases hlt : k < rows.length
    · obtain ⟨b, o, rfl, _, _, hcell⟩ := hA (by omega)
      obtain ⟨A', c', hc1, _⟩ := hcell k hlt
      have hs := total_take rows k hlt
      have hs2 := HT.out (k + 1)
      rw [hs] at hs2
      have HS := Lib.hid hs
      clear hs
      go_wp2
      go_round
      case rel => exact ⟨k + 1, by omega, by go_num, by rw [HS.out]; go_num⟩
      case measure => simp [intOf]; omega
    · have hkn : k = rows.length := by omega
      subst hkn
      have hs2 := HT.out rows.length
      go_wp2_with fail
      refine (growB _ _ (by omega)).mono ?_
      rintro e w1 ⟨r, rfl, ho, hb⟩
      go_wp2_with fail
      clear hs2
      go_loopw [6, 27] (fun v i wr => ∃ k : Nat, k ≤ rows.length ∧ i = .int .i64 k ∧ BytO wr w.heap.size v (rows.take k).flatten ∧ Below w.heap.size w wr) (fun _ i _ => rows.length - (intOf i).toNat)
      case atStart => exact ⟨0, Nat.zero_le _, rfl, ho, hb⟩
      case round =>
        obtain ⟨k, hk, rfl, ho2, hb2⟩ := hrel
        by_cases hlt : k < rows.length
        · obtain ⟨b, o, rfl, _, _, hcell⟩ := hA (by omega)
          obtain ⟨A', c', hc1, hby⟩ := hcell k hlt
          have hc2 : wr.cell? ⟨b, o + k, none⟩ = some (.slice A' rows[k].length c') := pw_cell_below hb2 hc1
          have hs := total_take rows k hlt
          have hs2 := HT.out (k + 1)
          have hl1 := flatten_len (rows.take k)
          obtain ⟨v', w', hr, hown, hg, hat⟩ := run_append_o (P := Try.prog) wr w.heap.size 23 23 5 (.int .u8 0) 1 1 Try.underlying23 info5 rfl (by decide) _ _ _ ho2 _ _ _ (hby.below hb2) (nums_one _ _) (by simp only [maxLen]; omega) (by omega) hb2.size
          have hB : Below w.heap.size w w' := below_app hb2 hb2.size ho2 hg
          have ho3 : BytO w' w.heap.size v' (rows.take (k + 1)).flatten := by
            unfold BytO
            rw [List.take_succ_eq_append_getElem hlt, List.flatten_append, List.flatten_singleton, nums_append, List.length_append]
            exact hown
          have H := Lib.hid hr
          clear hr hs hs2 hl1 hown hg hat hc1
          go_wp2_with (at_builtin; refine Lib.wpList_append_run _ rfl _ _ _ _ rfl _ _ rfl rfl _ _ H.out ?_)
          go_roundw
          case rel => exact ⟨k + 1, by omega, by go_num, ho3, hB⟩
          case measure => simp [intOf]; omega
        · have hkn : k = rows.length := by omega
          subst hkn
          rw [List.take_length] at ho2
          go_wp2
          go_ret
          exact ⟨_, rfl, ho2, hb2⟩

/-! ### slices.Equal at bytes -/
theorem eq_of_take {xs ys : List Int} (hl : xs.length = ys.length) (k : Nat) (hk : xs.length ≤ k) (h : xs.take k = ys.take k) : xs = ys := by
  rwa [List.take_of_length_le hk, List.take_of_length_le (by omega)] at h

set_option maxRecDepth 100000 in
set_option maxHeartbeats 1000000 in
theorem equalB (ok ok' : Nat → Prop) (v v' : Value) (xs ys : List Int) (w : World) (hx : Byt ok w v xs) (hy : Byt ok' w v' ys) :
    Calls Try.prog 101 #[v, v'] w fun e w' => e = .returned (.bool (decide (xs = ys))) ∧ ∃ n, w' = w.drewN n := by
  obtain ⟨A, c, rfl, hc, hm, hA⟩ := hx.open_
  obtain ⟨A', c', rfl, hc', hm', hA'⟩ := hy.open_
  have hlm : xs.length ≤ maxLen := Nat.le_trans hc hm
  clear hm hm' hc hc'
  unfold maxLen at hlm
  by_cases hl : xs.length = ys.length
  · have hb : ((xs.length : Int) != (ys.length : Int)) = false := by simp [hl]
    go_enter Try.func101, Try.ntmps101
    go_wp2
    go_loopw [13] (fun i wr => ∃ k : Nat, k ≤ xs.length ∧ i = .int .i64 k ∧ xs.take k = ys.take k ∧ ∃ n, wr = w.drewN n) (fun i _ => xs.length - (intOf i).toNat)
    case atStart => exact ⟨0, Nat.zero_le _, rfl, rfl, 0, rfl⟩
    case round =>
      obtain ⟨k, hk, rfl, heq, n0, rfl⟩ := hrel
      have HQ := Lib.hid heq
      clear heq
      by_cases hlt : k < xs.length
      · obtain ⟨b, o, rfl, _, _, hcell⟩ := hA (by omega)
        obtain ⟨b', o', rfl, _, _, hcell'⟩ := hA' (by omega)
        have h1 := hcell k hlt
        have h2 := hcell' k (by omega)
        have hk0 : (0 : Int) ≤ (k : Int) := by omega
        have hk1 : (k : Int) < (xs.length : Int) := by omega
        have hk2 : (k : Int) < (ys.length : Int) := by omega
        have e1 := take_rd xs k hlt
        have e2 := take_rd ys k (by omega)
        by_cases he : rd xs k = rd ys k
        · have hne : ((rd xs k) != (rd ys k)) = false := by simp [he]
          have hn : xs.take (k + 1) = ys.take (k + 1) := by rw [e1, e2, HQ.out, he]
          have HN := Lib.hid hn
          clear hn e1 e2 he
          go_wp2
          go_quiet (fail)
          go_wp2
          go_roundw
          case rel => exact ⟨k + 1, by omega, by go_num, HN.out, _, rfl⟩
          case measure => simp [intOf]; omega
        · have hne : ((rd xs k) != (rd ys k)) = true := by simp [he]
          have hn : decide (xs = ys) = false := decide_eq_false (fun h => he (by rw [h]))
          have HN := Lib.hid hn
          clear hn e1 e2 he
          go_wp2
          go_quiet (fail)
          go_wp2
          go_ret
          exact ⟨ret_of (by rw [HN.out]; rfl), _, World.drewN_drewN _ _ _⟩
      · have hn : decide (xs = ys) = true := decide_eq_true (eq_of_take hl k (by omega) HQ.out)
        have HN := Lib.hid hn
        clear hn
        go_wp2
        go_ret
        exact ⟨ret_of (by rw [HN.out]; rfl), _, rfl⟩
  · have hb : ((xs.length : Int) != (ys.length : Int)) = true := by simp; omega
    have hn : decide (xs = ys) = false := decide_eq_false (fun h => hl (by rw [h]))
    have HN := Lib.hid hn
    clear hn
    go_enter Try.func101, Try.ntmps101
    go_wp2
    go_ret
    exact ⟨ret_of (by rw [HN.out]; rfl), 0, rfl⟩

/-! ### slices.ContainsFunc at bytes, with frame.Plain's function -/
/-- Where the first number stands that is not 0; -1: nowhere. -/
def nz : List Int → Nat → Int
  | [], _ => -1
  | x :: xs, i => if x = 0 then nz xs (i + 1) else i

set_option maxHeartbeats 400000 in
theorem plain1_any (x : Int) (w : World) : Calls Try.prog 88 #[.int .u8 x] w fun e w' => e = .returned (.bool (x != 0)) ∧ w = w' := by
  go_enter Try.func88, Try.ntmps88
  go_wp2
  go_ret
  exact ⟨rfl, rfl⟩

set_option maxRecDepth 100000 in
set_option maxHeartbeats 1000000 in
theorem indexB (ok : Nat → Prop) (v : Value) (xs : List Int) (w : World) (hx : Byt ok w v xs) :
    Calls Try.prog 133 #[v, .func (.func 88) #[] #[]] w fun e w' => ∃ i : Int, e = .returned (.int .i64 i) ∧ (0 ≤ i ↔ ∃ x ∈ xs, x ≠ 0) ∧ w = w' := by
  obtain ⟨A, c, rfl, hc, hm, hA⟩ := hx.open_
  have hlm : xs.length ≤ maxLen := Nat.le_trans hc hm
  clear hm hc
  unfold maxLen at hlm
  go_enter Try.func133, Try.ntmps133
  go_wp2
  go_loop [8] (fun i => ∃ k : Nat, k ≤ xs.length ∧ i = .int .i64 k ∧ ∀ x ∈ xs.take k, x = 0) (fun i => xs.length - (intOf i).toNat)
  case atStart => exact ⟨0, Nat.zero_le _, rfl, by simp⟩
  case round =>
    obtain ⟨k, hk, rfl, hz⟩ := hrel
    have HZ := Lib.hid hz
    clear hz
    by_cases hlt : k < xs.length
    · obtain ⟨b, o, rfl, _, _, hcell⟩ := hA (by omega)
      have h1 := hcell k hlt
      have e1 := take_rd xs k hlt
      have hin : rd xs k ∈ xs := by
        have : rd xs k ∈ xs.take (k + 1) := by rw [e1]; simp
        exact List.mem_of_mem_take this
      by_cases he : rd xs k = 0
      · have hne : ((rd xs k) != 0) = false := by simp [he]
        have hn : ∀ x ∈ xs.take (k + 1), x = 0 := by
          intro x hx; rw [e1] at hx
          rcases List.mem_append.1 hx with h | h
          · exact HZ.out x h
          · rw [List.mem_singleton.1 h]; exact he
        have HN := Lib.hid hn
        clear hn e1 he
        go_wp2_with fail
        refine (plain1_any _ _).mono ?_
        rintro e w1 ⟨rfl, rfl⟩
        go_wp2
        go_round
        case rel => exact ⟨k + 1, by omega, by go_num, HN.out⟩
        case measure => simp [intOf]; omega
      · have hne : ((rd xs k) != 0) = true := by simp [he]
        have hn : (0 : Int) ≤ (k : Int) ↔ ∃ x ∈ xs, x ≠ 0 := ⟨fun _ => ⟨_, hin, he⟩, fun _ => by omega⟩
        have HN := Lib.hid hn
        clear hn e1 he
        go_wp2_with fail
        refine (plain1_any _ _).mono ?_
        rintro e w1 ⟨rfl, rfl⟩
        go_wp2
        go_ret
        exact ⟨_, rfl, HN.out, rfl⟩
    · have hn : (0 : Int) ≤ -1 ↔ ∃ x ∈ xs, x ≠ 0 := ⟨fun h => by omega, fun ⟨x, hx, hne⟩ => absurd (HZ.out x (by rwa [List.take_of_length_le (by omega)])) hne⟩
      have HN := Lib.hid hn
      clear hn
      go_wp2
      go_ret
      exact ⟨_, rfl, HN.out, rfl⟩

theorem containsB (ok : Nat → Prop) (v : Value) (xs : List Int) (w : World) (hx : Byt ok w v xs) :
    Calls Try.prog 87 #[v, .func (.func 88) #[] #[]] w fun e w' => e = .returned (.bool (xs.any (· != 0))) ∧ w = w' := by
  go_enter Try.func87, Try.ntmps87
  go_wp2_with fail
  refine (indexB ok v xs _ hx).mono ?_
  rintro e w1 ⟨i, rfl, hi, rfl⟩
  have hd : decide (0 ≤ i) = xs.any (· != 0) := by
    rw [Bool.eq_iff_iff, decide_eq_true_iff, hi]; simp
  have HD := Lib.hid hd
  clear hd hi
  go_wp2
  go_ret
  exact ⟨ret_of (by simp [← HD.out]), rfl⟩

end Go.Proofs.Ytfpnodboebpemaa
