/- What Decode says of what Encode wrote, of it with a byte turned, of it torn. And: a row of bytes of one's own, read and written. -/
import Derived.Test.YtfpnodboebpemaaDec
import Derived.Test.YtfpnodboebpemaaCrcM
namespace Go.Proofs.Ytfpnodboebpemaa
open Go.RowKit Go.Proofs.YtfpnodboebpemaaW.PrintWords
set_option linter.unusedVariables false
set_option linter.unusedSimpArgs false

theorem enc_b (b : Fb) (hf : b.fits) (hl : b.body.length ≤ 40) (hb : IsB b.body) : IsB b.enc := by
  obtain ⟨kind, epoch, seq, lba, body⟩ := b
  obtain ⟨k1, k2, e1, e2, s1, s2, l1, l2⟩ := hf
  simp only at k1 k2 e1 e2 s1 s2 l1 l2 hl hb
  obtain ⟨k, rfl⟩ := Int.eq_ofNat_of_zero_le (show 0 ≤ kind by omega)
  obtain ⟨e, rfl⟩ := Int.eq_ofNat_of_zero_le e1
  obtain ⟨q, rfl⟩ := Int.eq_ofNat_of_zero_le s1
  obtain ⟨l, rfl⟩ := Int.eq_ofNat_of_zero_le l1
  unfold Fb.enc Fb.core
  refine IsB.append (IsB.append (head_b k e q l body hb (by omega) (by omega)) (fun x hx => by rw [(List.mem_replicate.1 hx).2]; omega)) (le_b _ _)

theorem dec_enc (b : Fb) (hf : b.fits) (hl : b.body.length ≤ 40) : decErr b.enc = 0 ∧ decB b.enc = b := by
  have h : decErr b.enc = 0 := by
    unfold decErr
    rw [if_pos (enc_length b hl), raw_enc b hf hl, if_pos ⟨⟨hf, hl⟩, rfl⟩]
  exact ⟨h, by unfold decB; rw [if_pos h, raw_enc b hf hl]⟩

theorem dec_not {p : List Int} (hl : p.length = 64) (hb : IsB p) (h : ¬ Summed p) : decErr p = 13 := by
  unfold decErr
  rw [if_pos hl, if_neg]
  rintro ⟨⟨hf, h40⟩, he⟩
  have := enc_summed (rawB p) h40 (by rw [← he]; exact hb)
  rw [← he] at this
  exact h this

theorem xor_b {x y : Int} (hx : 0 ≤ x ∧ x ≤ 255) (hy : 0 ≤ y ∧ y ≤ 255) : 0 ≤ ((x.toNat ^^^ y.toNat : Nat) : Int) ∧ ((x.toNat ^^^ y.toNat : Nat) : Int) ≤ 255 := by
  have : x.toNat ^^^ y.toNat < 2 ^ 8 := Nat.xor_lt_two_pow (by omega) (by omega)
  omega
theorem torn_length (p : List Int) (h : p.length = 64) : (tornL p).length = 64 := by simp [tornL, h]
theorem torn_b {p : List Int} (h : IsB p) : IsB (tornL p) := by
  refine (h.take 32).append (fun x hx => ?_)
  obtain ⟨y, hy, rfl⟩ := List.mem_map.1 hx
  exact xor_b (y := 85) (h.drop 32 y hy) (by omega)

theorem dec_torn (b : Fb) (hf : b.fits) (hl : b.body.length ≤ 40) (hb : IsB b.body) : decErr (tornL b.enc) = 13 := by
  have hB := enc_b b hf hl hb
  exact dec_not (torn_length _ (enc_length b hl)) (torn_b hB) (summed_torn (enc_summed b hl hB))
theorem set_b {p : List Int} (h : IsB p) (j : Nat) {y : Int} (hy : 0 ≤ y ∧ y ≤ 255) : IsB (p.set j y) := fun x hx => by
  rcases List.mem_or_eq_of_mem_set hx with hx | rfl
  · exact h x hx
  · exact hy
theorem dec_flip (b : Fb) (hf : b.fits) (hl : b.body.length ≤ 40) (hb : IsB b.body) (j : Nat) (hj : j < 64) (y : Int) (hy : 0 ≤ y ∧ y ≤ 255) (hne : y ≠ rd b.enc j) : decErr (b.enc.set j y) = 13 := by
  have hB := enc_b b hf hl hb
  exact dec_not (by simp [enc_length b hl]) (set_b hB j hy) (fun h => hne (summed_set (enc_summed b hl hB) j hj y h))

/-! ### A row of bytes of one's own -/
theorem BytO.lay {w : World} {base : Nat} {v : Value} {xs : List Int} (h : BytO w base v xs) (hp : 0 < xs.length) :
    ∃ g c, v = .slice (some ⟨g, 0, none⟩) xs.length c ∧ base ≤ g ∧ g < w.heap.size ∧ xs.length ≤ c ∧ c ≤ maxLen := by
  obtain ⟨hl, h | ⟨g, cap, cur, rfl, hg, hh, hc, hm, _⟩⟩ := h
  · omega
  · exact ⟨g, cap, rfl, hg, (Array.getElem?_eq_some_iff.1 hh).1, hc, hm⟩
theorem BytO.get {w : World} {base g n c : Nat} {xs : List Int} (h : BytO w base (.slice (some ⟨g, 0, none⟩) n c) xs) (i : Nat) (hi : i < xs.length) :
    w.cell? ⟨g, i, none⟩ = some (.int .u8 (rd xs i)) ∧ w.frozen? ⟨g, i, none⟩ = false := by
  obtain ⟨hl, h | ⟨g', cap, cur, he, hg, hh, hc, hm, hs, ht⟩⟩ := h
  · have := h.2; omega
  · injection he with e1 e2 e3
    injection e1 with e1
    injection e1 with e1 e4
    subst e1
    refine ⟨?_, by simp [World.frozen?, hh]⟩
    rw [cell_of_row w g i cur 5 (0, 0) hh]
    have h1 : (cur.toList.take (xs.length * 1))[i]? = some (.int .u8 (rd xs i)) := by rw [ht]; simp [nums, rd, hi]
    rw [List.getElem?_take, if_pos (by omega)] at h1
    rw [← Array.getElem?_toList]; exact h1
theorem BytO.set {w : World} {base g n c : Nat} {xs : List Int} (h : BytO w base (.slice (some ⟨g, 0, none⟩) n c) xs) (i : Nat) (hi : i < xs.length) (x : Int) :
    BytO (w.setCell ⟨g, i, none⟩ (.int .u8 x)) base (.slice (some ⟨g, 0, none⟩) n c) (xs.set i x) := by
  obtain ⟨hl, h | ⟨g', cap, cur, he, hg, hh, hc, hm, hs, ht⟩⟩ := h
  · have := h.2; omega
  · injection he with e1 e2 e3
    injection e1 with e1
    injection e1 with e1 e4
    subst e1 e2 e3
    refine ⟨by simp [nums], .inr ⟨g, c, cur.setIfInBounds i (.int .u8 x), by simp, hg, ?_, by simpa using hc, hm, by simpa using hs, ?_⟩⟩
    · simp only [World.setCell, Array.getElem?_modify, hh, Option.map_some, if_true]; rfl
    · rw [List.length_set]
      simp only [Array.toList_setIfInBounds, List.take_set, ht, nums]
      simp [List.map_set]
theorem BytO.below' {w w' : World} {base : Nat} {v : Value} {xs : List Int} (h : BytO w base v xs) (k : Below w.heap.size w w') : BytO w' base v xs := pw_own_below h k
theorem append_empty (ok : Nat → Prop) (w : World) (u : Value) (xs : List Int) (hx : Byt ok w u xs) (hl : xs.length ≤ 1000000) :
    ∃ v' w', (Builtin.append_ #[23, 23] 23 #[.slice (some ⟨w.heap.size, 0, none⟩) 0 0, u]).run Try.prog (w.alloc (.cells #[] 5)) = .ok v' w' ∧ BytO w' w.heap.size v' xs ∧ Below w.heap.size w w' := by
  have hx1 : SlC ok (w.alloc (.cells #[] 5)) 1 u xs.length (nums .u8 xs) := hx.below ((Below.refl _ _).alloc (Nat.le_refl _) _)
  have ho := World.ownsRow_made (base := w.heap.size) (e := 5) (size := 1) w #[] 0 (Nat.le_refl _) (by decide) (by simp)
  obtain ⟨v', w', hr, hown, hg, hat⟩ := run_append_o (P := Try.prog) (w.alloc (.cells #[] 5)) w.heap.size 23 23 5 (.int .u8 0) 1 1 Try.underlying23 info5 rfl (by decide) _ 0 [] ho _ xs.length (nums .u8 xs) hx1 (nums_one _ _) (by simp only [maxLen]; omega) (by omega) (by simp)
  simp only [Nat.zero_add, List.nil_append] at hown
  exact ⟨v', w', hr, hown, below_app ((Below.refl _ _).alloc (Nat.le_refl _) _) (by simp) ho hg⟩
end Go.Proofs.Ytfpnodboebpemaa
