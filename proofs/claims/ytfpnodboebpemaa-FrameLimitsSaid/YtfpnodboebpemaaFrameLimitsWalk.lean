/- The walk of FrameLimits. -/
import Derived.Test.YtfpnodboebpemaaLaw8
namespace Go.Proofs.Ytfpnodboebpemaa
open Go.RowKit Go.Proofs.YtfpnodboebpemaaW.PrintWords
set_option linter.unusedVariables false
set_option linter.unusedSimpArgs false

set_option maxRecDepth 100000 in
set_option maxHeartbeats 2000000 in
theorem frameLimits_walk (n lba seq epoch kind : Int) (w : World) :
    Calls Try.prog 3 #[.int .i64 n, .int .i64 lba, .int .i64 seq, .int .i64 epoch, .int .i64 kind] w fun e w' => e = .returned (.bool true) ∧ Below w.heap.size w w' := by
  by_cases h1 : n < 0
  · go_enter Try.func3, Try.ntmps3
    go_wp2_with fail
    refine (awake8 _).mono ?_
    rintro e w1 ⟨rfl, hb⟩
    go_wp2
    go_ret
    exact ⟨rfl, hb⟩
  by_cases h2 : 60 < n
  · go_enter Try.func3, Try.ntmps3
    go_wp2_with fail
    refine (awake8 _).mono ?_
    rintro e w1 ⟨rfl, hb⟩
    go_wp2
    go_ret
    exact ⟨rfl, hb⟩
  obtain ⟨m, rfl⟩ := Int.eq_ofNat_of_zero_le (show 0 ≤ n by omega)
  go_enter Try.func3, Try.ntmps3
  go_wp2_with fail
  refine (block_any m 1 _ (by omega)).mono ?_
  rintro e w1 ⟨r, rfl, ho, hb1⟩
  obtain ⟨A, c, rfl⟩ := BytO.shape ho
  have hl := bk_length m 1
  rw [hl] at ho ⊢
  go_wp2_with fail
  refine (encode_any _ ⟨kind, epoch, seq, lba, bk m 1⟩ _ _ ho.fresh (bk_b m 1)).mono ?_
  rintro e w2 ⟨r2, rfl, ho2, hb2⟩
  have hB : Below w.heap.size w w2 := hb1.trans (hb2.mono hb1.size)
  clear hb1 hb2 ho2 ho
  by_cases hf : (Fb.mk kind epoch seq lba (bk m 1)).fits
  · by_cases h40 : m ≤ 40
    · have he : (Fb.mk kind epoch seq lba (bk m 1)).err = 0 := by simp [Fb.err, hf, hl, h40]
      rw [he]
      obtain ⟨k1, k2, k3, k4, k5, k6, k7, k8⟩ := hf
      simp only at k1 k2 k3 k4 k5 k6 k7 k8
      clear he hl
      go_wp2_with fail
      refine (awake8 _).mono ?_
      rintro e w3 ⟨rfl, hb⟩
      go_wp2
      go_ret
      exact ⟨rfl, hB.trans (hb.mono hB.size)⟩
    · have he : (Fb.mk kind epoch seq lba (bk m 1)).err = 3 := by simp [Fb.err, hf, hl, h40]
      rw [he]
      obtain ⟨k1, k2, k3, k4, k5, k6, k7, k8⟩ := hf
      simp only at k1 k2 k3 k4 k5 k6 k7 k8
      clear he hl
      go_wp2_with fail
      refine (awake8 _).mono ?_
      rintro e w3 ⟨rfl, hb⟩
      go_wp2
      go_ret
      exact ⟨rfl, hB.trans (hb.mono hB.size)⟩
  · have he : (Fb.mk kind epoch seq lba (bk m 1)).err = 1 := by simp [Fb.err, hf]
    rw [he]
    simp only [Fb.fits] at hf
    have HF := Lib.hid hf
    clear he hl hf
    go_wp2_with fail
    all_goals first
      | (refine (awake8 _).mono ?_
         rintro e w3 ⟨rfl, hb⟩
         go_wp2
         go_ret
         exact ⟨rfl, hB.trans (hb.mono hB.size)⟩)
      | (exfalso
         exact HF.out (by omega))
end Go.Proofs.Ytfpnodboebpemaa
