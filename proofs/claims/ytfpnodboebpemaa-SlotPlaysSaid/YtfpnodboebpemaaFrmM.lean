/- What a block's bytes tell, in plain numbers: they are read as the block that they are of; unlike blocks have unlike bytes. -/
import Derived.Test.YtfpnodboebpemaaFrm
namespace Go.Proofs.Ytfpnodboebpemaa
open Go.RowKit Go.Proofs.YtfpnodboebpemaaW.PrintWords
set_option linter.unusedVariables false
set_option linter.unusedSimpArgs false

theorem ge_le (v n : Nat) (h : v < 256 ^ n) : ge (le v n) = v := by
  induction n generalizing v with
  | zero => simp at h; simp [le, ge, h]
  | succ n ih =>
    simp only [le, ge]
    rw [ih (v / 256) (by rw [Nat.pow_succ] at h; exact Nat.div_lt_of_lt_mul (by rw [Nat.mul_comm]; exact h))]
    omega

/-- The fields as they stand in 64 bytes. -/
def rawB (p : List Int) : Fb := ⟨rd p 0, ge ((p.drop 2).take 4), ge ((p.drop 6).take 8), ge ((p.drop 14).take 4), (p.drop 18).take (rd p 1).toNat⟩

theorem core_length' (b : Fb) (h : b.body.length ≤ 40) : b.core.length = 60 := by
  simp [Fb.core, Fb.head, le_length]; omega
theorem enc_eq (b : Fb) : b.enc = b.kind :: (b.body.length : Int) :: (le b.epoch.toNat 4 ++ (le b.seq.toNat 8 ++ (le b.lba.toNat 4 ++ (b.body ++ (List.replicate (60 - b.head.length) 0 ++ le (crcOf b.core) 4))))) := by
  simp [Fb.enc, Fb.core, Fb.head, List.append_assoc]
theorem raw_enc (b : Fb) (hf : b.fits) (hl : b.body.length ≤ 40) : rawB b.enc = b := by
  obtain ⟨k1, k2, e1, e2, s1, s2, l1, l2⟩ := hf
  have hk : rd b.enc 0 = b.kind := by rw [enc_eq]; rfl
  have hn : rd b.enc 1 = (b.body.length : Int) := by rw [enc_eq]; rfl
  have h2 : b.enc.drop 2 = le b.epoch.toNat 4 ++ (le b.seq.toNat 8 ++ (le b.lba.toNat 4 ++ (b.body ++ (List.replicate (60 - b.head.length) 0 ++ le (crcOf b.core) 4)))) := by rw [enc_eq]; rfl
  have h6 : b.enc.drop 6 = le b.seq.toNat 8 ++ (le b.lba.toNat 4 ++ (b.body ++ (List.replicate (60 - b.head.length) 0 ++ le (crcOf b.core) 4))) := by
    rw [show b.enc.drop 6 = (b.enc.drop 2).drop 4 by rw [List.drop_drop], h2, List.drop_left' (le_length _ _)]
  have h14 : b.enc.drop 14 = le b.lba.toNat 4 ++ (b.body ++ (List.replicate (60 - b.head.length) 0 ++ le (crcOf b.core) 4)) := by
    rw [show b.enc.drop 14 = (b.enc.drop 6).drop 8 by rw [List.drop_drop], h6, List.drop_left' (le_length _ _)]
  have h18 : b.enc.drop 18 = b.body ++ (List.replicate (60 - b.head.length) 0 ++ le (crcOf b.core) 4) := by
    rw [show b.enc.drop 18 = (b.enc.drop 14).drop 4 by rw [List.drop_drop], h14, List.drop_left' (le_length _ _)]
  unfold rawB
  rw [hk, hn, h2, h6, h14, h18, List.take_left' (le_length _ _), List.take_left' (le_length _ _), List.take_left' (le_length _ _), ge_le _ _ (by omega), ge_le _ _ (by omega), ge_le _ _ (by omega), Int.toNat_natCast, List.take_left]
  obtain ⟨kind, epoch, seq, lba, body⟩ := b
  simp only at *
  congr 1 <;> omega
theorem enc_inj {a b : Fb} (ha : a.fits) (la : a.body.length ≤ 40) (hb : b.fits) (lb : b.body.length ≤ 40) : a.enc = b.enc ↔ a = b :=
  ⟨fun h => by rw [← raw_enc a ha la, h, raw_enc b hb lb], fun h => by rw [h]⟩
theorem err_fits {b : Fb} (h : b.err = 0) : b.fits ∧ b.body.length ≤ 40 := by
  unfold Fb.err at h
  split at h
  · split at h
    · exact ⟨by assumption, by assumption⟩
    · omega
  · omega
theorem err_of {b : Fb} (h : b.fits) (hl : b.body.length ≤ 40) : b.err = 0 := by simp [Fb.err, h, hl]
end Go.Proofs.Ytfpnodboebpemaa
