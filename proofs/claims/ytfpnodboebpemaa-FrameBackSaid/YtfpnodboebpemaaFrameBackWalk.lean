/- The walk of FrameBack. -/
import Derived.Test.YtfpnodboebpemaaDecM
import Derived.Test.YtfpnodboebpemaaArg
namespace Go.Proofs.Ytfpnodboebpemaa
open Go.RowKit Go.Proofs.YtfpnodboebpemaaW.PrintWords
set_option linter.unusedVariables false
set_option linter.unusedSimpArgs false

theorem flip_y (x : Int) (m : Nat) (h0 : 0 ≤ x) (h1 : x ≤ 255) (hm : m < 8) : 0 ≤ bits .xor .u8 x (2 ^ m % 256) ∧ bits .xor .u8 x (2 ^ m % 256) ≤ 255 ∧ bits .xor .u8 x (2 ^ m % 256) ≠ x := by
  obtain ⟨n, rfl⟩ := Int.eq_ofNat_of_zero_le h0
  have hp : ∃ k : Nat, (2 : Int) ^ m % 256 = (k : Int) ∧ 0 < k ∧ k < 256 := by
    refine ⟨2 ^ m, ?_, Nat.pow_pos (by omega), ?_⟩
    · revert m; decide
    · exact Nat.lt_of_lt_of_le (Nat.pow_lt_pow_right (by omega) hm) (by decide)
  obtain ⟨k, hk, k0, k1⟩ := hp
  rw [hk, u8_xor_nat n k (by omega) k1]
  have hl : n ^^^ k < 2 ^ 8 := Nat.xor_lt_two_pow (by omega) k1
  refine ⟨by omega, by omega, fun h => ?_⟩
  have h2 : n ^^^ k = n := by omega
  have h3 := congrArg (n ^^^ ·) h2
  simp only [← Nat.xor_assoc, Nat.xor_self, Nat.zero_xor] at h3
  omega

set_option maxRecDepth 100000 in
set_option maxHeartbeats 4000000 in
theorem frameBack_walk {w : World} (a : Fb) (u : Value) (hxa : Byt (fun k => k < w.heap.size) w u a.body) (hba : IsB a.body) (hint : a.ints) (bit cut : Int) :
    Calls Try.prog 10 #[a.val u, .int .i64 bit, .int .i64 cut] w fun e w' => e = .returned (.bool true) ∧ Below w.heap.size w w' := by
  clear hint
  obtain ⟨A, ca, rfl, _⟩ := hxa.open_
  unfold Fb.val
  have hB0 : Below w.heap.size w (w.alloc (.cells #[.int .i64 a.kind, .int .i64 a.epoch, .int .i64 a.seq, .int .i64 a.lba, .slice A a.body.length ca] 31)) := (Below.refl _ _).alloc (Nat.le_refl _) _
  have hg0 := Blk.new w 31 #[.int .i64 a.kind, .int .i64 a.epoch, .int .i64 a.seq, .int .i64 a.lba, .slice A a.body.length ca]
  by_cases h1 : 300 < a.body.length
  · go_enter Try.func10, Try.ntmps10
    go_wp2_with fail
    refine (awake8 _).mono ?_
    rintro e w1 ⟨rfl, hb⟩
    go_wp2
    go_ret
    exact ⟨rfl, hB0.trans (hb.mono hB0.size)⟩
  go_enter Try.func10, Try.ntmps10
  go_wp2_with fail
  refine (made_any a A _ ca _).mono ?_
  rintro e w1 ⟨rfl, hb1⟩
  have hB1 : Below w.heap.size w w1 := hB0.trans (hb1.mono hB0.size)
  go_wp2_with fail
  refine (encode_any _ a _ _ (hxa.below hB1) hba).mono ?_
  rintro e w2 ⟨p, rfl, hop, hb2⟩
  have hB2 : Below w.heap.size w w2 := hB1.trans (hb2.mono hB1.size)
  have hs2 := hB2.size
  have hg2 := (hg0.below hb1).below hb2
  clear hb1 hb2 hB0 hB1 hg0
  generalize hga : w.heap.size = g at *
  by_cases he : a.err = 0
  · rw [he] at hop ⊢
    rw [if_pos rfl] at hop
    obtain ⟨fa, la⟩ := err_fits he
    have hl := enc_length a la
    obtain ⟨hd1, hd2⟩ := dec_enc a fa la
    have hflip := fun j hj y hy hne => dec_flip a fa la hba j hj y hy hne
    have hbb := enc_b a fa la hba
    clear he h1
    generalize a.enc = P at *
    have HL := Lib.hid hl
    obtain ⟨gp, cp, rfl, hp1, hp2, hp3, hp4⟩ := hop.lay (by omega)
    have hop' : BytO w2 w1.heap.size (.slice (some ⟨gp, 0, none⟩) 64 cp) P := by rw [hl] at hop; exact hop
    rw [hl] at hp3 ⊢
    have HFl := Lib.hid hflip
    have HD1 := Lib.hid hd1
    have HD2 := Lib.hid hd2
    clear hop hl hflip hd1 hd2 fa la
    go_wp2_with fail
    refine (decode_any _ P _ _ hop'.fresh hbb).mono ?_
    rintro e w3 ⟨r3, rfl, hr3, hb3⟩
    rw [HD1.out, HD2.out]
    rw [HD2.out] at hr3
    unfold Fb.val
    obtain ⟨A3, c3, rfl⟩ := hr3.shape
    have hB3 := hB2.trans (hb3.mono hs2)
    have hs3 : w2.heap.size ≤ w3.heap.size := hb3.size
    have hg3 := hg2.below hb3
    have hop3 := hop'.below' hb3
    have hx4 := Blk.new w3 29 #[.int .i64 a.kind, .int .i64 a.epoch, .int .i64 a.seq, .int .i64 a.lba, .slice A3 a.body.length c3]
    have hb4 : Below w3.heap.size w3 (w3.alloc (.cells #[.int .i64 a.kind, .int .i64 a.epoch, .int .i64 a.seq, .int .i64 a.lba, .slice A3 a.body.length c3] 29)) := (Below.refl _ _).alloc (Nat.le_refl _) _
    have hs4 : (w3.alloc (.cells #[.int .i64 a.kind, .int .i64 a.epoch, .int .i64 a.seq, .int .i64 a.lba, .slice A3 a.body.length c3] 29)).heap.size = w3.heap.size + 1 := by simp
    obtain ⟨v5, w5, hr5, ho5, hb5⟩ := append_empty _ (w3.alloc (.cells #[.int .i64 a.kind, .int .i64 a.epoch, .int .i64 a.seq, .int .i64 a.lba, .slice A3 a.body.length c3] 29)) _ P (hop3.below' hb4).fresh (by rw [HL.out]; omega)
    obtain ⟨bq, cq, rfl, hbg, hbl, hc, hm⟩ := ho5.lay (by rw [HL.out]; omega)
    rw [HL.out] at hr5 ho5 hc
    have hB5 := (hB3.trans (hb4.mono (by omega))).trans (hb5.mono (by omega))
    have hg5 := (hg3.below hb4).below hb5
    have hx5 := hx4.below hb5
    have hpf : Byt (fun k => k < w2.heap.size) w5 (.slice (some ⟨gp, 0, none⟩) 64 cp) P := (((hop'.fresh.mono (fun k _ h => h.2)).below hb3).below hb4).below hb5
    have hr6 := (hr3.below hb4).below hb5
    rw [hs4] at hr5 hbg ho5
    have hsz5 : w3.heap.size + 1 ≤ w5.heap.size := by have := hb5.size; omega
    have H5 := Lib.hid hr5
    clear hr5 hb5 hb4 hx4 hg3 hop3 hop' hg2 hB3 hs4
    go_wp2_with (at_builtin; refine Lib.wpList_append_run _ rfl _ _ _ _ rfl _ _ rfl rfl _ _ H5.out ?_)
    refine (round_any bit 512 _ (by omega) (by omega)).mono ?_
    rintro e w6 ⟨rfl, rfl⟩
    have k0 := Int.emod_nonneg bit (show (512 : Int) ≠ 0 by omega)
    have k1 := Int.emod_lt_of_pos bit (show (0 : Int) < 512 by omega)
    generalize bit % 512 = k at *
    obtain ⟨K, rfl⟩ := Int.eq_ofNat_of_zero_le k0
    go_wp2_with fail
    have j1 : K / 8 < 64 := by omega
    have j2 : K % 8 < 8 := by omega
    have e1 : (K : Int).tdiv 8 = ((K / 8 : Nat) : Int) := by rw [Int.tdiv_eq_ediv_of_nonneg (by omega)]; omega
    have e2 : (K : Int).tmod 8 = ((K % 8 : Nat) : Int) := by rw [Int.tmod_eq_emod_of_nonneg (by omega)]; omega
    generalize K / 8 = j at *
    generalize K % 8 = m at *
    obtain ⟨cj, fj⟩ := ho5.get j (by rw [HL.out]; exact j1)
    have j3 : (0 : Int) ≤ (j : Int) := by omega
    have j4 : (j : Int) < 64 := by omega
    have m3 : (0 : Int) ≤ (m : Int) := by omega
    have m4 : (m : Int) < 8 := by omega
    obtain ⟨r0, r1⟩ := rd_b P j (by rw [HL.out]; exact j1) hbb
    have e3 : IntKind.i64.wrap (j : Int) = j := by rw [IntKind.wrap_i64]; omega
    go_cut [] (fun wx => ∃ y : Int, (0 ≤ y ∧ y ≤ 255 ∧ y ≠ rd P j) ∧ BytO wx (w3.heap.size + 1) (.slice (some ⟨bq, 0, none⟩) 64 cq) (P.set j y) ∧ Kp (· = bq) w5 wx)
    case first =>
      obtain ⟨y0, y1, y2⟩ := flip_y (rd P j) m r0 r1 j2
      have hst := (ho5.set j (by rw [HL.out]; exact j1) (bits .xor .u8 (rd P j) (2 ^ m % 256)))
      have hkp := (Kp.set1 w5 bq j (.int .u8 (bits .xor .u8 (rd P j) (2 ^ m % 256))))
      have HST := Lib.hid hst
      have HKP := Lib.hid hkp
      have HY := Lib.hid (And.intro y0 (And.intro y1 y2))
      clear hst hkp y0 y1 y2
      go_region
      go_wp2_with fail
      go_meet
      exact ⟨_, HY.out, (HST.out).below' ((Below.refl _ _).drew), HKP.out.drew⟩
    case rest =>
      obtain ⟨y, ⟨y0, y1, y2⟩, hoy, hK⟩ := hcut
      have hdq := HFl.out j j1 y ⟨y0, y1⟩ y2
      have hB6 : Below (w3.heap.size + 1) w5 wc := hK.below hsz5 (fun i h1 h2 => by omega)
      have hB6g := hB5.trans (hB6.mono (by omega))
      have hgc : Blk wc g 31 #[.int .i64 a.kind, .int .i64 a.epoch, .int .i64 a.seq, .int .i64 a.lba, .slice A a.body.length ca] := (hB6.block _ (by omega)).trans hg5
      have hxc : Blk wc w3.heap.size 29 #[.int .i64 a.kind, .int .i64 a.epoch, .int .i64 a.seq, .int .i64 a.lba, .slice A3 a.body.length c3] := (hB6.block _ (by omega)).trans hx5
      have hsc := hK.size
      have hr7' : Byt (fun k => k < w3.heap.size) wc (.slice A3 a.body.length c3) a.body := (hr6.mono (fun k _ h => h.2)).kp hK (fun i _ h1 h2 => by omega)
      have hpb : Byt (fun k => k < w2.heap.size) wc (.slice (some ⟨gp, 0, none⟩) 64 cp) P := (hpf.kp hK (fun i _ h1 h2 => by omega))
      clear ho5 cj fj r0 r1 y2 hK
      go_wp2_with fail
      refine (decode_any _ (P.set j y) _ _ hoy.fresh (set_b hbb j ⟨y0, y1⟩)).mono ?_
      rintro e w7 ⟨r7, rfl, hr7, hb7⟩
      rw [hdq]
      have hz7 : decB (P.set j y) = ⟨0, 0, 0, 0, []⟩ := by unfold decB; rw [hdq]; rfl
      rw [hz7] at hr7 ⊢
      unfold Fb.val
      obtain ⟨A7, c7, rfl⟩ := hr7.shape
      go_wp2_with fail
      have hs7 : wc.heap.size ≤ w7.heap.size := hb7.size
      have hb8 : Below w7.heap.size w7 (w7.alloc (.cells #[.int .i64 0, .int .i64 0, .int .i64 0, .int .i64 0, .slice A7 0 c7] 29)) := (Below.refl _ _).alloc (Nat.le_refl _) _
      have hb78 : Below wc.heap.size wc (w7.alloc (.cells #[.int .i64 0, .int .i64 0, .int .i64 0, .int .i64 0, .slice A7 0 c7] 29)) := hb7.trans (hb8.mono hs7)
      refine (round_any cut 64 _ (by omega) (by omega)).mono ?_
      rintro e w8 ⟨rfl, rfl⟩
      have k0 := Int.emod_nonneg cut (show (64 : Int) ≠ 0 by omega)
      have k1 := Int.emod_lt_of_pos cut (show (0 : Int) < 64 by omega)
      generalize cut % 64 = q at *
      obtain ⟨Q, rfl⟩ := Int.eq_ofNat_of_zero_le k0
      have hpq := ((hpb.below hb78).sub rfl 0 Q cp (by rw [HL.out]; omega) (by omega) hp4)
      have q1 : (Q : Int) ≤ (cp : Int) := by omega
      rw [List.drop_zero, Nat.add_zero] at hpq
      have hql : (P.take Q).length = Q := by have := HL.out; simp; omega
      have hd3 : decErr (P.take Q) = 3 := by unfold decErr; rw [if_neg (by omega)]
      have hb3' : decB (P.take Q) = ⟨0, 0, 0, 0, []⟩ := by unfold decB; rw [hd3]; rfl
      go_wp2_with fail
      refine (decode_any _ (P.take Q) _ _ hpq (hbb.take Q)).mono ?_
      rintro e w9 ⟨r9, rfl, hr9, hb9⟩
      rw [hd3, hb3']
      rw [hb3'] at hr9
      unfold Fb.val
      obtain ⟨A9, c9, rfl⟩ := hr9.shape
      have hbx : Below wc.heap.size wc w9 := hb78.trans (hb9.mono (by simp; omega))
      have hs9 : w7.heap.size + 1 ≤ w9.heap.size := by have := hb9.size; simpa using this
      have hb10 : Below w9.heap.size w9 (w9.alloc (.cells #[.int .i64 0, .int .i64 0, .int .i64 0, .int .i64 0, .slice A9 0 c9] 29)) := (Below.refl _ _).alloc (Nat.le_refl _) _
      have hbz : Below wc.heap.size wc (w9.alloc (.cells #[.int .i64 0, .int .i64 0, .int .i64 0, .int .i64 0, .slice A9 0 c9] 29)) := hbx.trans (hb10.mono (by omega))
      have hgz := hgc.below hbz
      have hxz := hxc.below hbz
      obtain ⟨⟨x0, x1, x2, x3, x4⟩, _, xlt⟩ := hxz.all5
      obtain ⟨⟨v0, v1, v2, v3, v4⟩, _, vlt⟩ := hgz.all5
      have hgl := hgc.lt
      have hxl := hxc.lt
      have gl1 : g < w9.heap.size := by omega
      have gl2 : w3.heap.size < w9.heap.size := by omega
      obtain ⟨⟨p0, p1, p2, p3, p4⟩, _, _⟩ := (hgc.below hbx).all5
      obtain ⟨⟨t0, t1, t2, t3, t4⟩, _, _⟩ := (hxc.below hbx).all5
      clear hr7 hr9 hb3' hd3 hpq hpb hpf hz7
      go_wp2_with fail
      have hr10 : Byt (fun k => k < w3.heap.size) (w9.alloc (.cells #[.int .i64 0, .int .i64 0, .int .i64 0, .int .i64 0, .slice A9 0 c9] 29)) (.slice A3 a.body.length c3) a.body :=
        hr7'.below hbz
      refine (same_any _ _ a a _ _ _ hr10 (hxa.below (by rw [hga]; exact hB6g.trans (hbz.mono (by omega))))).mono ?_
      rintro e w11 ⟨rfl, hb11⟩
      have ht : decide (a = a) = true := by simp
      rw [ht]
      clear ht hr10
      go_wp2_with fail
      refine (awake8 _).mono ?_
      rintro e w12 ⟨rfl, hb12⟩
      go_wp2
      go_ret
      exact ⟨rfl, by rw [hga]; exact (hB6g.trans (hbz.mono (by omega))).trans ((below_now hb11 hb11.size hb12).mono (by simp; omega))⟩
  · have hn : (a.err != 0) = true := by simp [he]
    rw [if_neg he] at hop
    obtain ⟨Ap, cp, rfl⟩ := hop.shape
    clear hop he
    go_wp2_with fail
    refine (awake8 _).mono ?_
    rintro e w5 ⟨rfl, hb5⟩
    go_wp2
    go_ret
    exact ⟨rfl, by rw [hga]; exact hB2.trans (hb5.mono hs2)⟩
end Go.Proofs.Ytfpnodboebpemaa
