/- The walk of FrameApart. -/
import Derived.Test.YtfpnodboebpemaaLaw8
import Derived.Test.YtfpnodboebpemaaFrmM
import Derived.Test.YtfpnodboebpemaaArg
namespace Go.Proofs.Ytfpnodboebpemaa
open Go.RowKit Go.Proofs.YtfpnodboebpemaaW.PrintWords
set_option linter.unusedVariables false
set_option linter.unusedSimpArgs false

theorem Blk.cells5 {w : World} {g t : Nat} {a b c d e : Value} (h : Blk w g t #[a, b, c, d, e]) :
    w.cell? ⟨g, 0, none⟩ = some a ∧ w.cell? ⟨g, 1, none⟩ = some b ∧ w.cell? ⟨g, 2, none⟩ = some c ∧ w.cell? ⟨g, 3, none⟩ = some d ∧ w.cell? ⟨g, 4, none⟩ = some e :=
  ⟨h.cell 0, h.cell 1, h.cell 2, h.cell 3, h.cell 4⟩

set_option maxRecDepth 100000 in
set_option maxHeartbeats 4000000 in
theorem frameApart_walk (a : Fb) (u : Value) (b : Fb) (v : Value) (w : World)
    (hxa : Byt (fun k => k < w.heap.size) w u a.body) (hba : IsB a.body) (hxb : Byt (fun k => k < w.heap.size) w v b.body) (hbb : IsB b.body) :
    Calls Try.prog 4 #[a.val u, b.val v] w fun e w' => e = .returned (.bool true) ∧ Below w.heap.size w w' := by
  obtain ⟨A, ca, rfl, _⟩ := hxa.open_
  obtain ⟨B, cb, rfl, _⟩ := hxb.open_
  unfold Fb.val
  generalize hW : ((w.alloc (.cells #[.int .i64 a.kind, .int .i64 a.epoch, .int .i64 a.seq, .int .i64 a.lba, .slice A a.body.length ca] 31)).alloc (.cells #[.int .i64 b.kind, .int .i64 b.epoch, .int .i64 b.seq, .int .i64 b.lba, .slice B b.body.length cb] 31)) = w0
  have hB0 : Below w.heap.size w w0 := by rw [← hW]; exact ((Below.refl _ _).alloc (Nat.le_refl _) _).alloc (by simp) _
  have HW := Lib.hid hW
  clear hW
  by_cases h1 : 39 < a.body.length
  · go_enter Try.func4, Try.ntmps4
    go_wp2_with fail
    rw [HW.out]
    refine (awake8 _).mono ?_
    rintro e w1 ⟨rfl, hb⟩
    go_wp2
    go_ret
    exact ⟨rfl, hB0.trans (hb.mono hB0.size)⟩
  by_cases h2 : 300 < b.body.length
  · go_enter Try.func4, Try.ntmps4
    go_wp2_with fail
    rw [HW.out]
    refine (awake8 _).mono ?_
    rintro e w1 ⟨rfl, hb⟩
    go_wp2
    go_ret
    exact ⟨rfl, hB0.trans (hb.mono hB0.size)⟩
  go_enter Try.func4, Try.ntmps4
  go_wp2_with fail
  rw [HW.out]
  have hg0 : Blk w0 w.heap.size 31 #[.int .i64 a.kind, .int .i64 a.epoch, .int .i64 a.seq, .int .i64 a.lba, .slice A a.body.length ca] := by
    rw [← HW.out]; exact (Blk.new w 31 _).below ((Below.refl _ _).alloc (Nat.le_refl _) _)
  have hk0 : Blk w0 (w.heap.size + 1) 31 #[.int .i64 b.kind, .int .i64 b.epoch, .int .i64 b.seq, .int .i64 b.lba, .slice B b.body.length cb] := by
    rw [← HW.out]; have h := Blk.new (w.alloc (.cells #[.int .i64 a.kind, .int .i64 a.epoch, .int .i64 a.seq, .int .i64 a.lba, .slice A a.body.length ca] 31)) 31 #[.int .i64 b.kind, .int .i64 b.epoch, .int .i64 b.seq, .int .i64 b.lba, .slice B b.body.length cb]
    simpa using h
  clear HW
  generalize hga : w.heap.size = g at *
  refine (made_any a A _ ca _).mono ?_
  rintro e w1 ⟨rfl, hb1⟩
  have hB1 : Below g w w1 := hB0.trans (hb1.mono (by rw [← hga]; exact hB0.size))
  go_wp2_with fail
  have hs0 : g ≤ w0.heap.size := by rw [← hga]; exact hB0.size
  have hs1 : g ≤ w1.heap.size := by rw [← hga]; exact hB1.size
  refine (encode_any _ a _ _ (hxa.below (by rw [hga]; exact hB1)) hba).mono ?_
  rintro e w2 ⟨p, rfl, hop, hb2⟩
  have hB2 : Below g w w2 := hB1.trans (hb2.mono hs1)
  have hs2 : g ≤ w2.heap.size := by rw [← hga]; exact hB2.size
  have hg2 := (hg0.below hb1).below hb2
  have hk2 := (hk0.below hb1).below hb2
  obtain ⟨c0, c1, c2, c3, c4⟩ := hg2.cells5
  obtain ⟨d0, d1, d2, d3, d4⟩ := hk2.cells5
  clear hg0 hk0
  go_wp2_with fail
  refine (made_any b B _ cb _).mono ?_
  rintro e w3 ⟨rfl, hb3⟩
  have hB3 : Below g w w3 := hB2.trans (hb3.mono hs2)
  have hs3 : g ≤ w3.heap.size := by rw [← hga]; exact hB3.size
  go_wp2_with fail
  refine (encode_any _ b _ _ (hxb.below (by rw [hga]; exact hB3)) hbb).mono ?_
  rintro e w4 ⟨q, rfl, hoq, hb4⟩
  have hB4 : Below g w w4 := hB3.trans (hb4.mono hs3)
  have hs4 : g ≤ w4.heap.size := by rw [← hga]; exact hB4.size
  have hg4 := (hg2.below hb3).below hb4
  have hk4 := (hk2.below hb3).below hb4
  clear hg2 hk2 c0 c1 c2 c3 c4 d0 d1 d2 d3 d4
  by_cases he : a.err = 0
  · by_cases hf : b.err = 0
    · rw [he] at hop ⊢
      rw [hf] at hoq ⊢
      rw [if_pos rfl] at hop hoq
      obtain ⟨c0, c1, c2, c3, c4⟩ := hg4.cells5
      obtain ⟨d0, d1, d2, d3, d4⟩ := hk4.cells5
      have HE := Lib.hid he
      have HF := Lib.hid hf
      have gl4 : g + 1 < w4.heap.size := hk4.lt
      have gl3 : g < w4.heap.size := hg4.lt
      have gl5 : g < w4.heap.size + 1 := by omega
      have gl6 : g + 1 < w4.heap.size + 1 := by omega
      clear he hf
      by_cases g1 : 39 < a.body.length
      · exact absurd g1 h1
      -- append([]byte{}, a.Body...), 0
      have eC : (w4.alloc (.cells #[.int .i64 a.kind, .int .i64 a.epoch, .int .i64 a.seq, .int .i64 a.lba, .slice A a.body.length ca] 31)).heap.size = w4.heap.size + 1 := by simp
      have hc5 := Blk.new w4 31 #[.int .i64 a.kind, .int .i64 a.epoch, .int .i64 a.seq, .int .i64 a.lba, .slice A a.body.length ca]
      have hB5 : Below g w (w4.alloc (.cells #[.int .i64 a.kind, .int .i64 a.epoch, .int .i64 a.seq, .int .i64 a.lba, .slice A a.body.length ca] 31)) := hB4.alloc hs4 _
      have hBc : Below w4.heap.size w4 (w4.alloc (.cells #[.int .i64 a.kind, .int .i64 a.epoch, .int .i64 a.seq, .int .i64 a.lba, .slice A a.body.length ca] 31)) := (Below.refl _ _).alloc (Nat.le_refl _) _
      have ho6 := World.ownsRow_made (base := w4.heap.size + 1) (e := 5) (size := 1) (w4.alloc (.cells #[.int .i64 a.kind, .int .i64 a.epoch, .int .i64 a.seq, .int .i64 a.lba, .slice A a.body.length ca] 31)) #[] 0 (by simp) (by decide) (by simp)
      have hB6 : Below (w4.heap.size + 1) (w4.alloc (.cells #[.int .i64 a.kind, .int .i64 a.epoch, .int .i64 a.seq, .int .i64 a.lba, .slice A a.body.length ca] 31)) ((w4.alloc (.cells #[.int .i64 a.kind, .int .i64 a.epoch, .int .i64 a.seq, .int .i64 a.lba, .slice A a.body.length ca] 31)).alloc (.cells #[] 5)) := (Below.refl _ _).alloc (by simp) _
      have hx6 := (hxa.below (by rw [hga]; exact hB5)).below (hB6.mono (by simp))
      obtain ⟨v7, w7, hr7, ho7, hg7, _⟩ := run_append_o (P := Try.prog) _ (w4.heap.size + 1) 23 23 5 (.int .u8 0) 1 1 Try.underlying23 info5 rfl (by decide) _ 0 [] ho6 _ a.body.length (nums .u8 a.body) hx6 (nums_one _ _) (by simp only [maxLen]; omega) (by omega) (by simp)
      have hB7 := below_app hB6 (by simp) ho6 hg7
      simp only [Nat.zero_add, List.nil_append] at ho7
      rw [eC] at hr7
      have hs7 : w4.heap.size + 1 ≤ w7.heap.size := by have := hB7.size; simpa using this
      obtain ⟨A7, c7, rfl⟩ := own_shape ho7
      have hBx : Below w7.heap.size w7 (w7.alloc (.cells #[.int .u8 0] 5)) := (Below.refl _ w7).alloc (Nat.le_refl _) (.cells #[.int .u8 0] 5)
      have ho8 := pw_own_below ho7 hBx
      have hx8 : SlC (fun _ => True) (w7.alloc (.cells #[.int .u8 0] 5)) 1 (.slice (some ⟨w7.heap.size, 0, none⟩) 1 1) 1 (nums .u8 [0]) :=
        ⟨_, 1, rfl, rfl, by omega, by decide, fun _ => ⟨_, 0, rfl, trivial, by simp, fun i u hu => by
          have h := Blk.new w7 5 #[.int .u8 0]
          rw [h.cell, ← hu]
          cases i <;> simp [nums]⟩⟩
      obtain ⟨v9, w9, hr9, ho9, hg9, _⟩ := run_append_o (P := Try.prog) _ (w4.heap.size + 1) 23 23 5 (.int .u8 0) 1 1 Try.underlying23 info5 rfl (by decide) _ _ _ ho8 _ 1 (nums .u8 [0]) hx8 (nums_one _ _) (by simp only [maxLen]; omega) (by omega) (by simp; omega)
      have hB9 := below_app (hB7.trans (hBx.mono hs7)) (by simp; omega) ho8 hg9
      rw [← nums_append] at ho9
      have hs9 : w4.heap.size + 1 ≤ w9.heap.size := by have := hB9.size; simpa using this
      obtain ⟨A9, c9, rfl⟩ := own_shape ho9
      have hc9 : Blk w9 w4.heap.size 31 #[.int .i64 a.kind, .int .i64 a.epoch, .int .i64 a.seq, .int .i64 a.lba, .slice A a.body.length ca] := (hB9.block _ (by simp)).trans hc5
      have hB9' : Below w4.heap.size w4 w9 := hBc.trans (hB9.mono (by simp))
      have hg9' := hg4.below hB9'
      have hk9 := hk4.below hB9'
      have H7 := Lib.hid hr7
      have H9 := Lib.hid hr9
      clear hr7 hr9 ho6 ho8 hx8 hx6 hg7 hg9 eC hB6 hBc ho7
      obtain ⟨e0, e1, e2, e3, e4⟩ := hc9.cells5
      have z9 := hc9.frozen 4
      have l9 := hc9.lt
      clear hc5
      go_wp2_with (at_builtin; first | (refine Lib.wpList_append_run _ rfl _ _ _ _ rfl _ _ rfl rfl _ _ H7.out ?_) | (refine Lib.wpList_append_run _ rfl _ _ _ _ rfl _ _ rfl rfl _ _ H9.out ?_))
      have ho10 := ownsRow_setCell_below ho9 (a := ⟨w4.heap.size, 4, none⟩) (by simp) (.slice A9 (a.body.length + 1) c9)
      have hB10 : Below w4.heap.size w4 (w9.setCell ⟨w4.heap.size, 4, none⟩ (.slice A9 (a.body.length + 1) c9)) := hB9'.setCell (Nat.le_refl _) _
      have hs10 : (w9.setCell ⟨w4.heap.size, 4, none⟩ (.slice A9 (a.body.length + 1) c9)).heap.size = w9.heap.size := by simp
      clear H7 H9 c0 c1 c2 c3 c4 d0 d1 d2 d3 d4 e0 e1 e2 e3 e4 z9 hc9 hB9 hB7 hB9' hg9' hk9 ho9 hBx
      generalize w9.setCell ⟨w4.heap.size, 4, none⟩ (.slice A9 (a.body.length + 1) c9) = w10 at *
      have hl9 : (a.body ++ [0]).length = a.body.length + 1 := by simp
      have ho11 : BytO w10 (w4.heap.size + 1) (.slice A9 (a.body.length + 1) c9) (a.body ++ [0]) := by unfold BytO; rw [hl9]; exact ho10
      clear ho10
      refine (made_any ⟨a.kind, a.epoch, a.seq, a.lba, a.body ++ [0]⟩ A9 _ c9 _).mono ?_
      rintro e w11 ⟨rfl, hb11⟩
      go_wp2_with fail
      refine (encode_any _ ⟨a.kind, a.epoch, a.seq, a.lba, a.body ++ [0]⟩ _ _ (ho11.fresh.below hb11) (by exact hba.append (by intro x hx; simp at hx; omega))).mono ?_
      rintro e w12 ⟨r, rfl, hor, hb12⟩
      go_wp2_with fail
      have hs11 : w10.heap.size ≤ w11.heap.size := hb11.size
      have hs12 : w11.heap.size ≤ w12.heap.size := hb12.size
      have hBa : Below w4.heap.size w4 w12 := hB10.trans (((hb11.mono (by omega)).trans (hb12.mono (by omega))))
      have hBw : Below g w w12 := hB4.trans (hBa.mono hs4)
      obtain ⟨fa, la⟩ := err_fits HE.out
      obtain ⟨fb, lb⟩ := err_fits HF.out
      have fc : (Fb.mk a.kind a.epoch a.seq a.lba (a.body ++ [0])).fits := fa
      have lc : (Fb.mk a.kind a.epoch a.seq a.lba (a.body ++ [0])).body.length ≤ 40 := by simp only [List.length_append, List.length_cons, List.length_nil]; omega
      have hce := err_of fc lc
      rw [hce] at hor ⊢
      rw [if_pos rfl] at hor
      have hac : ¬ a.enc = (Fb.mk a.kind a.epoch a.seq a.lba (a.body ++ [0])).enc := by
        rw [enc_inj fa la fc lc]
        intro h
        have : a.body = a.body ++ [0] := congrArg Fb.body h
        have := congrArg List.length this
        simp at this
      have hgw : w12.heap.size = w12.heap.size := rfl
      have hs5 : w4.heap.size ≤ w12.heap.size := hBa.size
      have C58 : ∀ W, Below w12.heap.size w12 W → Calls Try.prog 31 #[p, q] W fun e W' => e = .returned (.bool (decide (a = b))) ∧ Below w12.heap.size w12 W' := fun W hW => by
        have kW : Below w4.heap.size w4 W := hBa.trans (hW.mono hs5)
        refine (bytes_any _ _ p q a.enc b.enc W (((hop.fresh.below hb3).below hb4).below kW) (hoq.fresh.below kW)).mono ?_
        rintro e W' ⟨rfl, n, rfl⟩
        exact ⟨ret_of (by simp only [enc_inj fa la fb lb]), hW.trans ((below_draw _ n).mono hW.size)⟩
      have C71 : ∀ W, Below w12.heap.size w12 W → Calls Try.prog 31 #[p, r] W fun e W' => e = .returned (.bool false) ∧ Below w12.heap.size w12 W' := fun W hW => by
        have kW : Below w4.heap.size w4 W := hBa.trans (hW.mono hs5)
        refine (bytes_any _ _ p r a.enc _ W (((hop.fresh.below hb3).below hb4).below kW) (hor.fresh.below hW)).mono ?_
        rintro e W' ⟨rfl, n, rfl⟩
        exact ⟨ret_of (by simp [hac]), hW.trans ((below_draw _ n).mono hW.size)⟩
      have C76 : ∀ W, Below w12.heap.size w12 W → Calls Try.prog 33 #[p] W fun e W' => e = .returned (.bool false) ∧ Below w12.heap.size w12 W' := fun W hW => by
        have kW : Below w4.heap.size w4 W := hBa.trans (hW.mono hs5)
        refine (plain_any _ p a.enc W (((hop.fresh.below hb3).below hb4).below kW)).mono ?_
        rintro e W' ⟨rfl, rfl⟩
        exact ⟨ret_of (by rw [enc_plain a fa.1]), hW⟩
      have C60 : ∀ W, Below w12.heap.size w12 W → Calls Try.prog 30 #[.agg #[.int .i64 a.kind, .int .i64 a.epoch, .int .i64 a.seq, .int .i64 a.lba, .slice A a.body.length ca]] W fun e W' => e = .returned (.agg #[.int .i64 a.kind, .int .i64 a.epoch, .int .i64 a.seq, .int .i64 a.lba, .slice A a.body.length ca]) ∧ Below w12.heap.size w12 W' := fun W hW =>
        (made_any a A _ ca W).mono fun e W' h => ⟨h.1, hW.trans (h.2.mono hW.size)⟩
      have C62 : ∀ W, Below w12.heap.size w12 W → Calls Try.prog 32 #[.agg #[.int .i64 a.kind, .int .i64 a.epoch, .int .i64 a.seq, .int .i64 a.lba, .slice A a.body.length ca], .agg #[.int .i64 b.kind, .int .i64 b.epoch, .int .i64 b.seq, .int .i64 b.lba, .slice B b.body.length cb]] W fun e W' => e = .returned (.bool (decide (a = b))) ∧ Below w12.heap.size w12 W' := fun W hW => by
        have kW : Below g w W := hBw.trans (hW.mono (by omega))
        exact (same_any _ _ a b _ _ W (hxa.below (by rw [hga]; exact kW)) (hxb.below (by rw [hga]; exact kW))).mono fun e W' h => ⟨h.1, hW.trans (h.2.mono hW.size)⟩
      have C80 : ∀ W, Below w12.heap.size w12 W → Calls Try.prog 27 #[] W fun e W' => e = .returned (.bool true) ∧ Below w12.heap.size w12 W' := fun W hW =>
        (awake8 W).mono fun e W' h => ⟨h.1, hW.trans (h.2.mono hW.size)⟩
      have hg12 := hg4.below hBa
      have hk12 := hk4.below hBa
      have hS : ∀ W, Below w12.heap.size w12 W → W.cell? ⟨g, 0, none⟩ = some (.int .i64 a.kind) ∧ W.cell? ⟨g, 1, none⟩ = some (.int .i64 a.epoch) ∧ W.cell? ⟨g, 2, none⟩ = some (.int .i64 a.seq) ∧ W.cell? ⟨g, 3, none⟩ = some (.int .i64 a.lba) ∧ W.cell? ⟨g, 4, none⟩ = some (.slice A a.body.length ca)
          ∧ W.cell? ⟨g + 1, 0, none⟩ = some (.int .i64 b.kind) ∧ W.cell? ⟨g + 1, 1, none⟩ = some (.int .i64 b.epoch) ∧ W.cell? ⟨g + 1, 2, none⟩ = some (.int .i64 b.seq) ∧ W.cell? ⟨g + 1, 3, none⟩ = some (.int .i64 b.lba) ∧ W.cell? ⟨g + 1, 4, none⟩ = some (.slice B b.body.length cb) := fun W hW => by
        obtain ⟨x0, x1, x2, x3, x4⟩ := (hg12.below hW).cells5
        obtain ⟨y0, y1, y2, y3, y4⟩ := (hk12.below hW).cells5
        exact ⟨x0, x1, x2, x3, x4, y0, y1, y2, y3, y4⟩
      have HB0 : Below w12.heap.size w12 w12 := Below.refl _ _
      have hend : ∀ W, Below w12.heap.size w12 W → Below w.heap.size w W := fun W hW => by rw [hga]; exact hBw.trans (hW.mono (by omega))
      obtain ⟨x0, x1, x2, x3, x4, y0, y1, y2, y3, y4⟩ := hS w12 HB0
      generalize decide (a = b) = D at *
      clear hop hoq hor hg4 hk4 hg12 hk12 hBa hBw hac hce fa fb fc la lb lc HE HF hb11 hb12 hB10 hB0 hB1 hB2 hB3 hB4 hB5 hb1 hb2 hb3 hb4 hxa hxb hba hbb hs0 hs1 hs2 hs3 hs4 hs5 hs7 hs9 hs10 hs11 hs12 ho11 hgw gl3 gl4 gl5 gl6 h1 h2 g1 l9 hl9 hga
      have H58 := Lib.hid C58
      have H71 := Lib.hid C71
      have H76 := Lib.hid C76
      have H60 := Lib.hid C60
      have H62 := Lib.hid C62
      have H80 := Lib.hid C80
      have HS := Lib.hid hS
      have HD := Lib.hid hend
      clear C58 C71 C76 C60 C62 C80 hS hend
      go_region_held3 (fun W => W.cell? ⟨g, 0, none⟩ = some (.int .i64 a.kind) ∧ W.cell? ⟨g, 1, none⟩ = some (.int .i64 a.epoch) ∧ W.cell? ⟨g, 2, none⟩ = some (.int .i64 a.seq) ∧ W.cell? ⟨g, 3, none⟩ = some (.int .i64 a.lba) ∧ W.cell? ⟨g, 4, none⟩ = some (.slice A a.body.length ca)
          ∧ W.cell? ⟨g + 1, 0, none⟩ = some (.int .i64 b.kind) ∧ W.cell? ⟨g + 1, 1, none⟩ = some (.int .i64 b.epoch) ∧ W.cell? ⟨g + 1, 2, none⟩ = some (.int .i64 b.seq) ∧ W.cell? ⟨g + 1, 3, none⟩ = some (.int .i64 b.lba) ∧ W.cell? ⟨g + 1, 4, none⟩ = some (.slice B b.body.length cb))
        (first | exact HS.out _ (by first | assumption | (apply Below.drew; assumption)) | go_keep)
        (first
          | (go_at_call_of 31 q; refine (H58.out _ (by first | assumption | (apply Below.drew; assumption))).mono ?_; rintro e W1 ⟨rfl, HB1⟩; obtain ⟨x0, x1, x2, x3, x4, y0, y1, y2, y3, y4⟩ := HS.out _ HB1)
          | (go_at_call_of 31 r; refine (H71.out _ (by first | assumption | (apply Below.drew; assumption))).mono ?_; rintro e W1 ⟨rfl, HB1⟩; obtain ⟨x0, x1, x2, x3, x4, y0, y1, y2, y3, y4⟩ := HS.out _ HB1)
          | (go_at_call 33; refine (H76.out _ (by first | assumption | (apply Below.drew; assumption))).mono ?_; rintro e W1 ⟨rfl, HB1⟩; obtain ⟨x0, x1, x2, x3, x4, y0, y1, y2, y3, y4⟩ := HS.out _ HB1)
          | (go_at_call 30; refine (H60.out _ (by first | assumption | (apply Below.drew; assumption))).mono ?_; rintro e W1 ⟨rfl, HB1⟩; obtain ⟨x0, x1, x2, x3, x4, y0, y1, y2, y3, y4⟩ := HS.out _ HB1)
          | (go_at_call 32; refine (H62.out _ (by first | assumption | (apply Below.drew; assumption))).mono ?_; rintro e W1 ⟨rfl, HB1⟩; obtain ⟨x0, x1, x2, x3, x4, y0, y1, y2, y3, y4⟩ := HS.out _ HB1)
          | (go_at_call 27; refine (H80.out _ (by first | assumption | (apply Below.drew; assumption))).mono ?_; rintro e W1 ⟨rfl, HB1⟩; obtain ⟨x0, x1, x2, x3, x4, y0, y1, y2, y3, y4⟩ := HS.out _ HB1))
      all_goals (go_wp2_with fail; go_ret; exact ⟨rfl, HD.out _ (by first | assumption | (apply Below.drew; assumption))⟩)
    · have hn : (b.err != 0) = true := by simp [hf]
      rw [he]
      clear hop hoq hg4 hk4 he hf
      go_wp2_with fail
      refine (awake8 _).mono ?_
      rintro e w5 ⟨rfl, hb5⟩
      go_wp2
      go_ret
      exact ⟨rfl, by rw [hga]; exact hB4.trans (hb5.mono hs4)⟩
  · have hn : (a.err != 0) = true := by simp [he]
    clear hop hoq hg4 hk4 he
    go_wp2_with fail
    refine (awake8 _).mono ?_
    rintro e w5 ⟨rfl, hb5⟩
    go_wp2
    go_ret
    exact ⟨rfl, by rw [hga]; exact hB4.trans (hb5.mono hs4)⟩

theorem frameApart_row {w : World} (a : Fb) (u : Value) (hxa : Byt (fun k => k < w.heap.size) w u a.body) (hba : IsB a.body) (_ : a.ints) (b : Fb) (v : Value) (hxb : Byt (fun k => k < w.heap.size) w v b.body) (hbb : IsB b.body) (_ : b.ints) :
    Calls Try.prog 4 #[a.val u, b.val v] w fun e w' => e = .returned (.bool true) ∧ Below w.heap.size w w' := frameApart_walk a u b v w hxa hba hxb hbb
end Go.Proofs.Ytfpnodboebpemaa
