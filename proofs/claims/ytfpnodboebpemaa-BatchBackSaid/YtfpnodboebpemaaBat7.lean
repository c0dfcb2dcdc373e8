/- awake of scarplaw17; BatchLimits. -/
import Derived.Test.YtfpnodboebpemaaBat6
namespace Go.Proofs.Ytfpnodboebpemaa
open Go.RowKit Go.Proofs.YtfpnodboebpemaaW.PrintWords
set_option linter.unusedVariables false
set_option linter.unusedSimpArgs false
def awB : BatL := ⟨1, [⟨5, [⟨3, bk 40 1⟩]⟩]⟩
theorem aw_can : awB.can 7 := by
  refine ⟨⟨⟨by decide, by decide, by decide, by decide, fun i hi => ?_, by decide⟩, fun i hi => ?_⟩, by decide, by decide⟩
  · obtain rfl : i = 0 := by simp [awB] at hi; omega
    refine ⟨by decide, by decide, by decide, fun k hk => ?_⟩
    have : k + 1 < 1 := hk
    omega
  · obtain rfl : i = 0 := by simp [awB] at hi; omega
    refine ⟨fun h => by omega, by decide, fun p hp => ?_⟩
    have hp : p ∈ [(⟨3, bk 40 1⟩ : PutL)] := hp
    rw [List.mem_singleton.1 hp]
    exact ⟨by decide, by decide, bk_length _ _⟩
theorem lim_c {n puts gap : Nat} (h1 : n ≤ 12) (h2 : puts ≤ 20) (h3 : gap ≤ 70000) : (⟨1, limTs puts gap n⟩ : BatL).chk = 0 ↔ limOk n puts gap := chk_iff.trans (lim_may h1 h2 h3)
theorem lim_can {n puts gap : Nat} (h1 : n ≤ 12) (h2 : puts ≤ 20) (h3 : gap ≤ 70000) : (⟨1, limTs puts gap n⟩ : BatL).can 0 ↔ limOk n puts gap := by
  unfold BatL.can
  rw [lim_may h1 h2 h3]
  exact ⟨fun h => h.1, fun h => ⟨h, by decide, by decide⟩⟩
theorem lim_e {n puts gap : Nat} (h1 : n ≤ 12) (h2 : puts ≤ 20) (h3 : gap ≤ 70000) : encE (⟨1, limTs puts gap n⟩ : BatL) 0 = 0 ↔ limOk n puts gap := encE_iff.trans (lim_can h1 h2 h3)
theorem lim_l {n puts gap : Nat} (h1 : n ≤ 12) (h2 : puts ≤ 20) (h3 : gap ≤ 70000) : (((encR (⟨1, limTs puts gap n⟩ : BatL) 0).length : Nat) : Int) = (n : Int) * (puts : Int) + 1 ↔ limOk n puts gap := by
  rw [← lim_can h1 h2 h3]
  by_cases h : (⟨1, limTs puts gap n⟩ : BatL).can 0
  · rw [encR_yes h, encB_length]
    simp only [h, iff_true, limTs_sum]; push_cast; rfl
  · rw [encR_no h]
    simp only [h, iff_false, List.length_nil]
    have : (n : Int) * (puts : Int) = ((n * puts : Nat) : Int) := by push_cast; rfl
    omega
attribute [local irreducible] pt rowH slK bytesK intsK rowsK rowsH cellK rowsV oldK star exH pureH knowH starL emp devH zoneH zonesH zrest cellsK viewV viewK viewH putE txE batE

set_option maxHeartbeats 4000000 in
theorem awake17_ct {M : List HP} {K : List KP} : Fn 43 [] M K (fun _ : Unit => True) (fun _ => .bool true) (fun _ => M) (fun _ => K) := by
 refine Fn.of (n := 42) Try.func43 rfl Try.ntmps43 rfl ?_
 refine T.seq ?_
 -- region 0 (law.go:15)
 refine T.region ?_
 refine T.y (fun w hw => Yl.assign rfl) rfl rfl ?_
 refine T.nil ?_
 refine J.sel .nil ?_
 refine X.then_ ?_
 refine T.seq ?_
 -- region 1 (law.go:16)
 refine T.region ?_
 refine T.o (OpW.call en_44 rfl (data_ct)) rfl rfl (fun ⟨A4, c4⟩ _ => ?_)
 dsimp only
 refine T.y (fun w hw => Yl.build rfl (bld_61_0_1 _)) rfl rfl ?_
 refine T.o (OpW.bsl (sz := 2) rfl bsl_56_1 rfl rfl) rfl rfl (fun b6 _ => ?_)
 refine T.y (fun w hw => Yl.build rfl (bld_58_0_1 _)) rfl rfl ?_
 refine T.o (OpW.bsl (sz := 2) rfl bsl_53_1 rfl rfl) rfl rfl (fun b8 _ => ?_)
 refine T.y (fun w hw => Yl.build rfl (bld_55_0_1 _)) rfl rfl ?_
 refine T.o (OpW.alloc zr_55) rfl rfl (fun b1 _ => ?_)
 refine T.o0 (OpW.stA sz_55 rfl rfl rfl rfl sW uL) rfl (fun _ _ => ?_)
 refine T.nil ?_
 refine J.sel (.cons 1 rfl .nil) ?_
 refine X.then_ ?_
 refine T.seq ?_
 refine J.ent (fun w hw => hw.putE' (A := A4) (c := c4) (p := ⟨3, bk 40 1⟩) mM rfl) ?_
 refine J.ent (fun w hw => Hold.view_lit (e := 61) (sz := 2) (el := putE) (x := ⟨3, bk 40 1⟩) (vs := [.int .i64 (⟨3, bk 40 1⟩ : PutL).lba, .slice A4 (⟨3, bk 40 1⟩ : PutL).data.length c4]) (A := some ⟨b6, 0, none⟩) (c := 1) (hw.pick pK) rfl mM) ?_
 refine J.ent (fun w hw => hw.txE' (A := (some ⟨b6, 0, none⟩)) (c := 1) (t := ⟨5, [⟨3, bk 40 1⟩]⟩) mM rfl) ?_
 refine J.ent (fun w hw => Hold.view_lit (e := 58) (sz := 2) (el := txE) (x := ⟨5, [⟨3, bk 40 1⟩]⟩) (vs := [.int .i64 (⟨5, [⟨3, bk 40 1⟩]⟩ : TxL).time, .slice (some ⟨b6, 0, none⟩) (⟨5, [⟨3, bk 40 1⟩]⟩ : TxL).puts.length 1]) (A := some ⟨b8, 0, none⟩) (c := 1) (hw.pick pK) rfl mM) ?_
 -- region 2 (law.go:17)
 refine T.region ?_
 refine T.y (fun w hw => Yl.ldaP hw ag_55 rfl mM sU) rfl rfl ?_
 refine T.o (OpW.call en_45 rfl (encode_b_ct (b := awB) mM)) rfl rfl (fun ⟨A12, c12⟩ _ => ?_)
 dsimp only
 rw [encR_yes aw_can, encE_yes aw_can]
 refine T.y (fun w hw => Yl.move rfl) rfl rfl ?_
 refine T.y (fun w hw => Yl.extract rfl rfl) rfl rfl ?_
 refine T.y (fun w hw => Yl.extract rfl rfl) rfl rfl ?_
 refine T.y (fun w hw => Yl.assign rfl) rfl rfl ?_
 refine T.y (fun w hw => Yl.assign rfl) rfl rfl ?_
 refine T.nil ?_
 refine J.sel (.cons 1 rfl (.cons 2 rfl (.cons 3 rfl .nil))) ?_
 refine X.then_ ?_
 refine T.seq ?_
 have hq : (encB awB 7)[1]? = some (lastRow awB 7).enc := rfl
 have hl2 : (encB awB 7).length = 2 := rfl
 refine J.open_ (fun w hw => hw.rows_at (A := A12) (c := c12) (rows := encB awB 7) mM hq) ?_
 rintro ⟨Aq, cq⟩ -
 dsimp only
 have hq64 := enc_length (lastRow awB 7) (err_fits (last_err aw_can)).2
 have hq0 := enc_rd0 (lastRow awB 7)
 -- region 3 (law.go:18)
 refine T.region ?_
 refine T.y (fun w hw => Yl.move rfl) rfl rfl ?_
 refine T.y (fun w hw => Yl.eql rfl rfl) rfl rfl ?_
 refine T.y (fun w hw => Yl.move rfl) rfl rfl ?_
 refine T.y (fun w hw => Yl.move rfl) rfl rfl ?_
 refine T.y (fun w hw => Yl.len Try.underlying62 rfl) rfl rfl ?_
 refine T.y (fun w hw => Yl.eql rfl rfl) rfl rfl ?_
 refine T.y (fun w hw => Yl.pickT rfl rfl) rfl rfl ?_
 refine T.y (fun w hw => Yl.move rfl) rfl rfl ?_
 refine T.splitD 22 rfl (fun h22 => ?_) (fun h22 => ?_)
 ·skip
  refine T.y (fun w hw => Yl.move rfl) rfl rfl ?_
  refine T.y (fun w hw => (by first | exact Yl.iaK (i := 1) hw mM Try.underlying62 isz_23 rfl rfl rfl (by omega) | exact Yl.ia1 (i := 1) sC Try.underlying62 isz_23 rfl rfl rfl (by omega))) rfl rfl ?_
  refine T.y (fun w hw => (by first | exact Yl.ldC hw na_23 rfl mM | exact Yl.ldR sC na_23 rfl (by assumption) | exact Yl.ldV hw na_23 rfl mM rfl)) rfl rfl ?_
  refine T.y (fun w hw => Yl.len Try.underlying23 rfl) rfl rfl ?_
  refine T.y (fun w hw => Yl.eql rfl rfl) rfl rfl ?_
  refine T.y (fun w hw => Yl.pickT rfl rfl) rfl rfl ?_
  refine T.y (fun w hw => Yl.move rfl) rfl rfl ?_
  refine T.splitD 29 rfl (fun h29 => ?_) (fun h29 => ?_)
  ·skip
   refine T.y (fun w hw => Yl.move rfl) rfl rfl ?_
   refine T.y (fun w hw => (by first | exact Yl.iaK (i := 1) hw mM Try.underlying62 isz_23 rfl rfl rfl (by omega) | exact Yl.ia1 (i := 1) sC Try.underlying62 isz_23 rfl rfl rfl (by omega))) rfl rfl ?_
   refine T.y (fun w hw => (by first | exact Yl.ldC hw na_23 rfl mM | exact Yl.ldR sC na_23 rfl (by assumption) | exact Yl.ldV hw na_23 rfl mM rfl)) rfl rfl ?_
   refine T.y (fun w hw => Yl.ia1 (i := 0) sC Try.underlying23 isz_5 rfl rfl rfl (by omega)) rfl rfl ?_
   refine T.y (fun w hw => (by first | exact Yl.ldB hw mM na_5 rfl (by omega) | exact Yl.ldC hw na_5 rfl mM | exact Yl.ldR sC na_5 rfl (by assumption) | exact Yl.ldV hw na_5 rfl mM rfl)) rfl rfl ?_
   refine T.y (fun w hw => Yl.eql rfl rfl) rfl rfl ?_
   refine T.y (fun w hw => Yl.pickT rfl rfl) rfl rfl ?_
   refine T.y (fun w hw => Yl.move rfl) rfl rfl ?_
   refine T.splitD 37 rfl (fun h37 => ?_) (fun h37 => ?_)
   ·skip
    refine T.y (fun w hw => Yl.ldaP hw ag_55 rfl mM sU) rfl rfl ?_
    refine T.o (OpW.call en_66 rfl (blocks_ct (ts := awB.txs) mM (by decide))) rfl rfl (fun _ _ => ?_)
    rw [show IntKind.i64.wrap ((blocksN awB.txs : Nat) : Int) = 2 from rfl]
    refine T.y (fun w hw => Yl.eql rfl rfl) rfl rfl ?_
    refine T.y (fun w hw => Yl.pickT rfl rfl) rfl rfl ?_
    refine T.y (fun w hw => Yl.assign rfl) rfl rfl ?_
    refine T.nil ?_
    refine J.sel (.cons 0 rfl .nil) ?_
    refine X.then_ ?_
    refine T.ret ?_
    refine X.ret1 Try.results43 rfl (fun w hw => ?_)
    exact ⟨(), trivial, rfl, hw.f⟩
   · exfalso; (first | omega | exact absurd hq0 (by assumption))
  · exfalso; (first | omega | exact absurd hq0 (by assumption))
 · exfalso; (first | omega | exact absurd hq0 (by assumption))

set_option maxHeartbeats 4000000 in
theorem limits_b_ct {M : List HP} {K : List KP} {n p g : Int} : Fn 7 [.int .i64 n, .int .i64 p, .int .i64 g] M K (fun _ : Unit => True) (fun _ => .bool true) (fun _ => M) (fun _ => K) := by
 refine Fn.of (n := 130) Try.func7 rfl Try.ntmps7 rfl ?_
 refine T.seq ?_
 -- region 0 (law.go:144)
 refine T.region ?_
 refine T.y (fun w hw => Yl.assign rfl) rfl rfl ?_
 refine T.nil ?_
 refine J.sel (.cons 0 rfl (.cons 1 rfl (.cons 2 rfl .nil))) ?_
 refine X.then_ ?_
 refine T.seq ?_
 refine T.seq ?_
 -- region 1 (law.go:145)
 refine T.region ?_
 refine T.y (fun w hw => Yl.move rfl) rfl rfl ?_
 refine T.y (fun w hw => Yl.lss rfl rfl) rfl rfl ?_
 refine T.y (fun w hw => Yl.move rfl) rfl rfl ?_
 refine T.splitD 16 rfl (fun h16 => ?_) (fun h16 => ?_)
 ·skip
  refine T.off rfl rfl rfl ?_
  refine T.off rfl rfl rfl ?_
  refine T.y (fun w hw => Yl.pickT rfl rfl) rfl rfl ?_
  refine T.y (fun w hw => Yl.move rfl) rfl rfl ?_
  refine T.off rfl rfl rfl ?_
  refine T.off rfl rfl rfl ?_
  refine T.y (fun w hw => Yl.pickT rfl rfl) rfl rfl ?_
  refine T.y (fun w hw => Yl.move rfl) rfl rfl ?_
  refine T.off rfl rfl rfl ?_
  refine T.off rfl rfl rfl ?_
  refine T.y (fun w hw => Yl.pickT rfl rfl) rfl rfl ?_
  refine T.y (fun w hw => Yl.move rfl) rfl rfl ?_
  refine T.off rfl rfl rfl ?_
  refine T.off rfl rfl rfl ?_
  refine T.y (fun w hw => Yl.pickT rfl rfl) rfl rfl ?_
  refine T.y (fun w hw => Yl.move rfl) rfl rfl ?_
  refine T.off rfl rfl rfl ?_
  refine T.off rfl rfl rfl ?_
  refine T.y (fun w hw => Yl.pickT rfl rfl) rfl rfl ?_
  refine T.nil ?_
  refine J.sel (.cons 0 rfl (.cons 1 rfl (.cons 2 rfl (.cons 35 rfl .nil)))) ?_
  refine X.then_ ?_
  refine T.condT rfl ?_
  refine T.seq ?_
  -- region 2 (law.go:146)
  refine T.region ?_
  refine T.o (OpW.call en_43 rfl (awake17_ct)) rfl rfl (fun x hx => ?_)
  refine T.y (fun w hw => Yl.assign rfl) rfl rfl ?_
  refine T.nil ?_
  refine J.sel (.cons 6 rfl .nil) ?_
  refine X.then_ ?_
  refine T.ret ?_
  refine X.ret_then ?_
  refine X.ret1 Try.results7 rfl (fun w hw => ?_)
  exact ⟨(), trivial, rfl, hw.f⟩
 ·skip
  refine T.y (fun w hw => Yl.move rfl) rfl rfl ?_
  refine T.y (fun w hw => Yl.gtr rfl rfl) rfl rfl ?_
  refine T.y (fun w hw => Yl.pickF rfl rfl) rfl rfl ?_
  refine T.y (fun w hw => Yl.move rfl) rfl rfl ?_
  refine T.splitD 20 rfl (fun h20 => ?_) (fun h20 => ?_)
  ·skip
   refine T.off rfl rfl rfl ?_
   refine T.off rfl rfl rfl ?_
   refine T.y (fun w hw => Yl.pickT rfl rfl) rfl rfl ?_
   refine T.y (fun w hw => Yl.move rfl) rfl rfl ?_
   refine T.off rfl rfl rfl ?_
   refine T.off rfl rfl rfl ?_
   refine T.y (fun w hw => Yl.pickT rfl rfl) rfl rfl ?_
   refine T.y (fun w hw => Yl.move rfl) rfl rfl ?_
   refine T.off rfl rfl rfl ?_
   refine T.off rfl rfl rfl ?_
   refine T.y (fun w hw => Yl.pickT rfl rfl) rfl rfl ?_
   refine T.y (fun w hw => Yl.move rfl) rfl rfl ?_
   refine T.off rfl rfl rfl ?_
   refine T.off rfl rfl rfl ?_
   refine T.y (fun w hw => Yl.pickT rfl rfl) rfl rfl ?_
   refine T.nil ?_
   refine J.sel (.cons 0 rfl (.cons 1 rfl (.cons 2 rfl (.cons 35 rfl .nil)))) ?_
   refine X.then_ ?_
   refine T.condT rfl ?_
   refine T.seq ?_
   -- region 2 (law.go:146)
   refine T.region ?_
   refine T.o (OpW.call en_43 rfl (awake17_ct)) rfl rfl (fun x hx => ?_)
   refine T.y (fun w hw => Yl.assign rfl) rfl rfl ?_
   refine T.nil ?_
   refine J.sel (.cons 6 rfl .nil) ?_
   refine X.then_ ?_
   refine T.ret ?_
   refine X.ret_then ?_
   refine X.ret1 Try.results7 rfl (fun w hw => ?_)
   exact ⟨(), trivial, rfl, hw.f⟩
  ·skip
   refine T.y (fun w hw => Yl.move rfl) rfl rfl ?_
   refine T.y (fun w hw => Yl.lss rfl rfl) rfl rfl ?_
   refine T.y (fun w hw => Yl.pickF rfl rfl) rfl rfl ?_
   refine T.y (fun w hw => Yl.move rfl) rfl rfl ?_
   refine T.splitD 24 rfl (fun h24 => ?_) (fun h24 => ?_)
   ·skip
    refine T.off rfl rfl rfl ?_
    refine T.off rfl rfl rfl ?_
    refine T.y (fun w hw => Yl.pickT rfl rfl) rfl rfl ?_
    refine T.y (fun w hw => Yl.move rfl) rfl rfl ?_
    refine T.off rfl rfl rfl ?_
    refine T.off rfl rfl rfl ?_
    refine T.y (fun w hw => Yl.pickT rfl rfl) rfl rfl ?_
    refine T.y (fun w hw => Yl.move rfl) rfl rfl ?_
    refine T.off rfl rfl rfl ?_
    refine T.off rfl rfl rfl ?_
    refine T.y (fun w hw => Yl.pickT rfl rfl) rfl rfl ?_
    refine T.nil ?_
    refine J.sel (.cons 0 rfl (.cons 1 rfl (.cons 2 rfl (.cons 35 rfl .nil)))) ?_
    refine X.then_ ?_
    refine T.condT rfl ?_
    refine T.seq ?_
    -- region 2 (law.go:146)
    refine T.region ?_
    refine T.o (OpW.call en_43 rfl (awake17_ct)) rfl rfl (fun x hx => ?_)
    refine T.y (fun w hw => Yl.assign rfl) rfl rfl ?_
    refine T.nil ?_
    refine J.sel (.cons 6 rfl .nil) ?_
    refine X.then_ ?_
    refine T.ret ?_
    refine X.ret_then ?_
    refine X.ret1 Try.results7 rfl (fun w hw => ?_)
    exact ⟨(), trivial, rfl, hw.f⟩
   ·skip
    refine T.y (fun w hw => Yl.move rfl) rfl rfl ?_
    refine T.y (fun w hw => Yl.gtr rfl rfl) rfl rfl ?_
    refine T.y (fun w hw => Yl.pickF rfl rfl) rfl rfl ?_
    refine T.y (fun w hw => Yl.move rfl) rfl rfl ?_
    refine T.splitD 28 rfl (fun h28 => ?_) (fun h28 => ?_)
    ·skip
     refine T.off rfl rfl rfl ?_
     refine T.off rfl rfl rfl ?_
     refine T.y (fun w hw => Yl.pickT rfl rfl) rfl rfl ?_
     refine T.y (fun w hw => Yl.move rfl) rfl rfl ?_
     refine T.off rfl rfl rfl ?_
     refine T.off rfl rfl rfl ?_
     refine T.y (fun w hw => Yl.pickT rfl rfl) rfl rfl ?_
     refine T.nil ?_
     refine J.sel (.cons 0 rfl (.cons 1 rfl (.cons 2 rfl (.cons 35 rfl .nil)))) ?_
     refine X.then_ ?_
     refine T.condT rfl ?_
     refine T.seq ?_
     -- region 2 (law.go:146)
     refine T.region ?_
     refine T.o (OpW.call en_43 rfl (awake17_ct)) rfl rfl (fun x hx => ?_)
     refine T.y (fun w hw => Yl.assign rfl) rfl rfl ?_
     refine T.nil ?_
     refine J.sel (.cons 6 rfl .nil) ?_
     refine X.then_ ?_
     refine T.ret ?_
     refine X.ret_then ?_
     refine X.ret1 Try.results7 rfl (fun w hw => ?_)
     exact ⟨(), trivial, rfl, hw.f⟩
    ·skip
     refine T.y (fun w hw => Yl.move rfl) rfl rfl ?_
     refine T.y (fun w hw => Yl.lss rfl rfl) rfl rfl ?_
     refine T.y (fun w hw => Yl.pickF rfl rfl) rfl rfl ?_
     refine T.y (fun w hw => Yl.move rfl) rfl rfl ?_
     refine T.splitD 32 rfl (fun h32 => ?_) (fun h32 => ?_)
     ·skip
      refine T.off rfl rfl rfl ?_
      refine T.off rfl rfl rfl ?_
      refine T.y (fun w hw => Yl.pickT rfl rfl) rfl rfl ?_
      refine T.nil ?_
      refine J.sel (.cons 0 rfl (.cons 1 rfl (.cons 2 rfl (.cons 35 rfl .nil)))) ?_
      refine X.then_ ?_
      refine T.condT rfl ?_
      refine T.seq ?_
      -- region 2 (law.go:146)
      refine T.region ?_
      refine T.o (OpW.call en_43 rfl (awake17_ct)) rfl rfl (fun x hx => ?_)
      refine T.y (fun w hw => Yl.assign rfl) rfl rfl ?_
      refine T.nil ?_
      refine J.sel (.cons 6 rfl .nil) ?_
      refine X.then_ ?_
      refine T.ret ?_
      refine X.ret_then ?_
      refine X.ret1 Try.results7 rfl (fun w hw => ?_)
      exact ⟨(), trivial, rfl, hw.f⟩
     ·skip
      refine T.y (fun w hw => Yl.move rfl) rfl rfl ?_
      refine T.y (fun w hw => Yl.gtr rfl rfl) rfl rfl ?_
      refine T.y (fun w hw => Yl.pickF rfl rfl) rfl rfl ?_
      refine T.nil ?_
      refine J.sel (.cons 0 rfl (.cons 1 rfl (.cons 2 rfl (.cons 35 rfl .nil)))) ?_
      refine X.then_ ?_
      refine T.condD rfl (fun h35 => ?_) (fun h35 => ?_)
      ·skip
       refine T.seq ?_
       -- region 2 (law.go:146)
       refine T.region ?_
       refine T.o (OpW.call en_43 rfl (awake17_ct)) rfl rfl (fun x hx => ?_)
       refine T.y (fun w hw => Yl.assign rfl) rfl rfl ?_
       refine T.nil ?_
       refine J.sel (.cons 6 rfl .nil) ?_
       refine X.then_ ?_
       refine T.ret ?_
       refine X.ret_then ?_
       refine X.ret1 Try.results7 rfl (fun w hw => ?_)
       exact ⟨(), trivial, rfl, hw.f⟩
      ·skip
       refine T.skip ?_
       refine X.then_ ?_
       refine T.seq ?_
       obtain ⟨N, rfl⟩ : ∃ N : Nat, n = N := ⟨n.toNat, by omega⟩
       obtain ⟨P, rfl⟩ : ∃ P : Nat, p = P := ⟨p.toNat, by omega⟩
       obtain ⟨G, rfl⟩ : ∃ G : Nat, g = G := ⟨g.toNat, by omega⟩
       have hN : N ≤ 12 := by omega
       have hP : P ≤ 20 := by omega
       have hG : G ≤ 70000 := by omega
       have hNP : N * P ≤ 12 * 20 := Nat.mul_le_mul hN hP
       have hNPi : (N : Int) * (P : Int) = ((N * P : Nat) : Int) := by push_cast; rfl
       -- region 3 (law.go:148)
       refine T.region ?_
       refine T.y (fun w hw => Yl.build rfl (bld_55_0 _)) rfl rfl ?_
       refine T.o (OpW.alloc zr_55) rfl rfl (fun b7 _ => ?_)
       refine T.o0 (OpW.stA sz_55 rfl rfl rfl rfl sW uL) rfl (fun _ _ => ?_)
       refine T.nil ?_
       refine J.sel (.cons 0 rfl (.cons 1 rfl (.cons 2 rfl (.cons 7 rfl .nil)))) ?_
       refine X.then_ ?_
       refine T.seq ?_
       refine T.seq ?_
       refine J.ent (fun w hw => hw.view_nil 58 2 txE) ?_
       -- region 4 (law.go:149)
       refine T.region ?_
       refine T.y (fun w hw => Yl.assign rfl) rfl rfl ?_
       refine T.nil ?_
       refine X.then_ ?_
       refine T.block ?_
       refine T.loop (α := Nat × Option Addr × Nat) (fun u => u.1 ≤ N) (fun u => [(8, .int .i64 (u.1 : Int)), (0, .int .i64 (N : Int)), (1, .int .i64 (P : Int)), (2, .int .i64 (G : Int)), (7, ptr b7 0)]) (fun u => pt b7 55 [.int .i64 1, .slice u.2.1 (limTs P G u.1).length u.2.2] :: viewH 58 2 txE u.2.1 u.2.2 (limTs P G u.1) :: M) (fun u => K) (fun u => N - u.1) (0, none, 0) (Nat.zero_le _) (.num 8 rfl rfl (.cons 0 rfl (.cons 1 rfl (.cons 2 rfl (.cons 7 rfl .nil))))) (fun w hw => hw.f) ?_
       intro ⟨i, At, ct⟩ hi Zk hzo
       dsimp only at hi hzo ⊢
       refine T.seq ?_
       refine T.seq ?_
       -- region 5 (law.go:149)
       refine T.region ?_
       refine T.y (fun w hw => Yl.move rfl) rfl rfl ?_
       refine T.y (fun w hw => Yl.move rfl) rfl rfl ?_
       refine T.y (fun w hw => Yl.lss rfl rfl) rfl rfl ?_
       refine T.nil ?_
       refine J.sel (.cons 0 rfl (.cons 1 rfl (.cons 2 rfl (.cons 7 rfl (.cons 8 rfl (.cons 40 rfl .nil)))))) ?_
       refine X.then_ ?_
       refine T.condD rfl (fun h40 => ?_) (fun h40 => ?_)
       ·skip
        refine T.skip ?_
        refine X.then_ ?_
        refine T.seq ?_
        refine T.block ?_
        refine T.seq ?_
        have hiG : i * G ≤ 12 * 70000 := Nat.mul_le_mul (by omega) hG
        have hiGi : (i : Int) * (G : Int) = ((i * G : Nat) : Int) := by push_cast; rfl
        -- region 7 (law.go:150)
        refine T.region ?_
        refine T.y (fun w hw => Yl.move rfl) rfl rfl ?_
        refine T.y (fun w hw => Yl.move rfl) rfl rfl ?_
        refine T.y (fun w hw => Yl.mul rfl rfl (by rw [hiGi]; omega)) rfl rfl ?_
        refine T.y (fun w hw => Yl.add rfl rfl (by rw [hiGi]; omega)) rfl rfl ?_
        refine T.y (fun w hw => Yl.build rfl (bld_58_0 _)) rfl rfl ?_
        refine T.o (OpW.alloc zr_58) rfl rfl (fun b9 _ => ?_)
        refine T.o0 (OpW.stA sz_58 rfl rfl rfl rfl sW uL) rfl (fun _ _ => ?_)
        refine T.nil ?_
        rw [show (1 : Int) + (i : Int) * (G : Int) = ((1 + i * G : Nat) : Int) from by push_cast; rfl]
        refine J.sel (.cons 0 rfl (.cons 1 rfl (.cons 2 rfl (.cons 7 rfl (.cons 8 rfl (.cons 9 rfl .nil)))))) ?_
        refine X.then_ ?_
        refine T.seq ?_
        refine T.seq ?_
        refine J.ent (fun w hw => hw.view_nil 61 2 putE) ?_
        -- region 8 (law.go:151)
        refine T.region ?_
        refine T.y (fun w hw => Yl.assign rfl) rfl rfl ?_
        refine T.nil ?_
        refine X.then_ ?_
        refine T.block ?_
        refine T.loop (α := Nat × Option Addr × Nat) (fun u => u.1 ≤ P) (fun u => [(10, .int .i64 (u.1 : Int)), (0, .int .i64 (N : Int)), (1, .int .i64 (P : Int)), (2, .int .i64 (G : Int)), (7, ptr b7 0), (8, .int .i64 (i : Int)), (9, ptr b9 0)]) (fun u => pt b9 58 [.int .i64 ((1 + i * G : Nat) : Int), .slice u.2.1 (puN u.1).length u.2.2] :: viewH 61 2 putE u.2.1 u.2.2 (puN u.1) :: pt b7 55 [.int .i64 1, .slice At (limTs P G i).length ct] :: viewH 58 2 txE At ct (limTs P G i) :: M) (fun u => K) (fun u => P - u.1) (0, none, 0) (Nat.zero_le _) (.num 10 rfl rfl (.cons 0 rfl (.cons 1 rfl (.cons 2 rfl (.cons 7 rfl (.cons 8 rfl (.cons 9 rfl .nil))))))) (fun w hw => hw.f) ?_
        intro ⟨k, Ap, cp⟩ hk Zk hz2
        dsimp only at hk hz2 ⊢
        refine T.seq ?_
        refine T.seq ?_
        -- region 9 (law.go:151)
        refine T.region ?_
        refine T.y (fun w hw => Yl.move rfl) rfl rfl ?_
        refine T.y (fun w hw => Yl.move rfl) rfl rfl ?_
        refine T.y (fun w hw => Yl.lss rfl rfl) rfl rfl ?_
        refine T.nil ?_
        refine J.sel (.cons 0 rfl (.cons 1 rfl (.cons 2 rfl (.cons 7 rfl (.cons 8 rfl (.cons 9 rfl (.cons 10 rfl (.cons 50 rfl .nil)))))))) ?_
        refine X.then_ ?_
        refine T.condD rfl (fun h50 => ?_) (fun h50 => ?_)
        ·skip
         refine T.skip ?_
         refine X.then_ ?_
         refine T.seq ?_
         refine T.block ?_
         have hpl := puN_length k
         -- region 11 (law.go:152)
         refine Dr.start1 [9] (p := viewH 61 2 putE Ap cp (puN k)) pK ?_
         refine Dr.take 0 rfl (by kernel_rfl) bL sS (fun w hs => have hw := hs.h; Yl.fa fa_58_1 rfl) rfl rfl ?_
         refine Dr.take 1 rfl (by kernel_rfl) bL sS (fun w hs => have hw := hs.h; Yl.ldP hw na_56 rfl mM rfl) rfl rfl ?_
         refine Dr.take 2 rfl (by kernel_rfl) bL sS (fun w hs => have hw := hs.h; Yl.move rfl) rfl rfl ?_
         refine Dr.take 3 rfl (by kernel_rfl) bL sS (fun w hs => have hw := hs.h; Yl.move rfl) rfl rfl ?_
         refine Dr.act 4 rfl (by kernel_rfl) rfl (OpW.call en_44 rfl (data_ct)) rfl rfl (fun _ _ _ => sS) (fun ⟨A57, c57⟩ _ => ?_)
         dsimp only
         refine Dr.take 5 rfl (by kernel_rfl) bL sS (fun w hs => have hw := hs.h; Yl.build rfl (bld_61_0_1 _)) rfl rfl ?_
         refine Dr.act 6 rfl (by kernel_rfl) rfl (OpW.bsl (sz := 2) rfl bsl_56_1 rfl rfl) rfl rfl (fun _ _ _ => sS) (fun b59 _ => ?_)
         refine J.ent (fun w hw => hw.putE' (A := A57) (c := c57) (p := ⟨(k : Nat), bk 40 (k : Nat)⟩) mM rfl) ?_
         refine J.ent (fun w hw => Hold.view_lit (e := 61) (sz := 2) (el := putE) (x := ⟨(k : Nat), bk 40 (k : Nat)⟩) (vs := [.int .i64 (⟨(k : Nat), bk 40 (k : Nat)⟩ : PutL).lba, .slice A57 (⟨(k : Nat), bk 40 (k : Nat)⟩ : PutL).data.length c57]) (A := some ⟨b59, 0, none⟩) (c := 1) (hw.pick pK) rfl mM) ?_
         refine Dr.act 7 rfl (by kernel_rfl) rfl (OpW.appV (el := putE) (ys := [⟨(k : Nat), bk 40 (k : Nat)⟩]) Try.underlying56 inf_61 rfl rfl rfl rfl mM putE_one pK (by constructor <;> simp <;> omega)) rfl rfl (fun _ _ _ => sS) (fun ⟨A60, c60⟩ _ => ?_)
         dsimp only
         refine Dr.take 8 rfl (by kernel_rfl) bL sS (fun w hs => have hw := hs.h; Yl.fa fa_58_1 rfl) rfl rfl ?_
         refine Dr.act0 9 rfl (by kernel_rfl) rfl (OpW.st1 sz_56 rfl rfl rfl rfl sW uP) rfl (fun hB => absurd (List.elem_iff.1 rfl) hB) (fun _ _ => ?_)
         refine Dr.done (by kernel_rfl) ?_
         refine J.sel (.cons 0 rfl (.cons 1 rfl (.cons 2 rfl (.cons 7 rfl (.cons 8 rfl (.cons 9 rfl (.cons 10 rfl .nil))))))) ?_
         refine X.nm_blk ?_
         refine X.then_ ?_
         -- region 10 (law.go:151)
         refine T.region ?_
         refine T.y (fun w hw => Yl.move rfl) rfl rfl ?_
         refine T.y (fun w hw => Yl.add rfl rfl (by omega)) rfl rfl ?_
         refine T.y (fun w hw => Yl.assign rfl) rfl rfl ?_
         refine T.nil ?_
         refine J.sel (.cons 0 rfl (.cons 1 rfl (.cons 2 rfl (.cons 7 rfl (.cons 8 rfl (.cons 9 rfl (.cons 10 rfl .nil))))))) ?_
         refine X.go (hz2 (k + 1, A60, c60) (by dsimp only; omega) (by dsimp only; omega)) (.num 10 rfl (by omega) (.cons 0 rfl (.cons 1 rfl (.cons 2 rfl (.cons 7 rfl (.cons 8 rfl (.cons 9 rfl .nil))))))) (fun w hw => ?_)
         dsimp only
         rw [puN_succ]
         exact hw.f
        ·skip
         refine T.exit ?_
         refine X.exit_then ?_
         refine X.exit_then ?_
         refine X.exit_blk ?_
         refine X.then_ ?_
         have hkP : k = P := by omega
         subst hkP
         have hll := limTs_length k G i
         refine J.ent (fun w hw => Hold.view_freeze (e := 61) (sz := 2) (el := putE) (A := Ap) (c := cp) (xs := (puN k)) (hw.pick pK)) ?_
         -- region 12 (law.go:154)
         refine T.region ?_
         refine T.y (fun w hw => Yl.fa fa_55_1 rfl) rfl rfl ?_
         refine T.y (fun w hw => Yl.ldP hw na_53 rfl mM rfl) rfl rfl ?_
         refine T.y (fun w hw => Yl.ldaP hw ag_58 rfl mM sU) rfl rfl ?_
         refine T.o (OpW.bsl (sz := 2) rfl bsl_53_1 rfl rfl) rfl rfl (fun b65 _ => ?_)
         refine J.ent (fun w hw => hw.txE' (A := Ap) (c := cp) (t := (limTx k G i)) mM rfl) ?_
         refine J.ent (fun w hw => Hold.view_lit (e := 58) (sz := 2) (el := txE) (x := (limTx k G i)) (vs := [.int .i64 ((limTx k G i) : TxL).time, .slice Ap ((limTx k G i) : TxL).puts.length cp]) (A := some ⟨b65, 0, none⟩) (c := 1) (hw.pick pK) rfl mM) ?_
         refine T.o (OpW.appV (el := txE) (ys := [limTx k G i]) Try.underlying53 inf_58 rfl rfl rfl rfl mM txE_one pK (by constructor <;> simp <;> omega)) rfl rfl (fun ⟨A66, c66⟩ _ => ?_)
         dsimp only
         refine T.y (fun w hw => Yl.fa fa_55_1 rfl) rfl rfl ?_
         refine T.o0 (OpW.st1 sz_53 rfl rfl rfl rfl sW uP) rfl (fun _ _ => ?_)
         refine T.nil ?_
         refine J.sel (.cons 0 rfl (.cons 1 rfl (.cons 2 rfl (.cons 7 rfl (.cons 8 rfl .nil))))) ?_
         refine X.nm_blk ?_
         refine X.then_ ?_
         -- region 6 (law.go:149)
         refine T.region ?_
         refine T.y (fun w hw => Yl.move rfl) rfl rfl ?_
         refine T.y (fun w hw => Yl.add rfl rfl (by omega)) rfl rfl ?_
         refine T.y (fun w hw => Yl.assign rfl) rfl rfl ?_
         refine T.nil ?_
         refine J.sel (.cons 0 rfl (.cons 1 rfl (.cons 2 rfl (.cons 7 rfl (.cons 8 rfl .nil))))) ?_
         refine X.go (hzo (i + 1, A66, c66) (by dsimp only; omega) (by dsimp only; omega)) (.num 8 rfl (by omega) (.cons 0 rfl (.cons 1 rfl (.cons 2 rfl (.cons 7 rfl .nil))))) (fun w hw => ?_)
         dsimp only
         rw [limTs_succ]
         exact hw.f
       ·skip
        refine T.exit ?_
        refine X.exit_then ?_
        refine X.exit_then ?_
        refine X.exit_blk ?_
        refine X.then_ ?_
        refine T.cut (α := Bool) (φ := fun u => u = true ↔ limOk i P G) (Ec := fun u => [(11, .bool u), (0, .int .i64 (i : Int)), (1, .int .i64 (P : Int)), (7, ptr b7 0)]) (Mc := fun u => pt b7 55 [.int .i64 1, .slice At (limTs P G i).length ct] :: M) (Kc := fun u => viewK 2 txE At ct (limTs P G i) :: K) ?_ ?_
        ·intro Zk hz2
         have hiN : i = N := by omega
         subst hiN
         refine J.ent (fun w hw => Hold.view_freeze (e := 58) (sz := 2) (el := txE) (A := At) (c := ct) (xs := (limTs P G i)) (hw.pick pK)) ?_
         -- region 13 (law.go:156)
         refine T.region ?_
         refine T.y (fun w hw => Yl.move rfl) rfl rfl ?_
         refine T.y (fun w hw => Yl.geq rfl rfl) rfl rfl ?_
         refine T.y (fun w hw => Yl.move rfl) rfl rfl ?_
         refine T.splitD 70 rfl (fun h70 => ?_) (fun h70 => ?_)
         ·skip
          refine T.y (fun w hw => Yl.move rfl) rfl rfl ?_
          refine T.y (fun w hw => Yl.leq rfl rfl) rfl rfl ?_
          refine T.y (fun w hw => Yl.pickT rfl rfl) rfl rfl ?_
          refine T.y (fun w hw => Yl.move rfl) rfl rfl ?_
          refine T.splitD 74 rfl (fun h74 => ?_) (fun h74 => ?_)
          ·skip
           refine T.y (fun w hw => Yl.move rfl) rfl rfl ?_
           refine T.y (fun w hw => Yl.geq rfl rfl) rfl rfl ?_
           refine T.y (fun w hw => Yl.pickT rfl rfl) rfl rfl ?_
           refine T.y (fun w hw => Yl.move rfl) rfl rfl ?_
           refine T.splitD 78 rfl (fun h78 => ?_) (fun h78 => ?_)
           ·skip
            refine T.y (fun w hw => Yl.move rfl) rfl rfl ?_
            refine T.y (fun w hw => Yl.leq rfl rfl) rfl rfl ?_
            refine T.y (fun w hw => Yl.pickT rfl rfl) rfl rfl ?_
            refine T.y (fun w hw => Yl.move rfl) rfl rfl ?_
            refine T.splitD 82 rfl (fun h82 => ?_) (fun h82 => ?_)
            ·skip
             refine T.y (fun w hw => Yl.move rfl) rfl rfl ?_
             refine T.y (fun w hw => Yl.move rfl) rfl rfl ?_
             refine T.y (fun w hw => Yl.mul rfl rfl (by rw [hNPi]; omega)) rfl rfl ?_
             refine T.y (fun w hw => Yl.leq rfl rfl) rfl rfl ?_
             refine T.y (fun w hw => Yl.pickT rfl rfl) rfl rfl ?_
             refine T.y (fun w hw => Yl.move rfl) rfl rfl ?_
             refine T.splitD 88 rfl (fun h88 => ?_) (fun h88 => ?_)
             ·skip
              refine T.y (fun w hw => Yl.move rfl) rfl rfl ?_
              refine T.y (fun w hw => Yl.eql rfl rfl) rfl rfl ?_
              refine T.y (fun w hw => Yl.move rfl) rfl rfl ?_
              refine T.splitD 91 rfl (fun h91 => ?_) (fun h91 => ?_)
              ·skip
               refine T.off rfl rfl rfl ?_
               refine T.off rfl rfl rfl ?_
               refine T.off rfl rfl rfl ?_
               refine T.off rfl rfl rfl ?_
               refine T.off rfl rfl rfl ?_
               refine T.off rfl rfl rfl ?_
               refine T.y (fun w hw => Yl.pickT rfl rfl) rfl rfl ?_
               refine T.y (fun w hw => Yl.pickT rfl rfl) rfl rfl ?_
               refine T.y (fun w hw => Yl.assign rfl) rfl rfl ?_
               refine T.nil ?_
               refine J.sel (.cons 0 rfl (.cons 1 rfl (.cons 7 rfl (.cons 11 rfl .nil)))) ?_
               refine X.go (hz2 _ (by unfold limOk; first | (simp only [true_iff]; omega) | (simp only [false_iff, Bool.false_eq_true]; omega) | (simp only [decide_eq_true_iff]; omega))) (.cons 11 rfl (.cons 0 rfl (.cons 1 rfl (.cons 7 rfl .nil)))) (fun w hw => ?_)
               exact hw.f
              ·skip
               refine T.y (fun w hw => Yl.move rfl) rfl rfl ?_
               refine T.y (fun w hw => Yl.geq rfl rfl) rfl rfl ?_
               refine T.y (fun w hw => Yl.move rfl) rfl rfl ?_
               refine T.splitD 94 rfl (fun h94 => ?_) (fun h94 => ?_)
               ·skip
                refine T.y (fun w hw => Yl.move rfl) rfl rfl ?_
                refine T.y (fun w hw => Yl.leq rfl rfl) rfl rfl ?_
                refine T.y (fun w hw => Yl.pickT rfl rfl) rfl rfl ?_
                refine T.y (fun w hw => Yl.pickF rfl rfl) rfl rfl ?_
                refine T.y (fun w hw => Yl.pickT rfl rfl) rfl rfl ?_
                refine T.y (fun w hw => Yl.assign rfl) rfl rfl ?_
                refine T.nil ?_
                refine J.sel (.cons 0 rfl (.cons 1 rfl (.cons 7 rfl (.cons 11 rfl .nil)))) ?_
                refine X.go (hz2 _ (by unfold limOk; first | (simp only [true_iff]; omega) | (simp only [false_iff, Bool.false_eq_true]; omega) | (simp only [decide_eq_true_iff]; omega))) (.cons 11 rfl (.cons 0 rfl (.cons 1 rfl (.cons 7 rfl .nil)))) (fun w hw => ?_)
                exact hw.f
               ·skip
                refine T.off rfl rfl rfl ?_
                refine T.off rfl rfl rfl ?_
                refine T.y (fun w hw => Yl.pickF rfl rfl) rfl rfl ?_
                refine T.y (fun w hw => Yl.pickF rfl rfl) rfl rfl ?_
                refine T.y (fun w hw => Yl.pickT rfl rfl) rfl rfl ?_
                refine T.y (fun w hw => Yl.assign rfl) rfl rfl ?_
                refine T.nil ?_
                refine J.sel (.cons 0 rfl (.cons 1 rfl (.cons 7 rfl (.cons 11 rfl .nil)))) ?_
                refine X.go (hz2 _ (by unfold limOk; first | (simp only [true_iff]; omega) | (simp only [false_iff, Bool.false_eq_true]; omega) | (simp only [decide_eq_true_iff]; omega))) (.cons 11 rfl (.cons 0 rfl (.cons 1 rfl (.cons 7 rfl .nil)))) (fun w hw => ?_)
                exact hw.f
             ·skip
              refine T.off rfl rfl rfl ?_
              refine T.off rfl rfl rfl ?_
              refine T.off rfl rfl rfl ?_
              refine T.off rfl rfl rfl ?_
              refine T.off rfl rfl rfl ?_
              refine T.off rfl rfl rfl ?_
              refine T.off rfl rfl rfl ?_
              refine T.off rfl rfl rfl ?_
              refine T.off rfl rfl rfl ?_
              refine T.off rfl rfl rfl ?_
              refine T.y (fun w hw => Yl.pickF rfl rfl) rfl rfl ?_
              refine T.y (fun w hw => Yl.assign rfl) rfl rfl ?_
              refine T.nil ?_
              refine J.sel (.cons 0 rfl (.cons 1 rfl (.cons 7 rfl (.cons 11 rfl .nil)))) ?_
              refine X.go (hz2 _ (by unfold limOk; first | (simp only [true_iff]; omega) | (simp only [false_iff, Bool.false_eq_true]; omega) | (simp only [decide_eq_true_iff]; omega))) (.cons 11 rfl (.cons 0 rfl (.cons 1 rfl (.cons 7 rfl .nil)))) (fun w hw => ?_)
              exact hw.f
            ·skip
             refine T.off rfl rfl rfl ?_
             refine T.off rfl rfl rfl ?_
             refine T.off rfl rfl rfl ?_
             refine T.off rfl rfl rfl ?_
             refine T.y (fun w hw => Yl.pickF rfl rfl) rfl rfl ?_
             refine T.y (fun w hw => Yl.move rfl) rfl rfl ?_
             refine T.off rfl rfl rfl ?_
             refine T.off rfl rfl rfl ?_
             refine T.off rfl rfl rfl ?_
             refine T.off rfl rfl rfl ?_
             refine T.off rfl rfl rfl ?_
             refine T.off rfl rfl rfl ?_
             refine T.off rfl rfl rfl ?_
             refine T.off rfl rfl rfl ?_
             refine T.off rfl rfl rfl ?_
             refine T.off rfl rfl rfl ?_
             refine T.y (fun w hw => Yl.pickF rfl rfl) rfl rfl ?_
             refine T.y (fun w hw => Yl.assign rfl) rfl rfl ?_
             refine T.nil ?_
             refine J.sel (.cons 0 rfl (.cons 1 rfl (.cons 7 rfl (.cons 11 rfl .nil)))) ?_
             refine X.go (hz2 _ (by unfold limOk; first | (simp only [true_iff]; omega) | (simp only [false_iff, Bool.false_eq_true]; omega) | (simp only [decide_eq_true_iff]; omega))) (.cons 11 rfl (.cons 0 rfl (.cons 1 rfl (.cons 7 rfl .nil)))) (fun w hw => ?_)
             exact hw.f
           ·skip
            refine T.off rfl rfl rfl ?_
            refine T.off rfl rfl rfl ?_
            refine T.y (fun w hw => Yl.pickF rfl rfl) rfl rfl ?_
            refine T.y (fun w hw => Yl.move rfl) rfl rfl ?_
            refine T.off rfl rfl rfl ?_
            refine T.off rfl rfl rfl ?_
            refine T.off rfl rfl rfl ?_
            refine T.off rfl rfl rfl ?_
            refine T.y (fun w hw => Yl.pickF rfl rfl) rfl rfl ?_
            refine T.y (fun w hw => Yl.move rfl) rfl rfl ?_
            refine T.off rfl rfl rfl ?_
            refine T.off rfl rfl rfl ?_
            refine T.off rfl rfl rfl ?_
            refine T.off rfl rfl rfl ?_
            refine T.off rfl rfl rfl ?_
            refine T.off rfl rfl rfl ?_
            refine T.off rfl rfl rfl ?_
            refine T.off rfl rfl rfl ?_
            refine T.off rfl rfl rfl ?_
            refine T.off rfl rfl rfl ?_
            refine T.y (fun w hw => Yl.pickF rfl rfl) rfl rfl ?_
            refine T.y (fun w hw => Yl.assign rfl) rfl rfl ?_
            refine T.nil ?_
            refine J.sel (.cons 0 rfl (.cons 1 rfl (.cons 7 rfl (.cons 11 rfl .nil)))) ?_
            refine X.go (hz2 _ (by unfold limOk; first | (simp only [true_iff]; omega) | (simp only [false_iff, Bool.false_eq_true]; omega) | (simp only [decide_eq_true_iff]; omega))) (.cons 11 rfl (.cons 0 rfl (.cons 1 rfl (.cons 7 rfl .nil)))) (fun w hw => ?_)
            exact hw.f
          ·skip
           refine T.off rfl rfl rfl ?_
           refine T.off rfl rfl rfl ?_
           refine T.y (fun w hw => Yl.pickF rfl rfl) rfl rfl ?_
           refine T.y (fun w hw => Yl.move rfl) rfl rfl ?_
           refine T.off rfl rfl rfl ?_
           refine T.off rfl rfl rfl ?_
           refine T.y (fun w hw => Yl.pickF rfl rfl) rfl rfl ?_
           refine T.y (fun w hw => Yl.move rfl) rfl rfl ?_
           refine T.off rfl rfl rfl ?_
           refine T.off rfl rfl rfl ?_
           refine T.off rfl rfl rfl ?_
           refine T.off rfl rfl rfl ?_
           refine T.y (fun w hw => Yl.pickF rfl rfl) rfl rfl ?_
           refine T.y (fun w hw => Yl.move rfl) rfl rfl ?_
           refine T.off rfl rfl rfl ?_
           refine T.off rfl rfl rfl ?_
           refine T.off rfl rfl rfl ?_
           refine T.off rfl rfl rfl ?_
           refine T.off rfl rfl rfl ?_
           refine T.off rfl rfl rfl ?_
           refine T.off rfl rfl rfl ?_
           refine T.off rfl rfl rfl ?_
           refine T.off rfl rfl rfl ?_
           refine T.off rfl rfl rfl ?_
           refine T.y (fun w hw => Yl.pickF rfl rfl) rfl rfl ?_
           refine T.y (fun w hw => Yl.assign rfl) rfl rfl ?_
           refine T.nil ?_
           refine J.sel (.cons 0 rfl (.cons 1 rfl (.cons 7 rfl (.cons 11 rfl .nil)))) ?_
           refine X.go (hz2 _ (by unfold limOk; first | (simp only [true_iff]; omega) | (simp only [false_iff, Bool.false_eq_true]; omega) | (simp only [decide_eq_true_iff]; omega))) (.cons 11 rfl (.cons 0 rfl (.cons 1 rfl (.cons 7 rfl .nil)))) (fun w hw => ?_)
           exact hw.f
         ·skip
          refine T.off rfl rfl rfl ?_
          refine T.off rfl rfl rfl ?_
          refine T.y (fun w hw => Yl.pickF rfl rfl) rfl rfl ?_
          refine T.y (fun w hw => Yl.move rfl) rfl rfl ?_
          refine T.off rfl rfl rfl ?_
          refine T.off rfl rfl rfl ?_
          refine T.y (fun w hw => Yl.pickF rfl rfl) rfl rfl ?_
          refine T.y (fun w hw => Yl.move rfl) rfl rfl ?_
          refine T.off rfl rfl rfl ?_
          refine T.off rfl rfl rfl ?_
          refine T.y (fun w hw => Yl.pickF rfl rfl) rfl rfl ?_
          refine T.y (fun w hw => Yl.move rfl) rfl rfl ?_
          refine T.off rfl rfl rfl ?_
          refine T.off rfl rfl rfl ?_
          refine T.off rfl rfl rfl ?_
          refine T.off rfl rfl rfl ?_
          refine T.y (fun w hw => Yl.pickF rfl rfl) rfl rfl ?_
          refine T.y (fun w hw => Yl.move rfl) rfl rfl ?_
          refine T.off rfl rfl rfl ?_
          refine T.off rfl rfl rfl ?_
          refine T.off rfl rfl rfl ?_
          refine T.off rfl rfl rfl ?_
          refine T.off rfl rfl rfl ?_
          refine T.off rfl rfl rfl ?_
          refine T.off rfl rfl rfl ?_
          refine T.off rfl rfl rfl ?_
          refine T.off rfl rfl rfl ?_
          refine T.off rfl rfl rfl ?_
          refine T.y (fun w hw => Yl.pickF rfl rfl) rfl rfl ?_
          refine T.y (fun w hw => Yl.assign rfl) rfl rfl ?_
          refine T.nil ?_
          refine J.sel (.cons 0 rfl (.cons 1 rfl (.cons 7 rfl (.cons 11 rfl .nil)))) ?_
          refine X.go (hz2 _ (by unfold limOk; first | (simp only [true_iff]; omega) | (simp only [false_iff, Bool.false_eq_true]; omega) | (simp only [decide_eq_true_iff]; omega))) (.cons 11 rfl (.cons 0 rfl (.cons 1 rfl (.cons 7 rfl .nil)))) (fun w hw => ?_)
          exact hw.f
        ·intro ok hok
         refine T.seq ?_
         have hiN : i = N := by omega
         subst hiN
         have hE := (lim_e (n := i) (puts := P) (gap := G) (by omega) hP hG).trans hok.symm
         have hC := (lim_c (n := i) (puts := P) (gap := G) (by omega) hP hG).trans hok.symm
         have hL := (lim_l (n := i) (puts := P) (gap := G) (by omega) hP hG).trans hok.symm
         -- region 14 (law.go:157)
         refine T.region ?_
         refine T.y (fun w hw => Yl.ldaP hw ag_55 rfl mM sU) rfl rfl ?_
         refine T.o (OpW.call en_45 rfl (encode_b_ct (b := ⟨1, limTs P G i⟩) mM)) rfl rfl (fun ⟨A102, c102⟩ _ => ?_)
         dsimp only
         refine T.y (fun w hw => Yl.move rfl) rfl rfl ?_
         refine T.y (fun w hw => Yl.extract rfl rfl) rfl rfl ?_
         refine T.y (fun w hw => Yl.extract rfl rfl) rfl rfl ?_
         refine T.y (fun w hw => Yl.assign rfl) rfl rfl ?_
         refine T.y (fun w hw => Yl.assign rfl) rfl rfl ?_
         refine T.nil ?_
         refine J.sel (.cons 0 rfl (.cons 1 rfl (.cons 7 rfl (.cons 11 rfl (.cons 12 rfl (.cons 13 rfl .nil)))))) ?_
         refine X.then_ ?_
         refine T.seq ?_
         -- region 15 (law.go:158)
         refine T.region ?_
         refine T.y (fun w hw => Yl.ldaP hw ag_55 rfl mM sU) rfl rfl ?_
         refine T.o (OpW.call en_46 rfl (check_ct (b := ⟨1, limTs P G i⟩) mM)) rfl rfl (fun x hx => ?_)
         refine T.y (fun w hw => Yl.eql rfl rfl) rfl rfl ?_
         refine T.y (fun w hw => Yl.move rfl) rfl rfl ?_
         refine T.y (fun w hw => Yl.eqB Try.underlying4 rfl rfl) rfl rfl ?_
         refine T.y (fun w hw => Yl.move rfl) rfl rfl ?_
         refine T.splitD 110 rfl (fun h110 => ?_) (fun h110 => ?_)
         ·skip
          refine T.y (fun w hw => Yl.move rfl) rfl rfl ?_
          refine T.y (fun w hw => Yl.eql rfl rfl) rfl rfl ?_
          refine T.y (fun w hw => Yl.move rfl) rfl rfl ?_
          refine T.y (fun w hw => Yl.eqB Try.underlying4 rfl rfl) rfl rfl ?_
          refine T.y (fun w hw => Yl.pickT rfl rfl) rfl rfl ?_
          refine T.y (fun w hw => Yl.move rfl) rfl rfl ?_
          refine T.splitD 116 rfl (fun h116 => ?_) (fun h116 => ?_)
          ·skip
           refine T.y (fun w hw => Yl.move rfl) rfl rfl ?_
           refine T.y (fun w hw => Yl.len Try.underlying62 rfl) rfl rfl ?_
           refine T.y (fun w hw => Yl.move rfl) rfl rfl ?_
           refine T.y (fun w hw => Yl.move rfl) rfl rfl ?_
           refine T.y (fun w hw => Yl.mul rfl rfl (by rw [hNPi]; omega)) rfl rfl ?_
           refine T.y (fun w hw => Yl.add rfl rfl (by rw [hNPi]; omega)) rfl rfl ?_
           refine T.y (fun w hw => Yl.eql rfl rfl) rfl rfl ?_
           refine T.y (fun w hw => Yl.move rfl) rfl rfl ?_
           refine T.y (fun w hw => Yl.eqB Try.underlying4 rfl rfl) rfl rfl ?_
           refine T.y (fun w hw => Yl.pickT rfl rfl) rfl rfl ?_
           refine T.y (fun w hw => Yl.move rfl) rfl rfl ?_
           refine T.splitD 127 rfl (fun h127 => ?_) (fun h127 => ?_)
           ·skip
            refine T.o (OpW.call en_43 rfl (awake17_ct)) rfl rfl (fun x hx => ?_)
            refine T.y (fun w hw => Yl.pickT rfl rfl) rfl rfl ?_
            refine T.y (fun w hw => Yl.assign rfl) rfl rfl ?_
            refine T.nil ?_
            refine J.sel (.cons 6 rfl .nil) ?_
            refine X.then_ ?_
            refine T.ret ?_
            refine X.ret1 Try.results7 rfl (fun w hw => ?_)
            exact ⟨(), trivial, rfl, hw.f⟩
           · exfalso; (apply h127; rw [Bool.eq_iff_iff, decide_eq_true_iff]; exact hL)
          · exfalso; (apply h116; rw [Bool.eq_iff_iff, decide_eq_true_iff]; exact hE)
         · exfalso; (apply h110; rw [Bool.eq_iff_iff, decide_eq_true_iff]; exact hC)

theorem batchLimits_walk {w : World} (n p g : Int) : Calls Try.prog 7 #[.int .i64 n, .int .i64 p, .int .i64 g] w fun e w' => e = .returned (.bool true) ∧ Below w.heap.size w w' :=
  law_of (vs := [.int .i64 n, .int .i64 p, .int .i64 g]) (K := []) (K' := []) limits_b_ct (fun k hk' => by cases hk')
end Go.Proofs.Ytfpnodboebpemaa
