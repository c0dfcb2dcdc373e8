/- dev and awake of scarplaw19. -/
import Derived.Test.YtfpnodboebpemaaSltW
namespace Go.Proofs.Ytfpnodboebpemaa
open Go.RowKit Go.Proofs.YtfpnodboebpemaaW.PrintWords
set_option linter.unusedVariables false
set_option linter.unusedSimpArgs false
attribute [local irreducible] pt rowH slK bytesK intsK rowsK rowsH cellK rowsV oldK star exH pureH knowH starL emp devH zoneH zonesH zrest cellsK viewV viewK viewH blkE slotH

set_option maxHeartbeats 2000000 in
theorem dev_ct {M : List HP} {K : List KP} : Fn 74 [] M K (fun _ : Nat => True) (fun d => .tuple [ptr d 0, .bool true].toArray) (fun d => devH d (newDev 8 96) :: M) (fun _ => K) := by
 refine Fn.of (n := 16) Try.func74 rfl Try.ntmps74 rfl ?_
 refine T.seq ?_
 -- region 0 (law.go:12)
 refine T.region ?_
 refine T.y (fun w hw => Yl.assign rfl) rfl rfl ?_
 refine T.y (fun w hw => Yl.assign rfl) rfl rfl ?_
 refine T.nil ?_
 refine J.sel .nil ?_
 refine X.then_ ?_
 refine T.seq ?_
 -- region 1 (law.go:13)
 refine T.region ?_
 refine T.y (fun w hw => Yl.build rfl (bld_42_0_1 _)) rfl rfl ?_
 refine T.o (OpW.call en_35 rfl (new_ct (Z := 8) (S := 96) (by omega) (by omega))) rfl rfl (fun d _ => ?_)
 refine T.y (fun w hw => Yl.move rfl) rfl rfl ?_
 refine T.y (fun w hw => Yl.extract rfl rfl) rfl rfl ?_
 refine T.y (fun w hw => Yl.extract rfl rfl) rfl rfl ?_
 refine T.y (fun w hw => Yl.assign rfl) rfl rfl ?_
 refine T.y (fun w hw => Yl.assign rfl) rfl rfl ?_
 refine T.nil ?_
 refine J.sel (.cons 2 rfl (.cons 3 rfl .nil)) ?_
 refine X.then_ ?_
 refine T.seq ?_
 -- region 2 (law.go:14)
 refine T.region ?_
 refine T.y (fun w hw => Yl.move rfl) rfl rfl ?_
 refine T.y (fun w hw => Yl.move rfl) rfl rfl ?_
 refine T.y (fun w hw => Yl.eql rfl rfl) rfl rfl ?_
 refine T.y (fun w hw => Yl.move rfl) rfl rfl ?_
 refine T.y (fun w hw => Yl.move rfl) rfl rfl ?_
 refine T.y (fun w hw => Yl.neP Try.underlying38 rfl rfl) rfl rfl ?_
 refine T.y (fun w hw => Yl.pickT rfl rfl) rfl rfl ?_
 refine T.y (fun w hw => Yl.assign rfl) rfl rfl ?_
 refine T.y (fun w hw => Yl.assign rfl) rfl rfl ?_
 refine T.nil ?_
 refine J.sel (.cons 0 rfl (.cons 1 rfl .nil)) ?_
 refine X.then_ ?_
 refine T.ret ?_
 refine X.ret2 Try.results74 rfl rfl (fun w hw => ?_)
 exact ⟨d, trivial, rfl, hw.f⟩

set_option maxHeartbeats 2000000 in
theorem awake19_ct {M : List HP} {K : List KP} : Fn 73 [] M K (fun _ : Unit => True) (fun _ => .bool true) (fun _ => M) (fun _ => K) := by
 refine Fn.of (n := 69) Try.func73 rfl Try.ntmps73 rfl ?_
 refine T.seq ?_
 -- region 0 (law.go:18)
 refine T.region ?_
 refine T.y (fun w hw => Yl.assign rfl) rfl rfl ?_
 refine T.nil ?_
 refine J.sel .nil ?_
 refine X.then_ ?_
 refine T.seq ?_
 -- region 1 (law.go:19)
 refine T.region ?_
 refine T.o (OpW.call en_74 rfl (dev_ct)) rfl rfl (fun d _ => ?_)
 refine T.y (fun w hw => Yl.move rfl) rfl rfl ?_
 refine T.y (fun w hw => Yl.extract rfl rfl) rfl rfl ?_
 refine T.y (fun w hw => Yl.extract rfl rfl) rfl rfl ?_
 refine T.y (fun w hw => Yl.assign rfl) rfl rfl ?_
 refine T.y (fun w hw => Yl.assign rfl) rfl rfl ?_
 refine T.nil ?_
 refine J.sel (.cons 1 rfl (.cons 2 rfl .nil)) ?_
 refine X.then_ ?_
 refine T.seq ?_
 refine T.seq ?_
 -- region 2 (law.go:20)
 refine T.region ?_
 refine T.y (fun w hw => Yl.move rfl) rfl rfl ?_
 refine T.y (fun w hw => Yl.not rfl) rfl rfl ?_
 refine T.nil ?_
 refine J.sel (.cons 1 rfl (.cons 14 rfl .nil)) ?_
 refine X.then_ ?_
 refine T.condF rfl ?_
 refine T.skip ?_
 refine X.then_ ?_
 refine T.seq ?_
 -- region 4 (law.go:23)
 refine T.region ?_
 refine T.y (fun w hw => Yl.move rfl) rfl rfl ?_
 refine T.o (OpW.call en_75 rfl (openW_ct (lo := 0) (mid := 1) (hi := 2) Fit.new (new_inv 0 1 2) (by omega) rfl rfl rfl)) rfl rfl (fun ⟨p, D1⟩ ⟨hF1, hI1, _⟩ => ?_)
 dsimp only
 refine T.y (fun w hw => Yl.move rfl) rfl rfl ?_
 refine T.y (fun w hw => Yl.extract rfl rfl) rfl rfl ?_
 refine T.y (fun w hw => Yl.extract rfl rfl) rfl rfl ?_
 refine T.y (fun w hw => Yl.assign rfl) rfl rfl ?_
 refine T.y (fun w hw => Yl.assign rfl) rfl rfl ?_
 refine T.nil ?_
 refine J.sel (.cons 1 rfl (.cons 3 rfl (.cons 4 rfl .nil))) ?_
 refine X.then_ ?_
 refine T.seq ?_
 refine T.seq ?_
 -- region 5 (law.go:24)
 refine T.region ?_
 refine T.y (fun w hw => Yl.move rfl) rfl rfl ?_
 refine T.y (fun w hw => Yl.neq rfl rfl) rfl rfl ?_
 refine T.y (fun w hw => Yl.move rfl) rfl rfl ?_
 refine T.y (fun w hw => Yl.move rfl) rfl rfl ?_
 refine T.y (fun w hw => Yl.eqP Try.underlying112 rfl rfl) rfl rfl ?_
 refine T.y (fun w hw => Yl.pickF rfl rfl) rfl rfl ?_
 refine T.y (fun w hw => Yl.move rfl) rfl rfl ?_
 refine T.y (fun w hw => Yl.move rfl) rfl rfl ?_
 refine T.o (OpW.bsl (sz := 1) rfl bsl_23_1 rfl rfl) rfl rfl (fun b28 _ => ?_)
 refine T.o (OpW.convB [97] rfl pK (isB1 (by omega))) rfl rfl (fun _ _ => ?_)
 refine T.o (OpW.call en_77 rfl (saveW_ct (lo := 0) (mid := 1) (hi := 2) (t' := [97]) hF1 hI1 (by omega) (by simp) (by omega) mM (isB1 (by omega)) (by simp))) rfl rfl (fun D2 ⟨hF2, hI2, _⟩ => ?_)
 refine T.y (fun w hw => Yl.neq rfl rfl) rfl rfl ?_
 refine T.y (fun w hw => Yl.pickF rfl rfl) rfl rfl ?_
 refine T.y (fun w hw => Yl.move rfl) rfl rfl ?_
 refine T.y (fun w hw => Yl.move rfl) rfl rfl ?_
 refine T.o (OpW.bsl (sz := 1) rfl bsl_23_1 rfl rfl) rfl rfl (fun b35 _ => ?_)
 refine T.o (OpW.convB [98] rfl pK (isB1 (by omega))) rfl rfl (fun _ _ => ?_)
 refine T.o (OpW.call en_77 rfl (saveW_ct (lo := 0) (mid := 1) (hi := 2) (t' := [98]) hF2 hI2 (by omega) (by simp) (by omega) mM (isB1 (by omega)) (by simp))) rfl rfl (fun D3 ⟨hF3, hI3, _⟩ => ?_)
 refine T.y (fun w hw => Yl.neq rfl rfl) rfl rfl ?_
 refine T.y (fun w hw => Yl.pickF rfl rfl) rfl rfl ?_
 refine T.nil ?_
 refine J.sel (.cons 1 rfl (.cons 3 rfl (.cons 39 rfl .nil))) ?_
 refine X.then_ ?_
 refine T.condF rfl ?_
 refine T.skip ?_
 refine X.then_ ?_
 refine T.seq ?_
 refine J.ent (fun w hw => (Hold.intsK_nil hw)) ?_
 -- region 7 (law.go:27)
 refine T.region ?_
 refine T.y (fun w hw => Yl.move rfl) rfl rfl ?_
 refine J.pick (p := devH d D3) pK ?_
 refine T.o (OpW.call en_56 rfl (crash_ct (picks := []) (torn := []) (P := none) (pc := 0) (T2 := none) (tc := 0) hF3.ok mM mM (by simp) (by simp))) rfl rfl (fun x _ => ?_)
 refine T.o (OpW.call en_75 rfl (openW_ct (lo := 0) (mid := 1) (hi := 2) (Fit.crash hF3.toFit0 [] []) (hI3.crash [] []) (by omega) rfl rfl rfl)) rfl rfl (fun ⟨q, D4⟩ ⟨hF4, hI4, _⟩ => ?_)
 dsimp only
 refine T.y (fun w hw => Yl.move rfl) rfl rfl ?_
 refine T.y (fun w hw => Yl.extract rfl rfl) rfl rfl ?_
 refine T.y (fun w hw => Yl.extract rfl rfl) rfl rfl ?_
 refine T.y (fun w hw => Yl.assign rfl) rfl rfl ?_
 refine T.y (fun w hw => Yl.assign rfl) rfl rfl ?_
 refine T.nil ?_
 refine J.sel (.cons 3 rfl (.cons 5 rfl (.cons 6 rfl .nil))) ?_
 refine X.then_ ?_
 refine T.seq ?_
 refine T.seq ?_
 -- region 8 (law.go:28)
 refine T.region ?_
 refine T.y (fun w hw => Yl.move rfl) rfl rfl ?_
 refine T.y (fun w hw => Yl.neq rfl rfl) rfl rfl ?_
 refine T.y (fun w hw => Yl.move rfl) rfl rfl ?_
 refine T.y (fun w hw => Yl.move rfl) rfl rfl ?_
 refine T.y (fun w hw => Yl.eqP Try.underlying112 rfl rfl) rfl rfl ?_
 refine T.y (fun w hw => Yl.pickF rfl rfl) rfl rfl ?_
 refine T.nil ?_
 refine J.sel (.cons 3 rfl (.cons 5 rfl (.cons 51 rfl .nil))) ?_
 refine X.then_ ?_
 refine T.condF rfl ?_
 refine T.skip ?_
 refine X.then_ ?_
 refine T.seq ?_
 -- region 10 (law.go:31)
 refine T.region ?_
 refine T.y (fun w hw => Yl.move rfl) rfl rfl ?_
 refine T.o (OpW.call en_78 rfl (loadW_ct (by simp))) rfl rfl (fun ⟨A54, c54⟩ _ => ?_)
 dsimp only
 refine T.y (fun w hw => Yl.move rfl) rfl rfl ?_
 refine T.y (fun w hw => Yl.extract rfl rfl) rfl rfl ?_
 refine T.y (fun w hw => Yl.extract rfl rfl) rfl rfl ?_
 refine T.y (fun w hw => Yl.assign rfl) rfl rfl ?_
 refine T.y (fun w hw => Yl.assign rfl) rfl rfl ?_
 refine T.nil ?_
 refine J.sel (.cons 3 rfl (.cons 7 rfl (.cons 8 rfl .nil))) ?_
 refine X.then_ ?_
 refine T.seq ?_
 -- region 11 (law.go:32)
 refine T.region ?_
 refine T.y (fun w hw => Yl.move rfl) rfl rfl ?_
 refine T.y (fun w hw => Yl.convS hw mM rfl) rfl rfl ?_
 refine T.y (fun w hw => Yl.eqS rfl rfl) rfl rfl ?_
 refine T.y (fun w hw => Yl.move rfl) rfl rfl ?_
 refine T.y (fun w hw => Yl.move rfl) rfl rfl ?_
 refine T.y (fun w hw => Yl.eql rfl rfl) rfl rfl ?_
 refine T.y (fun w hw => Yl.pickT rfl rfl) rfl rfl ?_
 refine T.y (fun w hw => Yl.move rfl) rfl rfl ?_
 refine T.y (fun w hw => Yl.move rfl) rfl rfl ?_
 refine J.pick (p := slotH p d 96 (slt 0 1 2 (1 - (1 - 1)) [98] (0 + 1 + 1))) pK ?_
 refine T.o (OpW.call en_76 rfl (roomW_ct (lo := 0) (mid := 1) (hi := 2) hF4 (by omega) (by omega) (by simp) (by omega))) rfl rfl (fun _ _ => ?_)
 refine T.y (fun w hw => Yl.eql rfl rfl) rfl rfl ?_
 refine T.y (fun w hw => Yl.pickT rfl rfl) rfl rfl ?_
 refine T.y (fun w hw => Yl.assign rfl) rfl rfl ?_
 refine T.nil ?_
 refine J.sel (.cons 0 rfl .nil) ?_
 refine X.then_ ?_
 refine T.ret ?_
 refine X.ret1 Try.results73 rfl (fun w hw => ?_)
 refine ⟨(), trivial, rfl, hw.f⟩

end Go.Proofs.Ytfpnodboebpemaa
