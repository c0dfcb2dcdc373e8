/- The contracts of package zdev. -/
import Derived.Test.YtfpnodboebpemaaAdapt
namespace Go.Proofs.Ytfpnodboebpemaa
open Go.RowKit Go.Proofs.YtfpnodboebpemaaW.PrintWords
set_option linter.unusedVariables false
set_option linter.unusedSimpArgs false
attribute [local irreducible] pt rowH slK bytesK intsK rowsK rowsH cellK rowsV oldK star exH pureH knowH starL emp devH zoneH zonesH zrest

set_option maxHeartbeats 1000000 in
theorem gone_ct {d m c : Nat} {A : Option Addr} {a b e f g h i : Value} {M : List HP} {K : List KP} : Fn 92 [ptr d 0] (pt d 133 [a, b, .slice A m c, e, f, g, h, i] :: M) K (fun _ : Unit => True) (fun _ => .bool (decide ((m : Int) = 0))) (fun _ => pt d 133 [a, b, .slice A m c, e, f, g, h, i] :: M) (fun _ => K) := by
 refine Fn.of (n := 13) Try.func92 rfl Try.ntmps92 rfl ?_
 refine T.seq ?_
 -- region 0 (zdev.go:45)
 refine T.region ?_
 refine T.y (fun w hw => Yl.assign rfl) rfl rfl ?_
 refine T.nil ?_
 refine J.sel (.cons 0 rfl .nil) ?_
 refine X.then_ ?_
 refine T.seq ?_
 -- region 1 (zdev.go:45)
 refine T.region ?_
 refine T.y (fun w hw => Yl.move rfl) rfl rfl ?_
 refine T.y (fun w hw => Yl.eqP Try.underlying38 rfl rfl) rfl rfl ?_
 refine T.y (fun w hw => Yl.move rfl) rfl rfl ?_
 refine T.y (fun w hw => Yl.move rfl) rfl rfl ?_
 refine T.y (fun w hw => Yl.nilck rfl) rfl rfl ?_
 refine T.y (fun w hw => Yl.fa fa_133_1 rfl) rfl rfl ?_
 refine T.y (fun w hw => Yl.ldP hw na_131 rfl mM rfl) rfl rfl ?_
 refine T.y (fun w hw => Yl.len Try.underlying131 rfl) rfl rfl ?_
 refine T.y (fun w hw => Yl.eql rfl rfl) rfl rfl ?_
 refine T.y (fun w hw => Yl.pickF rfl rfl) rfl rfl ?_
 refine T.y (fun w hw => Yl.assign rfl) rfl rfl ?_
 refine T.nil ?_
 refine J.sel (.cons 2 rfl .nil) ?_
 refine X.then_ ?_
 refine T.ret ?_
 refine X.ret1 Try.results92 rfl (fun w hw => ?_)
 exact ⟨(), trivial, rfl, hw.f⟩

set_option maxHeartbeats 1000000 in
theorem at_ct {d c m : Nat} {zs : List Nat} {A : Option Addr} {i : Int} {a b e f g h k : Value} {M : List HP} {K : List KP} (hm : zs.length = m) : Fn 89 [ptr d 0, .int .i64 i] (pt d 133 [a, b, .slice A m c, e, f, g, h, k] :: rowH 134 1 A c m (zs.map fun z => ptr z 0) :: M) K (fun _ : Unit => True) (fun _ => .pointer (zat zs i)) (fun _ => pt d 133 [a, b, .slice A m c, e, f, g, h, k] :: rowH 134 1 A c m (zs.map fun z => ptr z 0) :: M) (fun _ => K) := by
 refine Fn.of (n := 27) Try.func89 rfl Try.ntmps89 rfl ?_
 refine T.seq ?_
 -- region 0 (zdev.go:56)
 refine T.region ?_
 refine T.y (fun w hw => Yl.assign rfl) rfl rfl ?_
 refine T.nil ?_
 refine J.sel (.cons 0 rfl (.cons 1 rfl .nil)) ?_
 refine X.then_ ?_
 refine T.seq ?_
 refine T.seq ?_
 -- region 1 (zdev.go:57)
 refine T.region ?_
 refine T.y (fun w hw => Yl.move rfl) rfl rfl ?_
 refine T.o (OpW.call en_92 rfl (gone_ct)) rfl rfl (fun x hx => ?_)
 refine T.y (fun w hw => Yl.move rfl) rfl rfl ?_
 refine T.splitD 7 rfl (fun h7 => ?_) (fun h7 => ?_)
 ·skip
  refine T.off rfl rfl rfl ?_
  refine T.off rfl rfl rfl ?_
  refine T.y (fun w hw => Yl.pickT rfl rfl) rfl rfl ?_
  refine T.y (fun w hw => Yl.move rfl) rfl rfl ?_
  refine T.off rfl rfl rfl ?_
  refine T.off rfl rfl rfl ?_
  refine T.off rfl rfl rfl ?_
  refine T.off rfl rfl rfl ?_
  refine T.off rfl rfl rfl ?_
  refine T.off rfl rfl rfl ?_
  refine T.off rfl rfl rfl ?_
  refine T.y (fun w hw => Yl.pickT rfl rfl) rfl rfl ?_
  refine T.nil ?_
  refine J.sel (.cons 0 rfl (.cons 1 rfl (.cons 19 rfl .nil))) ?_
  refine X.then_ ?_
  refine T.condT rfl ?_
  refine T.seq ?_
  -- region 2 (zdev.go:58)
  refine T.region ?_
  refine T.y (fun w hw => Yl.assign rfl) rfl rfl ?_
  refine T.nil ?_
  refine J.sel (.cons 4 rfl .nil) ?_
  refine X.then_ ?_
  refine T.ret ?_
  refine X.ret_then ?_
  refine X.ret1 Try.results89 rfl (fun w hw => ?_)
  have hz : zat zs i = none := by
    unfold zat; split
    · rw [List.getElem?_eq_none (by omega)]; rfl
    · rfl
  exact ⟨(), trivial, by rw [hz], hw.f⟩
 ·skip
  refine T.y (fun w hw => Yl.move rfl) rfl rfl ?_
  refine T.y (fun w hw => Yl.lss rfl rfl) rfl rfl ?_
  refine T.y (fun w hw => Yl.pickF rfl rfl) rfl rfl ?_
  refine T.y (fun w hw => Yl.move rfl) rfl rfl ?_
  refine T.splitD 11 rfl (fun h11 => ?_) (fun h11 => ?_)
  ·skip
   refine T.off rfl rfl rfl ?_
   refine T.off rfl rfl rfl ?_
   refine T.off rfl rfl rfl ?_
   refine T.off rfl rfl rfl ?_
   refine T.off rfl rfl rfl ?_
   refine T.off rfl rfl rfl ?_
   refine T.off rfl rfl rfl ?_
   refine T.y (fun w hw => Yl.pickT rfl rfl) rfl rfl ?_
   refine T.nil ?_
   refine J.sel (.cons 0 rfl (.cons 1 rfl (.cons 19 rfl .nil))) ?_
   refine X.then_ ?_
   refine T.condT rfl ?_
   refine T.seq ?_
   -- region 2 (zdev.go:58)
   refine T.region ?_
   refine T.y (fun w hw => Yl.assign rfl) rfl rfl ?_
   refine T.nil ?_
   refine J.sel (.cons 4 rfl .nil) ?_
   refine X.then_ ?_
   refine T.ret ?_
   refine X.ret_then ?_
   refine X.ret1 Try.results89 rfl (fun w hw => ?_)
   have hz : zat zs i = none := by
     unfold zat; split
     · rw [List.getElem?_eq_none (by omega)]; rfl
     · rfl
   exact ⟨(), trivial, by rw [hz], hw.f⟩
  ·skip
   refine T.y (fun w hw => Yl.move rfl) rfl rfl ?_
   refine T.y (fun w hw => Yl.move rfl) rfl rfl ?_
   refine T.y (fun w hw => Yl.nilck rfl) rfl rfl ?_
   refine T.y (fun w hw => Yl.fa fa_133_1 rfl) rfl rfl ?_
   refine T.y (fun w hw => Yl.ldP hw na_131 rfl mM rfl) rfl rfl ?_
   refine T.y (fun w hw => Yl.len Try.underlying131 rfl) rfl rfl ?_
   refine T.y (fun w hw => Yl.geq rfl rfl) rfl rfl ?_
   refine T.y (fun w hw => Yl.pickF rfl rfl) rfl rfl ?_
   refine T.nil ?_
   refine J.sel (.cons 0 rfl (.cons 1 rfl (.cons 19 rfl .nil))) ?_
   refine X.then_ ?_
   refine T.condD rfl (fun h19 => ?_) (fun h19 => ?_)
   ·skip
    refine T.seq ?_
    -- region 2 (zdev.go:58)
    refine T.region ?_
    refine T.y (fun w hw => Yl.assign rfl) rfl rfl ?_
    refine T.nil ?_
    refine J.sel (.cons 4 rfl .nil) ?_
    refine X.then_ ?_
    refine T.ret ?_
    refine X.ret_then ?_
    refine X.ret1 Try.results89 rfl (fun w hw => ?_)
    have hz : zat zs i = none := by
      unfold zat; split
      · rw [List.getElem?_eq_none (by omega)]; rfl
      · rfl
    exact ⟨(), trivial, by rw [hz], hw.f⟩
   ·skip
    refine T.skip ?_
    refine X.then_ ?_
    refine T.seq ?_
    obtain ⟨z, hz⟩ : ∃ z, zs[i.toNat]? = some z := ⟨_, List.getElem?_eq_getElem (by omega)⟩
    have hv : (zs.map fun z => ptr z 0)[i.toNat]? = some (ptr z 0) := by rw [List.getElem?_map, hz]; rfl
    -- region 3 (zdev.go:60)
    refine T.region ?_
    refine T.y (fun w hw => Yl.move rfl) rfl rfl ?_
    refine T.y (fun w hw => Yl.nilck rfl) rfl rfl ?_
    refine T.y (fun w hw => Yl.fa fa_133_1 rfl) rfl rfl ?_
    refine T.y (fun w hw => Yl.ldP hw na_131 rfl mM rfl) rfl rfl ?_
    refine T.y (fun w hw => Yl.move rfl) rfl rfl ?_
    refine T.y (fun w hw => Yl.ia1 (i := i.toNat) sC Try.underlying131 isz_134 rfl rfl (by omega) (by omega)) rfl rfl ?_
    refine T.y (fun w hw => (by first | exact Yl.ldC hw na_134 rfl mM | exact Yl.ldR sC na_134 rfl (by assumption) | fail)) rfl rfl ?_
    refine T.y (fun w hw => Yl.assign rfl) rfl rfl ?_
    refine T.nil ?_
    refine J.sel (.cons 4 rfl .nil) ?_
    refine X.then_ ?_
    refine T.ret ?_
    refine X.ret1 Try.results89 rfl (fun w hw => ?_)
    exact ⟨(), trivial, by unfold zat; rw [if_pos (by omega), hz]; rfl, hw.f⟩

set_option maxHeartbeats 1000000 in
theorem begin_ct {d c : Nat} {D : Dev} {A : Option Addr} {r : Int} {M : List HP} {K : List KP} (hl : D.left ≤ 9223372036854775807) : Fn 90 [ptr d 0] (pt d 133 (devCells D A c r) :: M) K (fun _ : Unit => True) (fun _ => .bool D.begin.2) (fun _ => pt d 133 (devCells D.begin.1 A c r) :: M) (fun _ => K) := by
 refine Fn.of (n := 45) Try.func90 rfl Try.ntmps90 rfl ?_
 unfold devCells
 refine T.seq ?_
 -- region 0 (zdev.go:64)
 refine T.region ?_
 refine T.y (fun w hw => Yl.assign rfl) rfl rfl ?_
 refine T.nil ?_
 refine J.sel (.cons 0 rfl .nil) ?_
 refine X.then_ ?_
 refine T.seq ?_
 -- region 1 (zdev.go:65)
 refine T.region ?_
 refine T.y (fun w hw => Yl.move rfl) rfl rfl ?_
 refine T.y (fun w hw => Yl.nilck rfl) rfl rfl ?_
 refine T.y (fun w hw => Yl.fa fa_133_2 rfl) rfl rfl ?_
 refine T.y (fun w hw => Yl.ldP hw na_3 rfl mM rfl) rfl rfl ?_
 refine T.y (fun w hw => Yl.addW rfl rfl) rfl rfl ?_
 refine T.y (fun w hw => Yl.nilck rfl) rfl rfl ?_
 refine T.y (fun w hw => Yl.fa fa_133_2 rfl) rfl rfl ?_
 refine T.o0 (OpW.st1 sz_3 rfl rfl rfl rfl sW uP) rfl (fun _ _ => ?_)
 refine T.nil ?_
 refine J.sel (.cons 0 rfl .nil) ?_
 refine X.then_ ?_
 refine T.seq ?_
 refine T.seq ?_
 -- region 2 (zdev.go:66)
 refine T.region ?_
 refine T.y (fun w hw => Yl.move rfl) rfl rfl ?_
 refine T.y (fun w hw => Yl.move rfl) rfl rfl ?_
 refine T.y (fun w hw => Yl.nilck rfl) rfl rfl ?_
 refine T.y (fun w hw => Yl.fa fa_133_6 rfl) rfl rfl ?_
 refine T.y (fun w hw => Yl.ldP hw na_4 rfl mM rfl) rfl rfl ?_
 refine T.y (fun w hw => Yl.move rfl) rfl rfl ?_
 refine T.split 15 rfl (fun h15 => ?_) (fun h15 => ?_)
 ·skip
  refine T.off rfl rfl rfl ?_
  refine T.off rfl rfl rfl ?_
  refine T.off rfl rfl rfl ?_
  refine T.off rfl rfl rfl ?_
  refine T.off rfl rfl rfl ?_
  refine T.off rfl rfl rfl ?_
  refine T.off rfl rfl rfl ?_
  refine T.off rfl rfl rfl ?_
  refine T.off rfl rfl rfl ?_
  refine T.off rfl rfl rfl ?_
  refine T.off rfl rfl rfl ?_
  refine T.y (fun w hw => Yl.pickT rfl rfl) rfl rfl ?_
  refine T.y (fun w hw => Yl.nilck rfl) rfl rfl ?_
  refine T.y (fun w hw => Yl.fa fa_133_6 rfl) rfl rfl ?_
  refine T.o0 (OpW.st1 sz_4 rfl rfl rfl rfl sW uP) rfl (fun _ _ => ?_)
  refine T.nil ?_
  refine J.sel (.cons 0 rfl .nil) ?_
  refine X.then_ ?_
  refine T.seq ?_
  -- region 3 (zdev.go:66)
  refine T.region ?_
  refine T.y (fun w hw => Yl.move rfl) rfl rfl ?_
  refine T.y (fun w hw => Yl.nilck rfl) rfl rfl ?_
  refine T.y (fun w hw => Yl.fa fa_133_6 rfl) rfl rfl ?_
  refine T.y (fun w hw => Yl.ldP hw na_4 rfl mM rfl) rfl rfl ?_
  refine T.nil ?_
  refine J.sel (.cons 0 rfl (.cons 33 rfl .nil)) ?_
  refine X.then_ ?_
  refine T.condT rfl ?_
  refine T.seq ?_
  -- region 4 (zdev.go:67)
  refine T.region ?_
  refine T.y (fun w hw => Yl.assign rfl) rfl rfl ?_
  refine T.nil ?_
  refine J.sel (.cons 2 rfl .nil) ?_
  refine X.then_ ?_
  refine T.ret ?_
  refine X.ret_then ?_
  refine X.ret1 Try.results90 rfl (fun w hw => ?_)
  have hb := begin_no (D := D) (by simp_all; try omega)
  rw [hb]
  refine ⟨(), trivial, rfl, ?_⟩
  first
    | exact hw.f
    | (rw [decide_eq_true ‹_›] at hw; exact hw.f)
 ·skip
  refine T.y (fun w hw => Yl.move rfl) rfl rfl ?_
  refine T.y (fun w hw => Yl.nilck rfl) rfl rfl ?_
  refine T.y (fun w hw => Yl.fa fa_133_4 rfl) rfl rfl ?_
  refine T.y (fun w hw => Yl.ldP hw na_4 rfl mM rfl) rfl rfl ?_
  refine T.y (fun w hw => Yl.move rfl) rfl rfl ?_
  refine T.split 20 rfl (fun h20 => ?_) (fun h20 => ?_)
  ·skip
   refine T.y (fun w hw => Yl.move rfl) rfl rfl ?_
   refine T.y (fun w hw => Yl.nilck rfl) rfl rfl ?_
   refine T.y (fun w hw => Yl.fa fa_133_5 rfl) rfl rfl ?_
   refine T.y (fun w hw => Yl.ldP hw na_3 rfl mM rfl) rfl rfl ?_
   refine T.y (fun w hw => Yl.lss rfl rfl) rfl rfl ?_
   refine T.y (fun w hw => Yl.pickT rfl rfl) rfl rfl ?_
   refine T.y (fun w hw => Yl.pickF rfl rfl) rfl rfl ?_
   refine T.y (fun w hw => Yl.nilck rfl) rfl rfl ?_
   refine T.y (fun w hw => Yl.fa fa_133_6 rfl) rfl rfl ?_
   refine T.o0 (OpW.st1 sz_4 rfl rfl rfl rfl sW uP) rfl (fun _ _ => ?_)
   refine T.nil ?_
   refine J.sel (.cons 0 rfl .nil) ?_
   refine X.then_ ?_
   refine T.seq ?_
   -- region 3 (zdev.go:66)
   refine T.region ?_
   refine T.y (fun w hw => Yl.move rfl) rfl rfl ?_
   refine T.y (fun w hw => Yl.nilck rfl) rfl rfl ?_
   refine T.y (fun w hw => Yl.fa fa_133_6 rfl) rfl rfl ?_
   refine T.y (fun w hw => Yl.ldP hw na_4 rfl mM rfl) rfl rfl ?_
   refine T.nil ?_
   refine J.sel (.cons 0 rfl (.cons 33 rfl .nil)) ?_
   refine X.then_ ?_
   refine T.condD rfl (fun h33 => ?_) (fun h33 => ?_)
   ·skip
    refine T.seq ?_
    -- region 4 (zdev.go:67)
    refine T.region ?_
    refine T.y (fun w hw => Yl.assign rfl) rfl rfl ?_
    refine T.nil ?_
    refine J.sel (.cons 2 rfl .nil) ?_
    refine X.then_ ?_
    refine T.ret ?_
    refine X.ret_then ?_
    refine X.ret1 Try.results90 rfl (fun w hw => ?_)
    have hb := begin_no (D := D) (by simp_all; try omega)
    rw [hb]
    refine ⟨(), trivial, rfl, ?_⟩
    first
      | exact hw.f
      | (rw [decide_eq_true ‹_›] at hw; exact hw.f)
   ·skip
    refine T.skip ?_
    refine X.then_ ?_
    refine T.seq ?_
    refine T.seq ?_
    -- region 5 (zdev.go:69)
    refine T.region ?_
    refine T.y (fun w hw => Yl.move rfl) rfl rfl ?_
    refine T.y (fun w hw => Yl.nilck rfl) rfl rfl ?_
    refine T.y (fun w hw => Yl.fa fa_133_4 rfl) rfl rfl ?_
    refine T.y (fun w hw => Yl.ldP hw na_4 rfl mM rfl) rfl rfl ?_
    refine T.nil ?_
    refine J.sel (.cons 0 rfl (.cons 37 rfl .nil)) ?_
    refine X.then_ ?_
    refine T.condTH rfl h20 ?_
    -- region 6 (zdev.go:70)
    refine T.region ?_
    refine T.y (fun w hw => Yl.move rfl) rfl rfl ?_
    refine T.y (fun w hw => Yl.nilck rfl) rfl rfl ?_
    refine T.y (fun w hw => Yl.fa fa_133_5 rfl) rfl rfl ?_
    refine T.y (fun w hw => Yl.ldP hw na_3 rfl mM rfl) rfl rfl ?_
    refine T.y (fun w hw => Yl.sub rfl rfl (by omega)) rfl rfl ?_
    refine T.y (fun w hw => Yl.nilck rfl) rfl rfl ?_
    refine T.y (fun w hw => Yl.fa fa_133_5 rfl) rfl rfl ?_
    refine T.o0 (OpW.st1 sz_3 rfl rfl rfl rfl sW uP) rfl (fun _ _ => ?_)
    refine T.nil ?_
    refine J.sel .nil ?_
    refine X.then_ ?_
    refine T.seq ?_
    -- region 7 (zdev.go:72)
    refine T.region ?_
    refine T.y (fun w hw => Yl.assign rfl) rfl rfl ?_
    refine T.nil ?_
    refine X.then_ ?_
    refine T.ret ?_
    refine X.ret1 Try.results90 rfl (fun w hw => ?_)
    have hb := begin_yes (D := D) (by simp_all; try omega)
    rw [hb]
    refine ⟨(), trivial, rfl, ?_⟩
    first
      | (simp only [h20] at hw ⊢; exact hw.f)
      | (rw [decide_eq_false ‹_›] at hw; simp only [h20, if_true] at hw ⊢; rw [show (D.left : Int) - 1 = ((D.left - 1 : Nat) : Int) by omega] at hw; exact hw.f)
  ·skip
   refine T.off rfl rfl rfl ?_
   refine T.off rfl rfl rfl ?_
   refine T.off rfl rfl rfl ?_
   refine T.off rfl rfl rfl ?_
   refine T.off rfl rfl rfl ?_
   refine T.y (fun w hw => Yl.pickF rfl rfl) rfl rfl ?_
   refine T.y (fun w hw => Yl.pickF rfl rfl) rfl rfl ?_
   refine T.y (fun w hw => Yl.nilck rfl) rfl rfl ?_
   refine T.y (fun w hw => Yl.fa fa_133_6 rfl) rfl rfl ?_
   refine T.o0 (OpW.st1 sz_4 rfl rfl rfl rfl sW uP) rfl (fun _ _ => ?_)
   refine T.nil ?_
   refine J.sel (.cons 0 rfl .nil) ?_
   refine X.then_ ?_
   refine T.seq ?_
   -- region 3 (zdev.go:66)
   refine T.region ?_
   refine T.y (fun w hw => Yl.move rfl) rfl rfl ?_
   refine T.y (fun w hw => Yl.nilck rfl) rfl rfl ?_
   refine T.y (fun w hw => Yl.fa fa_133_6 rfl) rfl rfl ?_
   refine T.y (fun w hw => Yl.ldP hw na_4 rfl mM rfl) rfl rfl ?_
   refine T.nil ?_
   refine J.sel (.cons 0 rfl (.cons 33 rfl .nil)) ?_
   refine X.then_ ?_
   refine T.condF rfl ?_
   refine T.skip ?_
   refine X.then_ ?_
   refine T.seq ?_
   refine T.seq ?_
   -- region 5 (zdev.go:69)
   refine T.region ?_
   refine T.y (fun w hw => Yl.move rfl) rfl rfl ?_
   refine T.y (fun w hw => Yl.nilck rfl) rfl rfl ?_
   refine T.y (fun w hw => Yl.fa fa_133_4 rfl) rfl rfl ?_
   refine T.y (fun w hw => Yl.ldP hw na_4 rfl mM rfl) rfl rfl ?_
   refine T.nil ?_
   refine J.sel (.cons 0 rfl (.cons 37 rfl .nil)) ?_
   refine X.then_ ?_
   refine T.condFH rfl h20 ?_
   refine T.skip ?_
   refine X.then_ ?_
   refine T.seq ?_
   -- region 7 (zdev.go:72)
   refine T.region ?_
   refine T.y (fun w hw => Yl.assign rfl) rfl rfl ?_
   refine T.nil ?_
   refine J.sel (.cons 2 rfl .nil) ?_
   refine X.then_ ?_
   refine T.ret ?_
   refine X.ret1 Try.results90 rfl (fun w hw => ?_)
   have hb := begin_yes (D := D) (by simp_all; try omega)
   rw [hb]
   refine ⟨(), trivial, rfl, ?_⟩
   first
     | (simp only [h20] at hw ⊢; exact hw.f)
     | (rw [decide_eq_false ‹_›] at hw; simp only [h20, if_true] at hw ⊢; rw [show (D.left : Int) - 1 = ((D.left - 1 : Nat) : Int) by omega] at hw; exact hw.f)

set_option maxHeartbeats 1000000 in
theorem append_ct {d c : Nat} {D : Dev} {i : Int} {A : Option Addr} {p : List Int} {M : List HP} {K : List KP} (hD : D.ok) (hp : bytesK A c p ∈ K) (hl : p.length ≤ 1000000) : Fn 39 [ptr d 0, .int .i64 i, .slice A p.length c] (devH d D :: M) K (fun _ : Unit => True) (fun _ => .tuple #[.int .i64 (D.append i p).2.1, .int .i64 (D.append i p).2.2]) (fun _ => devH d (D.append i p).1 :: M) (fun _ => K) := by
 refine Fn.of (n := 52) Try.func39 rfl Try.ntmps39 rfl ?_
 refine J.open_ (fun w hw => hw.dev) ?_
 rintro ⟨zs, Z0, k0, r⟩ ⟨hz, hr1, hr2⟩
 dsimp only at hz hr1 hr2 ⊢
 refine T.seq ?_
 -- region 0 (zdev.go:76)
 refine T.region ?_
 refine T.y (fun w hw => Yl.assign rfl) rfl rfl ?_
 refine T.y (fun w hw => Yl.assign rfl) rfl rfl ?_
 refine T.nil ?_
 refine J.sel (.cons 0 rfl (.cons 1 rfl (.cons 2 rfl .nil))) ?_
 refine X.then_ ?_
 refine T.seq ?_
 -- region 1 (zdev.go:77)
 refine T.region ?_
 refine T.y (fun w hw => Yl.move rfl) rfl rfl ?_
 refine T.y (fun w hw => Yl.move rfl) rfl rfl ?_
 refine T.o (OpW.call en_89 rfl (at_ct hz)) rfl rfl (fun x hx => ?_)
 refine T.y (fun w hw => Yl.assign rfl) rfl rfl ?_
 refine T.nil ?_
 refine J.sel (.cons 0 rfl (.cons 2 rfl (.cons 8 rfl .nil))) ?_
 refine X.then_ ?_
 refine T.seq ?_
 refine T.block ?_
 refine T.seq ?_
 -- region 2 (zdev.go:79)
 refine T.region ?_
 refine T.y (fun w hw => Yl.move rfl) rfl rfl ?_
 refine T.y (fun w hw => Yl.eqP Try.underlying134 rfl rfl) rfl rfl ?_
 refine T.y (fun w hw => Yl.assign rfl) rfl rfl ?_
 refine T.nil ?_
 refine J.sel (.cons 0 rfl (.cons 2 rfl (.cons 8 rfl (.cons 12 rfl .nil)))) ?_
 refine X.then_ ?_
 refine T.cond rfl (fun h12 => ?_) (fun h12 => ?_)
 ·skip
  refine T.seq ?_
  -- region 3 (zdev.go:80)
  refine T.region ?_
  refine T.y (fun w hw => Yl.assign rfl) rfl rfl ?_
  refine T.y (fun w hw => Yl.assign rfl) rfl rfl ?_
  refine T.nil ?_
  refine J.sel (.cons 6 rfl (.cons 7 rfl .nil)) ?_
  refine X.then_ ?_
  refine T.ret ?_
  refine X.ret_blk ?_
  refine X.ret_then ?_
  refine X.ret2 Try.results39 rfl rfl (fun w hw => ?_)
  rw [append_none (zat_none hz h12)]
  exact ⟨(), trivial, rfl, hw.dev' hz ⟨hr1, hr2⟩⟩
 ·skip
  obtain ⟨k, z, Z, rfl, hza, hzk, hZk, hzo, hat⟩ := zat_some hz (D := D) h12
  rw [hza]
  refine T.seq ?_
  -- region 4 (zdev.go:81)
  refine T.region ?_
  refine T.y (fun w hw => Yl.move rfl) rfl rfl ?_
  refine T.y (fun w hw => Yl.len Try.underlying23 rfl) rfl rfl ?_
  refine T.y (fun w hw => Yl.neq rfl rfl) rfl rfl ?_
  refine T.y (fun w hw => Yl.assign rfl) rfl rfl ?_
  refine T.nil ?_
  refine J.sel (.cons 0 rfl (.cons 2 rfl (.cons 8 rfl (.cons 15 rfl .nil)))) ?_
  refine X.then_ ?_
  refine T.condD rfl (fun h15 => ?_) (fun h15 => ?_)
  ·skip
   refine T.seq ?_
   -- region 5 (zdev.go:82)
   refine T.region ?_
   refine T.y (fun w hw => Yl.assign rfl) rfl rfl ?_
   refine T.y (fun w hw => Yl.assign rfl) rfl rfl ?_
   refine T.nil ?_
   refine J.sel (.cons 6 rfl (.cons 7 rfl .nil)) ?_
   refine X.then_ ?_
   refine T.ret ?_
   refine X.ret_blk ?_
   refine X.ret_then ?_
   refine X.ret2 Try.results39 rfl rfl (fun w hw => ?_)
   rw [append_len hzo (by omega)]
   exact ⟨(), trivial, rfl, hw.dev' hz ⟨hr1, hr2⟩⟩
  ·skip
   refine T.seq ?_
   -- region 6 (zdev.go:83)
   refine T.region ?_
   refine T.y (fun w hw => Yl.move rfl) rfl rfl ?_
   refine T.o (OpW.call en_90 rfl (begin_ct hD.left)) rfl rfl (fun x hx => ?_)
   refine T.y (fun w hw => Yl.not rfl) rfl rfl ?_
   refine T.y (fun w hw => Yl.assign rfl) rfl rfl ?_
   refine T.nil ?_
   refine J.sel (.cons 0 rfl (.cons 2 rfl (.cons 8 rfl (.cons 19 rfl .nil)))) ?_
   refine X.then_ ?_
   refine T.cond rfl (fun h19 => ?_) (fun h19 => ?_)
   ·skip
    refine T.seq ?_
    -- region 7 (zdev.go:84)
    refine T.region ?_
    refine T.y (fun w hw => Yl.assign rfl) rfl rfl ?_
    refine T.y (fun w hw => Yl.assign rfl) rfl rfl ?_
    refine T.nil ?_
    refine J.sel (.cons 6 rfl (.cons 7 rfl .nil)) ?_
    refine X.then_ ?_
    refine T.ret ?_
    refine X.ret_blk ?_
    refine X.ret_then ?_
    refine X.ret2 Try.results39 rfl rfl (fun w hw => ?_)
    rw [append_off hzo (by omega) (by simpa using h19)]
    exact ⟨(), trivial, rfl, Hold.dev' (D := D.begin.1) (by rw [begin_zones]; exact hz) ⟨hr1, hr2⟩ (by rw [begin_zones]; exact hw)⟩
   ·skip
    refine T.seq ?_
    refine J.ent (fun w hw => (hw.pick (p := zonesH zs D.zones) pK).zfocus hzk hZk) ?_
    refine J.open_ (fun w hw => hw.zopen) ?_
    rintro ⟨B, kb⟩ -
    dsimp only
    obtain ⟨f1, f2, f3⟩ := hD.full Z (List.mem_of_getElem? hZk)
    have fs := hD.size
    -- region 8 (zdev.go:85)
    refine Dr.start0 [] ?_
    refine Dr.take 0 rfl (by kernel_rfl) bL sS (fun w hs => have hw := hs.h; Yl.move rfl) rfl rfl ?_
    refine Dr.take 1 rfl (by kernel_rfl) bL sS (fun w hs => have hw := hs.h; Yl.nilck rfl) rfl rfl ?_
    refine Dr.take 2 rfl (by kernel_rfl) bL sS (fun w hs => have hw := hs.h; Yl.fa fa_136_0 rfl) rfl rfl ?_
    refine Dr.take 3 rfl (by kernel_rfl) bL sS (fun w hs => have hw := hs.h; Yl.ldP hw na_62 rfl mM rfl) rfl rfl ?_
    refine Dr.take 4 rfl (by kernel_rfl) bL sS (fun w hs => have hw := hs.h; Yl.len Try.underlying62 rfl) rfl rfl ?_
    refine Dr.take 5 rfl (by kernel_rfl) bL sS (fun w hs => have hw := hs.h; Yl.move rfl) rfl rfl ?_
    refine Dr.take 6 rfl (by kernel_rfl) bL sS (fun w hs => have hw := hs.h; Yl.nilck rfl) rfl rfl ?_
    refine Dr.take 7 rfl (by kernel_rfl) bL sS (fun w hs => have hw := hs.h; Yl.fa fa_133_0 rfl) rfl rfl ?_
    refine Dr.take 8 rfl (by kernel_rfl) bL sS (fun w hs => have hw := hs.h; Yl.fa fa_42_1 rfl) rfl rfl ?_
    refine Dr.take 9 rfl (by kernel_rfl) bL sS (fun w hs => have hw := hs.h; Yl.ldP hw na_3 rfl mM rfl) rfl rfl ?_
    refine Dr.take 10 rfl (by kernel_rfl) bL sS (fun w hs => have hw := hs.h; Yl.geq rfl rfl) rfl rfl ?_
    refine Dr.take 11 rfl (by kernel_rfl) bL sS (fun w hs => have hw := hs.h; Yl.assign rfl) rfl rfl ?_
    refine Dr.done (by kernel_rfl) ?_
    refine J.sel (.cons 2 rfl (.cons 8 rfl (.cons 23 rfl .nil))) ?_
    refine X.then_ ?_
    refine T.condD rfl (fun h23 => ?_) (fun h23 => ?_)
    ·skip
     refine T.seq ?_
     -- region 9 (zdev.go:86)
     refine T.region ?_
     refine T.y (fun w hw => Yl.assign rfl) rfl rfl ?_
     refine T.y (fun w hw => Yl.assign rfl) rfl rfl ?_
     refine T.nil ?_
     refine J.sel (.cons 6 rfl (.cons 7 rfl .nil)) ?_
     refine X.then_ ?_
     refine T.ret ?_
     refine X.ret_blk ?_
     refine X.ret_then ?_
     refine X.ret2 Try.results39 rfl rfl (fun w hw => ?_)
     rw [begin_size] at h23
     rw [append_full hzo (by omega) (by simpa using h19) hat (by omega), show D.begin.1 = D.begin.1.set k ⟨Z.blocks, Z.good⟩ from (set_self (by rw [begin_zones]; exact hZk)).symm]
     exact ⟨(), trivial, rfl, Hold.dev_set (Z := Z) (by rw [begin_zones]; exact hz) ⟨hr1, hr2⟩ hzk (by rw [begin_zones]; exact hZk) (by rw [begin_zones]; exact hw.f)⟩
    ·skip
     refine T.skip ?_
     refine X.nm_blk ?_
     refine X.then_ ?_
     refine T.seq ?_
     -- region 10 (zdev.go:88)
     refine Dr.start1 [11] (p := rowsH B kb Z.blocks) pK ?_
     refine Dr.take 0 rfl (by kernel_rfl) bL sS (fun w hs => have hw := hs.h; Yl.move rfl) rfl rfl ?_
     refine Dr.take 1 rfl (by kernel_rfl) bL sS (fun w hs => have hw := hs.h; Yl.move rfl) rfl rfl ?_
     refine Dr.take 2 rfl (by kernel_rfl) bL sS (fun w hs => have hw := hs.h; Yl.nilck rfl) rfl rfl ?_
     refine Dr.take 3 rfl (by kernel_rfl) bL sS (fun w hs => have hw := hs.h; Yl.fa fa_136_0 rfl) rfl rfl ?_
     refine Dr.take 4 rfl (by kernel_rfl) bL sS (fun w hs => have hw := hs.h; Yl.ldP hw na_62 rfl mM rfl) rfl rfl ?_
     refine Dr.take 5 rfl (by kernel_rfl) bL sS (fun w hs => have hw := hs.h; Yl.move rfl) rfl rfl ?_
     refine Dr.act 6 rfl (by kernel_rfl) rfl (OpW.call en_91 rfl (clone_ct hp hl)) rfl rfl (fun _ _ _ => sS) (fun ⟨A41, c41⟩ _ => ?_)
     dsimp only
     refine Dr.act 7 rfl (by kernel_rfl) rfl (OpW.bsl (sz := 1) rfl bsl_62_1 rfl rfl) rfl rfl (fun _ _ _ => sS) (fun b42 _ => ?_)
     refine Dr.act 8 rfl (by kernel_rfl) rfl (OpW.appR inf_23 Try.underlying62 rfl rfl mM mM pK (by omega)) rfl rfl (fun _ _ _ => sS) (fun ⟨A43, c43⟩ _ => ?_)
     dsimp only
     refine Dr.take 9 rfl (by kernel_rfl) bL sS (fun w hs => have hw := hs.h; Yl.nilck rfl) rfl rfl ?_
     refine Dr.take 10 rfl (by kernel_rfl) bL sS (fun w hs => have hw := hs.h; Yl.fa fa_136_0 rfl) rfl rfl ?_
     refine Dr.act0 11 rfl (by kernel_rfl) rfl (OpW.st1 sz_62 rfl rfl rfl rfl sW uP) rfl (fun hB => absurd (List.elem_iff.1 rfl) hB) (fun _ _ => ?_)
     refine Dr.done (by kernel_rfl) ?_
     refine J.sel (.cons 8 rfl .nil) ?_
     refine X.then_ ?_
     refine T.seq ?_
     have fl : (Z.blocks ++ [p]).length = Z.blocks.length + 1 := by simp
     -- region 11 (zdev.go:89)
     refine T.region ?_
     refine T.y (fun w hw => Yl.move rfl) rfl rfl ?_
     refine T.y (fun w hw => Yl.nilck rfl) rfl rfl ?_
     refine T.y (fun w hw => Yl.fa fa_136_0 rfl) rfl rfl ?_
     refine T.y (fun w hw => Yl.ldP hw na_62 rfl mM rfl) rfl rfl ?_
     refine T.y (fun w hw => Yl.len Try.underlying62 rfl) rfl rfl ?_
     refine T.y (fun w hw => Yl.sub rfl rfl (by omega)) rfl rfl ?_
     refine T.y (fun w hw => Yl.assign rfl) rfl rfl ?_
     refine T.y (fun w hw => Yl.assign rfl) rfl rfl ?_
     refine T.nil ?_
     refine J.sel (.cons 6 rfl (.cons 7 rfl .nil)) ?_
     refine X.then_ ?_
     refine T.ret ?_
     refine X.ret2 Try.results39 rfl rfl (fun w hw => ?_)
     rw [begin_size] at h23
     rw [append_ok hzo (by omega) (by simpa using h19) hat (by omega)]
     refine ⟨(), trivial, ?_, Hold.dev_set (Z := Z) (by rw [begin_zones]; exact hz) ⟨hr1, hr2⟩ hzk (by rw [begin_zones]; exact hZk) (by rw [begin_zones]; exact hw.f)⟩
     simp

set_option maxHeartbeats 1000000 in
theorem pointer_ct {d : Nat} {D : Dev} {i : Int} {M : List HP} {K : List KP} (hD : D.ok) : Fn 40 [ptr d 0, .int .i64 i] (devH d D :: M) K (fun _ : Unit => True) (fun _ => .tuple #[.int .i64 (D.pointer i).1, .int .i64 (D.pointer i).2]) (fun _ => devH d D :: M) (fun _ => K) := by
 refine Fn.of (n := 17) Try.func40 rfl Try.ntmps40 rfl ?_
 refine J.open_ (fun w hw => hw.dev) ?_
 rintro ⟨zs, Z0, k0, r⟩ ⟨hz, hr1, hr2⟩
 dsimp only at hz hr1 hr2 ⊢
 refine T.seq ?_
 -- region 0 (zdev.go:133)
 refine T.region ?_
 refine T.y (fun w hw => Yl.assign rfl) rfl rfl ?_
 refine T.y (fun w hw => Yl.assign rfl) rfl rfl ?_
 refine T.nil ?_
 refine J.sel (.cons 0 rfl (.cons 1 rfl .nil)) ?_
 refine X.then_ ?_
 refine T.seq ?_
 -- region 1 (zdev.go:134)
 refine T.region ?_
 refine T.y (fun w hw => Yl.move rfl) rfl rfl ?_
 refine T.y (fun w hw => Yl.move rfl) rfl rfl ?_
 refine T.o (OpW.call en_89 rfl (at_ct hz)) rfl rfl (fun x hx => ?_)
 refine T.y (fun w hw => Yl.assign rfl) rfl rfl ?_
 refine T.nil ?_
 refine J.sel (.cons 6 rfl .nil) ?_
 refine X.then_ ?_
 refine T.seq ?_
 refine T.seq ?_
 -- region 2 (zdev.go:135)
 refine T.region ?_
 refine T.y (fun w hw => Yl.move rfl) rfl rfl ?_
 refine T.y (fun w hw => Yl.eqP Try.underlying134 rfl rfl) rfl rfl ?_
 refine T.nil ?_
 refine J.sel (.cons 6 rfl (.cons 11 rfl .nil)) ?_
 refine X.then_ ?_
 refine T.cond rfl (fun h11 => ?_) (fun h11 => ?_)
 ·skip
  refine T.seq ?_
  -- region 3 (zdev.go:136)
  refine T.region ?_
  refine T.y (fun w hw => Yl.assign rfl) rfl rfl ?_
  refine T.y (fun w hw => Yl.assign rfl) rfl rfl ?_
  refine T.nil ?_
  refine J.sel (.cons 4 rfl (.cons 5 rfl .nil)) ?_
  refine X.then_ ?_
  refine T.ret ?_
  refine X.ret_then ?_
  refine X.ret2 Try.results40 rfl rfl (fun w hw => ?_)
  rw [pointer_none (zat_none hz h11)]
  exact ⟨(), trivial, rfl, hw.dev' hz ⟨hr1, hr2⟩⟩
 ·skip
  obtain ⟨k, z, Z, rfl, hza, hzk, hZk, hzo, hat⟩ := zat_some hz (D := D) h11
  rw [hza]
  refine T.skip ?_
  refine X.then_ ?_
  refine T.seq ?_
  refine J.ent (fun w hw => (hw.pick (p := zonesH zs D.zones) pK).zfocus hzk hZk) ?_
  refine J.open_ (fun w hw => hw.zopen) ?_
  rintro ⟨B, kb⟩ -
  dsimp only
  obtain ⟨f1, f2, f3⟩ := hD.full Z (List.mem_of_getElem? hZk)
  have fs := hD.size
  -- region 4 (zdev.go:138)
  refine T.region ?_
  refine T.y (fun w hw => Yl.move rfl) rfl rfl ?_
  refine T.y (fun w hw => Yl.nilck rfl) rfl rfl ?_
  refine T.y (fun w hw => Yl.fa fa_136_0 rfl) rfl rfl ?_
  refine T.y (fun w hw => Yl.ldP hw na_62 rfl mM rfl) rfl rfl ?_
  refine T.y (fun w hw => Yl.len Try.underlying62 rfl) rfl rfl ?_
  refine T.y (fun w hw => Yl.assign rfl) rfl rfl ?_
  refine T.y (fun w hw => Yl.assign rfl) rfl rfl ?_
  refine T.nil ?_
  refine J.sel (.cons 4 rfl (.cons 5 rfl .nil)) ?_
  refine X.then_ ?_
  refine T.ret ?_
  refine X.ret2 Try.results40 rfl rfl (fun w hw => ?_)
  rw [pointer_ok hzo hat]
  refine ⟨(), trivial, rfl, ?_⟩
  rw [show D = D.set k ⟨Z.blocks, Z.good⟩ from (set_self hZk).symm]
  exact Hold.dev_set (Z := Z) (A := Z0) (c := k0) (r := r) (B := B) (kb := kb) (by first | exact hz | (rw [begin_zones]; exact hz)) ⟨by first | exact hr1 | exact (wrap_i64_le _).1, by first | exact hr2 | exact (wrap_i64_le _).2⟩ hzk (by first | exact hZk | (rw [begin_zones]; exact hZk)) (by first | exact hw.f | (rw [begin_zones]; exact hw.f))

set_option maxHeartbeats 1000000 in
theorem reset_ct {d : Nat} {D : Dev} {i : Int} {M : List HP} {K : List KP} (hD : D.ok) : Fn 38 [ptr d 0, .int .i64 i] (devH d D :: M) K (fun _ : Unit => True) (fun _ => .int .i64 (D.reset i).2) (fun _ => devH d (D.reset i).1 :: M) (fun _ => K) := by
 refine Fn.of (n := 19) Try.func38 rfl Try.ntmps38 rfl ?_
 refine J.open_ (fun w hw => hw.dev) ?_
 rintro ⟨zs, Z0, k0, r⟩ ⟨hz, hr1, hr2⟩
 dsimp only at hz hr1 hr2 ⊢
 refine T.seq ?_
 -- region 0 (zdev.go:106)
 refine T.region ?_
 refine T.y (fun w hw => Yl.assign rfl) rfl rfl ?_
 refine T.nil ?_
 refine J.sel (.cons 0 rfl (.cons 1 rfl .nil)) ?_
 refine X.then_ ?_
 refine T.seq ?_
 -- region 1 (zdev.go:107)
 refine T.region ?_
 refine T.y (fun w hw => Yl.move rfl) rfl rfl ?_
 refine T.y (fun w hw => Yl.move rfl) rfl rfl ?_
 refine T.o (OpW.call en_89 rfl (at_ct hz)) rfl rfl (fun x hx => ?_)
 refine T.y (fun w hw => Yl.assign rfl) rfl rfl ?_
 refine T.nil ?_
 refine J.sel (.cons 0 rfl (.cons 5 rfl .nil)) ?_
 refine X.then_ ?_
 refine T.seq ?_
 refine T.block ?_
 refine T.seq ?_
 -- region 2 (zdev.go:109)
 refine T.region ?_
 refine T.y (fun w hw => Yl.move rfl) rfl rfl ?_
 refine T.y (fun w hw => Yl.eqP Try.underlying134 rfl rfl) rfl rfl ?_
 refine T.y (fun w hw => Yl.assign rfl) rfl rfl ?_
 refine T.nil ?_
 refine J.sel (.cons 0 rfl (.cons 5 rfl (.cons 9 rfl .nil))) ?_
 refine X.then_ ?_
 refine T.cond rfl (fun h9 => ?_) (fun h9 => ?_)
 ·skip
  refine T.seq ?_
  -- region 3 (zdev.go:110)
  refine T.region ?_
  refine T.y (fun w hw => Yl.assign rfl) rfl rfl ?_
  refine T.nil ?_
  refine J.sel (.cons 4 rfl .nil) ?_
  refine X.then_ ?_
  refine T.ret ?_
  refine X.ret_blk ?_
  refine X.ret_then ?_
  refine X.ret1 Try.results38 rfl (fun w hw => ?_)
  rw [reset_none (zat_none hz h9)]
  exact ⟨(), trivial, rfl, hw.dev' hz ⟨hr1, hr2⟩⟩
 ·skip
  obtain ⟨k, z, Z, rfl, hza, hzk, hZk, hzo, hat⟩ := zat_some hz (D := D) h9
  rw [hza]
  refine T.seq ?_
  -- region 4 (zdev.go:111)
  refine T.region ?_
  refine T.y (fun w hw => Yl.move rfl) rfl rfl ?_
  refine T.o (OpW.call en_90 rfl (begin_ct hD.left)) rfl rfl (fun x hx => ?_)
  refine T.y (fun w hw => Yl.not rfl) rfl rfl ?_
  refine T.y (fun w hw => Yl.assign rfl) rfl rfl ?_
  refine T.nil ?_
  refine J.sel (.cons 5 rfl (.cons 12 rfl .nil)) ?_
  refine X.then_ ?_
  refine T.cond rfl (fun h12 => ?_) (fun h12 => ?_)
  ·skip
   refine T.seq ?_
   -- region 5 (zdev.go:112)
   refine T.region ?_
   refine T.y (fun w hw => Yl.assign rfl) rfl rfl ?_
   refine T.nil ?_
   refine J.sel (.cons 4 rfl .nil) ?_
   refine X.then_ ?_
   refine T.ret ?_
   refine X.ret_blk ?_
   refine X.ret_then ?_
   refine X.ret1 Try.results38 rfl (fun w hw => ?_)
   rw [reset_off hzo (by simpa using h12)]
   exact ⟨(), trivial, rfl, Hold.dev' (D := D.begin.1) (by rw [begin_zones]; exact hz) ⟨hr1, hr2⟩ (by rw [begin_zones]; exact hw)⟩
  ·skip
   refine T.skip ?_
   refine X.nm_blk ?_
   refine X.then_ ?_
   refine T.seq ?_
   refine J.ent (fun w hw => (hw.pick (p := zonesH zs D.zones) pK).zfocus hzk hZk) ?_
   refine J.open_ (fun w hw => hw.zopen) ?_
   rintro ⟨B, kb⟩ -
   dsimp only
   obtain ⟨f1, f2, f3⟩ := hD.full Z (List.mem_of_getElem? hZk)
   have fs := hD.size
   -- region 6 (zdev.go:114)
   refine T.region ?_
   refine T.y (fun w hw => Yl.move rfl) rfl rfl ?_
   refine T.y (fun w hw => Yl.build rfl (bld_136_z _)) rfl rfl ?_
   refine T.y (fun w hw => Yl.nilck rfl) rfl rfl ?_
   refine T.o0 (OpW.stA sz_136 rfl rfl rfl rfl sW uL) rfl (fun _ _ => ?_)
   refine T.nil ?_
   refine J.sel .nil ?_
   refine X.then_ ?_
   refine T.seq ?_
   -- region 7 (zdev.go:115)
   refine T.region ?_
   refine T.y (fun w hw => Yl.assign rfl) rfl rfl ?_
   refine T.nil ?_
   refine X.then_ ?_
   refine T.ret ?_
   refine X.ret1 Try.results38 rfl (fun w hw => ?_)
   rw [reset_ok hzo (by simpa using h12)]
   refine ⟨(), trivial, rfl, ?_⟩
   have hw := hw.rows_nil
   exact Hold.dev_set (Z := Z) (A := Z0) (c := k0) (r := r) (B := none) (kb := 0) (by first | exact hz | (rw [begin_zones]; exact hz)) ⟨by first | exact hr1 | exact (wrap_i64_le _).1, by first | exact hr2 | exact (wrap_i64_le _).2⟩ hzk (by first | exact hZk | (rw [begin_zones]; exact hZk)) (by first | exact hw.f | (rw [begin_zones]; exact hw.f))

set_option maxHeartbeats 1000000 in
theorem read_ct {d : Nat} {D : Dev} {i j : Int} {M : List HP} {K : List KP} (hD : D.ok) : Fn 42 [ptr d 0, .int .i64 i, .int .i64 j] (devH d D :: M) K (fun _ : Option Addr × Nat => True) (fun r => .tuple #[.slice r.1 (D.read i j).1.length r.2, .int .i64 (D.read i j).2]) (fun _ => devH d D :: M) (fun r => bytesK r.1 r.2 (D.read i j).1 :: K) := by
 refine Fn.of (n := 42) Try.func42 rfl Try.ntmps42 rfl ?_
 refine J.open_ (fun w hw => hw.dev) ?_
 rintro ⟨zs, Z0, k0, r⟩ ⟨hz, hr1, hr2⟩
 dsimp only at hz hr1 hr2 ⊢
 refine T.seq ?_
 -- region 0 (zdev.go:93)
 refine T.region ?_
 refine T.y (fun w hw => Yl.assign rfl) rfl rfl ?_
 refine T.y (fun w hw => Yl.assign rfl) rfl rfl ?_
 refine T.nil ?_
 refine J.sel (.cons 0 rfl (.cons 1 rfl (.cons 2 rfl .nil))) ?_
 refine X.then_ ?_
 refine T.seq ?_
 -- region 1 (zdev.go:94)
 refine T.region ?_
 refine T.y (fun w hw => Yl.move rfl) rfl rfl ?_
 refine T.y (fun w hw => Yl.move rfl) rfl rfl ?_
 refine T.o (OpW.call en_89 rfl (at_ct hz)) rfl rfl (fun x hx => ?_)
 refine T.y (fun w hw => Yl.assign rfl) rfl rfl ?_
 refine T.nil ?_
 refine J.sel (.cons 0 rfl (.cons 2 rfl (.cons 8 rfl .nil))) ?_
 refine X.then_ ?_
 refine T.seq ?_
 refine T.block ?_
 refine T.seq ?_
 -- region 2 (zdev.go:96)
 refine T.region ?_
 refine T.y (fun w hw => Yl.move rfl) rfl rfl ?_
 refine T.y (fun w hw => Yl.eqP Try.underlying134 rfl rfl) rfl rfl ?_
 refine T.y (fun w hw => Yl.assign rfl) rfl rfl ?_
 refine T.nil ?_
 refine J.sel (.cons 0 rfl (.cons 2 rfl (.cons 8 rfl (.cons 12 rfl .nil)))) ?_
 refine X.then_ ?_
 refine T.cond rfl (fun h12 => ?_) (fun h12 => ?_)
 ·skip
  refine T.seq ?_
  -- region 3 (zdev.go:97)
  refine T.region ?_
  refine T.y (fun w hw => Yl.assign rfl) rfl rfl ?_
  refine T.y (fun w hw => Yl.assign rfl) rfl rfl ?_
  refine T.nil ?_
  refine J.sel (.cons 6 rfl (.cons 7 rfl .nil)) ?_
  refine X.then_ ?_
  refine T.ret ?_
  refine X.ret_blk ?_
  refine X.ret_then ?_
  refine X.ret2 Try.results42 rfl rfl (fun w hw => ?_)
  rw [read_none (zat_none hz h12)]
  exact ⟨(none, 0), trivial, rfl, (hw.dev' hz ⟨hr1, hr2⟩).bytesK_nil⟩
 ·skip
  obtain ⟨k, z, Z, rfl, hza, hzk, hZk, hzo, hat⟩ := zat_some hz (D := D) h12
  rw [hza]
  refine J.ent (fun w hw => (hw.pick (p := zonesH zs D.zones) pK).zfocus hzk hZk) ?_
  refine J.open_ (fun w hw => hw.zopen) ?_
  rintro ⟨B, kb⟩ -
  dsimp only
  obtain ⟨f1, f2, f3⟩ := hD.full Z (List.mem_of_getElem? hZk)
  have fs := hD.size
  refine T.seq ?_
  -- region 4 (zdev.go:98)
  refine T.region ?_
  refine T.y (fun w hw => Yl.move rfl) rfl rfl ?_
  refine T.y (fun w hw => Yl.lss rfl rfl) rfl rfl ?_
  refine T.y (fun w hw => Yl.move rfl) rfl rfl ?_
  refine T.splitD 18 rfl (fun h18 => ?_) (fun h18 => ?_)
  ·skip
   refine T.off rfl rfl rfl ?_
   refine T.off rfl rfl rfl ?_
   refine T.off rfl rfl rfl ?_
   refine T.off rfl rfl rfl ?_
   refine T.off rfl rfl rfl ?_
   refine T.off rfl rfl rfl ?_
   refine T.off rfl rfl rfl ?_
   refine T.y (fun w hw => Yl.pickT rfl rfl) rfl rfl ?_
   refine T.y (fun w hw => Yl.assign rfl) rfl rfl ?_
   refine T.nil ?_
   refine J.sel (.cons 0 rfl (.cons 2 rfl (.cons 8 rfl (.cons 15 rfl .nil)))) ?_
   refine X.then_ ?_
   refine T.condT rfl ?_
   refine T.seq ?_
   -- region 5 (zdev.go:99)
   refine T.region ?_
   refine T.y (fun w hw => Yl.assign rfl) rfl rfl ?_
   refine T.y (fun w hw => Yl.assign rfl) rfl rfl ?_
   refine T.nil ?_
   refine J.sel (.cons 6 rfl (.cons 7 rfl .nil)) ?_
   refine X.then_ ?_
   refine T.ret ?_
   refine X.ret_blk ?_
   refine X.ret_then ?_
   refine X.ret2 Try.results42 rfl rfl (fun w hw => ?_)
   rw [read_out hzo hat (by omega)]
   refine ⟨(none, 0), trivial, rfl, Hold.bytesK_nil ?_⟩
   rw [show D = D.set k ⟨Z.blocks, Z.good⟩ from (set_self hZk).symm]
   exact Hold.dev_set (Z := Z) (A := Z0) (c := k0) (r := r) (B := B) (kb := kb) (by first | exact hz | (rw [begin_zones]; exact hz)) ⟨by first | exact hr1 | exact (wrap_i64_le _).1, by first | exact hr2 | exact (wrap_i64_le _).2⟩ hzk (by first | exact hZk | (rw [begin_zones]; exact hZk)) (by first | exact hw.f | (rw [begin_zones]; exact hw.f))
  ·skip
   refine T.y (fun w hw => Yl.move rfl) rfl rfl ?_
   refine T.y (fun w hw => Yl.move rfl) rfl rfl ?_
   refine T.y (fun w hw => Yl.nilck rfl) rfl rfl ?_
   refine T.y (fun w hw => Yl.fa fa_136_0 rfl) rfl rfl ?_
   refine T.y (fun w hw => Yl.ldP hw na_62 rfl mM rfl) rfl rfl ?_
   refine T.y (fun w hw => Yl.len Try.underlying62 rfl) rfl rfl ?_
   refine T.y (fun w hw => Yl.geq rfl rfl) rfl rfl ?_
   refine T.y (fun w hw => Yl.pickF rfl rfl) rfl rfl ?_
   refine T.y (fun w hw => Yl.assign rfl) rfl rfl ?_
   refine T.nil ?_
   refine J.sel (.cons 0 rfl (.cons 2 rfl (.cons 8 rfl (.cons 15 rfl .nil)))) ?_
   refine X.then_ ?_
   refine T.condD rfl (fun h15 => ?_) (fun h15 => ?_)
   ·skip
    refine T.seq ?_
    -- region 5 (zdev.go:99)
    refine T.region ?_
    refine T.y (fun w hw => Yl.assign rfl) rfl rfl ?_
    refine T.y (fun w hw => Yl.assign rfl) rfl rfl ?_
    refine T.nil ?_
    refine J.sel (.cons 6 rfl (.cons 7 rfl .nil)) ?_
    refine X.then_ ?_
    refine T.ret ?_
    refine X.ret_blk ?_
    refine X.ret_then ?_
    refine X.ret2 Try.results42 rfl rfl (fun w hw => ?_)
    rw [read_out hzo hat (by omega)]
    refine ⟨(none, 0), trivial, rfl, Hold.bytesK_nil ?_⟩
    rw [show D = D.set k ⟨Z.blocks, Z.good⟩ from (set_self hZk).symm]
    exact Hold.dev_set (Z := Z) (A := Z0) (c := k0) (r := r) (B := B) (kb := kb) (by first | exact hz | (rw [begin_zones]; exact hz)) ⟨by first | exact hr1 | exact (wrap_i64_le _).1, by first | exact hr2 | exact (wrap_i64_le _).2⟩ hzk (by first | exact hZk | (rw [begin_zones]; exact hZk)) (by first | exact hw.f | (rw [begin_zones]; exact hw.f))
   ·skip
    refine T.skip ?_
    refine X.nm_blk ?_
    refine X.then_ ?_
    refine T.seq ?_
    -- region 6 (zdev.go:101)
    refine T.region ?_
    refine T.y (fun w hw => Yl.move rfl) rfl rfl ?_
    refine T.y (fun w hw => Yl.nilck rfl) rfl rfl ?_
    refine T.y (fun w hw => Yl.fa fa_133_3 rfl) rfl rfl ?_
    refine T.y (fun w hw => Yl.ldP hw na_3 rfl mM rfl) rfl rfl ?_
    refine T.y (fun w hw => Yl.addW rfl rfl) rfl rfl ?_
    refine T.y (fun w hw => Yl.nilck rfl) rfl rfl ?_
    refine T.y (fun w hw => Yl.fa fa_133_3 rfl) rfl rfl ?_
    refine T.o0 (OpW.st1 sz_3 rfl rfl rfl rfl sW uP) rfl (fun _ _ => ?_)
    refine T.nil ?_
    refine J.sel (.cons 2 rfl (.cons 8 rfl .nil)) ?_
    refine X.then_ ?_
    refine T.seq ?_
    obtain ⟨n, rfl⟩ := Int.eq_ofNat_of_zero_le (show 0 ≤ j by omega)
    have hn : Z.blocks[n]? = some (Z.blocks[n]'(by omega)) := List.getElem?_eq_getElem (by omega)
    refine J.pick (p := rowsH B kb Z.blocks) pK ?_
    refine J.open_ (fun w hw => hw.rowsH_open) ?_
    intro vs hvs
    refine J.open_ (fun w hw => hw.rowsV_at List.mem_cons_self hn) ?_
    rintro ⟨U, u⟩ hv
    dsimp only at hv ⊢
    have h64 := (f3 _ (List.mem_of_getElem? hn)).1
    -- region 7 (zdev.go:102)
    refine T.region ?_
    refine T.y (fun w hw => Yl.move rfl) rfl rfl ?_
    refine T.y (fun w hw => Yl.nilck rfl) rfl rfl ?_
    refine T.y (fun w hw => Yl.fa fa_136_0 rfl) rfl rfl ?_
    refine T.y (fun w hw => Yl.ldP hw na_62 rfl mM rfl) rfl rfl ?_
    refine T.y (fun w hw => Yl.move rfl) rfl rfl ?_
    refine T.y (fun w hw => Yl.ia1 sC Try.underlying62 isz_23 rfl rfl rfl (by omega)) rfl rfl ?_
    refine T.y (fun w hw => (by first | exact Yl.ldC hw na_23 rfl mM | exact Yl.ldR sC na_23 rfl (by assumption) | fail)) rfl rfl ?_
    refine T.o (OpW.call en_91 rfl (clone_ct (List.mem_cons_self) (by omega))) rfl rfl (fun ⟨A41, c41⟩ _ => ?_)
    dsimp only
    refine T.y (fun w hw => Yl.assign rfl) rfl rfl ?_
    refine T.y (fun w hw => Yl.assign rfl) rfl rfl ?_
    refine T.nil ?_
    refine J.sel (.cons 6 rfl (.cons 7 rfl .nil)) ?_
    refine X.then_ ?_
    refine T.ret ?_
    refine X.ret2 Try.results42 rfl rfl (fun w hw => ?_)
    rw [read_ok hzo hat rfl hn]
    refine ⟨(A41, c41), trivial, rfl, ?_⟩
    rw [show D = D.set k ⟨Z.blocks, Z.good⟩ from (set_self hZk).symm]
    have hw := (Hold.pick pK hw).rowsH_shut (rows := Z.blocks) (vs := vs) mM
    exact Hold.dev_set (Z := Z) (A := Z0) (c := k0) (r := (IntKind.i64.wrap (r + 1))) (B := B) (kb := kb) (by first | exact hz | (rw [begin_zones]; exact hz)) ⟨by first | exact hr1 | exact (wrap_i64_le _).1, by first | exact hr2 | exact (wrap_i64_le _).2⟩ hzk (by first | exact hZk | (rw [begin_zones]; exact hZk)) (by first | exact hw.f | (rw [begin_zones]; exact hw.f))

set_option maxHeartbeats 1000000 in
theorem ops_ct {d : Nat} {D : Dev} {M : List HP} {K : List KP} (hD : D.ok) : Fn 41 [ptr d 0] (devH d D :: M) K (fun _ : Unit => True) (fun _ => .int .i64 D.ops) (fun _ => devH d D :: M) (fun _ => K) := by
 refine Fn.of (n := 9) Try.func41 rfl Try.ntmps41 rfl ?_
 refine J.open_ (fun w hw => hw.dev) ?_
 rintro ⟨zs, Z0, k0, r⟩ ⟨hz, hr1, hr2⟩
 dsimp only at hz hr1 hr2 ⊢
 have hZ := hD.zones
 refine T.seq ?_
 -- region 0 (zdev.go:142)
 refine T.region ?_
 refine T.y (fun w hw => Yl.assign rfl) rfl rfl ?_
 refine T.nil ?_
 refine J.sel (.cons 0 rfl .nil) ?_
 refine X.then_ ?_
 refine T.seq ?_
 refine T.seq ?_
 -- region 1 (zdev.go:143)
 refine T.region ?_
 refine T.y (fun w hw => Yl.move rfl) rfl rfl ?_
 refine T.o (OpW.call en_92 rfl (gone_ct)) rfl rfl (fun x hx => ?_)
 refine T.nil ?_
 refine J.sel (.cons 0 rfl (.cons 4 rfl .nil)) ?_
 refine X.then_ ?_
 refine T.condD rfl (fun h4 => ?_) (fun h4 => ?_)
 · exfalso; (first | omega | contradiction | simp_all)
 ·skip
  refine T.skip ?_
  refine X.then_ ?_
  refine T.seq ?_
  -- region 3 (zdev.go:146)
  refine T.region ?_
  refine T.y (fun w hw => Yl.move rfl) rfl rfl ?_
  refine T.y (fun w hw => Yl.nilck rfl) rfl rfl ?_
  refine T.y (fun w hw => Yl.fa fa_133_2 rfl) rfl rfl ?_
  refine T.y (fun w hw => Yl.ldP hw na_3 rfl mM rfl) rfl rfl ?_
  refine T.y (fun w hw => Yl.assign rfl) rfl rfl ?_
  refine T.nil ?_
  refine J.sel (.cons 2 rfl .nil) ?_
  refine X.then_ ?_
  refine T.ret ?_
  refine X.ret1 Try.results41 rfl (fun w hw => ?_)
  exact ⟨(), trivial, rfl, hw.dev' hz ⟨hr1, hr2⟩⟩

set_option maxHeartbeats 1000000 in
theorem off_ct {d : Nat} {D : Dev} {M : List HP} {K : List KP} (hD : D.ok) : Fn 62 [ptr d 0] (devH d D :: M) K (fun _ : Unit => True) (fun _ => .bool D.off) (fun _ => devH d D :: M) (fun _ => K) := by
 refine Fn.of (n := 11) Try.func62 rfl Try.ntmps62 rfl ?_
 refine J.open_ (fun w hw => hw.dev) ?_
 rintro ⟨zs, Z0, k0, r⟩ ⟨hz, hr1, hr2⟩
 dsimp only at hz hr1 hr2 ⊢
 have hZ := hD.zones
 refine T.seq ?_
 -- region 0 (zdev.go:165)
 refine T.region ?_
 refine T.y (fun w hw => Yl.assign rfl) rfl rfl ?_
 refine T.nil ?_
 refine J.sel (.cons 0 rfl .nil) ?_
 refine X.then_ ?_
 refine T.seq ?_
 -- region 1 (zdev.go:165)
 refine T.region ?_
 refine T.y (fun w hw => Yl.move rfl) rfl rfl ?_
 refine T.o (OpW.call en_92 rfl (gone_ct)) rfl rfl (fun x hx => ?_)
 refine T.y (fun w hw => Yl.move rfl) rfl rfl ?_
 refine T.splitD 5 rfl (fun h5 => ?_) (fun h5 => ?_)
 · exfalso; (first | omega | contradiction | simp_all)
 ·skip
  refine T.y (fun w hw => Yl.move rfl) rfl rfl ?_
  refine T.y (fun w hw => Yl.nilck rfl) rfl rfl ?_
  refine T.y (fun w hw => Yl.fa fa_133_6 rfl) rfl rfl ?_
  refine T.y (fun w hw => Yl.ldP hw na_4 rfl mM rfl) rfl rfl ?_
  refine T.y (fun w hw => Yl.pickF rfl rfl) rfl rfl ?_
  refine T.y (fun w hw => Yl.assign rfl) rfl rfl ?_
  refine T.nil ?_
  refine J.sel (.cons 2 rfl .nil) ?_
  refine X.then_ ?_
  refine T.ret ?_
  refine X.ret1 Try.results62 rfl (fun w hw => ?_)
  exact ⟨(), trivial, rfl, hw.dev' hz ⟨hr1, hr2⟩⟩

set_option maxHeartbeats 1000000 in
theorem cut_ct {d : Nat} {D : Dev} {n : Int} {M : List HP} {K : List KP} (hD : D.ok) : Fn 59 [ptr d 0, .int .i64 n] (devH d D :: M) K (fun _ : Unit => True) (fun _ => .tuple #[]) (fun _ => devH d (D.doCut n) :: M) (fun _ => K) := by
 refine Fn.of (n := 15) Try.func59 rfl Try.ntmps59 rfl ?_
 refine J.open_ (fun w hw => hw.dev) ?_
 rintro ⟨zs, Z0, k0, r⟩ ⟨hz, hr1, hr2⟩
 dsimp only at hz hr1 hr2 ⊢
 have hZ := hD.zones
 unfold devCells
 refine T.seq ?_
 -- region 0 (zdev.go:159)
 refine T.region ?_
 refine T.y (fun w hw => Yl.move rfl) rfl rfl ?_
 refine T.o (OpW.call en_92 rfl (gone_ct)) rfl rfl (fun x hx => ?_)
 refine T.y (fun w hw => Yl.notD rfl) rfl rfl ?_
 refine T.nil ?_
 refine J.sel (.cons 0 rfl (.cons 1 rfl (.cons 6 rfl .nil))) ?_
 refine X.then_ ?_
 refine T.condD rfl (fun h6 => ?_) (fun h6 => ?_)
 ·skip
  -- region 1 (zdev.go:160)
  refine T.region ?_
  refine T.y (fun w hw => Yl.move rfl) rfl rfl ?_
  refine T.y (fun w hw => Yl.move rfl) rfl rfl ?_
  refine T.y (fun w hw => Yl.move rfl) rfl rfl ?_
  refine T.y (fun w hw => Yl.max rfl rfl) rfl rfl ?_
  refine T.y (fun w hw => Yl.nilck rfl) rfl rfl ?_
  refine T.y (fun w hw => Yl.fa fa_133_4 rfl) rfl rfl ?_
  refine T.o0 (OpW.st1 sz_4 rfl rfl rfl rfl sW uP) rfl (fun _ _ => ?_)
  refine T.y (fun w hw => Yl.nilck rfl) rfl rfl ?_
  refine T.y (fun w hw => Yl.fa fa_133_5 rfl) rfl rfl ?_
  refine T.o0 (OpW.st1 sz_3 rfl rfl rfl rfl sW uP) rfl (fun _ _ => ?_)
  refine T.nil ?_
  refine J.sel .nil ?_
  refine X.end0 Try.results59 (fun w hw => ?_)
  refine ⟨(), trivial, rfl, Hold.dev' (D := D.doCut n) (A := Z0) (c := k0) hz ⟨hr1, hr2⟩ ?_⟩
  have hn : (if n < 0 then (0 : Int) else n) = ((n.toNat : Nat) : Int) := by split <;> omega
  rw [hn] at hw
  exact hw.f
 · exfalso; (first | omega | contradiction | simp_all)

set_option maxHeartbeats 1000000 in
theorem geometry_ct {d : Nat} {D : Dev} {M : List HP} {K : List KP} (hD : D.ok) : Fn 64 [ptr d 0] (devH d D :: M) K (fun _ : Unit => True) (fun _ => .agg #[.int .i64 D.zones.length, .int .i64 D.size]) (fun _ => devH d D :: M) (fun _ => K) := by
 refine Fn.of (n := 10) Try.func64 rfl Try.ntmps64 rfl ?_
 refine J.open_ (fun w hw => hw.dev) ?_
 rintro ⟨zs, Z0, k0, r⟩ ⟨hz, hr1, hr2⟩
 dsimp only at hz hr1 hr2 ⊢
 have hZ := hD.zones
 refine T.seq ?_
 -- region 0 (zdev.go:48)
 refine T.region ?_
 refine T.o (OpW.alloc zr_42) rfl rfl (fun b2 _ => ?_)
 refine T.nil ?_
 refine X.then_ ?_
 refine T.seq ?_
 refine T.seq ?_
 -- region 1 (zdev.go:49)
 refine T.region ?_
 refine T.y (fun w hw => Yl.move rfl) rfl rfl ?_
 refine J.pick (p := pt d 133 (devCells D Z0 k0 r)) pK ?_
 unfold devCells
 refine T.o (OpW.call en_92 rfl (gone_ct)) rfl rfl (fun x hx => ?_)
 refine T.nil ?_
 refine J.sel (.cons 0 rfl (.cons 2 rfl (.cons 4 rfl .nil))) ?_
 refine X.then_ ?_
 refine T.condD rfl (fun h4 => ?_) (fun h4 => ?_)
 · exfalso; (first | omega | contradiction | simp_all)
 ·skip
  refine T.skip ?_
  refine X.then_ ?_
  refine T.seq ?_
  -- region 3 (zdev.go:52)
  refine T.region ?_
  refine T.y (fun w hw => Yl.move rfl) rfl rfl ?_
  refine T.y (fun w hw => Yl.nilck rfl) rfl rfl ?_
  refine T.y (fun w hw => Yl.fa fa_133_0 rfl) rfl rfl ?_
  refine T.y (fun w hw => Yl.ldaP hw ag_42 rfl mM sU) rfl rfl ?_
  refine T.o0 (OpW.stA sz_42 rfl rfl rfl rfl sW uL) rfl (fun _ _ => ?_)
  refine T.nil ?_
  refine J.sel (.cons 2 rfl .nil) ?_
  refine X.then_ ?_
  refine T.ret ?_
  refine X.retC Try.results64 ag_42 rfl mM sU (fun w hw => ?_)
  exact ⟨(), trivial, rfl, Hold.dev' (A := Z0) (c := k0) hz ⟨hr1, hr2⟩ (by exact hw.f)⟩

set_option maxHeartbeats 1000000 in
theorem flush_ct {d : Nat} {D : Dev} {M : List HP} {K : List KP} (hD : D.ok) : Fn 67 [ptr d 0] (devH d D :: M) K (fun _ : Unit => True) (fun _ => .int .i64 D.flush.2) (fun _ => devH d D.flush.1 :: M) (fun _ => K) := by
 refine Fn.of (n := 30) Try.func67 rfl Try.ntmps67 rfl ?_
 refine J.open_ (fun w hw => hw.dev) ?_
 rintro ⟨zs, Z0, k0, r⟩ ⟨hz, hr1, hr2⟩
 dsimp only at hz hr1 hr2 ⊢
 have hZ := hD.zones
 refine T.seq ?_
 -- region 0 (zdev.go:119)
 refine T.region ?_
 refine T.y (fun w hw => Yl.assign rfl) rfl rfl ?_
 refine T.nil ?_
 refine J.sel (.cons 0 rfl .nil) ?_
 refine X.then_ ?_
 refine T.seq ?_
 refine T.block ?_
 refine T.seq ?_
 -- region 1 (zdev.go:121)
 refine T.region ?_
 refine T.y (fun w hw => Yl.move rfl) rfl rfl ?_
 refine T.o (OpW.call en_92 rfl (gone_ct)) rfl rfl (fun x hx => ?_)
 refine T.y (fun w hw => Yl.assign rfl) rfl rfl ?_
 refine T.nil ?_
 refine J.sel (.cons 0 rfl (.cons 5 rfl .nil)) ?_
 refine X.then_ ?_
 refine T.condD rfl (fun h5 => ?_) (fun h5 => ?_)
 · exfalso; (first | omega | contradiction | simp_all)
 ·skip
  refine T.seq ?_
  -- region 3 (zdev.go:123)
  refine T.region ?_
  refine T.y (fun w hw => Yl.move rfl) rfl rfl ?_
  refine T.o (OpW.call en_90 rfl (begin_ct hD.left)) rfl rfl (fun x hx => ?_)
  refine T.y (fun w hw => Yl.not rfl) rfl rfl ?_
  refine T.y (fun w hw => Yl.assign rfl) rfl rfl ?_
  refine T.nil ?_
  refine J.sel (.cons 0 rfl (.cons 8 rfl .nil)) ?_
  refine X.then_ ?_
  refine T.cond rfl (fun h8 => ?_) (fun h8 => ?_)
  ·skip
   refine T.seq ?_
   -- region 4 (zdev.go:124)
   refine T.region ?_
   refine T.y (fun w hw => Yl.assign rfl) rfl rfl ?_
   refine T.nil ?_
   refine J.sel (.cons 2 rfl .nil) ?_
   refine X.then_ ?_
   refine T.ret ?_
   refine X.ret_blk ?_
   refine X.ret_then ?_
   refine X.ret1 Try.results67 rfl (fun w hw => ?_)
   rw [flush_off (by simpa using h8)]
   exact ⟨(), trivial, rfl, Hold.dev' (D := D.begin.1) (by rw [begin_zones]; exact hz) ⟨hr1, hr2⟩ (by rw [begin_zones]; exact hw)⟩
  ·skip
   refine T.skip ?_
   refine X.nm_blk ?_
   refine X.then_ ?_
   refine T.seq ?_
   refine T.seq ?_
   -- region 5 (zdev.go:126)
   refine T.region ?_
   refine T.y (fun w hw => Yl.move rfl) rfl rfl ?_
   refine T.y (fun w hw => Yl.nilck rfl) rfl rfl ?_
   refine T.y (fun w hw => Yl.fa fa_133_1 rfl) rfl rfl ?_
   refine T.y (fun w hw => Yl.ldP hw na_131 rfl mM rfl) rfl rfl ?_
   refine T.y (fun w hw => Yl.len Try.underlying131 rfl) rfl rfl ?_
   refine T.y (fun w hw => Yl.move rfl) rfl rfl ?_
   refine T.nil ?_
   refine J.sel (.cons 15 rfl (.cons 16 rfl (.cons 17 rfl .nil))) ?_
   refine X.then_ ?_
   refine T.block ?_
   refine T.loop (α := Nat) (fun j => j ≤ D.zones.length) (fun j => [(17, .int .i64 (j : Int)), (15, .slice Z0 D.zones.length k0), (16, .int .i64 D.zones.length)]) (fun j => pt d 133 (devCells D.begin.1 Z0 k0 r) :: rowH 134 1 Z0 k0 D.zones.length (zs.map fun z => ptr z 0) :: zonesH zs (flushTo j D.zones) :: M) (fun j => K) (fun j => D.zones.length - j) 0 (Nat.zero_le _) (.num 17 rfl rfl (.eqv 15 rfl (by rw [begin_zones]) (.eqv 16 rfl (by rw [begin_zones]) .nil))) (fun w hw => by rw [show flushTo 0 D.zones = D.zones from by simp [flushTo]]; exact hw.f) ?_
   intro j hj Zk hz2
   refine T.seq ?_
   -- region 6 (zdev.go:126)
   refine T.region ?_
   refine T.y (fun w hw => Yl.lss rfl rfl) rfl rfl ?_
   refine T.nil ?_
   refine X.then_ ?_
   refine T.seq ?_
   refine T.condD rfl (fun h18 => ?_) (fun h18 => ?_)
   ·skip
    refine T.skip ?_
    refine X.then_ ?_
    refine T.seq ?_
    refine T.block ?_
    refine T.seq ?_
    obtain ⟨z, hzk⟩ : ∃ z, zs[j]? = some z := ⟨_, List.getElem?_eq_getElem (by omega)⟩
    obtain ⟨Z, hZk⟩ : ∃ Z, D.zones[j]? = some Z := ⟨_, List.getElem?_eq_getElem (by omega)⟩
    have hv : (zs.map fun z => ptr z 0)[j]? = some (ptr z 0) := by rw [List.getElem?_map, hzk]; rfl
    refine J.ent (fun w hw => (hw.pick (p := zonesH zs (flushTo j D.zones)) pK).zfocus hzk (flushTo_at hZk)) ?_
    refine J.open_ (fun w hw => hw.zopen) ?_
    rintro ⟨B, kb⟩ -
    dsimp only
    -- region 7 (zdev.go:126)
    refine T.region ?_
    refine T.y (fun w hw => Yl.ia1 sC Try.underlying131 isz_134 rfl rfl rfl (by omega)) rfl rfl ?_
    refine T.y (fun w hw => (by first | exact Yl.ldC hw na_134 rfl mM | exact Yl.ldR sC na_134 rfl (by assumption) | fail)) rfl rfl ?_
    refine T.y (fun w hw => Yl.assign rfl) rfl rfl ?_
    refine T.nil ?_
    refine J.sel (.cons 4 rfl (.cons 15 rfl (.cons 16 rfl (.cons 17 rfl .nil)))) ?_
    refine X.then_ ?_
    -- region 8 (zdev.go:127)
    refine T.region ?_
    refine T.y (fun w hw => Yl.move rfl) rfl rfl ?_
    refine T.y (fun w hw => Yl.move rfl) rfl rfl ?_
    refine T.y (fun w hw => Yl.nilck rfl) rfl rfl ?_
    refine T.y (fun w hw => Yl.fa fa_136_0 rfl) rfl rfl ?_
    refine T.y (fun w hw => Yl.ldP hw na_62 rfl mM rfl) rfl rfl ?_
    refine T.y (fun w hw => Yl.len Try.underlying62 rfl) rfl rfl ?_
    refine T.y (fun w hw => Yl.nilck rfl) rfl rfl ?_
    refine T.y (fun w hw => Yl.fa fa_136_1 rfl) rfl rfl ?_
    refine T.o0 (OpW.st1 sz_3 rfl rfl rfl rfl sW uP) rfl (fun _ _ => ?_)
    refine T.nil ?_
    refine J.sel (.cons 15 rfl (.cons 16 rfl (.cons 17 rfl .nil))) ?_
    refine X.nm_blk ?_
    refine X.then_ ?_
    -- region 9 (zdev.go:126)
    refine T.region ?_
    refine T.y (fun w hw => Yl.add rfl rfl (by omega)) rfl rfl ?_
    refine T.y (fun w hw => Yl.move rfl) rfl rfl ?_
    refine T.nil ?_
    refine J.sel (.cons 15 rfl (.cons 16 rfl (.cons 17 rfl .nil))) ?_
    refine X.go (hz2 (j + 1) (by omega) (by omega)) (.num 17 rfl (by omega) (.cons 15 rfl (.cons 16 rfl .nil))) (fun w hw => ?_)
    have hw1 : Hold w (pt z 136 [.slice B Z.blocks.length kb, .int .i64 Z.blocks.length] :: rowsH B kb Z.blocks :: zrest zs (flushTo j D.zones) j :: pt d 133 (devCells D.begin.1 Z0 k0 r) :: rowH 134 1 Z0 k0 D.zones.length (zs.map fun z => ptr z 0) :: M) K := by exact hw.f
    have hw := hw1.zshut.zback hzk (flushTo_at hZk)
    rw [flushTo_succ hZk] at hw
    exact hw.f
   ·skip
    refine T.exit ?_
    refine X.exit_then ?_
    refine X.exit_then ?_
    refine X.exit_blk ?_
    refine X.then_ ?_
    refine T.seq ?_
    have hje : j = D.zones.length := by omega
    subst hje
    -- region 10 (zdev.go:129)
    refine T.region ?_
    refine T.y (fun w hw => Yl.assign rfl) rfl rfl ?_
    refine T.nil ?_
    refine J.sel (.cons 2 rfl .nil) ?_
    refine X.then_ ?_
    refine T.ret ?_
    refine X.ret1 Try.results67 rfl (fun w hw => ?_)
    rw [flush_ok (by simpa using h8)]
    refine ⟨(), trivial, rfl, Hold.dev' (D := { D.begin.1 with zones := flushTo D.zones.length D.zones }) (zs := zs) (A := Z0) (c := k0) (r := r) (by simp only [flushTo_length]; exact hz) ⟨hr1, hr2⟩ ?_⟩
    rw [show devCells { D.begin.1 with zones := flushTo D.zones.length D.zones } Z0 k0 r = devCells D.begin.1 Z0 k0 r from by simp only [devCells, flushTo_length, begin_zones]]
    simp only [flushTo_length]
    exact hw.f

end Go.Proofs.Ytfpnodboebpemaa
