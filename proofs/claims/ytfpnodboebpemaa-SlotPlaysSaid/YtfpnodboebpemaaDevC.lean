/- The contracts of package zdev: Crash, Copy. -/
import Derived.Test.YtfpnodboebpemaaDevB
namespace Go.Proofs.Ytfpnodboebpemaa
open Go.RowKit Go.Proofs.YtfpnodboebpemaaW.PrintWords
set_option linter.unusedVariables false
set_option linter.unusedSimpArgs false
attribute [local irreducible] pt rowH slK bytesK intsK rowsK rowsH cellK rowsV oldK star exH pureH knowH starL emp devH zoneH zonesH zrest

set_option maxHeartbeats 4000000 in
theorem crash_ct {d pc tc : Nat} {D : Dev} {P T2 : Option Addr} {picks torn : List Int} {M : List HP} {K : List KP} (hD : D.ok) (hp : intsK P pc picks ∈ K) (ht : intsK T2 tc torn ∈ K) (hpl : picks.length ≤ 1000000) (htl : torn.length ≤ 1000000) : Fn 56 [ptr d 0, .slice P picks.length pc, .slice T2 torn.length tc] (devH d D :: M) K (fun _ : Nat => True) (fun x => ptr x 0) (fun x => devH x (D.crash picks torn) :: devH d D :: M) (fun _ => K) := by
 refine Fn.of (n := 111) Try.func56 rfl Try.ntmps56 rfl ?_
 refine J.open_ (fun w hw => hw.dev) ?_
 rintro ⟨zs, Z0, k0, r⟩ ⟨hz, hr1, hr2⟩
 dsimp only at hz hr1 hr2 ⊢
 have hZ := hD.zones
 have hS := hD.size
 refine T.seq ?_
 -- region 0 (zdev.go:193)
 refine T.region ?_
 refine T.y (fun w hw => Yl.assign rfl) rfl rfl ?_
 refine T.nil ?_
 refine J.sel (.cons 0 rfl (.cons 1 rfl (.cons 2 rfl .nil))) ?_
 refine X.then_ ?_
 refine T.seq ?_
 refine T.seq ?_
 -- region 1 (zdev.go:194)
 refine T.region ?_
 refine T.y (fun w hw => Yl.move rfl) rfl rfl ?_
 refine T.o (OpW.call en_92 rfl (gone_ct)) rfl rfl (fun x hx => ?_)
 refine T.nil ?_
 refine J.sel (.cons 0 rfl (.cons 1 rfl (.cons 2 rfl (.cons 19 rfl .nil)))) ?_
 refine X.then_ ?_
 refine T.condD rfl (fun h19 => ?_) (fun h19 => ?_)
 · exfalso; (first | omega | contradiction | simp_all)
 ·skip
  refine T.skip ?_
  refine X.then_ ?_
  refine T.seq ?_
  -- region 3 (zdev.go:197)
  refine T.region ?_
  refine T.y (fun w hw => Yl.move rfl) rfl rfl ?_
  refine T.y (fun w hw => Yl.nilck rfl) rfl rfl ?_
  refine T.y (fun w hw => Yl.fa fa_133_0 rfl) rfl rfl ?_
  refine T.y (fun w hw => Yl.ldaP hw ag_42 rfl mM sU) rfl rfl ?_
  refine T.o (OpW.call en_35 rfl (new_ct hZ hS)) rfl rfl (fun b _ => ?_)
  refine T.y (fun w hw => Yl.move rfl) rfl rfl ?_
  refine T.y (fun w hw => Yl.extract rfl rfl) rfl rfl ?_
  refine T.y (fun w hw => Yl.extract rfl rfl) rfl rfl ?_
  refine T.y (fun w hw => Yl.assign rfl) rfl rfl ?_
  refine T.y (fun w hw => Yl.assign rfl) rfl rfl ?_
  refine T.nil ?_
  refine J.sel (.cons 0 rfl (.cons 1 rfl (.cons 2 rfl (.cons 7 rfl .nil)))) ?_
  refine X.then_ ?_
  refine T.seq ?_
  refine T.seq ?_
  refine J.open_ (fun w hw => hw.dev) ?_
  rintro ⟨ys, Z1, k1, r1⟩ ⟨hy, hr3, hr4⟩
  dsimp only at hy hr3 hr4 ⊢
  have hyl : ys.length = D.zones.length := by rw [hy]; simp [newDev]
  -- region 4 (zdev.go:198)
  refine T.region ?_
  refine T.y (fun w hw => Yl.move rfl) rfl rfl ?_
  refine T.y (fun w hw => Yl.nilck rfl) rfl rfl ?_
  refine T.y (fun w hw => Yl.fa fa_133_1 rfl) rfl rfl ?_
  refine T.y (fun w hw => Yl.ldP hw na_131 rfl mM rfl) rfl rfl ?_
  refine T.y (fun w hw => Yl.len Try.underlying131 rfl) rfl rfl ?_
  refine T.y (fun w hw => Yl.move rfl) rfl rfl ?_
  refine T.nil ?_
  refine J.sel (.cons 1 rfl (.cons 2 rfl (.cons 7 rfl (.cons 31 rfl (.cons 32 rfl (.cons 33 rfl .nil)))))) ?_
  refine X.then_ ?_
  refine T.block ?_
  refine T.loop (α := Nat) (fun j => j ≤ D.zones.length) (fun j => [(33, .int .i64 (j : Int)), (1, .slice P picks.length pc), (2, .slice T2 torn.length tc), (7, ptr b 0), (31, .slice Z0 D.zones.length k0), (32, .int .i64 (D.zones.length : Int))]) (fun j => zonesH zs D.zones :: pt d 133 (devCells D Z0 k0 r) :: rowH 134 1 Z0 k0 D.zones.length (zs.map fun z => ptr z 0) :: pt b 133 (devCells (newDev D.zones.length D.size) Z1 k1 r1) :: rowH 134 1 Z1 k1 (newDev D.zones.length D.size).zones.length (ys.map fun z => ptr z 0) :: zonesH ys (crashTo D picks torn j) :: M) (fun j => K) (fun j => D.zones.length - j) 0 (Nat.zero_le _) (.num 33 rfl rfl (.cons 1 rfl (.cons 2 rfl (.cons 7 rfl (.cons 31 rfl (.cons 32 rfl .nil)))))) (fun w hw => by rw [crashTo_zero]; exact hw.f) ?_
  intro j hj Zk hz2
  refine T.seq ?_
  -- region 5 (zdev.go:198)
  refine T.region ?_
  refine T.y (fun w hw => Yl.lss rfl rfl) rfl rfl ?_
  refine T.nil ?_
  refine X.then_ ?_
  refine T.seq ?_
  refine T.condD rfl (fun h34 => ?_) (fun h34 => ?_)
  ·skip
   refine T.skip ?_
   refine X.then_ ?_
   refine T.seq ?_
   refine T.block ?_
   refine T.seq ?_
   obtain ⟨z, hzk⟩ : ∃ z, zs[j]? = some z := ⟨_, List.getElem?_eq_getElem (by omega)⟩
   obtain ⟨y, hyk⟩ : ∃ y, ys[j]? = some y := ⟨_, List.getElem?_eq_getElem (by omega)⟩
   obtain ⟨Z, hZk⟩ : ∃ Z, D.zones[j]? = some Z := ⟨_, List.getElem?_eq_getElem (by omega)⟩
   have hv : (zs.map fun z => ptr z 0)[j]? = some (ptr z 0) := by rw [List.getElem?_map, hzk]; rfl
   have hvy : (ys.map fun z => ptr z 0)[j]? = some (ptr y 0) := by rw [List.getElem?_map, hyk]; rfl
   obtain ⟨f1, f2, f3⟩ := hD.full Z (List.mem_of_getElem? hZk)
   have hcut := cutAt_le f2 (pickL picks j)
   have hB := fun (r : List Int) (hr : r ∈ Z.blocks) => show r.length ≤ 1000000 from by have := (f3 r hr).1; omega
   refine J.ent (fun w hw => (hw.pick (p := zonesH zs D.zones) pK).zfocus hzk hZk) ?_
   refine J.open_ (fun w hw => hw.zopen) ?_
   rintro ⟨B, kb⟩ -
   dsimp only
   refine J.pick (p := rowsH B kb Z.blocks) pK ?_
   refine J.open_ (fun w hw => hw.rowsH_open) ?_
   intro vs hvs
   refine J.fact (fun w hw => hw.row_len (e := 23) (sz := 1) (A := B) (c := kb) (n := Z.blocks.length) (xs := vs) List.mem_cons_self) ?_
   rintro ⟨hk1, hk2, hk3⟩
   -- region 6 (zdev.go:198)
   refine T.region ?_
   refine T.y (fun w hw => Yl.move rfl) rfl rfl ?_
   refine T.y (fun w hw => Yl.ia1 sC Try.underlying131 isz_134 rfl rfl rfl (by omega)) rfl rfl ?_
   refine T.y (fun w hw => (by first | exact Yl.ldC hw na_134 rfl mM | exact Yl.ldR sC na_134 rfl (by assumption) | fail)) rfl rfl ?_
   refine T.y (fun w hw => Yl.assign rfl) rfl rfl ?_
   refine T.y (fun w hw => Yl.assign rfl) rfl rfl ?_
   refine T.nil ?_
   refine J.sel (.cons 1 rfl (.cons 2 rfl (.cons 7 rfl (.cons 9 rfl (.cons 10 rfl (.cons 31 rfl (.cons 32 rfl (.cons 33 rfl .nil)))))))) ?_
   refine X.then_ ?_
   refine T.seq ?_
   -- region 7 (zdev.go:199)
   refine Dr.start0 [] ?_
   refine Dr.take 0 rfl (by kernel_rfl) bL sS (fun w hs => have hw := hs.h; Yl.move rfl) rfl rfl ?_
   refine Dr.take 1 rfl (by kernel_rfl) bL sS (fun w hs => have hw := hs.h; Yl.nilck rfl) rfl rfl ?_
   refine Dr.take 2 rfl (by kernel_rfl) bL sS (fun w hs => have hw := hs.h; Yl.fa fa_136_1 rfl) rfl rfl ?_
   refine Dr.take 3 rfl (by kernel_rfl) bL sS (fun w hs => have hw := hs.h; Yl.ldP hw na_3 rfl mM rfl) rfl rfl ?_
   refine Dr.take 4 rfl (by kernel_rfl) bL sS (fun w hs => have hw := hs.h; Yl.move rfl) rfl rfl ?_
   refine Dr.take 5 rfl (by kernel_rfl) bL sS (fun w hs => have hw := hs.h; Yl.nilck rfl) rfl rfl ?_
   refine Dr.take 6 rfl (by kernel_rfl) bL sS (fun w hs => have hw := hs.h; Yl.fa fa_136_0 rfl) rfl rfl ?_
   refine Dr.take 7 rfl (by kernel_rfl) bL sS (fun w hs => have hw := hs.h; Yl.ldP hw na_62 rfl mM rfl) rfl rfl ?_
   refine Dr.take 8 rfl (by kernel_rfl) bL sS (fun w hs => have hw := hs.h; Yl.len Try.underlying62 rfl) rfl rfl ?_
   refine Dr.take 9 rfl (by kernel_rfl) bL sS (fun w hs => have hw := hs.h; Yl.assign rfl) rfl rfl ?_
   refine Dr.take 10 rfl (by kernel_rfl) bL sS (fun w hs => have hw := hs.h; Yl.assign rfl) rfl rfl ?_
   refine Dr.done (by kernel_rfl) ?_
   refine J.sel (.cons 1 rfl (.cons 2 rfl (.cons 7 rfl (.cons 9 rfl (.cons 10 rfl (.cons 11 rfl (.cons 12 rfl (.cons 31 rfl (.cons 32 rfl (.cons 33 rfl .nil)))))))))) ?_
   refine X.then_ ?_
   refine T.cut (α := Unit) (φ := fun u => True) (Ec := fun u => [(11, .int .i64 (Z.cutAt (pickL picks j) : Int)), (1, .slice P picks.length pc), (2, .slice T2 torn.length tc), (7, ptr b 0), (9, .int .i64 (j : Int)), (10, ptr z 0), (12, .int .i64 (Z.blocks.length : Int)), (31, .slice Z0 D.zones.length k0), (32, .int .i64 (D.zones.length : Int)), (33, .int .i64 (j : Int))]) (Mc := fun u => rowH 23 1 B kb Z.blocks.length vs :: pt z 136 [.slice B Z.blocks.length kb, .int .i64 Z.good] :: zrest zs D.zones j :: pt d 133 (devCells D Z0 k0 r) :: rowH 134 1 Z0 k0 D.zones.length (zs.map fun z => ptr z 0) :: pt b 133 (devCells (newDev D.zones.length D.size) Z1 k1 r1) :: rowH 134 1 Z1 k1 (newDev D.zones.length D.size).zones.length (ys.map fun z => ptr z 0) :: zonesH ys (crashTo D picks torn j) :: M) (Kc := fun u => rowsV vs Z.blocks :: K) ?_ ?_
   ·intro Zk hz2
    refine T.seq ?_
    -- region 8 (zdev.go:200)
    refine T.region ?_
    refine T.y (fun w hw => Yl.move rfl) rfl rfl ?_
    refine T.y (fun w hw => Yl.move rfl) rfl rfl ?_
    refine T.o (OpW.call en_113 rfl (pick_ct mM hpl)) rfl rfl (fun _ _ => ?_)
    refine T.y (fun w hw => Yl.move rfl) rfl rfl ?_
    refine T.y (fun w hw => Yl.extract rfl rfl) rfl rfl ?_
    refine T.y (fun w hw => Yl.extract rfl rfl) rfl rfl ?_
    refine T.y (fun w hw => Yl.assign rfl) rfl rfl ?_
    refine T.y (fun w hw => Yl.assign rfl) rfl rfl ?_
    refine T.nil ?_
    refine J.sel (.cons 1 rfl (.cons 2 rfl (.cons 7 rfl (.cons 9 rfl (.cons 10 rfl (.cons 11 rfl (.cons 12 rfl (.cons 13 rfl (.cons 14 rfl (.cons 31 rfl (.cons 32 rfl (.cons 33 rfl .nil)))))))))))) ?_
    refine X.then_ ?_
    refine T.seq ?_
    -- region 9 (zdev.go:200)
    refine T.region ?_
    refine T.y (fun w hw => Yl.move rfl) rfl rfl ?_
    refine T.nil ?_
    refine J.sel (.cons 1 rfl (.cons 2 rfl (.cons 7 rfl (.cons 9 rfl (.cons 10 rfl (.cons 11 rfl (.cons 12 rfl (.cons 13 rfl (.cons 31 rfl (.cons 32 rfl (.cons 33 rfl (.cons 53 rfl .nil)))))))))))) ?_
    refine X.then_ ?_
    refine T.cond rfl (fun h53 => ?_) (fun h53 => ?_)
    ·skip
     -- region 10 (zdev.go:201)
     refine T.region ?_
     refine T.y (fun w hw => Yl.move rfl) rfl rfl ?_
     refine T.y (fun w hw => Yl.move rfl) rfl rfl ?_
     refine T.y (fun w hw => Yl.move rfl) rfl rfl ?_
     refine T.y (fun w hw => Yl.move rfl) rfl rfl ?_
     refine T.y (fun w hw => Yl.sub rfl rfl (by omega)) rfl rfl ?_
     refine T.y (fun w hw => Yl.add rfl rfl (by omega)) rfl rfl ?_
     refine T.o (OpW.call en_114 rfl (rest_ct (by omega) (by omega))) rfl rfl (fun _ _ => ?_)
     have hcn : (Z.good : Int) + ((pickL picks j).getD 0) % ((Z.blocks.length : Int) - (Z.good : Int) + 1) = (Z.cutAt (pickL picks j) : Int) := by
       unfold Zn.cutAt
       cases hx : pickL picks j with
       | none => rw [hx] at h53; simp at h53
       | some v =>
         have h1 := Int.emod_nonneg v (b := ((Z.blocks.length - Z.good + 1 : Nat) : Int)) (by omega)
         simp only [Option.getD_some]
         rw [show (Z.blocks.length : Int) - (Z.good : Int) + 1 = ((Z.blocks.length - Z.good + 1 : Nat) : Int) by omega]
         omega
     have hcn2 := hcut
     refine T.y (fun w hw => Yl.add rfl rfl (by omega)) rfl rfl ?_
     refine T.y (fun w hw => Yl.assign rfl) rfl rfl ?_
     refine T.nil ?_
     refine J.sel (.cons 1 rfl (.cons 2 rfl (.cons 7 rfl (.cons 9 rfl (.cons 10 rfl (.cons 11 rfl (.cons 12 rfl (.cons 31 rfl (.cons 32 rfl (.cons 33 rfl .nil)))))))))) ?_
     refine X.go (hz2 () trivial) (.num 11 rfl hcn (.cons 1 rfl (.cons 2 rfl (.cons 7 rfl (.cons 9 rfl (.cons 10 rfl (.cons 12 rfl (.cons 31 rfl (.cons 32 rfl (.cons 33 rfl .nil)))))))))) (fun w hw => ?_)
     exact hw.f
    ·skip
     have hcn : (Z.good : Int) = (Z.cutAt (pickL picks j) : Int) := by
       unfold Zn.cutAt
       cases hx : pickL picks j with
       | none => simp
       | some v => rw [hx] at h53; simp at h53
     refine T.skip ?_
     refine X.go (hz2 () trivial) (.num 11 rfl hcn (.cons 1 rfl (.cons 2 rfl (.cons 7 rfl (.cons 9 rfl (.cons 10 rfl (.cons 12 rfl (.cons 31 rfl (.cons 32 rfl (.cons 33 rfl .nil)))))))))) (fun w hw => ?_)
     exact hw.f
   ·intro _ _
    refine T.seq ?_
    -- region 11 (zdev.go:203)
    refine T.region ?_
    refine T.y (fun w hw => Yl.move rfl) rfl rfl ?_
    refine T.y (fun w hw => Yl.nilck rfl) rfl rfl ?_
    refine T.y (fun w hw => Yl.fa fa_136_0 rfl) rfl rfl ?_
    refine T.y (fun w hw => Yl.ldP hw na_62 rfl mM rfl) rfl rfl ?_
    refine T.y (fun w hw => Yl.move rfl) rfl rfl ?_
    refine T.y (fun w hw => Yl.slHi Try.underlying62 sz_23 rfl rfl rfl (by omega)) rfl rfl ?_
    rw [slA_zero]
    refine J.pick (p := rowH 23 1 B kb Z.blocks.length vs) pK ?_
    refine T.o (OpW.call en_115 rfl (own_ct (rows := Z.blocks) (vs := vs) mM hvs rfl hcut.2 (by omega) hB)) rfl rfl (fun ⟨L, lc⟩ _ => ?_)
    dsimp only
    refine T.y (fun w hw => Yl.assign rfl) rfl rfl ?_
    refine T.nil ?_
    refine J.sel (.cons 1 rfl (.cons 2 rfl (.cons 7 rfl (.cons 9 rfl (.cons 10 rfl (.cons 11 rfl (.cons 12 rfl (.cons 15 rfl (.cons 31 rfl (.cons 32 rfl (.cons 33 rfl .nil))))))))))) ?_
    refine X.then_ ?_
    refine T.cut (α := Option Addr × Nat) (φ := fun u => True) (Ec := fun u => [(15, .slice u.1 (Z.crash (pickL picks j) (pickL torn j)).length u.2), (1, .slice P picks.length pc), (2, .slice T2 torn.length tc), (7, ptr b 0), (9, .int .i64 (j : Int)), (31, .slice Z0 D.zones.length k0), (32, .int .i64 (D.zones.length : Int)), (33, .int .i64 (j : Int))]) (Mc := fun u => rowsH u.1 u.2 (Z.crash (pickL picks j) (pickL torn j)) :: rowH 23 1 B kb Z.blocks.length vs :: pt z 136 [.slice B Z.blocks.length kb, .int .i64 Z.good] :: zrest zs D.zones j :: pt d 133 (devCells D Z0 k0 r) :: rowH 134 1 Z0 k0 D.zones.length (zs.map fun z => ptr z 0) :: pt b 133 (devCells (newDev D.zones.length D.size) Z1 k1 r1) :: rowH 134 1 Z1 k1 (newDev D.zones.length D.size).zones.length (ys.map fun z => ptr z 0) :: zonesH ys (crashTo D picks torn j) :: M) (Kc := fun u => rowsV vs Z.blocks :: K) ?_ ?_
    ·intro Zk hz2
     refine T.seq ?_
     -- region 12 (zdev.go:204)
     refine T.region ?_
     refine T.y (fun w hw => Yl.move rfl) rfl rfl ?_
     refine T.y (fun w hw => Yl.move rfl) rfl rfl ?_
     refine T.o (OpW.call en_113 rfl (pick_ct mM htl)) rfl rfl (fun _ _ => ?_)
     refine T.y (fun w hw => Yl.move rfl) rfl rfl ?_
     refine T.y (fun w hw => Yl.extract rfl rfl) rfl rfl ?_
     refine T.y (fun w hw => Yl.extract rfl rfl) rfl rfl ?_
     refine T.y (fun w hw => Yl.assign rfl) rfl rfl ?_
     refine T.y (fun w hw => Yl.assign rfl) rfl rfl ?_
     refine T.nil ?_
     refine J.sel (.cons 1 rfl (.cons 2 rfl (.cons 7 rfl (.cons 9 rfl (.cons 10 rfl (.cons 11 rfl (.cons 12 rfl (.cons 15 rfl (.cons 16 rfl (.cons 17 rfl (.cons 31 rfl (.cons 32 rfl (.cons 33 rfl .nil))))))))))))) ?_
     refine X.then_ ?_
     refine T.seq ?_
     -- region 13 (zdev.go:204)
     refine T.region ?_
     refine T.y (fun w hw => Yl.move rfl) rfl rfl ?_
     refine T.y (fun w hw => Yl.move rfl) rfl rfl ?_
     refine T.split 76 rfl (fun h76 => ?_) (fun h76 => ?_)
     ·skip
      refine T.y (fun w hw => Yl.move rfl) rfl rfl ?_
      refine T.y (fun w hw => Yl.move rfl) rfl rfl ?_
      refine T.y (fun w hw => Yl.lss rfl rfl) rfl rfl ?_
      refine T.y (fun w hw => Yl.pickT rfl rfl) rfl rfl ?_
      refine T.y (fun w hw => Yl.move rfl) rfl rfl ?_
      refine T.splitD 81 rfl (fun h81 => ?_) (fun h81 => ?_)
      ·skip
       refine T.y (fun w hw => Yl.move rfl) rfl rfl ?_
       refine T.y (fun w hw => Yl.remT rfl rfl (by decide)) rfl rfl ?_
       refine T.y (fun w hw => Yl.neq rfl rfl) rfl rfl ?_
       refine T.y (fun w hw => Yl.pickT rfl rfl) rfl rfl ?_
       refine T.nil ?_
       refine J.sel (.cons 1 rfl (.cons 2 rfl (.cons 7 rfl (.cons 9 rfl (.cons 10 rfl (.cons 11 rfl (.cons 15 rfl (.cons 31 rfl (.cons 32 rfl (.cons 33 rfl (.cons 85 rfl .nil))))))))))) ?_
       refine X.then_ ?_
       refine T.condD rfl (fun h85 => ?_) (fun h85 => ?_)
       ·skip
        have hcl : Z.cutAt (pickL picks j) < Z.blocks.length := by omega
        have hn : Z.blocks[Z.cutAt (pickL picks j)]? = some (Z.blocks[Z.cutAt (pickL picks j)]'hcl) := List.getElem?_eq_getElem hcl
        have hce : Z.crash (pickL picks j) (pickL torn j) = Z.blocks.take (Z.cutAt (pickL picks j)) ++ [tornL (Z.blocks[Z.cutAt (pickL picks j)]'hcl)] := by
          unfold Zn.crash
          cases hx : pickL torn j with
          | none => rw [hx] at h76; simp at h76
          | some v =>
            rw [hx] at h85
            simp only
            rw [if_pos ⟨hcl, (torn_odd v).1 h85⟩, List.getD_eq_getElem?_getD, hn]; rfl
        refine J.open_ (fun w hw => hw.rowsV_at mM hn) ?_
        rintro ⟨U, u⟩ huv
        dsimp only at huv ⊢
        have h64 := f3 _ (List.mem_of_getElem? hn)
        -- region 14 (zdev.go:205)
        refine T.region ?_
        refine T.y (fun w hw => Yl.move rfl) rfl rfl ?_
        refine T.y (fun w hw => Yl.move rfl) rfl rfl ?_
        refine T.y (fun w hw => Yl.nilck rfl) rfl rfl ?_
        refine T.y (fun w hw => Yl.fa fa_136_0 rfl) rfl rfl ?_
        refine T.y (fun w hw => Yl.ldP hw na_62 rfl mM rfl) rfl rfl ?_
        refine T.y (fun w hw => Yl.move rfl) rfl rfl ?_
        refine T.y (fun w hw => Yl.ia1 sC Try.underlying62 isz_23 rfl rfl rfl (by omega)) rfl rfl ?_
        refine T.y (fun w hw => (by first | exact Yl.ldC hw na_23 rfl mM | exact Yl.ldR sC na_23 rfl (by assumption) | fail)) rfl rfl ?_
        refine T.o (OpW.call en_116 rfl (tear_ct List.mem_cons_self h64.2 h64.1)) rfl rfl (fun ⟨A94, c94⟩ _ => ?_)
        dsimp only
        refine T.o (OpW.bsl (sz := 1) rfl bsl_62_1 rfl rfl) rfl rfl (fun b95 _ => ?_)
        refine T.o (OpW.appR inf_23 Try.underlying62 rfl rfl mM mM pK (by rw [List.length_take]; omega)) rfl rfl (fun ⟨A96, c96⟩ _ => ?_)
        dsimp only
        refine T.y (fun w hw => Yl.assign rfl) rfl rfl ?_
        refine T.nil ?_
        refine J.sel (.cons 1 rfl (.cons 2 rfl (.cons 7 rfl (.cons 9 rfl (.cons 15 rfl (.cons 31 rfl (.cons 32 rfl (.cons 33 rfl .nil)))))))) ?_
        refine X.go (hz2 (A96, c96) trivial) (.eqv 15 rfl (by rw [hce]) (.cons 1 rfl (.cons 2 rfl (.cons 7 rfl (.cons 9 rfl (.cons 31 rfl (.cons 32 rfl (.cons 33 rfl .nil)))))))) (fun w hw => ?_)
        dsimp only
        rw [hce]
        exact hw.f
       ·skip
        refine T.skip ?_
        have hce : Z.crash (pickL picks j) (pickL torn j) = Z.blocks.take (Z.cutAt (pickL picks j)) := by
          unfold Zn.crash
          cases hx : pickL torn j with
          | none => simp
          | some v =>
            rw [hx] at h76
            simp only at *
            rw [if_neg, List.append_nil]
            rintro ⟨g1, g2⟩
            first
              | (simp at h76; done)
              | omega
              | (rw [hx] at h85; exact h85 ((torn_odd v).2 g2))
        refine X.go (hz2 (L, lc) trivial) (.eqv 15 rfl (by rw [hce]) (.cons 1 rfl (.cons 2 rfl (.cons 7 rfl (.cons 9 rfl (.cons 31 rfl (.cons 32 rfl (.cons 33 rfl .nil)))))))) (fun w hw => ?_)
        dsimp only
        rw [hce]
        exact hw.f
      ·skip
       refine T.off rfl rfl rfl ?_
       refine T.off rfl rfl rfl ?_
       refine T.off rfl rfl rfl ?_
       refine T.y (fun w hw => Yl.pickF rfl rfl) rfl rfl ?_
       refine T.nil ?_
       refine J.sel (.cons 1 rfl (.cons 2 rfl (.cons 7 rfl (.cons 9 rfl (.cons 10 rfl (.cons 11 rfl (.cons 15 rfl (.cons 31 rfl (.cons 32 rfl (.cons 33 rfl (.cons 85 rfl .nil))))))))))) ?_
       refine X.then_ ?_
       refine T.condF rfl ?_
       refine T.skip ?_
       have hce : Z.crash (pickL picks j) (pickL torn j) = Z.blocks.take (Z.cutAt (pickL picks j)) := by
         unfold Zn.crash
         cases hx : pickL torn j with
         | none => simp
         | some v =>
           rw [hx] at h76
           simp only at *
           rw [if_neg, List.append_nil]
           rintro ⟨g1, g2⟩
           first
             | (simp at h76; done)
             | omega
             | (rw [hx] at h85; exact h85 ((torn_odd v).2 g2))
       refine X.go (hz2 (L, lc) trivial) (.eqv 15 rfl (by rw [hce]) (.cons 1 rfl (.cons 2 rfl (.cons 7 rfl (.cons 9 rfl (.cons 31 rfl (.cons 32 rfl (.cons 33 rfl .nil)))))))) (fun w hw => ?_)
       dsimp only
       rw [hce]
       exact hw.f
     ·skip
      refine T.off rfl rfl rfl ?_
      refine T.off rfl rfl rfl ?_
      refine T.off rfl rfl rfl ?_
      refine T.y (fun w hw => Yl.pickF rfl rfl) rfl rfl ?_
      refine T.y (fun w hw => Yl.move rfl) rfl rfl ?_
      refine T.off rfl rfl rfl ?_
      refine T.off rfl rfl rfl ?_
      refine T.off rfl rfl rfl ?_
      refine T.y (fun w hw => Yl.pickF rfl rfl) rfl rfl ?_
      refine T.nil ?_
      refine J.sel (.cons 1 rfl (.cons 2 rfl (.cons 7 rfl (.cons 9 rfl (.cons 10 rfl (.cons 11 rfl (.cons 15 rfl (.cons 31 rfl (.cons 32 rfl (.cons 33 rfl (.cons 85 rfl .nil))))))))))) ?_
      refine X.then_ ?_
      refine T.condF rfl ?_
      refine T.skip ?_
      have hce : Z.crash (pickL picks j) (pickL torn j) = Z.blocks.take (Z.cutAt (pickL picks j)) := by
        unfold Zn.crash
        cases hx : pickL torn j with
        | none => simp
        | some v =>
          rw [hx] at h76
          simp only at *
          rw [if_neg, List.append_nil]
          rintro ⟨g1, g2⟩
          first
            | (simp at h76; done)
            | omega
            | (rw [hx] at h85; exact h85 ((torn_odd v).2 g2))
      refine X.go (hz2 (L, lc) trivial) (.eqv 15 rfl (by rw [hce]) (.cons 1 rfl (.cons 2 rfl (.cons 7 rfl (.cons 9 rfl (.cons 31 rfl (.cons 32 rfl (.cons 33 rfl .nil)))))))) (fun w hw => ?_)
      dsimp only
      rw [hce]
      exact hw.f
    ·intro ⟨L, lc⟩ _
     dsimp only
     refine J.ent (fun w hw => (hw.pick (p := zonesH ys (crashTo D picks torn j)) pK).zfocus hyk (crashTo_at D picks torn j (by omega))) ?_
     refine J.open_ (fun w hw => hw.zopen) ?_
     rintro ⟨C, kc⟩ -
     dsimp only
     -- region 15 (zdev.go:207)
     refine T.region ?_
     refine T.y (fun w hw => Yl.move rfl) rfl rfl ?_
     refine T.y (fun w hw => Yl.nilck rfl) rfl rfl ?_
     refine T.y (fun w hw => Yl.fa fa_133_1 rfl) rfl rfl ?_
     refine T.y (fun w hw => Yl.ldP hw na_131 rfl mM rfl) rfl rfl ?_
     refine T.y (fun w hw => Yl.move rfl) rfl rfl ?_
     refine T.y (fun w hw => Yl.ia1 sC Try.underlying131 isz_134 rfl rfl rfl (by simp [newDev]; omega)) rfl rfl ?_
     refine T.y (fun w hw => (by first | exact Yl.ldC hw na_134 rfl mM | exact Yl.ldR sC na_134 rfl (by assumption) | fail)) rfl rfl ?_
     refine T.y (fun w hw => Yl.move rfl) rfl rfl ?_
     refine T.y (fun w hw => Yl.move rfl) rfl rfl ?_
     refine T.y (fun w hw => Yl.len Try.underlying62 rfl) rfl rfl ?_
     refine T.y (fun w hw => Yl.build rfl (bld_136_0_1 _)) rfl rfl ?_
     refine T.y (fun w hw => Yl.nilck rfl) rfl rfl ?_
     refine T.o0 (OpW.stA sz_136 rfl rfl rfl rfl sW uL) rfl (fun _ _ => ?_)
     refine T.nil ?_
     refine J.sel (.cons 1 rfl (.cons 2 rfl (.cons 7 rfl (.cons 31 rfl (.cons 32 rfl (.cons 33 rfl .nil)))))) ?_
     refine X.nm_blk ?_
     refine X.then_ ?_
     -- region 16 (zdev.go:198)
     refine T.region ?_
     refine T.y (fun w hw => Yl.add rfl rfl (by omega)) rfl rfl ?_
     refine T.y (fun w hw => Yl.move rfl) rfl rfl ?_
     refine T.nil ?_
     refine J.sel (.cons 1 rfl (.cons 2 rfl (.cons 7 rfl (.cons 31 rfl (.cons 32 rfl (.cons 33 rfl .nil)))))) ?_
     refine X.go (hz2 (j + 1) (by omega) (by omega)) (.num 33 rfl (by omega) (.cons 1 rfl (.cons 2 rfl (.cons 7 rfl (.cons 31 rfl (.cons 32 rfl .nil)))))) (fun w hw => ?_)
     have hw : Hold w (pt y 136 [.slice L (Z.crash (pickL picks j) (pickL torn j)).length lc, .int .i64 (Z.crash (pickL picks j) (pickL torn j)).length] :: rowsH L lc (Z.crash (pickL picks j) (pickL torn j)) :: zrest ys (crashTo D picks torn j) j :: rowH 23 1 B kb Z.blocks.length vs :: pt z 136 [.slice B Z.blocks.length kb, .int .i64 Z.good] :: zrest zs D.zones j :: pt d 133 (devCells D Z0 k0 r) :: rowH 134 1 Z0 k0 D.zones.length (zs.map fun z => ptr z 0) :: pt b 133 (devCells (newDev D.zones.length D.size) Z1 k1 r1) :: rowH 134 1 Z1 k1 (newDev D.zones.length D.size).zones.length (ys.map fun z => ptr z 0) :: M) (rowsV vs Z.blocks :: K) := by exact hw.f
     have hw := hw.zshut.zback hyk (crashTo_at D picks torn j (by omega))
     rw [show (⟨Z.crash (pickL picks j) (pickL torn j), (Z.crash (pickL picks j) (pickL torn j)).length⟩ : Zn) = crashZ Z (pickL picks j) (pickL torn j) from rfl, crashTo_succ hZk] at hw
     have hw : Hold w (rowH 23 1 B kb Z.blocks.length vs :: pt z 136 [.slice B Z.blocks.length kb, .int .i64 Z.good] :: zrest zs D.zones j :: pt d 133 (devCells D Z0 k0 r) :: rowH 134 1 Z0 k0 D.zones.length (zs.map fun z => ptr z 0) :: pt b 133 (devCells (newDev D.zones.length D.size) Z1 k1 r1) :: rowH 134 1 Z1 k1 (newDev D.zones.length D.size).zones.length (ys.map fun z => ptr z 0) :: zonesH ys (crashTo D picks torn (j + 1)) :: M) (rowsV vs Z.blocks :: K) := by exact hw.f
     have hw := (hw.rowsH_shut (rows := Z.blocks) (vs := vs) List.mem_cons_self).pick (.tail .head)
     have hw := zback_same (Hold.zshut hw) hzk hZk
     exact hw.f
  ·skip
   refine T.exit ?_
   refine X.exit_then ?_
   refine X.exit_then ?_
   refine X.exit_blk ?_
   refine X.then_ ?_
   refine T.seq ?_
   have hje : j = D.zones.length := by omega
   subst hje
   -- region 17 (zdev.go:209)
   refine T.region ?_
   refine T.y (fun w hw => Yl.move rfl) rfl rfl ?_
   refine T.y (fun w hw => Yl.assign rfl) rfl rfl ?_
   refine T.nil ?_
   refine J.sel (.cons 6 rfl .nil) ?_
   refine X.then_ ?_
   refine T.ret ?_
   refine X.ret1 Try.results56 rfl (fun w hw => ?_)
   rw [crashTo_end] at hw
   refine ⟨b, trivial, rfl, ?_⟩
   have hw : Hold w (pt d 133 (devCells D Z0 k0 r) :: rowH 134 1 Z0 k0 D.zones.length (zs.map fun z => ptr z 0) :: zonesH zs D.zones :: pt b 133 (devCells (newDev D.zones.length D.size) Z1 k1 r1) :: rowH 134 1 Z1 k1 (newDev D.zones.length D.size).zones.length (ys.map fun z => ptr z 0) :: zonesH ys (D.crash picks torn).zones :: M) K := by exact hw.f
   have hw := hw.dev' hz ⟨hr1, hr2⟩
   rw [show devCells (newDev D.zones.length D.size) Z1 k1 r1 = devCells (D.crash picks torn) Z1 k1 r1 from by simp [devCells, newDev, Dev.crash], show (newDev D.zones.length D.size).zones.length = (D.crash picks torn).zones.length from by simp [newDev, Dev.crash]] at hw
   refine Hold.dev' (D := D.crash picks torn) (zs := ys) (A := Z1) (c := k1) (r := r1) (by rw [hyl]; simp [Dev.crash]) ⟨hr3, hr4⟩ ?_
   exact hw.f

set_option maxHeartbeats 4000000 in
theorem copy_ct {d : Nat} {D : Dev} {M : List HP} {K : List KP} (hD : D.ok) : Fn 63 [ptr d 0] (devH d D :: M) K (fun _ : Nat => True) (fun x => ptr x 0) (fun x => devH x D :: devH d D :: M) (fun _ => K) := by
 refine Fn.of (n := 38) Try.func63 rfl Try.ntmps63 rfl ?_
 refine J.open_ (fun w hw => hw.dev) ?_
 rintro ⟨zs, Z0, k0, r⟩ ⟨hz, hr1, hr2⟩
 dsimp only at hz hr1 hr2 ⊢
 have hZ := hD.zones
 have hS := hD.size
 refine T.seq ?_
 -- region 0 (zdev.go:221)
 refine T.region ?_
 refine T.y (fun w hw => Yl.assign rfl) rfl rfl ?_
 refine T.nil ?_
 refine J.sel (.cons 0 rfl .nil) ?_
 refine X.then_ ?_
 refine T.seq ?_
 refine T.seq ?_
 -- region 1 (zdev.go:222)
 refine T.region ?_
 refine T.y (fun w hw => Yl.move rfl) rfl rfl ?_
 refine T.o (OpW.call en_92 rfl (gone_ct)) rfl rfl (fun x hx => ?_)
 refine T.nil ?_
 refine J.sel (.cons 0 rfl (.cons 7 rfl .nil)) ?_
 refine X.then_ ?_
 refine T.condD rfl (fun h7 => ?_) (fun h7 => ?_)
 · exfalso; (first | omega | contradiction | simp_all)
 ·skip
  refine T.skip ?_
  refine X.then_ ?_
  refine T.seq ?_
  -- region 3 (zdev.go:225)
  refine T.region ?_
  refine T.y (fun w hw => Yl.move rfl) rfl rfl ?_
  refine T.y (fun w hw => Yl.nilck rfl) rfl rfl ?_
  refine T.y (fun w hw => Yl.ldaP hw ag_133 rfl mM sU) rfl rfl ?_
  refine T.o (OpW.alloc zr_133) rfl rfl (fun b3 _ => ?_)
  refine T.o0 (OpW.stA sz_133 rfl rfl rfl rfl sW uL) rfl (fun _ _ => ?_)
  refine T.nil ?_
  refine J.sel (.cons 0 rfl (.cons 3 rfl .nil)) ?_
  refine X.then_ ?_
  refine T.seq ?_
  -- region 4 (zdev.go:226)
  refine T.region ?_
  refine T.y (fun w hw => Yl.fa fa_133_1 rfl) rfl rfl ?_
  refine T.o0 (OpW.st1 sz_131 rfl rfl rfl rfl sW uP) rfl (fun _ _ => ?_)
  refine T.nil ?_
  refine J.sel (.cons 0 rfl (.cons 3 rfl .nil)) ?_
  refine X.then_ ?_
  refine T.seq ?_
  refine T.seq ?_
  refine J.row_nil 134 1 ?_
  refine J.ent (fun w hw => hw.zones_nil) ?_
  -- region 5 (zdev.go:227)
  refine T.region ?_
  refine T.y (fun w hw => Yl.move rfl) rfl rfl ?_
  refine T.y (fun w hw => Yl.nilck rfl) rfl rfl ?_
  refine T.y (fun w hw => Yl.fa fa_133_1 rfl) rfl rfl ?_
  refine T.y (fun w hw => Yl.ldP hw na_131 rfl mM rfl) rfl rfl ?_
  refine T.y (fun w hw => Yl.len Try.underlying131 rfl) rfl rfl ?_
  refine T.y (fun w hw => Yl.move rfl) rfl rfl ?_
  refine T.nil ?_
  refine J.sel (.cons 3 rfl (.cons 15 rfl (.cons 16 rfl (.cons 17 rfl .nil)))) ?_
  refine X.then_ ?_
  refine T.block ?_
  refine T.loop (α := Nat × Option Addr × Nat × List Nat) (fun u => u.1 ≤ D.zones.length ∧ u.2.2.2.length = u.1) (fun u => [(17, .int .i64 (u.1 : Int)), (3, ptr b3 0), (15, .slice Z0 D.zones.length k0), (16, .int .i64 (D.zones.length : Int))]) (fun u => pt b3 133 [.int .i64 D.zones.length, .int .i64 D.size, .slice u.2.1 u.1 u.2.2.1, .int .i64 D.ops, .int .i64 r, .bool D.cut, .int .i64 D.left, .bool D.off] :: rowH 134 1 u.2.1 u.2.2.1 u.1 (u.2.2.2.map fun z => ptr z 0) :: zonesH u.2.2.2 (D.zones.take u.1) :: zonesH zs D.zones :: pt d 133 (devCells D Z0 k0 r) :: rowH 134 1 Z0 k0 D.zones.length (zs.map fun z => ptr z 0) :: M) (fun u => K) (fun u => D.zones.length - u.1) (0, none, 0, []) ⟨Nat.zero_le _, rfl⟩ (.num 17 rfl rfl (.cons 3 rfl (.cons 15 rfl (.cons 16 rfl .nil)))) (fun w hw => hw.f) ?_
  intro ⟨j, A, c, ys⟩ ⟨hj, hys⟩ Zk hz2
  dsimp only at hj hys hz2 ⊢
  refine T.seq ?_
  -- region 6 (zdev.go:227)
  refine T.region ?_
  refine T.y (fun w hw => Yl.lss rfl rfl) rfl rfl ?_
  refine T.nil ?_
  refine X.then_ ?_
  refine T.seq ?_
  refine T.condD rfl (fun h18 => ?_) (fun h18 => ?_)
  ·skip
   refine T.skip ?_
   refine X.then_ ?_
   refine T.seq ?_
   refine T.block ?_
   refine T.seq ?_
   obtain ⟨z, hzk⟩ : ∃ z, zs[j]? = some z := ⟨_, List.getElem?_eq_getElem (by omega)⟩
   obtain ⟨Z, hZk⟩ : ∃ Z, D.zones[j]? = some Z := ⟨_, List.getElem?_eq_getElem (by omega)⟩
   have hv : (zs.map fun z => ptr z 0)[j]? = some (ptr z 0) := by rw [List.getElem?_map, hzk]; rfl
   obtain ⟨f1, f2, f3⟩ := hD.full Z (List.mem_of_getElem? hZk)
   have hB := fun (r : List Int) (hr : r ∈ Z.blocks) => show r.length ≤ 1000000 from by have := (f3 r hr).1; omega
   refine J.ent (fun w hw => (hw.pick (p := zonesH zs D.zones) pK).zfocus hzk hZk) ?_
   refine J.open_ (fun w hw => hw.zopen) ?_
   rintro ⟨B, kb⟩ -
   dsimp only
   refine J.pick (p := rowsH B kb Z.blocks) pK ?_
   refine J.open_ (fun w hw => hw.rowsH_open) ?_
   intro vs hvs
   refine J.fact (fun w hw => hw.row_len (e := 23) (sz := 1) (A := B) (c := kb) (n := Z.blocks.length) (xs := vs) List.mem_cons_self) ?_
   rintro ⟨hk1, hk2, hk3⟩
   -- region 7 (zdev.go:227)
   refine T.region ?_
   refine T.y (fun w hw => Yl.ia1 sC Try.underlying131 isz_134 rfl rfl rfl (by omega)) rfl rfl ?_
   refine T.y (fun w hw => (by first | exact Yl.ldC hw na_134 rfl mM | exact Yl.ldR sC na_134 rfl (by assumption) | fail)) rfl rfl ?_
   refine T.y (fun w hw => Yl.assign rfl) rfl rfl ?_
   refine T.nil ?_
   refine J.sel (.cons 3 rfl (.cons 5 rfl (.cons 15 rfl (.cons 16 rfl (.cons 17 rfl .nil))))) ?_
   refine X.then_ ?_
   -- region 8 (zdev.go:228)
   refine Dr.start1 [16] (p := rowH 134 1 A c j (ys.map fun z => ptr z 0)) pK ?_
   refine Dr.take 0 rfl (by kernel_rfl) bL sS (fun w hs => have hw := hs.h; Yl.fa fa_133_1 rfl) rfl rfl ?_
   refine Dr.take 1 rfl (by kernel_rfl) bL sS (fun w hs => have hw := hs.h; Yl.ldP hw na_131 rfl mM rfl) rfl rfl ?_
   refine Dr.take 2 rfl (by kernel_rfl) bL sS (fun w hs => have hw := hs.h; Yl.move rfl) rfl rfl ?_
   refine Dr.take 3 rfl (by kernel_rfl) bL sS (fun w hs => have hw := hs.h; Yl.nilck rfl) rfl rfl ?_
   refine Dr.take 4 rfl (by kernel_rfl) bL sS (fun w hs => have hw := hs.h; Yl.fa fa_136_0 rfl) rfl rfl ?_
   refine Dr.take 5 rfl (by kernel_rfl) bL sS (fun w hs => have hw := hs.h; Yl.ldP hw na_62 rfl mM rfl) rfl rfl ?_
   refine Dr.take 7 rfl (by kernel_rfl) bL sS (fun w hs => have hw := hs.h; Yl.move rfl) rfl rfl ?_
   refine Dr.take 8 rfl (by kernel_rfl) bL sS (fun w hs => have hw := hs.h; Yl.nilck rfl) rfl rfl ?_
   refine Dr.take 9 rfl (by kernel_rfl) bL sS (fun w hs => have hw := hs.h; Yl.fa fa_136_1 rfl) rfl rfl ?_
   refine Dr.take 10 rfl (by kernel_rfl) bL sS (fun w hs => have hw := hs.h; Yl.ldP hw na_3 rfl mM rfl) rfl rfl ?_
   refine J.pick (p := rowH 23 1 B kb Z.blocks.length vs) pK ?_
   refine Dr.act 6 rfl (by kernel_rfl) rfl (OpW.call en_115 rfl (own_ct (rows := Z.blocks) (vs := vs) mM hvs rfl (Nat.le_refl _) (by omega) hB)) rfl rfl (fun _ _ _ => sS) (fun ⟨A27, c27⟩ _ => ?_)
   dsimp only
   rw [List.take_length]
   refine Dr.take 11 rfl (by kernel_rfl) bL sS (fun w hs => have hw := hs.h; Yl.build rfl (bld_136_0_1 _)) rfl rfl ?_
   refine Dr.act 12 rfl (by kernel_rfl) rfl (OpW.box rfl) rfl rfl (fun _ _ _ => sS) (fun b33 _ => ?_)
   refine Dr.act 13 rfl (by kernel_rfl) rfl (OpW.bsl (sz := 1) rfl bsl_131_1 rfl rfl) rfl rfl (fun _ _ _ => sS) (fun b34 _ => ?_)
   refine Dr.act 14 rfl (by kernel_rfl) rfl (OpW.app Try.underlying131 inf_134 rfl rfl rfl rfl pK (fun w hw => hw.row mM) oN (by constructor <;> omega)) rfl rfl (fun _ _ _ => sS) (fun ⟨A35, c35⟩ _ => ?_)
   dsimp only
   refine Dr.take 15 rfl (by kernel_rfl) bL sS (fun w hs => have hw := hs.h; Yl.fa fa_133_1 rfl) rfl rfl ?_
   refine Dr.act0 16 rfl (by kernel_rfl) rfl (OpW.st1 sz_131 rfl rfl rfl rfl sW uP) rfl (fun hB => absurd (List.elem_iff.1 rfl) hB) (fun _ _ => ?_)
   refine Dr.done (by kernel_rfl) ?_
   refine J.sel (.cons 3 rfl (.cons 15 rfl (.cons 16 rfl (.cons 17 rfl .nil)))) ?_
   refine X.nm_blk ?_
   refine X.then_ ?_
   -- region 9 (zdev.go:227)
   refine T.region ?_
   refine T.y (fun w hw => Yl.add rfl rfl (by omega)) rfl rfl ?_
   refine T.y (fun w hw => Yl.move rfl) rfl rfl ?_
   refine T.nil ?_
   refine J.sel (.cons 3 rfl (.cons 15 rfl (.cons 16 rfl (.cons 17 rfl .nil)))) ?_
   refine X.go (hz2 (j + 1, A35, c35, ys ++ [b33]) ⟨by omega, by simp [hys]⟩ (by omega)) (.num 17 rfl (by omega) (.cons 3 rfl (.cons 15 rfl (.cons 16 rfl .nil)))) (fun w hw => ?_)
   have hw := (hw.pick (p := rowsH A27 c27 Z.blocks) pK).pick (p := pt b33 136 [.slice A27 Z.blocks.length c27, .int .i64 Z.good]) pK
   have hw := Hold.zshut hw
   have hw := (hw.pick (p := rowH 23 1 B kb Z.blocks.length vs) pK).rowsH_shut (rows := Z.blocks) (vs := vs) List.mem_cons_self
   have hw := hw.pick (p := pt z 136 [.slice B Z.blocks.length kb, .int .i64 Z.good]) pK
   have hw := (Hold.zshut hw).pick (p := zrest zs D.zones j) pK
   have hw := zback_same (hw.pick (.tail .head)) hzk hZk
   have hw := (hw.pick (p := zonesH ys (D.zones.take j)) pK).pick (p := zoneH b33 ⟨Z.blocks, Z.good⟩) pK
   have hw := hw.zones_snoc (by simp [hys]; omega)
   rw [show D.zones.take j ++ [(⟨Z.blocks, Z.good⟩ : Zn)] = D.zones.take (j + 1) from (by obtain ⟨hlt, e⟩ := List.getElem?_eq_some_iff.1 hZk; rw [List.take_succ_eq_append_getElem hlt, e]), show ((ys.map fun z => ptr z 0) ++ [ptr b33 0]) = (ys ++ [b33]).map fun z => ptr z 0 by simp] at hw
   exact hw.f
  ·skip
   refine T.exit ?_
   refine X.exit_then ?_
   refine X.exit_then ?_
   refine X.exit_blk ?_
   refine X.then_ ?_
   refine T.seq ?_
   have hje : j = D.zones.length := by omega
   subst hje
   -- region 10 (zdev.go:230)
   refine T.region ?_
   refine T.y (fun w hw => Yl.assign rfl) rfl rfl ?_
   refine T.nil ?_
   refine J.sel (.cons 2 rfl .nil) ?_
   refine X.then_ ?_
   refine T.ret ?_
   refine X.ret1 Try.results63 rfl (fun w hw => ?_)
   refine ⟨b3, trivial, rfl, ?_⟩
   rw [List.take_length] at hw
   have hw := Hold.dev' (d := d) hz ⟨hr1, hr2⟩ (hw.mono (M' := pt d 133 (devCells D Z0 k0 r) :: rowH 134 1 Z0 k0 D.zones.length (zs.map fun z => ptr z 0) :: zonesH zs D.zones :: pt b3 133 (devCells D A c r) :: rowH 134 1 A c D.zones.length (ys.map fun z => ptr z 0) :: zonesH ys D.zones :: M) pS (fun _ h => h))
   refine Hold.dev' (d := b3) (A := A) (c := c) hys ⟨hr1, hr2⟩ ?_
   exact hw.f

end Go.Proofs.Ytfpnodboebpemaa
