/- Decode of scarpref6. -/
import Derived.Test.YtfpnodboebpemaaSix
namespace Go.Proofs.Ytfpnodboebpemaa
open Go.RowKit Go.Proofs.YtfpnodboebpemaaW.PrintWords
set_option linter.unusedVariables false
set_option linter.unusedSimpArgs false
attribute [local irreducible] pt rowH slK bytesK intsK rowsK rowsH cellK rowsV oldK star exH pureH knowH starL emp devH zoneH zonesH zrest

set_option maxHeartbeats 4000000 in
theorem decode6_ct {M : List HP} {K : List KP} {A : Option Addr} {c : Nat} {p : List Int} (hp : bytesK A c p ∈ K) : Fn 49 [.slice A p.length c] M K (fun _ : Option Addr × Nat => True) (fun r => .tuple [.agg [.int .i64 (decB p).kind, .int .i64 (decB p).epoch, .int .i64 (decB p).seq, .int .i64 (decB p).lba, .slice r.1 (decB p).body.length r.2].toArray, .int .i64 (decErr p)].toArray) (fun _ => M) (fun r => bytesK r.1 r.2 (decB p).body :: K) := by
 refine Fn.of (n := 84) Try.func49 rfl Try.ntmps49 rfl ?_
 refine J.fact (fun w hw => hw.isB (A := A) (c := c) (xs := p) mM) ?_
 intro hB
 refine J.fact (fun w hw => hw.bytes_cap (A := A) (c := c) (xs := p) mM) ?_
 intro hcap
 refine T.seq ?_
 -- region 0 (frame.go:109)
 refine T.region ?_
 refine T.o (OpW.alloc zr_31) rfl rfl (fun b2 _ => ?_)
 refine T.y (fun w hw => Yl.assign rfl) rfl rfl ?_
 refine T.nil ?_
 refine J.sel (.cons 0 rfl (.cons 2 rfl .nil)) ?_
 refine X.then_ ?_
 refine T.seq ?_
 refine T.seq ?_
 -- region 1 (frame.go:110)
 refine T.region ?_
 refine T.y (fun w hw => Yl.move rfl) rfl rfl ?_
 refine T.y (fun w hw => Yl.len Try.underlying23 rfl) rfl rfl ?_
 refine T.y (fun w hw => Yl.neq rfl rfl) rfl rfl ?_
 refine T.nil ?_
 refine J.sel (.cons 0 rfl (.cons 2 rfl (.cons 16 rfl .nil))) ?_
 refine X.then_ ?_
 refine T.condD rfl (fun h16 => ?_) (fun h16 => ?_)
 ·skip
  refine T.seq ?_
  -- region 2 (frame.go:111)
  refine T.region ?_
  refine T.y (fun w hw => Yl.build rfl (bld_31_z _)) rfl rfl ?_
  refine T.o0 (OpW.stA sz_31 rfl rfl rfl rfl sW uL) rfl (fun _ _ => ?_)
  refine T.y (fun w hw => Yl.assign rfl) rfl rfl ?_
  refine T.nil ?_
  refine J.sel (.cons 2 rfl (.cons 3 rfl .nil)) ?_
  refine X.then_ ?_
  refine T.ret ?_
  refine X.ret_then ?_
  refine X.retCT Try.results49 ag_31 rfl rfl mM sU (fun w hw => ?_)
  have he : decErr p = 3 := dec_3 (by omega)
  rw [he, dec_no he (by decide)]
  exact ⟨(none, 0), trivial, rfl, by have hw := hw.bytesK_nil; exact hw.f⟩
 ·skip
  refine T.skip ?_
  refine X.then_ ?_
  refine T.seq ?_
  have hl : p.length = 64 := by omega
  have r0 := rd_b p 0 (by omega) hB
  have r1 := rd_b p 1 (by omega) hB
  have hk1 := ge_bound ((p.drop 2).take 4) ((hB.drop 2).take 4)
  rw [show ((p.drop 2).take 4).length = 4 by simp; omega, show (256 : Int) ^ 4 = 4294967296 by decide] at hk1
  have hk2 := ge_bound ((p.drop 6).take 8) ((hB.drop 6).take 8)
  rw [show ((p.drop 6).take 8).length = 8 by simp; omega, show (256 : Int) ^ 8 = 18446744073709551616 by decide] at hk2
  have hk3 := ge_bound ((p.drop 14).take 4) ((hB.drop 14).take 4)
  rw [show ((p.drop 14).take 4).length = 4 by simp; omega, show (256 : Int) ^ 4 = 4294967296 by decide] at hk3
  refine J.ent (fun w hw => hw.bytes_cut (xs := p) (A := A) (c := c) mM 2 p.length (by omega) (Nat.le_refl _)) ?_
  refine J.ent (fun w hw => hw.bytes_cut (xs := p) (A := A) (c := c) mM 6 p.length (by omega) (Nat.le_refl _)) ?_
  refine J.ent (fun w hw => hw.bytes_cut (xs := p) (A := A) (c := c) mM 14 p.length (by omega) (Nat.le_refl _)) ?_
  -- region 3 (frame.go:113)
  refine T.region ?_
  refine T.y (fun w hw => Yl.move rfl) rfl rfl ?_
  refine T.y (fun w hw => Yl.slLo Try.underlying23 sz_5 rfl rfl rfl (l := 2) (by omega) (by omega)) rfl rfl ?_
  refine T.o (OpW.call en_102 rfl (get6_ct (A := slA A c 2 1) (c := c - 2) (xs := (p.drop 2).take (p.length - 2)) (n := 4) mM (by simp) rfl (by omega) (by simp; omega))) rfl rfl (fun _ _ => ?_)
  rw [show ((p.drop 2).take (p.length - 2)).take 4 = (p.drop 2).take 4 from by rw [List.take_take]; congr 1; omega]
  refine T.y (fun w hw => Yl.move rfl) rfl rfl ?_
  refine T.y (fun w hw => Yl.extract rfl rfl) rfl rfl ?_
  refine T.y (fun w hw => Yl.extract rfl rfl) rfl rfl ?_
  refine T.y (fun w hw => Yl.assign rfl) rfl rfl ?_
  refine T.y (fun w hw => Yl.assign rfl) rfl rfl ?_
  refine T.nil ?_
  refine J.sel (.cons 0 rfl (.cons 2 rfl (.cons 4 rfl .nil))) ?_
  refine X.then_ ?_
  refine T.seq ?_
  -- region 4 (frame.go:114)
  refine T.region ?_
  refine T.y (fun w hw => Yl.move rfl) rfl rfl ?_
  refine T.y (fun w hw => Yl.slLo Try.underlying23 sz_5 rfl rfl rfl (l := 6) (by omega) (by omega)) rfl rfl ?_
  refine T.o (OpW.call en_102 rfl (get6_ct (A := slA A c 6 1) (c := c - 6) (xs := (p.drop 6).take (p.length - 6)) (n := 8) mM (by simp) rfl (by omega) (by simp; omega))) rfl rfl (fun _ _ => ?_)
  rw [show ((p.drop 6).take (p.length - 6)).take 8 = (p.drop 6).take 8 from by rw [List.take_take]; congr 1; omega]
  refine T.y (fun w hw => Yl.move rfl) rfl rfl ?_
  refine T.y (fun w hw => Yl.extract rfl rfl) rfl rfl ?_
  refine T.y (fun w hw => Yl.extract rfl rfl) rfl rfl ?_
  refine T.y (fun w hw => Yl.assign rfl) rfl rfl ?_
  refine T.y (fun w hw => Yl.assign rfl) rfl rfl ?_
  refine T.nil ?_
  refine J.sel (.cons 0 rfl (.cons 2 rfl (.cons 4 rfl (.cons 6 rfl .nil)))) ?_
  refine X.then_ ?_
  refine T.seq ?_
  -- region 5 (frame.go:115)
  refine T.region ?_
  refine T.y (fun w hw => Yl.move rfl) rfl rfl ?_
  refine T.y (fun w hw => Yl.slLo Try.underlying23 sz_5 rfl rfl rfl (l := 14) (by omega) (by omega)) rfl rfl ?_
  refine T.o (OpW.call en_102 rfl (get6_ct (A := slA A c 14 1) (c := c - 14) (xs := (p.drop 14).take (p.length - 14)) (n := 4) mM (by simp) rfl (by omega) (by simp; omega))) rfl rfl (fun _ _ => ?_)
  rw [show ((p.drop 14).take (p.length - 14)).take 4 = (p.drop 14).take 4 from by rw [List.take_take]; congr 1; omega]
  refine T.y (fun w hw => Yl.move rfl) rfl rfl ?_
  refine T.y (fun w hw => Yl.extract rfl rfl) rfl rfl ?_
  refine T.y (fun w hw => Yl.extract rfl rfl) rfl rfl ?_
  refine T.y (fun w hw => Yl.assign rfl) rfl rfl ?_
  refine T.y (fun w hw => Yl.assign rfl) rfl rfl ?_
  refine T.nil ?_
  refine J.sel (.cons 0 rfl (.cons 2 rfl (.cons 4 rfl (.cons 6 rfl (.cons 8 rfl .nil))))) ?_
  refine X.then_ ?_
  refine T.seq ?_
  -- region 6 (frame.go:116)
  refine T.region ?_
  refine T.y (fun w hw => Yl.move rfl) rfl rfl ?_
  refine T.y (fun w hw => Yl.ia1 (i := 1) sC Try.underlying23 isz_5 rfl rfl rfl (by omega)) rfl rfl ?_
  refine T.y (fun w hw => (by first | exact Yl.ldB hw mM na_5 rfl (by omega) | exact Yl.ldC hw na_5 rfl mM | exact Yl.ldR sC na_5 rfl (by assumption) | fail)) rfl rfl ?_
  refine T.y (fun w hw => Yl.conv Try.underlying5 Try.underlying3 rfl (cv_i64 (by omega))) rfl rfl ?_
  refine T.y (fun w hw => Yl.assign rfl) rfl rfl ?_
  refine T.nil ?_
  refine J.sel (.cons 0 rfl (.cons 2 rfl (.cons 4 rfl (.cons 6 rfl (.cons 8 rfl (.cons 10 rfl .nil)))))) ?_
  refine X.then_ ?_
  refine T.seq ?_
  refine T.seq ?_
  -- region 7 (frame.go:117)
  refine T.region ?_
  refine T.y (fun w hw => Yl.move rfl) rfl rfl ?_
  refine T.y (fun w hw => Yl.gtr rfl rfl) rfl rfl ?_
  refine T.y (fun w hw => Yl.move rfl) rfl rfl ?_
  refine T.splitD 42 rfl (fun h42 => ?_) (fun h42 => ?_)
  ·skip
   refine T.off rfl rfl rfl ?_
   refine T.off rfl rfl rfl ?_
   refine T.y (fun w hw => Yl.pickT rfl rfl) rfl rfl ?_
   refine T.y (fun w hw => Yl.move rfl) rfl rfl ?_
   refine T.off rfl rfl rfl ?_
   refine T.off rfl rfl rfl ?_
   refine T.y (fun w hw => Yl.pickT rfl rfl) rfl rfl ?_
   refine T.nil ?_
   refine J.sel (.cons 0 rfl (.cons 2 rfl (.cons 4 rfl (.cons 6 rfl (.cons 8 rfl (.cons 10 rfl (.cons 49 rfl .nil))))))) ?_
   refine X.then_ ?_
   refine T.condT rfl ?_
   refine T.seq ?_
   -- region 8 (frame.go:118)
   refine T.region ?_
   refine T.y (fun w hw => Yl.build rfl (bld_31_z _)) rfl rfl ?_
   refine T.o0 (OpW.stA sz_31 rfl rfl rfl rfl sW uL) rfl (fun _ _ => ?_)
   refine T.y (fun w hw => Yl.assign rfl) rfl rfl ?_
   refine T.nil ?_
   refine J.sel (.cons 2 rfl (.cons 3 rfl .nil)) ?_
   refine X.then_ ?_
   refine T.ret ?_
   refine X.ret_then ?_
   refine X.retCT Try.results49 ag_31 rfl rfl mM sU (fun w hw => ?_)
   have he : decErr p = 13 := dec_13 hl (by rintro ⟨⟨⟨_, _, _, _, _, f6, _, f8⟩, f9⟩, _⟩; simp only [rawB, List.length_take, List.length_drop] at f6 f8 f9; first | omega | (have hr : (rd p ((1 : Nat) : Int)) = rd p 1 := rfl; omega))
   rw [he, dec_no he (by decide)]
   exact ⟨(none, 0), trivial, rfl, by have hw := hw.bytesK_nil; exact hw.f⟩
  ·skip
   refine T.y (fun w hw => Yl.move rfl) rfl rfl ?_
   refine T.y (fun w hw => Yl.gtr rfl rfl) rfl rfl ?_
   refine T.y (fun w hw => Yl.pickF rfl rfl) rfl rfl ?_
   refine T.y (fun w hw => Yl.move rfl) rfl rfl ?_
   refine T.splitD 46 rfl (fun h46 => ?_) (fun h46 => ?_)
   ·skip
    refine T.off rfl rfl rfl ?_
    refine T.off rfl rfl rfl ?_
    refine T.y (fun w hw => Yl.pickT rfl rfl) rfl rfl ?_
    refine T.nil ?_
    refine J.sel (.cons 0 rfl (.cons 2 rfl (.cons 4 rfl (.cons 6 rfl (.cons 8 rfl (.cons 10 rfl (.cons 49 rfl .nil))))))) ?_
    refine X.then_ ?_
    refine T.condT rfl ?_
    refine T.seq ?_
    -- region 8 (frame.go:118)
    refine T.region ?_
    refine T.y (fun w hw => Yl.build rfl (bld_31_z _)) rfl rfl ?_
    refine T.o0 (OpW.stA sz_31 rfl rfl rfl rfl sW uL) rfl (fun _ _ => ?_)
    refine T.y (fun w hw => Yl.assign rfl) rfl rfl ?_
    refine T.nil ?_
    refine J.sel (.cons 2 rfl (.cons 3 rfl .nil)) ?_
    refine X.then_ ?_
    refine T.ret ?_
    refine X.ret_then ?_
    refine X.retCT Try.results49 ag_31 rfl rfl mM sU (fun w hw => ?_)
    have he : decErr p = 13 := dec_13 hl (by rintro ⟨⟨⟨_, _, _, _, _, f6, _, f8⟩, f9⟩, _⟩; simp only [rawB, List.length_take, List.length_drop] at f6 f8 f9; first | omega | (have hr : (rd p ((1 : Nat) : Int)) = rd p 1 := rfl; omega))
    rw [he, dec_no he (by decide)]
    exact ⟨(none, 0), trivial, rfl, by have hw := hw.bytesK_nil; exact hw.f⟩
   ·skip
    refine T.y (fun w hw => Yl.move rfl) rfl rfl ?_
    refine T.y (fun w hw => Yl.gtr rfl rfl) rfl rfl ?_
    refine T.y (fun w hw => Yl.pickF rfl rfl) rfl rfl ?_
    refine T.nil ?_
    refine J.sel (.cons 0 rfl (.cons 2 rfl (.cons 4 rfl (.cons 6 rfl (.cons 8 rfl (.cons 10 rfl (.cons 49 rfl .nil))))))) ?_
    refine X.then_ ?_
    refine T.condD rfl (fun h49 => ?_) (fun h49 => ?_)
    ·skip
     refine T.seq ?_
     -- region 8 (frame.go:118)
     refine T.region ?_
     refine T.y (fun w hw => Yl.build rfl (bld_31_z _)) rfl rfl ?_
     refine T.o0 (OpW.stA sz_31 rfl rfl rfl rfl sW uL) rfl (fun _ _ => ?_)
     refine T.y (fun w hw => Yl.assign rfl) rfl rfl ?_
     refine T.nil ?_
     refine J.sel (.cons 2 rfl (.cons 3 rfl .nil)) ?_
     refine X.then_ ?_
     refine T.ret ?_
     refine X.ret_then ?_
     refine X.retCT Try.results49 ag_31 rfl rfl mM sU (fun w hw => ?_)
     have he : decErr p = 13 := dec_13 hl (by rintro ⟨⟨⟨_, _, _, _, _, f6, _, f8⟩, f9⟩, _⟩; simp only [rawB, List.length_take, List.length_drop] at f6 f8 f9; first | omega | (have hr : (rd p ((1 : Nat) : Int)) = rd p 1 := rfl; omega))
     rw [he, dec_no he (by decide)]
     exact ⟨(none, 0), trivial, rfl, by have hw := hw.bytesK_nil; exact hw.f⟩
    ·skip
     obtain ⟨n, hn⟩ : ∃ n : Nat, rd p ((1 : Nat) : Int) = n := ⟨(rd p ((1 : Nat) : Int)).toNat, by omega⟩
     have hbody : (rawB p).body = (p.drop 18).take (18 + n - 18) := by
       unfold rawB; simp only
       rw [show rd p 1 = (n : Int) from hn]; simp
     have hbl : (rawB p).body.length = 18 + n - 18 := by rw [hbody]; simp; omega
     refine J.ent (fun w hw => hw.bytes_cut (xs := p) (A := A) (c := c) mM 18 (18 + n) (by omega) (by omega)) ?_
     refine T.skip ?_
     refine X.then_ ?_
     refine T.cut (α := Nat × Option Addr × Nat) (φ := fun u => True) (Ec := fun u => [(11, ptr u.1 0), (0, .slice A p.length c), (2, ptr b2 0)]) (Mc := fun u => pt u.1 31 [.int .i64 (rawB p).kind, .int .i64 (rawB p).epoch, .int .i64 (rawB p).seq, .int .i64 (rawB p).lba, .slice u.2.1 (rawB p).body.length u.2.2] :: pt b2 31 [.int .i64 0, .int .i64 0, .int .i64 0, .int .i64 0, .slice none 0 0] :: M) (Kc := fun u => bytesK u.2.1 u.2.2 (rawB p).body :: K) ?_ ?_
     ·intro Zk hz2
      -- region 9 (frame.go:120)
      refine Dr.start0 [18] ?_
      refine Dr.take 0 rfl (by kernel_rfl) bL sS (fun w hs => have hw := hs.h; Yl.move rfl) rfl rfl ?_
      refine Dr.take 1 rfl (by kernel_rfl) bL sS (fun w hs => have hw := hs.h; Yl.ia1 (i := 0) sC Try.underlying23 isz_5 rfl rfl rfl (by omega)) rfl rfl ?_
      refine Dr.take 2 rfl (by kernel_rfl) bL sS (fun w hs => have hw := hs.h; (by first | exact Yl.ldB hw mM na_5 rfl (by omega) | exact Yl.ldC hw na_5 rfl mM | exact Yl.ldR sC na_5 rfl (by assumption) | fail)) rfl rfl ?_
      refine Dr.take 3 rfl (by kernel_rfl) bL sS (fun w hs => have hw := hs.h; Yl.conv Try.underlying5 Try.underlying3 rfl (cv_i64 (by omega))) rfl rfl ?_
      refine Dr.take 4 rfl (by kernel_rfl) bL sS (fun w hs => have hw := hs.h; Yl.move rfl) rfl rfl ?_
      refine Dr.take 5 rfl (by kernel_rfl) bL sS (fun w hs => have hw := hs.h; Yl.conv Try.underlying127 Try.underlying3 rfl (cv_i64 (by omega))) rfl rfl ?_
      refine Dr.take 6 rfl (by kernel_rfl) bL sS (fun w hs => have hw := hs.h; Yl.move rfl) rfl rfl ?_
      refine Dr.take 7 rfl (by kernel_rfl) bL sS (fun w hs => have hw := hs.h; Yl.conv Try.underlying127 Try.underlying3 rfl (cv_i64 (by omega))) rfl rfl ?_
      refine Dr.take 8 rfl (by kernel_rfl) bL sS (fun w hs => have hw := hs.h; Yl.move rfl) rfl rfl ?_
      refine Dr.take 9 rfl (by kernel_rfl) bL sS (fun w hs => have hw := hs.h; Yl.conv Try.underlying127 Try.underlying3 rfl (cv_i64 (by omega))) rfl rfl ?_
      refine Dr.take 11 rfl (by kernel_rfl) bL sS (fun w hs => have hw := hs.h; Yl.move rfl) rfl rfl ?_
      refine Dr.take 12 rfl (by kernel_rfl) bL sS (fun w hs => have hw := hs.h; Yl.move rfl) rfl rfl ?_
      refine Dr.take 13 rfl (by kernel_rfl) bL sS (fun w hs => have hw := hs.h; Yl.add rfl rfl (by omega)) rfl rfl ?_
      refine Dr.take 14 rfl (by kernel_rfl) bL sS (fun w hs => have hw := hs.h; Yl.slLH Try.underlying23 sz_5 rfl rfl rfl (l := 18) (h := 18 + n) rfl (by rw [hn]; omega) (by omega) (by omega)) rfl rfl ?_
      refine Dr.or (i := 10) (j := 17) (by kernel_rfl) rfl ?_ ?_
      ·skip
       refine Dr.one 10 rfl (OpW.bsl (sz := 1) rfl bsl_23_0 rfl rfl) rfl rfl (fun _ _ _ => sS) (fun b61 _ => ?_)
       refine Dr.or (i := 15) (j := 17) (by kernel_rfl) rfl ?_ ?_
       ·skip
        refine Dr.one 15 rfl (OpW.app (c2 := c - 18) (ys := nums .u8 ((p.drop 18).take (18 + n - 18))) Try.underlying23 inf_5 rfl rfl rfl rfl pK (fun w hw => by have h1 := hw.bytes (A := slA A c 18 1) (c := c - 18) (xs := (p.drop 18).take (18 + n - 18)) mM; rwa [show ((p.drop 18).take (18 + n - 18)).length = 18 + n - 18 by simp; omega] at h1) (nums_one _ _) (by constructor <;> omega)) rfl rfl (fun _ _ _ => sS) (fun ⟨A66, c66⟩ _ => ?_)
        dsimp only
        refine Dr.take 16 rfl (by kernel_rfl) bL sS (fun w hs => have hw := hs.h; Yl.build rfl (bld_31_0_1_2_3_4 _)) rfl rfl ?_
        refine Dr.act 17 rfl (by kernel_rfl) rfl (OpW.alloc zr_31) rfl rfl (fun _ _ _ => sS) (fun b11 _ => ?_)
        refine Dr.act0 18 rfl (by kernel_rfl) rfl (OpW.stA sz_31 rfl rfl rfl rfl sW uL) rfl (fun hB => absurd (List.elem_iff.1 rfl) hB) (fun _ _ => ?_)
        refine Dr.done (by kernel_rfl) ?_
        refine J.sel (.cons 0 rfl (.cons 2 rfl (.cons 11 rfl .nil))) ?_
        rw [show 0 + (18 + n - 18) = (rawB p).body.length by omega, List.nil_append, ← hbody]
        refine J.ent (fun w hw => Hold.row_bytes (xs := (rawB p).body) (A := A66) (c := c66) (hw.pick pK) (by rw [hbody]; exact (hB.drop 18).take _)) ?_
        refine X.go (hz2 (b11, A66, c66) trivial) (.cons 11 rfl (.cons 0 rfl (.cons 2 rfl .nil))) (fun w hw => ?_)
        exact hw.f
       ·skip
        refine Dr.one 17 rfl (OpW.alloc zr_31) rfl rfl (fun _ _ _ => sS) (fun b11 _ => ?_)
        refine Dr.act 15 rfl (by kernel_rfl) rfl (OpW.app (c2 := c - 18) (ys := nums .u8 ((p.drop 18).take (18 + n - 18))) Try.underlying23 inf_5 rfl rfl rfl rfl pK (fun w hw => by have h1 := hw.bytes (A := slA A c 18 1) (c := c - 18) (xs := (p.drop 18).take (18 + n - 18)) mM; rwa [show ((p.drop 18).take (18 + n - 18)).length = 18 + n - 18 by simp; omega] at h1) (nums_one _ _) (by constructor <;> omega)) rfl rfl (fun _ _ _ => sS) (fun ⟨A66, c66⟩ _ => ?_)
        dsimp only
        refine Dr.take 16 rfl (by kernel_rfl) bL sS (fun w hs => have hw := hs.h; Yl.build rfl (bld_31_0_1_2_3_4 _)) rfl rfl ?_
        refine Dr.act0 18 rfl (by kernel_rfl) rfl (OpW.stA sz_31 rfl rfl rfl rfl sW uL) rfl (fun hB => absurd (List.elem_iff.1 rfl) hB) (fun _ _ => ?_)
        refine Dr.done (by kernel_rfl) ?_
        refine J.sel (.cons 0 rfl (.cons 2 rfl (.cons 11 rfl .nil))) ?_
        rw [show 0 + (18 + n - 18) = (rawB p).body.length by omega, List.nil_append, ← hbody]
        refine J.ent (fun w hw => Hold.row_bytes (xs := (rawB p).body) (A := A66) (c := c66) (hw.pick pK) (by rw [hbody]; exact (hB.drop 18).take _)) ?_
        refine X.go (hz2 (b11, A66, c66) trivial) (.cons 11 rfl (.cons 0 rfl (.cons 2 rfl .nil))) (fun w hw => ?_)
        exact hw.f
      ·skip
       refine Dr.one 17 rfl (OpW.alloc zr_31) rfl rfl (fun _ _ _ => sS) (fun b11 _ => ?_)
       refine Dr.act 10 rfl (by kernel_rfl) rfl (OpW.bsl (sz := 1) rfl bsl_23_0 rfl rfl) rfl rfl (fun _ _ _ => sS) (fun b61 _ => ?_)
       refine Dr.act 15 rfl (by kernel_rfl) rfl (OpW.app (c2 := c - 18) (ys := nums .u8 ((p.drop 18).take (18 + n - 18))) Try.underlying23 inf_5 rfl rfl rfl rfl pK (fun w hw => by have h1 := hw.bytes (A := slA A c 18 1) (c := c - 18) (xs := (p.drop 18).take (18 + n - 18)) mM; rwa [show ((p.drop 18).take (18 + n - 18)).length = 18 + n - 18 by simp; omega] at h1) (nums_one _ _) (by constructor <;> omega)) rfl rfl (fun _ _ _ => sS) (fun ⟨A66, c66⟩ _ => ?_)
       dsimp only
       refine Dr.take 16 rfl (by kernel_rfl) bL sS (fun w hs => have hw := hs.h; Yl.build rfl (bld_31_0_1_2_3_4 _)) rfl rfl ?_
       refine Dr.act0 18 rfl (by kernel_rfl) rfl (OpW.stA sz_31 rfl rfl rfl rfl sW uL) rfl (fun hB => absurd (List.elem_iff.1 rfl) hB) (fun _ _ => ?_)
       refine Dr.done (by kernel_rfl) ?_
       refine J.sel (.cons 0 rfl (.cons 2 rfl (.cons 11 rfl .nil))) ?_
       rw [show 0 + (18 + n - 18) = (rawB p).body.length by omega, List.nil_append, ← hbody]
       refine J.ent (fun w hw => Hold.row_bytes (xs := (rawB p).body) (A := A66) (c := c66) (hw.pick pK) (by rw [hbody]; exact (hB.drop 18).take _)) ?_
       refine X.go (hz2 (b11, A66, c66) trivial) (.cons 11 rfl (.cons 0 rfl (.cons 2 rfl .nil))) (fun w hw => ?_)
       exact hw.f
     ·intro ⟨b11, A66, c66⟩ _
      dsimp only
      refine T.seq ?_
      -- region 10 (frame.go:121)
      refine T.region ?_
      refine T.y (fun w hw => Yl.ldaP hw ag_31 rfl mM sU) rfl rfl ?_
      refine T.o (OpW.call en_47 rfl (encode6_ct (rawB p) rfl mM)) rfl rfl (fun ⟨A70, c70⟩ _ => ?_)
      dsimp only
      refine T.y (fun w hw => Yl.move rfl) rfl rfl ?_
      refine T.y (fun w hw => Yl.extract rfl rfl) rfl rfl ?_
      refine T.y (fun w hw => Yl.extract rfl rfl) rfl rfl ?_
      refine T.y (fun w hw => Yl.assign rfl) rfl rfl ?_
      refine T.y (fun w hw => Yl.assign rfl) rfl rfl ?_
      refine T.nil ?_
      refine J.sel (.cons 0 rfl (.cons 2 rfl (.cons 11 rfl (.cons 12 rfl (.cons 13 rfl .nil))))) ?_
      refine X.then_ ?_
      refine T.seq ?_
      refine T.seq ?_
      -- region 11 (frame.go:122)
      refine T.region ?_
      refine T.y (fun w hw => Yl.move rfl) rfl rfl ?_
      refine T.y (fun w hw => Yl.neq rfl rfl) rfl rfl ?_
      refine T.y (fun w hw => Yl.move rfl) rfl rfl ?_
      refine T.splitD 75 rfl (fun h75 => ?_) (fun h75 => ?_)
      ·skip
       refine T.off rfl rfl rfl ?_
       refine T.off rfl rfl rfl ?_
       refine T.off rfl rfl rfl ?_
       refine T.off rfl rfl rfl ?_
       refine T.off rfl rfl rfl ?_
       refine T.y (fun w hw => Yl.pickT rfl rfl) rfl rfl ?_
       refine T.nil ?_
       refine J.sel (.cons 2 rfl (.cons 11 rfl (.cons 81 rfl .nil))) ?_
       refine X.then_ ?_
       refine T.condT rfl ?_
       refine T.seq ?_
       -- region 12 (frame.go:123)
       refine T.region ?_
       refine T.y (fun w hw => Yl.build rfl (bld_31_z _)) rfl rfl ?_
       refine T.o0 (OpW.stA sz_31 rfl rfl rfl rfl sW uL) rfl (fun _ _ => ?_)
       refine T.y (fun w hw => Yl.assign rfl) rfl rfl ?_
       refine T.nil ?_
       refine J.sel (.cons 2 rfl (.cons 3 rfl .nil)) ?_
       refine X.then_ ?_
       refine T.ret ?_
       refine X.ret_then ?_
       refine X.retCT Try.results49 ag_31 rfl rfl mM sU (fun w hw => ?_)
       have he : decErr p = 13 := dec_13 hl (by rintro ⟨⟨f1, f2⟩, f3⟩; first | exact h75 (err_of f1 f2) | (have e0 := err_of f1 f2; rw [if_pos e0] at h81; exact h81 (by rw [← f3])))
       rw [he, dec_no he (by decide)]
       exact ⟨(none, 0), trivial, rfl, by have hw := hw.bytesK_nil; exact hw.f⟩
      ·skip
       refine T.y (fun w hw => Yl.move rfl) rfl rfl ?_
       refine T.y (fun w hw => Yl.convS (xs := if (rawB p).err = 0 then (rawB p).enc else []) hw mM rfl) rfl rfl ?_
       refine T.y (fun w hw => Yl.move rfl) rfl rfl ?_
       refine T.y (fun w hw => Yl.convS (xs := p) hw mM rfl) rfl rfl ?_
       refine T.y (fun w hw => Yl.neS rfl rfl) rfl rfl ?_
       refine T.y (fun w hw => Yl.pickF rfl rfl) rfl rfl ?_
       refine T.nil ?_
       refine J.sel (.cons 2 rfl (.cons 11 rfl (.cons 81 rfl .nil))) ?_
       refine X.then_ ?_
       refine T.condD rfl (fun h81 => ?_) (fun h81 => ?_)
       ·skip
        refine T.seq ?_
        -- region 12 (frame.go:123)
        refine T.region ?_
        refine T.y (fun w hw => Yl.build rfl (bld_31_z _)) rfl rfl ?_
        refine T.o0 (OpW.stA sz_31 rfl rfl rfl rfl sW uL) rfl (fun _ _ => ?_)
        refine T.y (fun w hw => Yl.assign rfl) rfl rfl ?_
        refine T.nil ?_
        refine J.sel (.cons 2 rfl (.cons 3 rfl .nil)) ?_
        refine X.then_ ?_
        refine T.ret ?_
        refine X.ret_then ?_
        refine X.retCT Try.results49 ag_31 rfl rfl mM sU (fun w hw => ?_)
        have he : decErr p = 13 := dec_13 hl (by rintro ⟨⟨f1, f2⟩, f3⟩; first | exact h75 (err_of f1 f2) | (have e0 := err_of f1 f2; rw [if_pos e0] at h81; exact h81 (by rw [← f3])))
        rw [he, dec_no he (by decide)]
        exact ⟨(none, 0), trivial, rfl, by have hw := hw.bytesK_nil; exact hw.f⟩
       ·skip
        refine T.skip ?_
        refine X.then_ ?_
        refine T.seq ?_
        -- region 13 (frame.go:125)
        refine T.region ?_
        refine T.y (fun w hw => Yl.ldaP hw ag_31 rfl mM sU) rfl rfl ?_
        refine T.o0 (OpW.stA sz_31 rfl rfl rfl rfl sW uL) rfl (fun _ _ => ?_)
        refine T.y (fun w hw => Yl.assign rfl) rfl rfl ?_
        refine T.nil ?_
        refine J.sel (.cons 2 rfl (.cons 3 rfl .nil)) ?_
        refine X.then_ ?_
        refine T.ret ?_
        refine X.retCT Try.results49 ag_31 rfl rfl mM sU (fun w hw => ?_)
        have e0 : (rawB p).err = 0 := by simpa using h75
        rw [if_pos e0] at h81
        obtain ⟨f1, f2⟩ := err_fits e0
        have hBb : IsB (rawB p).body := by rw [hbody]; exact (hB.drop 18).take _
        have heq : (rawB p).enc = p := str_inj (enc_b _ f1 f2 hBb) hB (by simpa using h81)
        obtain ⟨d1, d2⟩ := dec_0 hl ⟨⟨f1, f2⟩, heq.symm⟩
        rw [d1, d2]
        exact ⟨(A66, c66), trivial, rfl, hw.f⟩

end Go.Proofs.Ytfpnodboebpemaa
