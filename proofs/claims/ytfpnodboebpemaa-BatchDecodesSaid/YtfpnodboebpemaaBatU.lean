/- The contract of scarpref11.DecodeBatch; the law BatchDecodes. -/
import Derived.Test.YtfpnodboebpemaaBatT
namespace Go.Proofs.Ytfpnodboebpemaa
open Go.RowKit Go.Proofs.YtfpnodboebpemaaW.PrintWords
set_option linter.unusedVariables false
set_option linter.unusedSimpArgs false
theorem Hold.viewH_first {w : World} {M : List HP} {K : List KP} {e c : Nat} {A : Option Addr} {xs : List Fb} (h : Hold w (viewH e 5 blkE A c xs :: M) K) : ∃ vs : List Value, ((0 < xs.length → vs[0 * 5 + 1]? = some (.int .i64 (xs.getD 0 ⟨0, 0, 0, 0, []⟩).epoch)) ∧ (0 < xs.length → vs[0 * 5 + 2]? = some (.int .i64 (xs.getD 0 ⟨0, 0, 0, 0, []⟩).seq))) ∧ Hold w (rowH e 5 A c xs.length vs :: M) (viewV 5 blkE vs xs :: K) := by
  obtain ⟨vs, hv⟩ := Hold.ex.1 h
  have h1 := Hold.knowH.1 hv
  refine ⟨vs, ?_, h1⟩
  obtain ⟨I, D, g1, g2, g3, g4⟩ := h1
  obtain ⟨g5, g6⟩ := g4 _ List.mem_cons_self
  have : 0 < xs.length → ∃ B k, vs.take 5 = blkC (xs.getD 0 ⟨0, 0, 0, 0, []⟩) B k := fun hx => by
    have h0 : xs[0]? = some xs[0] := List.getElem?_eq_getElem hx
    obtain ⟨B, k, g7, _⟩ := g6 0 _ h0
    rw [Nat.zero_mul, List.drop_zero] at g7
    exact ⟨B, k, by rw [g7, List.getD_eq_getElem?_getD, h0]; rfl⟩
  refine ⟨fun hx => ?_, fun hx => ?_⟩
  · obtain ⟨B, k, g7⟩ := this hx
    have : (vs.take 5)[1]? = some (.int .i64 (xs.getD 0 ⟨0, 0, 0, 0, []⟩).epoch) := by rw [g7]; rfl
    rw [List.getElem?_take] at this
    simpa using this
  · obtain ⟨B, k, g7⟩ := this hx
    have : (vs.take 5)[2]? = some (.int .i64 (xs.getD 0 ⟨0, 0, 0, 0, []⟩).seq) := by rw [g7]; rfl
    rw [List.getElem?_take] at this
    simpa using this
theorem Hold.viewH_shut {α : Type} {w : World} {M : List HP} {K : List KP} {e sz c : Nat} {el : α → List Value → KP} {A : Option Addr} {xs : List α} {vs : List Value} (h : Hold w (rowH e sz A c xs.length vs :: M) K) (hm : viewV sz el vs xs ∈ K) : Hold w (viewH e sz el A c xs :: M) K :=
  Hold.ex.2 ⟨vs, Hold.knowH.2 (h.know (fun k hk => (List.mem_cons.1 hk).elim (fun e => e ▸ hm) id))⟩
attribute [local irreducible] pt rowH slK bytesK intsK rowsK rowsH cellK rowsV oldK star exH pureH knowH starL emp devH zoneH zonesH zrest cellsK viewV viewK viewH putE txE batE blkE

set_option maxHeartbeats 1000000 in
theorem decode6b_ct {M : List HP} {K : List KP} {A : Option Addr} {c : Nat} {l : List (List Int)} (hl : rowsK A c l ∈ K) (hn : l.length ≤ 10000) : Fn 70 [.slice A l.length c] M K (fun _ : Option Addr × Nat => True) (fun r => .tuple [.agg [.int .i64 (refD l l []).1.1.num, .slice r.1 (refD l l []).1.1.txs.length r.2].toArray, .int .i64 (refD l l []).1.2.1, .int .i64 (refD l l []).1.2.2, .int .i64 (refD l l []).2].toArray) (fun _ => M) (fun r => viewK 2 txE r.1 r.2 (refD l l []).1.1.txs :: K) := by
 refine Fn.of (n := 120) Try.func70 rfl Try.ntmps70 rfl ?_
 refine T.seq ?_
 -- region 0 (txn.go:575)
 refine T.region ?_
 refine T.o (OpW.alloc zr_55) rfl rfl (fun b2 _ => ?_)
 refine T.y (fun w hw => Yl.assign rfl) rfl rfl ?_
 refine T.y (fun w hw => Yl.assign rfl) rfl rfl ?_
 refine T.y (fun w hw => Yl.assign rfl) rfl rfl ?_
 refine T.nil ?_
 refine J.sel (.cons 0 rfl (.cons 2 rfl .nil)) ?_
 refine X.then_ ?_
 refine T.seq ?_
 -- region 1 (txn.go:576)
 refine T.region ?_
 refine T.y (fun w hw => Yl.assign rfl) rfl rfl ?_
 refine T.nil ?_
 refine X.then_ ?_
 refine T.seq ?_
 refine T.seq ?_
 refine J.ent (fun w hw => hw.view_nil 31 5 blkE) ?_
 -- region 2 (txn.go:577)
 refine T.region ?_
 refine T.y (fun w hw => Yl.assign rfl) rfl rfl ?_
 refine T.nil ?_
 refine X.then_ ?_
 refine T.block ?_
 refine T.loop (α := Nat × Option Addr × Nat × List Fb) (fun u => u.1 ≤ l.length ∧ u.2.2.2.length = u.1 ∧ refD l l [] = refD l (l.drop u.1) u.2.2.2) (fun u => [(6, .slice u.2.1 u.2.2.2.length u.2.2.1), (7, .int .i64 (u.1 : Int)), (0, .slice A l.length c), (2, ptr b2 0)]) (fun u => viewH 31 5 blkE u.2.1 u.2.2.1 u.2.2.2 :: pt b2 55 [.int .i64 0, .slice none 0 0] :: M) (fun u => K) (fun u => l.length - u.1) (0, none, 0, []) ⟨Nat.zero_le _, rfl, rfl⟩ (.cons 6 rfl (.num 7 rfl rfl (.cons 0 rfl (.cons 2 rfl .nil)))) (fun w hw => hw.f) ?_
 intro ⟨i, Ad, cd, data⟩ ⟨hi, hdl, hgo⟩ Zk hzo
 dsimp only at hi hdl hgo hzo ⊢
 refine T.seq ?_
 refine T.seq ?_
 -- region 3 (txn.go:577)
 refine T.region ?_
 refine T.y (fun w hw => Yl.move rfl) rfl rfl ?_
 refine T.y (fun w hw => Yl.move rfl) rfl rfl ?_
 refine T.y (fun w hw => Yl.len Try.underlying62 rfl) rfl rfl ?_
 refine T.y (fun w hw => Yl.lss rfl rfl) rfl rfl ?_
 refine T.nil ?_
 refine J.sel (.cons 0 rfl (.cons 2 rfl (.cons 6 rfl (.cons 7 rfl (.cons 18 rfl .nil))))) ?_
 refine X.then_ ?_
 refine T.condD rfl (fun h18 => ?_) (fun h18 => ?_)
 ·skip
  refine T.skip ?_
  refine X.then_ ?_
  refine T.seq ?_
  refine T.block ?_
  refine T.seq ?_
  obtain ⟨p, hp⟩ : ∃ p, l[i]? = some p := ⟨_, List.getElem?_eq_getElem (by omega)⟩
  refine J.open_ (fun w hw => hw.rows_at (A := A) (c := c) (rows := l) mM hp) ?_
  rintro ⟨Ap, cp⟩ -
  dsimp only
  -- region 5 (txn.go:578)
  refine T.region ?_
  refine T.y (fun w hw => Yl.move rfl) rfl rfl ?_
  refine T.y (fun w hw => Yl.move rfl) rfl rfl ?_
  refine T.y (fun w hw => (by first | exact Yl.iaK (i := i) hw mM Try.underlying62 isz_23 rfl rfl rfl (by omega) | exact Yl.ia1 (i := i) sC Try.underlying62 isz_23 rfl rfl rfl (by omega))) rfl rfl ?_
  refine T.y (fun w hw => (by first | exact Yl.ldC hw na_23 rfl mM | exact Yl.ldR sC na_23 rfl (by assumption) | exact Yl.ldV hw na_23 rfl mM rfl)) rfl rfl ?_
  refine T.o (OpW.call en_49 rfl (decode6_ct (p := p) mM)) rfl rfl (fun ⟨A8, c8⟩ _ => ?_)
  dsimp only
  refine T.y (fun w hw => Yl.move rfl) rfl rfl ?_
  refine T.y (fun w hw => Yl.extract rfl rfl) rfl rfl ?_
  refine T.y (fun w hw => Yl.extract rfl rfl) rfl rfl ?_
  refine T.o (OpW.alloc zr_31) rfl rfl (fun b8 _ => ?_)
  refine T.o0 (OpW.stA sz_31 rfl rfl rfl rfl sW uL) rfl (fun _ _ => ?_)
  refine T.y (fun w hw => Yl.assign rfl) rfl rfl ?_
  refine T.nil ?_
  refine J.open_ (fun w hw => Hold.viewH_first (e := 31) (A := Ad) (c := cd) (xs := data) (hw.pick pK)) ?_
  rintro vs ⟨hv1, hv2⟩
  refine J.sel (.cons 0 rfl (.cons 2 rfl (.cons 6 rfl (.cons 7 rfl (.cons 8 rfl (.cons 9 rfl .nil)))))) ?_
  refine X.then_ ?_
  refine T.cut (α := Unit) (φ := fun u => ¬ refOdd data p) (Ec := fun u => [(0, .slice A l.length c), (2, ptr b2 0), (6, .slice Ad data.length cd), (7, .int .i64 (i : Int)), (8, ptr b8 0)]) (Mc := fun u => rowH 31 5 Ad cd data.length vs :: pt b8 31 [.int .i64 (decB p).kind, .int .i64 (decB p).epoch, .int .i64 (decB p).seq, .int .i64 (decB p).lba, .slice A8 (decB p).body.length c8] :: pt b2 55 [.int .i64 0, .slice none 0 0] :: M) (Kc := fun u => viewV 5 blkE vs data :: bytesK A8 c8 (decB p).body :: K) ?_ ?_
  ·intro Zk hzc
   refine T.seq ?_
   -- region 6 (txn.go:579)
   refine Dr.start0 [] ?_
   refine Dr.take 0 rfl (by kernel_rfl) bL sS (fun w hs => have hw := hs.h; Yl.move rfl) rfl rfl ?_
   refine Dr.take 1 rfl (by kernel_rfl) bL sS (fun w hs => have hw := hs.h; Yl.neq rfl rfl) rfl rfl ?_
   refine Dr.take 2 rfl (by kernel_rfl) bL sS (fun w hs => have hw := hs.h; Yl.move rfl) rfl rfl ?_
   refine T.splitD 31 rfl (fun h31 => ?_) (fun h31 => ?_)
   ·skip
    refine Dr.off 3 rfl (by kernel_rfl) bL sS rfl rfl ?_
    refine Dr.off 4 rfl (by kernel_rfl) bL sS rfl rfl ?_
    refine Dr.off 5 rfl (by kernel_rfl) bL sS rfl rfl ?_
    refine Dr.off 6 rfl (by kernel_rfl) bL sS rfl rfl ?_
    refine Dr.off 7 rfl (by kernel_rfl) bL sS rfl rfl ?_
    refine Dr.off 8 rfl (by kernel_rfl) bL sS rfl rfl ?_
    refine Dr.off 9 rfl (by kernel_rfl) bL sS rfl rfl ?_
    refine Dr.off 10 rfl (by kernel_rfl) bL sS rfl rfl ?_
    refine Dr.take 11 rfl (by kernel_rfl) bL sS (fun w hs => have hw := hs.h; Yl.pickT rfl rfl) rfl rfl ?_
    refine Dr.take 12 rfl (by kernel_rfl) bL sS (fun w hs => have hw := hs.h; Yl.move rfl) rfl rfl ?_
    refine Dr.off 13 rfl (by kernel_rfl) bL sS rfl rfl ?_
    refine Dr.off 14 rfl (by kernel_rfl) bL sS rfl rfl ?_
    refine Dr.off 15 rfl (by kernel_rfl) bL sS rfl rfl ?_
    refine Dr.off 16 rfl (by kernel_rfl) bL sS rfl rfl ?_
    refine Dr.off 17 rfl (by kernel_rfl) bL sS rfl rfl ?_
    refine Dr.off 18 rfl (by kernel_rfl) bL sS rfl rfl ?_
    refine Dr.off 19 rfl (by kernel_rfl) bL sS rfl rfl ?_
    refine Dr.off 20 rfl (by kernel_rfl) bL sS rfl rfl ?_
    refine Dr.off 21 rfl (by kernel_rfl) bL sS rfl rfl ?_
    refine Dr.off 22 rfl (by kernel_rfl) bL sS rfl rfl ?_
    refine Dr.off 23 rfl (by kernel_rfl) bL sS rfl rfl ?_
    refine Dr.off 24 rfl (by kernel_rfl) bL sS rfl rfl ?_
    refine Dr.off 25 rfl (by kernel_rfl) bL sS rfl rfl ?_
    refine Dr.off 26 rfl (by kernel_rfl) bL sS rfl rfl ?_
    refine Dr.off 27 rfl (by kernel_rfl) bL sS rfl rfl ?_
    refine Dr.off 28 rfl (by kernel_rfl) bL sS rfl rfl ?_
    refine Dr.off 29 rfl (by kernel_rfl) bL sS rfl rfl ?_
    refine Dr.off 30 rfl (by kernel_rfl) bL sS rfl rfl ?_
    refine Dr.off 31 rfl (by kernel_rfl) bL sS rfl rfl ?_
    refine Dr.off 32 rfl (by kernel_rfl) bL sS rfl rfl ?_
    refine Dr.take 33 rfl (by kernel_rfl) bL sS (fun w hs => have hw := hs.h; Yl.pickT rfl rfl) rfl rfl ?_
    refine Dr.done (by kernel_rfl) ?_
    refine J.sel (.cons 0 rfl (.cons 2 rfl (.cons 6 rfl (.cons 7 rfl (.cons 8 rfl (.cons 62 rfl .nil)))))) ?_
    refine X.then_ ?_
    refine T.condT rfl ?_
    refine T.seq ?_
    -- region 7 (txn.go:580)
    refine T.region ?_
    refine T.y (fun w hw => Yl.build rfl (bld_55_z _)) rfl rfl ?_
    refine T.o0 (OpW.stA sz_55 rfl rfl rfl rfl sW uL) rfl (fun _ _ => ?_)
    refine T.y (fun w hw => Yl.assign rfl) rfl rfl ?_
    refine T.y (fun w hw => Yl.assign rfl) rfl rfl ?_
    refine T.y (fun w hw => Yl.assign rfl) rfl rfl ?_
    refine T.nil ?_
    refine J.sel (.cons 2 rfl (.cons 3 rfl (.cons 4 rfl (.cons 5 rfl .nil)))) ?_
    refine X.then_ ?_
    refine T.ret ?_
    refine X.ret_then ?_
    refine X.ret_blk ?_
    refine X.ret_then ?_
    refine X.ret_then ?_
    refine X.ret_blk ?_
    refine X.ret_then ?_
    refine X.retCTTT Try.results70 ag_55 rfl rfl rfl rfl mM sU (fun w hw => ?_)
    have hod : refOdd data p := by unfold refOdd; omega
    rw [hgo, drop_cons hp, refD_odd hod]
    exact ⟨(none, 0), trivial, rfl, by have hw := hw.viewK_nil 2 txE; exact hw.f⟩
   ·skip
    refine Dr.take 3 rfl (by kernel_rfl) bL sS (fun w hs => have hw := hs.h; Yl.fa fa_31_0 rfl) rfl rfl ?_
    refine Dr.take 4 rfl (by kernel_rfl) bL sS (fun w hs => have hw := hs.h; Yl.ldP hw na_3 rfl mM rfl) rfl rfl ?_
    refine Dr.take 5 rfl (by kernel_rfl) bL sS (fun w hs => have hw := hs.h; Yl.neq rfl rfl) rfl rfl ?_
    refine Dr.take 6 rfl (by kernel_rfl) bL sS (fun w hs => have hw := hs.h; Yl.move rfl) rfl rfl ?_
    refine T.splitD 35 rfl (fun h35 => ?_) (fun h35 => ?_)
    ·skip
     refine Dr.take 7 rfl (by kernel_rfl) bL sS (fun w hs => have hw := hs.h; Yl.fa fa_31_0 rfl) rfl rfl ?_
     refine Dr.take 8 rfl (by kernel_rfl) bL sS (fun w hs => have hw := hs.h; Yl.ldP hw na_3 rfl mM rfl) rfl rfl ?_
     refine Dr.take 9 rfl (by kernel_rfl) bL sS (fun w hs => have hw := hs.h; Yl.neq rfl rfl) rfl rfl ?_
     refine Dr.take 10 rfl (by kernel_rfl) bL sS (fun w hs => have hw := hs.h; Yl.pickT rfl rfl) rfl rfl ?_
     refine Dr.take 11 rfl (by kernel_rfl) bL sS (fun w hs => have hw := hs.h; Yl.pickF rfl rfl) rfl rfl ?_
     refine Dr.take 12 rfl (by kernel_rfl) bL sS (fun w hs => have hw := hs.h; Yl.move rfl) rfl rfl ?_
     refine T.splitD 41 rfl (fun h41 => ?_) (fun h41 => ?_)
     ·skip
      refine Dr.off 13 rfl (by kernel_rfl) bL sS rfl rfl ?_
      refine Dr.off 14 rfl (by kernel_rfl) bL sS rfl rfl ?_
      refine Dr.off 15 rfl (by kernel_rfl) bL sS rfl rfl ?_
      refine Dr.off 16 rfl (by kernel_rfl) bL sS rfl rfl ?_
      refine Dr.off 17 rfl (by kernel_rfl) bL sS rfl rfl ?_
      refine Dr.off 18 rfl (by kernel_rfl) bL sS rfl rfl ?_
      refine Dr.off 19 rfl (by kernel_rfl) bL sS rfl rfl ?_
      refine Dr.off 20 rfl (by kernel_rfl) bL sS rfl rfl ?_
      refine Dr.off 21 rfl (by kernel_rfl) bL sS rfl rfl ?_
      refine Dr.off 22 rfl (by kernel_rfl) bL sS rfl rfl ?_
      refine Dr.off 23 rfl (by kernel_rfl) bL sS rfl rfl ?_
      refine Dr.off 24 rfl (by kernel_rfl) bL sS rfl rfl ?_
      refine Dr.off 25 rfl (by kernel_rfl) bL sS rfl rfl ?_
      refine Dr.off 26 rfl (by kernel_rfl) bL sS rfl rfl ?_
      refine Dr.off 27 rfl (by kernel_rfl) bL sS rfl rfl ?_
      refine Dr.off 28 rfl (by kernel_rfl) bL sS rfl rfl ?_
      refine Dr.off 29 rfl (by kernel_rfl) bL sS rfl rfl ?_
      refine Dr.off 30 rfl (by kernel_rfl) bL sS rfl rfl ?_
      refine Dr.off 31 rfl (by kernel_rfl) bL sS rfl rfl ?_
      refine Dr.off 32 rfl (by kernel_rfl) bL sS rfl rfl ?_
      refine Dr.take 33 rfl (by kernel_rfl) bL sS (fun w hs => have hw := hs.h; Yl.pickT rfl rfl) rfl rfl ?_
      refine Dr.done (by kernel_rfl) ?_
      refine J.sel (.cons 0 rfl (.cons 2 rfl (.cons 6 rfl (.cons 7 rfl (.cons 8 rfl (.cons 62 rfl .nil)))))) ?_
      refine X.then_ ?_
      refine T.condT rfl ?_
      refine T.seq ?_
      -- region 7 (txn.go:580)
      refine T.region ?_
      refine T.y (fun w hw => Yl.build rfl (bld_55_z _)) rfl rfl ?_
      refine T.o0 (OpW.stA sz_55 rfl rfl rfl rfl sW uL) rfl (fun _ _ => ?_)
      refine T.y (fun w hw => Yl.assign rfl) rfl rfl ?_
      refine T.y (fun w hw => Yl.assign rfl) rfl rfl ?_
      refine T.y (fun w hw => Yl.assign rfl) rfl rfl ?_
      refine T.nil ?_
      refine J.sel (.cons 2 rfl (.cons 3 rfl (.cons 4 rfl (.cons 5 rfl .nil)))) ?_
      refine X.then_ ?_
      refine T.ret ?_
      refine X.ret_then ?_
      refine X.ret_blk ?_
      refine X.ret_then ?_
      refine X.ret_then ?_
      refine X.ret_blk ?_
      refine X.ret_then ?_
      refine X.retCTTT Try.results70 ag_55 rfl rfl rfl rfl mM sU (fun w hw => ?_)
      have hod : refOdd data p := by unfold refOdd; omega
      rw [hgo, drop_cons hp, refD_odd hod]
      exact ⟨(none, 0), trivial, rfl, by have hw := hw.viewK_nil 2 txE; exact hw.f⟩
     ·skip
      refine Dr.take 13 rfl (by kernel_rfl) bL sS (fun w hs => have hw := hs.h; Yl.move rfl) rfl rfl ?_
      refine Dr.take 14 rfl (by kernel_rfl) bL sS (fun w hs => have hw := hs.h; Yl.gtr rfl rfl) rfl rfl ?_
      refine Dr.take 15 rfl (by kernel_rfl) bL sS (fun w hs => have hw := hs.h; Yl.move rfl) rfl rfl ?_
      refine T.splitD 44 rfl (fun h44 => ?_) (fun h44 => ?_)
      ·skip
       refine Dr.take 16 rfl (by kernel_rfl) bL sS (fun w hs => have hw := hs.h; Yl.fa fa_31_1 rfl) rfl rfl ?_
       refine Dr.take 17 rfl (by kernel_rfl) bL sS (fun w hs => have hw := hs.h; Yl.ldP hw na_3 rfl mM rfl) rfl rfl ?_
       refine Dr.take 18 rfl (by kernel_rfl) bL sS (fun w hs => have hw := hs.h; Yl.move rfl) rfl rfl ?_
       refine Dr.take 19 rfl (by kernel_rfl) bL sS (fun w hs => have hw := hs.h; (by first | exact Yl.iaV (i := 0) hw mM Try.underlying167 isz_31 rfl rfl rfl (by omega) | exact Yl.ia (i := 0) Try.underlying167 isz_31 rfl rfl rfl (by omega) (hw.row (e := 31) mM))) rfl rfl ?_
       refine Dr.take 20 rfl (by kernel_rfl) bL sS (fun w hs => have hw := hs.h; Yl.fae fa_31_1 rfl) rfl rfl ?_
       refine Dr.take 21 rfl (by kernel_rfl) bL sS (fun w hs => have hw := hs.h; Yl.ldR (hw.row (e := 31) mM) na_3 rfl (hv1 (by omega))) rfl rfl ?_
       refine Dr.take 22 rfl (by kernel_rfl) bL sS (fun w hs => have hw := hs.h; Yl.neq rfl rfl) rfl rfl ?_
       refine Dr.take 23 rfl (by kernel_rfl) bL sS (fun w hs => have hw := hs.h; Yl.move rfl) rfl rfl ?_
       refine T.splitD 52 rfl (fun h52 => ?_) (fun h52 => ?_)
       ·skip
        refine Dr.off 24 rfl (by kernel_rfl) bL sS rfl rfl ?_
        refine Dr.off 25 rfl (by kernel_rfl) bL sS rfl rfl ?_
        refine Dr.off 26 rfl (by kernel_rfl) bL sS rfl rfl ?_
        refine Dr.off 27 rfl (by kernel_rfl) bL sS rfl rfl ?_
        refine Dr.off 28 rfl (by kernel_rfl) bL sS rfl rfl ?_
        refine Dr.off 29 rfl (by kernel_rfl) bL sS rfl rfl ?_
        refine Dr.off 30 rfl (by kernel_rfl) bL sS rfl rfl ?_
        refine Dr.take 31 rfl (by kernel_rfl) bL sS (fun w hs => have hw := hs.h; Yl.pickT rfl rfl) rfl rfl ?_
        refine Dr.take 32 rfl (by kernel_rfl) bL sS (fun w hs => have hw := hs.h; Yl.pickT rfl rfl) rfl rfl ?_
        refine Dr.take 33 rfl (by kernel_rfl) bL sS (fun w hs => have hw := hs.h; Yl.pickF rfl rfl) rfl rfl ?_
        refine Dr.done (by kernel_rfl) ?_
        refine J.sel (.cons 0 rfl (.cons 2 rfl (.cons 6 rfl (.cons 7 rfl (.cons 8 rfl (.cons 62 rfl .nil)))))) ?_
        refine X.then_ ?_
        refine T.condT rfl ?_
        refine T.seq ?_
        -- region 7 (txn.go:580)
        refine T.region ?_
        refine T.y (fun w hw => Yl.build rfl (bld_55_z _)) rfl rfl ?_
        refine T.o0 (OpW.stA sz_55 rfl rfl rfl rfl sW uL) rfl (fun _ _ => ?_)
        refine T.y (fun w hw => Yl.assign rfl) rfl rfl ?_
        refine T.y (fun w hw => Yl.assign rfl) rfl rfl ?_
        refine T.y (fun w hw => Yl.assign rfl) rfl rfl ?_
        refine T.nil ?_
        refine J.sel (.cons 2 rfl (.cons 3 rfl (.cons 4 rfl (.cons 5 rfl .nil)))) ?_
        refine X.then_ ?_
        refine T.ret ?_
        refine X.ret_then ?_
        refine X.ret_blk ?_
        refine X.ret_then ?_
        refine X.ret_then ?_
        refine X.ret_blk ?_
        refine X.ret_then ?_
        refine X.retCTTT Try.results70 ag_55 rfl rfl rfl rfl mM sU (fun w hw => ?_)
        have hod : refOdd data p := by unfold refOdd; omega
        rw [hgo, drop_cons hp, refD_odd hod]
        exact ⟨(none, 0), trivial, rfl, by have hw := hw.viewK_nil 2 txE; exact hw.f⟩
       ·skip
        refine Dr.take 24 rfl (by kernel_rfl) bL sS (fun w hs => have hw := hs.h; Yl.fa fa_31_2 rfl) rfl rfl ?_
        refine Dr.take 25 rfl (by kernel_rfl) bL sS (fun w hs => have hw := hs.h; Yl.ldP hw na_3 rfl mM rfl) rfl rfl ?_
        refine Dr.take 26 rfl (by kernel_rfl) bL sS (fun w hs => have hw := hs.h; Yl.move rfl) rfl rfl ?_
        refine Dr.take 27 rfl (by kernel_rfl) bL sS (fun w hs => have hw := hs.h; (by first | exact Yl.iaV (i := 0) hw mM Try.underlying167 isz_31 rfl rfl rfl (by omega) | exact Yl.ia (i := 0) Try.underlying167 isz_31 rfl rfl rfl (by omega) (hw.row (e := 31) mM))) rfl rfl ?_
        refine Dr.take 28 rfl (by kernel_rfl) bL sS (fun w hs => have hw := hs.h; Yl.fae fa_31_2 rfl) rfl rfl ?_
        refine Dr.take 29 rfl (by kernel_rfl) bL sS (fun w hs => have hw := hs.h; Yl.ldR (hw.row (e := 31) mM) na_3 rfl (hv2 (by omega))) rfl rfl ?_
        refine Dr.take 30 rfl (by kernel_rfl) bL sS (fun w hs => have hw := hs.h; Yl.neq rfl rfl) rfl rfl ?_
        refine Dr.take 31 rfl (by kernel_rfl) bL sS (fun w hs => have hw := hs.h; Yl.pickF rfl rfl) rfl rfl ?_
        refine Dr.take 32 rfl (by kernel_rfl) bL sS (fun w hs => have hw := hs.h; Yl.pickT rfl rfl) rfl rfl ?_
        refine Dr.take 33 rfl (by kernel_rfl) bL sS (fun w hs => have hw := hs.h; Yl.pickF rfl rfl) rfl rfl ?_
        refine Dr.done (by kernel_rfl) ?_
        refine J.sel (.cons 0 rfl (.cons 2 rfl (.cons 6 rfl (.cons 7 rfl (.cons 8 rfl (.cons 62 rfl .nil)))))) ?_
        refine X.then_ ?_
        refine T.condD rfl (fun h62 => ?_) (fun h62 => ?_)
        ·skip
         refine T.seq ?_
         -- region 7 (txn.go:580)
         refine T.region ?_
         refine T.y (fun w hw => Yl.build rfl (bld_55_z _)) rfl rfl ?_
         refine T.o0 (OpW.stA sz_55 rfl rfl rfl rfl sW uL) rfl (fun _ _ => ?_)
         refine T.y (fun w hw => Yl.assign rfl) rfl rfl ?_
         refine T.y (fun w hw => Yl.assign rfl) rfl rfl ?_
         refine T.y (fun w hw => Yl.assign rfl) rfl rfl ?_
         refine T.nil ?_
         refine J.sel (.cons 2 rfl (.cons 3 rfl (.cons 4 rfl (.cons 5 rfl .nil)))) ?_
         refine X.then_ ?_
         refine T.ret ?_
         refine X.ret_then ?_
         refine X.ret_blk ?_
         refine X.ret_then ?_
         refine X.ret_then ?_
         refine X.ret_blk ?_
         refine X.ret_then ?_
         refine X.retCTTT Try.results70 ag_55 rfl rfl rfl rfl mM sU (fun w hw => ?_)
         have hod : refOdd data p := by unfold refOdd; omega
         rw [hgo, drop_cons hp, refD_odd hod]
         exact ⟨(none, 0), trivial, rfl, by have hw := hw.viewK_nil 2 txE; exact hw.f⟩
        ·skip
         refine T.skip ?_
         refine X.go (hzc () (by unfold refOdd; omega)) (.cons 0 rfl (.cons 2 rfl (.cons 6 rfl (.cons 7 rfl (.cons 8 rfl .nil))))) (fun w hw => ?_)
         exact hw.f
      ·skip
       refine Dr.off 16 rfl (by kernel_rfl) bL sS rfl rfl ?_
       refine Dr.off 17 rfl (by kernel_rfl) bL sS rfl rfl ?_
       refine Dr.off 18 rfl (by kernel_rfl) bL sS rfl rfl ?_
       refine Dr.off 19 rfl (by kernel_rfl) bL sS rfl rfl ?_
       refine Dr.off 20 rfl (by kernel_rfl) bL sS rfl rfl ?_
       refine Dr.off 21 rfl (by kernel_rfl) bL sS rfl rfl ?_
       refine Dr.off 22 rfl (by kernel_rfl) bL sS rfl rfl ?_
       refine Dr.off 23 rfl (by kernel_rfl) bL sS rfl rfl ?_
       refine Dr.off 24 rfl (by kernel_rfl) bL sS rfl rfl ?_
       refine Dr.off 25 rfl (by kernel_rfl) bL sS rfl rfl ?_
       refine Dr.off 26 rfl (by kernel_rfl) bL sS rfl rfl ?_
       refine Dr.off 27 rfl (by kernel_rfl) bL sS rfl rfl ?_
       refine Dr.off 28 rfl (by kernel_rfl) bL sS rfl rfl ?_
       refine Dr.off 29 rfl (by kernel_rfl) bL sS rfl rfl ?_
       refine Dr.off 30 rfl (by kernel_rfl) bL sS rfl rfl ?_
       refine Dr.off 31 rfl (by kernel_rfl) bL sS rfl rfl ?_
       refine Dr.take 32 rfl (by kernel_rfl) bL sS (fun w hs => have hw := hs.h; Yl.pickF rfl rfl) rfl rfl ?_
       refine Dr.take 33 rfl (by kernel_rfl) bL sS (fun w hs => have hw := hs.h; Yl.pickF rfl rfl) rfl rfl ?_
       refine Dr.done (by kernel_rfl) ?_
       refine J.sel (.cons 0 rfl (.cons 2 rfl (.cons 6 rfl (.cons 7 rfl (.cons 8 rfl (.cons 62 rfl .nil)))))) ?_
       refine X.then_ ?_
       refine T.condF rfl ?_
       refine T.skip ?_
       refine X.go (hzc () (by unfold refOdd; omega)) (.cons 0 rfl (.cons 2 rfl (.cons 6 rfl (.cons 7 rfl (.cons 8 rfl .nil))))) (fun w hw => ?_)
       exact hw.f
    ·skip
     refine Dr.off 7 rfl (by kernel_rfl) bL sS rfl rfl ?_
     refine Dr.off 8 rfl (by kernel_rfl) bL sS rfl rfl ?_
     refine Dr.off 9 rfl (by kernel_rfl) bL sS rfl rfl ?_
     refine Dr.take 10 rfl (by kernel_rfl) bL sS (fun w hs => have hw := hs.h; Yl.pickF rfl rfl) rfl rfl ?_
     refine Dr.take 11 rfl (by kernel_rfl) bL sS (fun w hs => have hw := hs.h; Yl.pickF rfl rfl) rfl rfl ?_
     refine Dr.take 12 rfl (by kernel_rfl) bL sS (fun w hs => have hw := hs.h; Yl.move rfl) rfl rfl ?_
     refine Dr.take 13 rfl (by kernel_rfl) bL sS (fun w hs => have hw := hs.h; Yl.move rfl) rfl rfl ?_
     refine Dr.take 14 rfl (by kernel_rfl) bL sS (fun w hs => have hw := hs.h; Yl.gtr rfl rfl) rfl rfl ?_
     refine Dr.take 15 rfl (by kernel_rfl) bL sS (fun w hs => have hw := hs.h; Yl.move rfl) rfl rfl ?_
     refine T.splitD 44 rfl (fun h44 => ?_) (fun h44 => ?_)
     ·skip
      refine Dr.take 16 rfl (by kernel_rfl) bL sS (fun w hs => have hw := hs.h; Yl.fa fa_31_1 rfl) rfl rfl ?_
      refine Dr.take 17 rfl (by kernel_rfl) bL sS (fun w hs => have hw := hs.h; Yl.ldP hw na_3 rfl mM rfl) rfl rfl ?_
      refine Dr.take 18 rfl (by kernel_rfl) bL sS (fun w hs => have hw := hs.h; Yl.move rfl) rfl rfl ?_
      refine Dr.take 19 rfl (by kernel_rfl) bL sS (fun w hs => have hw := hs.h; (by first | exact Yl.iaV (i := 0) hw mM Try.underlying167 isz_31 rfl rfl rfl (by omega) | exact Yl.ia (i := 0) Try.underlying167 isz_31 rfl rfl rfl (by omega) (hw.row (e := 31) mM))) rfl rfl ?_
      refine Dr.take 20 rfl (by kernel_rfl) bL sS (fun w hs => have hw := hs.h; Yl.fae fa_31_1 rfl) rfl rfl ?_
      refine Dr.take 21 rfl (by kernel_rfl) bL sS (fun w hs => have hw := hs.h; Yl.ldR (hw.row (e := 31) mM) na_3 rfl (hv1 (by omega))) rfl rfl ?_
      refine Dr.take 22 rfl (by kernel_rfl) bL sS (fun w hs => have hw := hs.h; Yl.neq rfl rfl) rfl rfl ?_
      refine Dr.take 23 rfl (by kernel_rfl) bL sS (fun w hs => have hw := hs.h; Yl.move rfl) rfl rfl ?_
      refine T.splitD 52 rfl (fun h52 => ?_) (fun h52 => ?_)
      ·skip
       refine Dr.off 24 rfl (by kernel_rfl) bL sS rfl rfl ?_
       refine Dr.off 25 rfl (by kernel_rfl) bL sS rfl rfl ?_
       refine Dr.off 26 rfl (by kernel_rfl) bL sS rfl rfl ?_
       refine Dr.off 27 rfl (by kernel_rfl) bL sS rfl rfl ?_
       refine Dr.off 28 rfl (by kernel_rfl) bL sS rfl rfl ?_
       refine Dr.off 29 rfl (by kernel_rfl) bL sS rfl rfl ?_
       refine Dr.off 30 rfl (by kernel_rfl) bL sS rfl rfl ?_
       refine Dr.take 31 rfl (by kernel_rfl) bL sS (fun w hs => have hw := hs.h; Yl.pickT rfl rfl) rfl rfl ?_
       refine Dr.take 32 rfl (by kernel_rfl) bL sS (fun w hs => have hw := hs.h; Yl.pickT rfl rfl) rfl rfl ?_
       refine Dr.take 33 rfl (by kernel_rfl) bL sS (fun w hs => have hw := hs.h; Yl.pickF rfl rfl) rfl rfl ?_
       refine Dr.done (by kernel_rfl) ?_
       refine J.sel (.cons 0 rfl (.cons 2 rfl (.cons 6 rfl (.cons 7 rfl (.cons 8 rfl (.cons 62 rfl .nil)))))) ?_
       refine X.then_ ?_
       refine T.condT rfl ?_
       refine T.seq ?_
       -- region 7 (txn.go:580)
       refine T.region ?_
       refine T.y (fun w hw => Yl.build rfl (bld_55_z _)) rfl rfl ?_
       refine T.o0 (OpW.stA sz_55 rfl rfl rfl rfl sW uL) rfl (fun _ _ => ?_)
       refine T.y (fun w hw => Yl.assign rfl) rfl rfl ?_
       refine T.y (fun w hw => Yl.assign rfl) rfl rfl ?_
       refine T.y (fun w hw => Yl.assign rfl) rfl rfl ?_
       refine T.nil ?_
       refine J.sel (.cons 2 rfl (.cons 3 rfl (.cons 4 rfl (.cons 5 rfl .nil)))) ?_
       refine X.then_ ?_
       refine T.ret ?_
       refine X.ret_then ?_
       refine X.ret_blk ?_
       refine X.ret_then ?_
       refine X.ret_then ?_
       refine X.ret_blk ?_
       refine X.ret_then ?_
       refine X.retCTTT Try.results70 ag_55 rfl rfl rfl rfl mM sU (fun w hw => ?_)
       have hod : refOdd data p := by unfold refOdd; omega
       rw [hgo, drop_cons hp, refD_odd hod]
       exact ⟨(none, 0), trivial, rfl, by have hw := hw.viewK_nil 2 txE; exact hw.f⟩
      ·skip
       refine Dr.take 24 rfl (by kernel_rfl) bL sS (fun w hs => have hw := hs.h; Yl.fa fa_31_2 rfl) rfl rfl ?_
       refine Dr.take 25 rfl (by kernel_rfl) bL sS (fun w hs => have hw := hs.h; Yl.ldP hw na_3 rfl mM rfl) rfl rfl ?_
       refine Dr.take 26 rfl (by kernel_rfl) bL sS (fun w hs => have hw := hs.h; Yl.move rfl) rfl rfl ?_
       refine Dr.take 27 rfl (by kernel_rfl) bL sS (fun w hs => have hw := hs.h; (by first | exact Yl.iaV (i := 0) hw mM Try.underlying167 isz_31 rfl rfl rfl (by omega) | exact Yl.ia (i := 0) Try.underlying167 isz_31 rfl rfl rfl (by omega) (hw.row (e := 31) mM))) rfl rfl ?_
       refine Dr.take 28 rfl (by kernel_rfl) bL sS (fun w hs => have hw := hs.h; Yl.fae fa_31_2 rfl) rfl rfl ?_
       refine Dr.take 29 rfl (by kernel_rfl) bL sS (fun w hs => have hw := hs.h; Yl.ldR (hw.row (e := 31) mM) na_3 rfl (hv2 (by omega))) rfl rfl ?_
       refine Dr.take 30 rfl (by kernel_rfl) bL sS (fun w hs => have hw := hs.h; Yl.neq rfl rfl) rfl rfl ?_
       refine Dr.take 31 rfl (by kernel_rfl) bL sS (fun w hs => have hw := hs.h; Yl.pickF rfl rfl) rfl rfl ?_
       refine Dr.take 32 rfl (by kernel_rfl) bL sS (fun w hs => have hw := hs.h; Yl.pickT rfl rfl) rfl rfl ?_
       refine Dr.take 33 rfl (by kernel_rfl) bL sS (fun w hs => have hw := hs.h; Yl.pickF rfl rfl) rfl rfl ?_
       refine Dr.done (by kernel_rfl) ?_
       refine J.sel (.cons 0 rfl (.cons 2 rfl (.cons 6 rfl (.cons 7 rfl (.cons 8 rfl (.cons 62 rfl .nil)))))) ?_
       refine X.then_ ?_
       refine T.condD rfl (fun h62 => ?_) (fun h62 => ?_)
       ·skip
        refine T.seq ?_
        -- region 7 (txn.go:580)
        refine T.region ?_
        refine T.y (fun w hw => Yl.build rfl (bld_55_z _)) rfl rfl ?_
        refine T.o0 (OpW.stA sz_55 rfl rfl rfl rfl sW uL) rfl (fun _ _ => ?_)
        refine T.y (fun w hw => Yl.assign rfl) rfl rfl ?_
        refine T.y (fun w hw => Yl.assign rfl) rfl rfl ?_
        refine T.y (fun w hw => Yl.assign rfl) rfl rfl ?_
        refine T.nil ?_
        refine J.sel (.cons 2 rfl (.cons 3 rfl (.cons 4 rfl (.cons 5 rfl .nil)))) ?_
        refine X.then_ ?_
        refine T.ret ?_
        refine X.ret_then ?_
        refine X.ret_blk ?_
        refine X.ret_then ?_
        refine X.ret_then ?_
        refine X.ret_blk ?_
        refine X.ret_then ?_
        refine X.retCTTT Try.results70 ag_55 rfl rfl rfl rfl mM sU (fun w hw => ?_)
        have hod : refOdd data p := by unfold refOdd; omega
        rw [hgo, drop_cons hp, refD_odd hod]
        exact ⟨(none, 0), trivial, rfl, by have hw := hw.viewK_nil 2 txE; exact hw.f⟩
       ·skip
        refine T.skip ?_
        refine X.go (hzc () (by unfold refOdd; omega)) (.cons 0 rfl (.cons 2 rfl (.cons 6 rfl (.cons 7 rfl (.cons 8 rfl .nil))))) (fun w hw => ?_)
        exact hw.f
     ·skip
      refine Dr.off 16 rfl (by kernel_rfl) bL sS rfl rfl ?_
      refine Dr.off 17 rfl (by kernel_rfl) bL sS rfl rfl ?_
      refine Dr.off 18 rfl (by kernel_rfl) bL sS rfl rfl ?_
      refine Dr.off 19 rfl (by kernel_rfl) bL sS rfl rfl ?_
      refine Dr.off 20 rfl (by kernel_rfl) bL sS rfl rfl ?_
      refine Dr.off 21 rfl (by kernel_rfl) bL sS rfl rfl ?_
      refine Dr.off 22 rfl (by kernel_rfl) bL sS rfl rfl ?_
      refine Dr.off 23 rfl (by kernel_rfl) bL sS rfl rfl ?_
      refine Dr.off 24 rfl (by kernel_rfl) bL sS rfl rfl ?_
      refine Dr.off 25 rfl (by kernel_rfl) bL sS rfl rfl ?_
      refine Dr.off 26 rfl (by kernel_rfl) bL sS rfl rfl ?_
      refine Dr.off 27 rfl (by kernel_rfl) bL sS rfl rfl ?_
      refine Dr.off 28 rfl (by kernel_rfl) bL sS rfl rfl ?_
      refine Dr.off 29 rfl (by kernel_rfl) bL sS rfl rfl ?_
      refine Dr.off 30 rfl (by kernel_rfl) bL sS rfl rfl ?_
      refine Dr.off 31 rfl (by kernel_rfl) bL sS rfl rfl ?_
      refine Dr.take 32 rfl (by kernel_rfl) bL sS (fun w hs => have hw := hs.h; Yl.pickF rfl rfl) rfl rfl ?_
      refine Dr.take 33 rfl (by kernel_rfl) bL sS (fun w hs => have hw := hs.h; Yl.pickF rfl rfl) rfl rfl ?_
      refine Dr.done (by kernel_rfl) ?_
      refine J.sel (.cons 0 rfl (.cons 2 rfl (.cons 6 rfl (.cons 7 rfl (.cons 8 rfl (.cons 62 rfl .nil)))))) ?_
      refine X.then_ ?_
      refine T.condF rfl ?_
      refine T.skip ?_
      refine X.go (hzc () (by unfold refOdd; omega)) (.cons 0 rfl (.cons 2 rfl (.cons 6 rfl (.cons 7 rfl (.cons 8 rfl .nil))))) (fun w hw => ?_)
      exact hw.f
  ·intro _ hodd
   have hk12 : decErr p = 0 ∧ ((decB p).kind = 1 ∨ (decB p).kind = 2) := by unfold refOdd at hodd; omega
   refine J.ent (fun w hw => Hold.viewH_shut (e := 31) (sz := 5) (el := blkE) (A := Ad) (c := cd) (xs := data) (vs := vs) (hw.pick pK) mM) ?_
   refine T.seq ?_
   refine T.seq ?_
   -- region 8 (txn.go:582)
   refine T.region ?_
   refine T.y (fun w hw => Yl.fa fa_31_0 rfl) rfl rfl ?_
   refine T.y (fun w hw => Yl.ldP hw na_3 rfl mM rfl) rfl rfl ?_
   refine T.y (fun w hw => Yl.eql rfl rfl) rfl rfl ?_
   refine T.nil ?_
   refine J.sel (.cons 0 rfl (.cons 2 rfl (.cons 6 rfl (.cons 7 rfl (.cons 8 rfl (.cons 66 rfl .nil)))))) ?_
   refine X.then_ ?_
   refine T.condD rfl (fun h66 => ?_) (fun h66 => ?_)
   ·skip
    refine T.seq ?_
    -- region 9 (txn.go:583)
    refine T.region ?_
    refine T.y (fun w hw => Yl.move rfl) rfl rfl ?_
    refine T.y (fun w hw => Yl.ldaP hw ag_31 rfl mM sU) rfl rfl ?_
    refine T.o (OpW.bsl (sz := 5) rfl bsl_167_1 rfl rfl) rfl rfl (fun b69 _ => ?_)
    refine J.ent (fun w hw => hw.blkE' (A := A8) (c := c8) (b := decB p) mM rfl) ?_
    refine J.ent (fun w hw => Hold.view_lit (e := 31) (sz := 5) (el := blkE) (x := decB p) (vs := [.int .i64 (decB p).kind, .int .i64 (decB p).epoch, .int .i64 (decB p).seq, .int .i64 (decB p).lba, .slice A8 (decB p).body.length c8]) (A := some ⟨b69, 0, none⟩) (c := 1) (hw.pick pK) rfl mM) ?_
    refine T.o (OpW.appV (el := blkE) (ys := [decB p]) Try.underlying167 inf_31 rfl rfl rfl rfl mM blkE_one pK (by constructor <;> simp <;> omega)) rfl rfl (fun ⟨A70, c70⟩ _ => ?_)
    dsimp only
    refine T.y (fun w hw => Yl.assign rfl) rfl rfl ?_
    refine T.nil ?_
    refine J.sel (.cons 0 rfl (.cons 2 rfl (.cons 6 rfl (.cons 7 rfl .nil)))) ?_
    refine X.then_ ?_
    refine T.exit ?_
    refine X.exit_then ?_
    refine X.exit_blk ?_
    refine X.then_ ?_
    -- region 4 (txn.go:577)
    refine T.region ?_
    refine T.y (fun w hw => Yl.move rfl) rfl rfl ?_
    refine T.y (fun w hw => Yl.add rfl rfl (by omega)) rfl rfl ?_
    refine T.y (fun w hw => Yl.assign rfl) rfl rfl ?_
    refine T.nil ?_
    refine J.sel (.cons 0 rfl (.cons 2 rfl (.cons 6 rfl (.cons 7 rfl .nil)))) ?_
    refine X.go (hzo (i + 1, A70, c70, data ++ [decB p]) ⟨by dsimp only; omega, by simp [hdl], by dsimp only; rw [hgo, drop_cons hp, refD_on hodd (by omega)]⟩ (by dsimp only; omega)) (.cons 6 rfl (.num 7 rfl (by omega) (.cons 0 rfl (.cons 2 rfl .nil)))) (fun w hw => ?_)
    dsimp only
    exact hw.f
   ·skip
    refine T.skip ?_
    refine X.then_ ?_
    refine T.seq ?_
    refine J.ent (fun w hw => Hold.view_freeze (e := 31) (sz := 5) (el := blkE) (A := Ad) (c := cd) (xs := data) (hw.pick pK)) ?_
    -- region 10 (txn.go:586)
    refine T.region ?_
    refine T.y (fun w hw => Yl.move rfl) rfl rfl ?_
    refine T.y (fun w hw => Yl.ldaP hw ag_31 rfl mM sU) rfl rfl ?_
    refine T.o (OpW.call en_120 rfl (made_b_ct (data := data) (cb := decB p) mM mM (by omega))) rfl rfl (fun ⟨b, Am, cm, ok⟩ ⟨hm1, hm2⟩ => ?_)
    dsimp only
    dsimp only at hm1 hm2 ⊢
    refine T.y (fun w hw => Yl.move rfl) rfl rfl ?_
    refine T.y (fun w hw => Yl.extract rfl rfl) rfl rfl ?_
    refine T.y (fun w hw => Yl.extract rfl rfl) rfl rfl ?_
    refine T.o (OpW.alloc zr_55) rfl rfl (fun b10 _ => ?_)
    refine T.o0 (OpW.stA sz_55 rfl rfl rfl rfl sW uL) rfl (fun _ _ => ?_)
    refine T.y (fun w hw => Yl.assign rfl) rfl rfl ?_
    refine T.nil ?_
    refine J.sel (.cons 0 rfl (.cons 2 rfl (.cons 7 rfl (.cons 8 rfl (.cons 10 rfl (.cons 11 rfl .nil)))))) ?_
    refine X.then_ ?_
    refine T.seq ?_
    refine T.seq ?_
    -- region 11 (txn.go:587)
    refine T.region ?_
    refine T.y (fun w hw => Yl.move rfl) rfl rfl ?_
    refine T.y (fun w hw => Yl.not rfl) rfl rfl ?_
    refine T.nil ?_
    refine J.sel (.cons 0 rfl (.cons 2 rfl (.cons 7 rfl (.cons 8 rfl (.cons 10 rfl (.cons 78 rfl .nil)))))) ?_
    refine X.then_ ?_
    refine T.cond rfl (fun h78 => ?_) (fun h78 => ?_)
    ·skip
     refine T.seq ?_
     -- region 12 (txn.go:588)
     refine T.region ?_
     refine T.y (fun w hw => Yl.build rfl (bld_55_z _)) rfl rfl ?_
     refine T.o0 (OpW.stA sz_55 rfl rfl rfl rfl sW uL) rfl (fun _ _ => ?_)
     refine T.y (fun w hw => Yl.assign rfl) rfl rfl ?_
     refine T.y (fun w hw => Yl.assign rfl) rfl rfl ?_
     refine T.y (fun w hw => Yl.assign rfl) rfl rfl ?_
     refine T.nil ?_
     refine J.sel (.cons 2 rfl (.cons 3 rfl (.cons 4 rfl (.cons 5 rfl .nil)))) ?_
     refine X.then_ ?_
     refine T.ret ?_
     refine X.ret_then ?_
     refine X.ret_blk ?_
     refine X.ret_then ?_
     refine X.ret_then ?_
     refine X.ret_blk ?_
     refine X.ret_then ?_
     refine X.retCTTT Try.results70 ag_55 rfl rfl rfl rfl mM sU (fun w hw => ?_)
     rw [hgo, drop_cons hp, refD_none hodd (by omega) (refLast_none (hm2 (by simpa using h78)))]
     exact ⟨(none, 0), trivial, rfl, by have hw := hw.viewK_nil 2 txE; exact hw.f⟩
    ·skip
     refine T.skip ?_
     refine X.then_ ?_
     refine T.seq ?_
     have hmd := hm1 (by simpa using h78)
     -- region 13 (txn.go:590)
     refine T.region ?_
     refine T.y (fun w hw => Yl.ldaP hw ag_55 rfl mM sU) rfl rfl ?_
     refine T.y (fun w hw => Yl.fa fa_31_1 rfl) rfl rfl ?_
     refine T.y (fun w hw => Yl.ldP hw na_3 rfl mM rfl) rfl rfl ?_
     refine T.o (OpW.call en_121 rfl (encode6b_ct (b := b) mM)) rfl rfl (fun ⟨A84, c84⟩ _ => ?_)
     dsimp only
     refine T.y (fun w hw => Yl.move rfl) rfl rfl ?_
     refine T.y (fun w hw => Yl.extract rfl rfl) rfl rfl ?_
     refine T.y (fun w hw => Yl.extract rfl rfl) rfl rfl ?_
     refine T.y (fun w hw => Yl.assign rfl) rfl rfl ?_
     refine T.y (fun w hw => Yl.assign rfl) rfl rfl ?_
     refine T.nil ?_
     refine J.sel (.cons 0 rfl (.cons 2 rfl (.cons 7 rfl (.cons 8 rfl (.cons 10 rfl (.cons 12 rfl (.cons 13 rfl .nil))))))) ?_
     refine X.then_ ?_
     refine T.seq ?_
     refine T.seq ?_
     -- region 14 (txn.go:591)
     refine T.region ?_
     refine T.y (fun w hw => Yl.move rfl) rfl rfl ?_
     refine T.y (fun w hw => Yl.neq rfl rfl) rfl rfl ?_
     refine T.y (fun w hw => Yl.move rfl) rfl rfl ?_
     refine T.splitD 89 rfl (fun h89 => ?_) (fun h89 => ?_)
     ·skip
      refine T.off rfl rfl rfl ?_
      refine T.off rfl rfl rfl ?_
      refine T.off rfl rfl rfl ?_
      refine T.off rfl rfl rfl ?_
      refine T.off rfl rfl rfl ?_
      refine T.y (fun w hw => Yl.pickT rfl rfl) rfl rfl ?_
      refine T.nil ?_
      refine J.sel (.cons 0 rfl (.cons 2 rfl (.cons 7 rfl (.cons 8 rfl (.cons 10 rfl (.cons 12 rfl (.cons 95 rfl .nil))))))) ?_
      refine X.then_ ?_
      refine T.condT rfl ?_
      refine T.seq ?_
      -- region 15 (txn.go:592)
      refine T.region ?_
      refine T.y (fun w hw => Yl.build rfl (bld_55_z _)) rfl rfl ?_
      refine T.o0 (OpW.stA sz_55 rfl rfl rfl rfl sW uL) rfl (fun _ _ => ?_)
      refine T.y (fun w hw => Yl.assign rfl) rfl rfl ?_
      refine T.y (fun w hw => Yl.assign rfl) rfl rfl ?_
      refine T.y (fun w hw => Yl.assign rfl) rfl rfl ?_
      refine T.nil ?_
      refine J.sel (.cons 2 rfl (.cons 3 rfl (.cons 4 rfl (.cons 5 rfl .nil)))) ?_
      refine X.then_ ?_
      refine T.ret ?_
      refine X.ret_then ?_
      refine X.ret_blk ?_
      refine X.ret_then ?_
      refine X.ret_then ?_
      refine X.ret_blk ?_
      refine X.ret_then ?_
      refine X.retCTTT Try.results70 ag_55 rfl rfl rfl rfl mM sU (fun w hw => ?_)
      rw [hgo, drop_cons hp, refD_none hodd (by omega) (refLast_no hmd (by
        rintro ⟨h1, h2⟩
        first
          | omega
          | (have h3 := congrArg List.length h2; rw [List.length_take] at h3; omega)))]
      exact ⟨(none, 0), trivial, rfl, by have hw := hw.viewK_nil 2 txE; exact hw.f⟩
     ·skip
      refine T.y (fun w hw => Yl.move rfl) rfl rfl ?_
      refine T.y (fun w hw => Yl.len Try.underlying62 rfl) rfl rfl ?_
      refine T.y (fun w hw => Yl.move rfl) rfl rfl ?_
      refine T.y (fun w hw => Yl.add rfl rfl (by omega)) rfl rfl ?_
      refine T.y (fun w hw => Yl.neq rfl rfl) rfl rfl ?_
      refine T.y (fun w hw => Yl.pickF rfl rfl) rfl rfl ?_
      refine T.nil ?_
      refine J.sel (.cons 0 rfl (.cons 2 rfl (.cons 7 rfl (.cons 8 rfl (.cons 10 rfl (.cons 12 rfl (.cons 95 rfl .nil))))))) ?_
      refine X.then_ ?_
      refine T.condD rfl (fun h95 => ?_) (fun h95 => ?_)
      ·skip
       refine T.seq ?_
       -- region 15 (txn.go:592)
       refine T.region ?_
       refine T.y (fun w hw => Yl.build rfl (bld_55_z _)) rfl rfl ?_
       refine T.o0 (OpW.stA sz_55 rfl rfl rfl rfl sW uL) rfl (fun _ _ => ?_)
       refine T.y (fun w hw => Yl.assign rfl) rfl rfl ?_
       refine T.y (fun w hw => Yl.assign rfl) rfl rfl ?_
       refine T.y (fun w hw => Yl.assign rfl) rfl rfl ?_
       refine T.nil ?_
       refine J.sel (.cons 2 rfl (.cons 3 rfl (.cons 4 rfl (.cons 5 rfl .nil)))) ?_
       refine X.then_ ?_
       refine T.ret ?_
       refine X.ret_then ?_
       refine X.ret_blk ?_
       refine X.ret_then ?_
       refine X.ret_then ?_
       refine X.ret_blk ?_
       refine X.ret_then ?_
       refine X.retCTTT Try.results70 ag_55 rfl rfl rfl rfl mM sU (fun w hw => ?_)
       rw [hgo, drop_cons hp, refD_none hodd (by omega) (refLast_no hmd (by
         rintro ⟨h1, h2⟩
         first
           | omega
           | (have h3 := congrArg List.length h2; rw [List.length_take] at h3; omega)))]
       exact ⟨(none, 0), trivial, rfl, by have hw := hw.viewK_nil 2 txE; exact hw.f⟩
      ·skip
       refine T.skip ?_
       refine X.then_ ?_
       refine T.seq ?_
       refine T.seq ?_
       have hcan : b.can (decB p).epoch := encE_iff.1 (by omega)
       rw [encR_yes hcan] at h95 ⊢
       -- region 16 (txn.go:594)
       refine T.region ?_
       refine T.y (fun w hw => Yl.assign rfl) rfl rfl ?_
       refine T.nil ?_
       refine J.sel (.cons 0 rfl (.cons 2 rfl (.cons 7 rfl (.cons 8 rfl (.cons 10 rfl (.cons 12 rfl (.cons 14 rfl .nil))))))) ?_
       refine X.then_ ?_
       refine T.block ?_
       refine T.loop (α := Nat) (fun k => k ≤ i + 1 ∧ ∀ j, j < k → (encB b (decB p).epoch)[j]? = l[j]?) (fun k => [(14, .int .i64 (k : Int)), (0, .slice A l.length c), (2, ptr b2 0), (7, .int .i64 (i : Int)), (8, ptr b8 0), (10, ptr b10 0), (12, .slice A84 (encB b (decB p).epoch).length c84)]) (fun k => pt b10 55 [.int .i64 b.num, .slice Am b.txs.length cm] :: pt b8 31 [.int .i64 (decB p).kind, .int .i64 (decB p).epoch, .int .i64 (decB p).seq, .int .i64 (decB p).lba, .slice A8 (decB p).body.length c8] :: pt b2 55 [.int .i64 0, .slice none 0 0] :: M) (fun k => rowsK A84 c84 (encB b (decB p).epoch) :: viewK 2 txE Am cm b.txs :: K) (fun k => i + 1 - k) 0 ⟨Nat.zero_le _, fun j hj => by omega⟩ (.num 14 rfl rfl (.cons 0 rfl (.cons 2 rfl (.cons 7 rfl (.cons 8 rfl (.cons 10 rfl (.cons 12 rfl .nil))))))) (fun w hw => hw.f) ?_
       intro k hk Zk hz2
       obtain ⟨hk, hall⟩ := hk
       refine T.seq ?_
       refine T.seq ?_
       -- region 17 (txn.go:594)
       refine T.region ?_
       refine T.y (fun w hw => Yl.move rfl) rfl rfl ?_
       refine T.y (fun w hw => Yl.move rfl) rfl rfl ?_
       refine T.y (fun w hw => Yl.leq rfl rfl) rfl rfl ?_
       refine T.nil ?_
       refine J.sel (.cons 0 rfl (.cons 2 rfl (.cons 7 rfl (.cons 8 rfl (.cons 10 rfl (.cons 12 rfl (.cons 14 rfl (.cons 99 rfl .nil)))))))) ?_
       refine X.then_ ?_
       refine T.condD rfl (fun h99 => ?_) (fun h99 => ?_)
       ·skip
        refine T.skip ?_
        refine X.then_ ?_
        refine T.seq ?_
        refine T.block ?_
        refine T.seq ?_
        obtain ⟨x, hx⟩ : ∃ x, (encB b (decB p).epoch)[k]? = some x := ⟨_, List.getElem?_eq_getElem (by omega)⟩
        obtain ⟨y, hy⟩ : ∃ y, l[k]? = some y := ⟨_, List.getElem?_eq_getElem (by omega)⟩
        refine J.open_ (fun w hw => hw.rows_at (A := A84) (c := c84) (rows := encB b (decB p).epoch) mM hx) ?_
        rintro ⟨Ax, cx⟩ -
        refine J.open_ (fun w hw => hw.rows_at (A := A) (c := c) (rows := l) mM hy) ?_
        rintro ⟨Ay, cy⟩ -
        dsimp only
        refine J.fact (fun w hw => hw.isB (A := Ax) (c := cx) (xs := x) mM) ?_
        intro hxB
        refine J.fact (fun w hw => hw.isB (A := Ay) (c := cy) (xs := y) mM) ?_
        intro hyB
        -- region 19 (txn.go:595)
        refine Dr.start0 [] ?_
        refine Dr.take 0 rfl (by kernel_rfl) bL sS (fun w hs => have hw := hs.h; Yl.move rfl) rfl rfl ?_
        refine Dr.take 1 rfl (by kernel_rfl) bL sS (fun w hs => have hw := hs.h; Yl.move rfl) rfl rfl ?_
        refine Dr.take 2 rfl (by kernel_rfl) bL sS (fun w hs => have hw := hs.h; Yl.iaK (i := k) (rows := encB b (decB p).epoch) hw mM Try.underlying62 isz_23 rfl rfl rfl (by omega)) rfl rfl ?_
        refine Dr.take 3 rfl (by kernel_rfl) bL sS (fun w hs => have hw := hs.h; (by first | exact Yl.ldC hw na_23 rfl mM | exact Yl.ldR sC na_23 rfl (by assumption) | exact Yl.ldV hw na_23 rfl mM rfl)) rfl rfl ?_
        refine Dr.take 4 rfl (by kernel_rfl) bL sS (fun w hs => have hw := hs.h; Yl.convS (xs := x) (A := Ax) (c := cx) hw mM rfl) rfl rfl ?_
        refine Dr.take 5 rfl (by kernel_rfl) bL sS (fun w hs => have hw := hs.h; Yl.move rfl) rfl rfl ?_
        refine Dr.take 6 rfl (by kernel_rfl) bL sS (fun w hs => have hw := hs.h; Yl.move rfl) rfl rfl ?_
        refine Dr.take 7 rfl (by kernel_rfl) bL sS (fun w hs => have hw := hs.h; Yl.iaK (i := k) (rows := l) hw mM Try.underlying62 isz_23 rfl rfl rfl (by omega)) rfl rfl ?_
        refine Dr.take 8 rfl (by kernel_rfl) bL sS (fun w hs => have hw := hs.h; (by first | exact Yl.ldC hw na_23 rfl mM | exact Yl.ldR sC na_23 rfl (by assumption) | exact Yl.ldV hw na_23 rfl mM rfl)) rfl rfl ?_
        refine Dr.take 9 rfl (by kernel_rfl) bL sS (fun w hs => have hw := hs.h; Yl.convS (xs := y) (A := Ay) (c := cy) hw mM rfl) rfl rfl ?_
        refine Dr.take 10 rfl (by kernel_rfl) bL sS (fun w hs => have hw := hs.h; Yl.neS rfl rfl) rfl rfl ?_
        refine Dr.done (by kernel_rfl) ?_
        refine J.sel (.cons 0 rfl (.cons 2 rfl (.cons 7 rfl (.cons 8 rfl (.cons 10 rfl (.cons 12 rfl (.cons 14 rfl (.cons 112 rfl .nil)))))))) ?_
        refine X.then_ ?_
        refine T.condD rfl (fun h112 => ?_) (fun h112 => ?_)
        ·skip
         refine T.seq ?_
         -- region 20 (txn.go:596)
         refine T.region ?_
         refine T.y (fun w hw => Yl.build rfl (bld_55_z _)) rfl rfl ?_
         refine T.o0 (OpW.stA sz_55 rfl rfl rfl rfl sW uL) rfl (fun _ _ => ?_)
         refine T.y (fun w hw => Yl.assign rfl) rfl rfl ?_
         refine T.y (fun w hw => Yl.assign rfl) rfl rfl ?_
         refine T.y (fun w hw => Yl.assign rfl) rfl rfl ?_
         refine T.nil ?_
         refine J.sel (.cons 2 rfl (.cons 3 rfl (.cons 4 rfl (.cons 5 rfl .nil)))) ?_
         refine X.then_ ?_
         refine T.ret ?_
         refine X.ret_blk ?_
         refine X.ret_then ?_
         refine X.ret_then ?_
         refine X.ret_blk ?_
         refine X.ret_then ?_
         refine X.ret_blk ?_
         refine X.ret_then ?_
         refine X.ret_then ?_
         refine X.ret_blk ?_
         refine X.ret_then ?_
         refine X.retCTTT Try.results70 ag_55 rfl rfl rfl rfl mM sU (fun w hw => ?_)
         rw [hgo, drop_cons hp, refD_none hodd (by omega) (refLast_no hmd (by
           rintro ⟨h1, h2⟩
           rw [encR_yes hcan] at h2
           rw [h2, List.getElem?_take, if_pos (by omega), hy] at hx
           injection hx with hx
           exact h112 (by rw [hx])))]
         exact ⟨(none, 0), trivial, rfl, by have hw := hw.viewK_nil 2 txE; exact hw.f⟩
        ·skip
         refine T.skip ?_
         refine X.nm_blk ?_
         refine X.then_ ?_
         -- region 18 (txn.go:594)
         refine T.region ?_
         refine T.y (fun w hw => Yl.move rfl) rfl rfl ?_
         refine T.y (fun w hw => Yl.add rfl rfl (by omega)) rfl rfl ?_
         refine T.y (fun w hw => Yl.assign rfl) rfl rfl ?_
         refine T.nil ?_
         refine J.sel (.cons 0 rfl (.cons 2 rfl (.cons 7 rfl (.cons 8 rfl (.cons 10 rfl (.cons 12 rfl (.cons 14 rfl .nil))))))) ?_
         refine X.go (hz2 (k + 1) ⟨by omega, fun j hj => ?_⟩ (by omega)) (.num 14 rfl (by omega) (.cons 0 rfl (.cons 2 rfl (.cons 7 rfl (.cons 8 rfl (.cons 10 rfl (.cons 12 rfl .nil))))))) (fun w hw => ?_)
         · rcases Nat.lt_succ_iff_lt_or_eq.1 hj with hj | rfl
           · exact hall j hj
           · rw [hx, hy, str_inj hxB hyB (Classical.not_not.1 h112)]
         · exact hw.f
       ·skip
        refine T.exit ?_
        refine X.exit_then ?_
        refine X.exit_then ?_
        refine X.exit_blk ?_
        refine X.then_ ?_
        refine T.seq ?_
        -- region 21 (txn.go:599)
        refine Dr.start1 [] (p := pt b2 55 [.int .i64 0, .slice none 0 0]) pK ?_
        refine Dr.take 0 rfl (by kernel_rfl) bL sS (fun w hs => have hw := hs.h; Yl.ldaP hw ag_55 rfl mM sU) rfl rfl ?_
        refine Dr.take 1 rfl (by kernel_rfl) bL sS (fun w hs => have hw := hs.h; Yl.fa fa_31_1 rfl) rfl rfl ?_
        refine Dr.take 2 rfl (by kernel_rfl) bL sS (fun w hs => have hw := hs.h; Yl.ldP hw na_3 rfl mM rfl) rfl rfl ?_
        refine Dr.take 3 rfl (by kernel_rfl) bL sS (fun w hs => have hw := hs.h; Yl.move rfl) rfl rfl ?_
        refine Dr.take 4 rfl (by kernel_rfl) bL sS (fun w hs => have hw := hs.h; Yl.add rfl rfl (by omega)) rfl rfl ?_
        refine Dr.act0 5 rfl (by kernel_rfl) rfl (OpW.stA sz_55 rfl rfl rfl rfl sW uL) rfl (fun _ _ _ => sS) (fun _ _ => ?_)
        refine Dr.take 6 rfl (by kernel_rfl) bL sS (fun w hs => have hw := hs.h; Yl.assign rfl) rfl rfl ?_
        refine Dr.take 7 rfl (by kernel_rfl) bL sS (fun w hs => have hw := hs.h; Yl.assign rfl) rfl rfl ?_
        refine Dr.take 8 rfl (by kernel_rfl) bL sS (fun w hs => have hw := hs.h; Yl.assign rfl) rfl rfl ?_
        refine Dr.done (by kernel_rfl) ?_
        refine J.sel (.cons 2 rfl (.cons 3 rfl (.cons 4 rfl (.cons 5 rfl .nil)))) ?_
        refine X.then_ ?_
        refine T.ret ?_
        refine X.ret_blk ?_
        refine X.ret_then ?_
        refine X.ret_then ?_
        refine X.ret_blk ?_
        refine X.ret_then ?_
        refine X.retCTTT Try.results70 ag_55 rfl rfl rfl rfl mM sU (fun w hw => ?_)
        have hfull : encR b (decB p).epoch = l.take (data.length + 1) := by
          rw [encR_yes hcan]
          refine List.ext_getElem? fun j => ?_
          rcases Nat.lt_or_ge j (i + 1) with hj | hj
          · rw [hall j (by omega), List.getElem?_take, if_pos (by omega)]
          · rw [List.getElem?_eq_none (by omega), List.getElem?_eq_none (by rw [List.length_take]; omega)]
        rw [hgo, drop_cons hp, refD_some hodd (by omega) (refLast_yes hmd ⟨encE_yes hcan, hfull⟩), hdl]
        exact ⟨(Am, cm), trivial, rfl, hw.f⟩
 ·skip
  refine T.exit ?_
  refine X.exit_then ?_
  refine X.exit_then ?_
  refine X.exit_blk ?_
  refine X.then_ ?_
  refine T.seq ?_
  -- region 22 (txn.go:601)
  refine T.region ?_
  refine T.y (fun w hw => Yl.build rfl (bld_55_z _)) rfl rfl ?_
  refine T.o0 (OpW.stA sz_55 rfl rfl rfl rfl sW uL) rfl (fun _ _ => ?_)
  refine T.y (fun w hw => Yl.assign rfl) rfl rfl ?_
  refine T.y (fun w hw => Yl.assign rfl) rfl rfl ?_
  refine T.y (fun w hw => Yl.assign rfl) rfl rfl ?_
  refine T.nil ?_
  refine J.sel (.cons 2 rfl (.cons 3 rfl (.cons 4 rfl (.cons 5 rfl .nil)))) ?_
  refine X.then_ ?_
  refine T.ret ?_
  refine X.retCTTT Try.results70 ag_55 rfl rfl rfl rfl mM sU (fun w hw => ?_)
  rw [hgo, List.drop_eq_nil_of_le (by omega), refD]
  exact ⟨(none, 0), trivial, rfl, by have hw := hw.viewK_nil 2 txE; exact hw.f⟩

set_option maxHeartbeats 1000000 in
theorem decodes_ct {M : List HP} {K : List KP} {A : Option Addr} {c : Nat} {l : List (List Int)} (hl : rowsK A c l ∈ K) : Fn 16 [.slice A l.length c] M K (fun _ : Unit => True) (fun _ => .bool true) (fun _ => M) (fun _ => K) := by
 refine Fn.of (n := 55) Try.func16 rfl Try.ntmps16 rfl ?_
 refine T.seq ?_
 -- region 0 (law.go:36)
 refine T.region ?_
 refine T.y (fun w hw => Yl.assign rfl) rfl rfl ?_
 refine T.nil ?_
 refine J.sel (.cons 0 rfl .nil) ?_
 refine X.then_ ?_
 refine T.seq ?_
 refine T.seq ?_
 -- region 1 (law.go:37)
 refine T.region ?_
 refine T.y (fun w hw => Yl.move rfl) rfl rfl ?_
 refine T.y (fun w hw => Yl.len Try.underlying62 rfl) rfl rfl ?_
 refine T.y (fun w hw => Yl.gtr rfl rfl) rfl rfl ?_
 refine T.y (fun w hw => Yl.move rfl) rfl rfl ?_
 refine T.splitD 14 rfl (fun h14 => ?_) (fun h14 => ?_)
 ·skip
  refine T.off rfl rfl rfl ?_
  refine T.off rfl rfl rfl ?_
  refine T.off rfl rfl rfl ?_
  refine T.y (fun w hw => Yl.pickT rfl rfl) rfl rfl ?_
  refine T.nil ?_
  refine J.sel (.cons 0 rfl (.cons 18 rfl .nil)) ?_
  refine X.then_ ?_
  refine T.condT rfl ?_
  refine T.seq ?_
  -- region 2 (law.go:38)
  refine T.region ?_
  refine T.o (OpW.call en_43 rfl (awake17_ct)) rfl rfl (fun x hx => ?_)
  refine T.y (fun w hw => Yl.assign rfl) rfl rfl ?_
  refine T.nil ?_
  refine J.sel (.cons 2 rfl .nil) ?_
  refine X.then_ ?_
  refine T.ret ?_
  refine X.ret_then ?_
  refine X.ret1 Try.results16 rfl (fun w hw => ?_)
  exact ⟨(), trivial, rfl, hw.f⟩
 ·skip
  refine T.y (fun w hw => Yl.move rfl) rfl rfl ?_
  refine T.o (OpW.call en_68 rfl (total_ct (rows := l) mM)) rfl rfl (fun s ⟨hs0, hs1⟩ => ?_)
  refine T.y (fun w hw => Yl.gtr rfl rfl) rfl rfl ?_
  refine T.y (fun w hw => Yl.pickF rfl rfl) rfl rfl ?_
  refine T.nil ?_
  refine J.sel (.cons 0 rfl (.cons 18 rfl .nil)) ?_
  refine X.then_ ?_
  refine T.condD rfl (fun h18 => ?_) (fun h18 => ?_)
  ·skip
   refine T.seq ?_
   -- region 2 (law.go:38)
   refine T.region ?_
   refine T.o (OpW.call en_43 rfl (awake17_ct)) rfl rfl (fun x hx => ?_)
   refine T.y (fun w hw => Yl.assign rfl) rfl rfl ?_
   refine T.nil ?_
   refine J.sel (.cons 2 rfl .nil) ?_
   refine X.then_ ?_
   refine T.ret ?_
   refine X.ret_then ?_
   refine X.ret1 Try.results16 rfl (fun w hw => ?_)
   exact ⟨(), trivial, rfl, hw.f⟩
  ·skip
   refine T.skip ?_
   refine X.then_ ?_
   refine T.seq ?_
   refine J.fact (fun w hw => hw.rows_b (A := A) (c := c) (rows := l) mM) ?_
   intro hB
   have hra := ref_all hB
   -- region 3 (law.go:40)
   refine T.region ?_
   refine T.y (fun w hw => Yl.move rfl) rfl rfl ?_
   refine T.o (OpW.call en_69 rfl (decode_b_ct (l := l) mM (by omega))) rfl rfl (fun ⟨A22, c22⟩ _ => ?_)
   dsimp only
   refine T.y (fun w hw => Yl.move rfl) rfl rfl ?_
   refine T.y (fun w hw => Yl.extract rfl rfl) rfl rfl ?_
   refine T.y (fun w hw => Yl.extract rfl rfl) rfl rfl ?_
   refine T.y (fun w hw => Yl.extract rfl rfl) rfl rfl ?_
   refine T.y (fun w hw => Yl.extract rfl rfl) rfl rfl ?_
   refine T.o (OpW.alloc zr_55) rfl rfl (fun b3 _ => ?_)
   refine T.o0 (OpW.stA sz_55 rfl rfl rfl rfl sW uL) rfl (fun _ _ => ?_)
   refine T.y (fun w hw => Yl.assign rfl) rfl rfl ?_
   refine T.y (fun w hw => Yl.assign rfl) rfl rfl ?_
   refine T.y (fun w hw => Yl.assign rfl) rfl rfl ?_
   refine T.nil ?_
   refine J.sel (.cons 0 rfl (.cons 3 rfl (.cons 4 rfl (.cons 5 rfl (.cons 6 rfl .nil))))) ?_
   refine X.then_ ?_
   refine T.seq ?_
   -- region 4 (law.go:41)
   refine T.region ?_
   refine T.y (fun w hw => Yl.move rfl) rfl rfl ?_
   refine T.o (OpW.call en_70 rfl (decode6b_ct (l := l) mM (by omega))) rfl rfl (fun ⟨A29, c29⟩ _ => ?_)
   dsimp only
   rw [hra]
   dsimp only
   refine T.y (fun w hw => Yl.move rfl) rfl rfl ?_
   refine T.y (fun w hw => Yl.extract rfl rfl) rfl rfl ?_
   refine T.y (fun w hw => Yl.extract rfl rfl) rfl rfl ?_
   refine T.y (fun w hw => Yl.extract rfl rfl) rfl rfl ?_
   refine T.y (fun w hw => Yl.extract rfl rfl) rfl rfl ?_
   refine T.o (OpW.alloc zr_55) rfl rfl (fun b7 _ => ?_)
   refine T.o0 (OpW.stA sz_55 rfl rfl rfl rfl sW uL) rfl (fun _ _ => ?_)
   refine T.y (fun w hw => Yl.assign rfl) rfl rfl ?_
   refine T.y (fun w hw => Yl.assign rfl) rfl rfl ?_
   refine T.y (fun w hw => Yl.assign rfl) rfl rfl ?_
   refine T.nil ?_
   refine J.sel (.cons 3 rfl (.cons 4 rfl (.cons 5 rfl (.cons 6 rfl (.cons 7 rfl (.cons 8 rfl (.cons 9 rfl (.cons 10 rfl .nil)))))))) ?_
   refine X.then_ ?_
   refine T.seq ?_
   -- region 5 (law.go:42)
   refine T.region ?_
   refine T.y (fun w hw => Yl.ldaP hw ag_55 rfl mM sU) rfl rfl ?_
   refine T.y (fun w hw => Yl.ldaP hw ag_55 rfl mM sU) rfl rfl ?_
   refine T.o (OpW.call en_71 rfl (sameBatch_ct (a := (decR l).1) (b := (decR l).1) mM mM)) rfl rfl (fun _ _ => ?_)
   rw [eqv_yes rfl]
   refine T.y (fun w hw => Yl.move rfl) rfl rfl ?_
   refine T.y (fun w hw => Yl.move rfl) rfl rfl ?_
   refine T.y (fun w hw => Yl.move rfl) rfl rfl ?_
   refine T.y (fun w hw => Yl.eql rfl rfl) rfl rfl ?_
   refine T.y (fun w hw => Yl.pickT rfl rfl) rfl rfl ?_
   refine T.y (fun w hw => Yl.move rfl) rfl rfl ?_
   refine T.splitD 42 rfl (fun h42 => ?_) (fun h42 => ?_)
   ·skip
    refine T.y (fun w hw => Yl.move rfl) rfl rfl ?_
    refine T.y (fun w hw => Yl.move rfl) rfl rfl ?_
    refine T.y (fun w hw => Yl.eql rfl rfl) rfl rfl ?_
    refine T.y (fun w hw => Yl.pickT rfl rfl) rfl rfl ?_
    refine T.y (fun w hw => Yl.move rfl) rfl rfl ?_
    refine T.splitD 47 rfl (fun h47 => ?_) (fun h47 => ?_)
    ·skip
     refine T.y (fun w hw => Yl.move rfl) rfl rfl ?_
     refine T.y (fun w hw => Yl.move rfl) rfl rfl ?_
     refine T.y (fun w hw => Yl.eql rfl rfl) rfl rfl ?_
     refine T.y (fun w hw => Yl.pickT rfl rfl) rfl rfl ?_
     refine T.y (fun w hw => Yl.move rfl) rfl rfl ?_
     refine T.splitD 52 rfl (fun h52 => ?_) (fun h52 => ?_)
     ·skip
      refine T.o (OpW.call en_43 rfl (awake17_ct)) rfl rfl (fun x hx => ?_)
      refine T.y (fun w hw => Yl.pickT rfl rfl) rfl rfl ?_
      refine T.y (fun w hw => Yl.assign rfl) rfl rfl ?_
      refine T.nil ?_
      refine J.sel (.cons 2 rfl .nil) ?_
      refine X.then_ ?_
      refine T.ret ?_
      refine X.ret1 Try.results16 rfl (fun w hw => ?_)
      exact ⟨(), trivial, rfl, hw.f⟩
     · exfalso; (exact absurd rfl (by assumption))
    · exfalso; (exact absurd rfl (by assumption))
   · exfalso; (exact absurd rfl (by assumption))

theorem batchDecodes_walk {w : World} (v : Value) (rows : List (List Int)) (hx : Row (fun k => k < w.heap.size) w v rows) (hB : ∀ r ∈ rows, IsB r) : Calls Try.prog 16 #[v] w fun e w' => e = .returned (.bool true) ∧ Below w.heap.size w w' := by
  obtain ⟨B, k, rfl, hk⟩ := row_open hx hB
  exact law_of (vs := [.slice B rows.length k]) (K := [rowsK B k rows]) (decodes_ct (.tail _ (.head _))) (fun k' hk' => by rw [List.mem_singleton.1 hk']; exact hk)
end Go.Proofs.Ytfpnodboebpemaa
