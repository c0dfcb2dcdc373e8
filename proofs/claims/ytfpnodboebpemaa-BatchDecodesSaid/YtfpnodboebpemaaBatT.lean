/- The contract of scarpref11.made. -/
import Derived.Test.YtfpnodboebpemaaBatS
import Derived.Test.YtfpnodboebpemaaBat6
import Derived.Test.YtfpnodboebpemaaSixD
namespace Go.Proofs.Ytfpnodboebpemaa
open Go.RowKit Go.Proofs.YtfpnodboebpemaaW.PrintWords
set_option linter.unusedVariables false
set_option linter.unusedSimpArgs false
theorem ge_two {xs : List Int} {j : Nat} (h : j + 1 < xs.length) : ge ((xs.drop j).take 2) = rd xs (j : Nat) + rd xs ((j + 1 : Nat) : Int) * 256 := by
  have h1 : xs[j]? = some (xs[j]'(by omega)) := List.getElem?_eq_getElem (by omega)
  have h2 : xs[j + 1]? = some (xs[j + 1]'h) := List.getElem?_eq_getElem h
  rw [drop_cons h1, drop_cons h2, rd_get? h1, rd_get? h2]
  show xs[j]'(by omega) + 256 * (xs[j + 1]'h + 256 * 0) = _
  omega
theorem step_ge {body : List Int} {n i : Nat} (hn : (rd body 8).toNat = n) (hl : body.length = 9 + 3 * n) (hi : i < n) : ge (((body.drop (9 + 2 * i)).take (body.length - (9 + 2 * i))).take 2) = stepOf (stepsB body) i := by
  rw [List.take_take, Nat.min_eq_left (by omega), ge_two (by omega)]
  unfold stepOf stepsB
  rw [hn]
  have h : ∀ j, j < 2 * n → rd ((body.drop 9).take (2 * n)) (j : Nat) = rd body ((9 + j : Nat) : Int) := fun j hj => by
    have h1 : body[9 + j]? = some (body[9 + j]'(by omega)) := List.getElem?_eq_getElem (by omega)
    rw [rd_get? h1]
    exact rd_get? (by rw [List.getElem?_take, if_pos hj, List.getElem?_drop]; exact h1)
  rw [h (2 * i) (by omega), h (2 * i + 1) (by omega)]; rfl
theorem count_rd {body : List Int} {n i : Nat} (hn : (rd body 8).toNat = n) (hl : body.length = 9 + 3 * n) (hi : i < n) : rd body ((9 + 2 * n + i : Nat) : Int) = rd (countsB body) (i : Nat) := by
  have h1 : body[9 + 2 * n + i]? = some (body[9 + 2 * n + i]'(by omega)) := List.getElem?_eq_getElem (by omega)
  unfold countsB
  rw [hn, rd_get? h1]
  exact (rd_get? (by rw [List.getElem?_drop]; exact h1)).symm
attribute [local irreducible] pt rowH slK bytesK intsK rowsK rowsH cellK rowsV oldK star exH pureH knowH starL emp devH zoneH zonesH zrest cellsK viewV viewK viewH putE txE batE blkE

set_option maxHeartbeats 4000000 in
theorem made_b_ct {M : List HP} {K : List KP} {A B : Option Addr} {c kb : Nat} {data : List Fb} {cb : Fb} (hd : viewK 5 blkE A c data ∈ K) (hc : bytesK B kb cb.body ∈ K) (hdl : data.length ≤ 100000) : Fn 120 [.slice A data.length c, .agg [.int .i64 cb.kind, .int .i64 cb.epoch, .int .i64 cb.seq, .int .i64 cb.lba, .slice B cb.body.length kb].toArray] M K (fun r : BatL × Option Addr × Nat × Bool => (r.2.2.2 = true → madeM data cb = some r.1) ∧ (r.2.2.2 = false → madeM data cb = none)) (fun r => .tuple [.agg [.int .i64 r.1.num, .slice r.2.1 r.1.txs.length r.2.2.1].toArray, .bool r.2.2.2].toArray) (fun _ => M) (fun r => viewK 2 txE r.2.1 r.2.2.1 r.1.txs :: K) := by
 refine Fn.of (n := 127) Try.func120 rfl Try.ntmps120 rfl ?_
 refine J.fact (fun w hw => hw.isB (A := B) (c := kb) (xs := cb.body) mM) ?_
 intro hB
 refine J.fact (fun w hw => hw.bytes_cap (A := B) (c := kb) (xs := cb.body) mM) ?_
 intro hcap
 refine T.seq ?_
 -- region 0 (txn.go:605)
 refine T.region ?_
 refine T.o (OpW.box rfl) rfl rfl (fun b3 _ => ?_)
 refine T.o (OpW.alloc zr_55) rfl rfl (fun b4 _ => ?_)
 refine T.y (fun w hw => Yl.assign rfl) rfl rfl ?_
 refine T.nil ?_
 refine J.sel (.cons 0 rfl (.cons 3 rfl (.cons 4 rfl .nil))) ?_
 refine X.then_ ?_
 refine T.seq ?_
 -- region 1 (txn.go:606)
 refine T.region ?_
 refine T.y (fun w hw => Yl.fa fa_31_2 rfl) rfl rfl ?_
 refine T.y (fun w hw => Yl.ldP hw na_3 rfl mM rfl) rfl rfl ?_
 refine T.y (fun w hw => Yl.build rfl (bld_55_0 _)) rfl rfl ?_
 refine T.o (OpW.alloc zr_55) rfl rfl (fun b6 _ => ?_)
 refine T.o0 (OpW.stA sz_55 rfl rfl rfl rfl sW uL) rfl (fun _ _ => ?_)
 refine T.nil ?_
 refine J.sel (.cons 0 rfl (.cons 3 rfl (.cons 4 rfl (.cons 6 rfl .nil)))) ?_
 refine X.then_ ?_
 refine T.seq ?_
 refine T.seq ?_
 -- region 2 (txn.go:607)
 refine T.region ?_
 refine T.y (fun w hw => Yl.fa fa_31_4 rfl) rfl rfl ?_
 refine T.y (fun w hw => Yl.ldP hw na_23 rfl mM rfl) rfl rfl ?_
 refine T.y (fun w hw => Yl.len Try.underlying23 rfl) rfl rfl ?_
 refine T.y (fun w hw => Yl.lss rfl rfl) rfl rfl ?_
 refine T.nil ?_
 refine J.sel (.cons 0 rfl (.cons 3 rfl (.cons 4 rfl (.cons 6 rfl (.cons 24 rfl .nil))))) ?_
 refine X.then_ ?_
 refine T.condD rfl (fun h24 => ?_) (fun h24 => ?_)
 ·skip
  refine T.seq ?_
  -- region 3 (txn.go:608)
  refine T.region ?_
  refine T.y (fun w hw => Yl.ldaP hw ag_55 rfl mM sU) rfl rfl ?_
  refine T.o0 (OpW.stA sz_55 rfl rfl rfl rfl sW uL) rfl (fun _ _ => ?_)
  refine T.y (fun w hw => Yl.assign rfl) rfl rfl ?_
  refine T.nil ?_
  refine J.sel (.cons 4 rfl (.cons 5 rfl .nil)) ?_
  refine X.then_ ?_
  refine T.ret ?_
  refine X.ret_then ?_
  refine X.retCT Try.results120 ag_55 rfl rfl mM sU (fun w hw => ?_)
  exact ⟨(⟨cb.seq, []⟩, none, 0, false), ⟨fun h => (by cases h), fun _ => made_short (by omega)⟩, rfl, by have hw := hw.viewK_nil 2 txE; exact hw.f⟩
 ·skip
  refine T.skip ?_
  refine X.then_ ?_
  refine T.seq ?_
  have hge := ge_bound (cb.body.take 8) (hB.take 8)
  rw [show (cb.body.take 8).length = 8 by simp; omega, show (256 : Int) ^ 8 = 18446744073709551616 by decide] at hge
  have r8 := rd_b cb.body 8 (by omega) hB
  obtain ⟨n, hn⟩ : ∃ n : Nat, rd cb.body ((8 : Nat) : Int) = n := ⟨(rd cb.body ((8 : Nat) : Int)).toNat, by omega⟩
  have hn8 : (rd cb.body 8).toNat = n := by rw [show rd cb.body 8 = (n : Int) from hn]; simp
  -- region 4 (txn.go:610)
  refine T.region ?_
  refine T.y (fun w hw => Yl.fa fa_31_4 rfl) rfl rfl ?_
  refine T.y (fun w hw => Yl.ldP hw na_23 rfl mM rfl) rfl rfl ?_
  refine T.o (OpW.call en_102 rfl (get6_ct (A := B) (c := kb) (xs := cb.body) (n := 8) mM rfl rfl (by omega) (by omega))) rfl rfl (fun _ _ => ?_)
  refine T.y (fun w hw => Yl.move rfl) rfl rfl ?_
  refine T.y (fun w hw => Yl.extract rfl rfl) rfl rfl ?_
  refine T.y (fun w hw => Yl.extract rfl rfl) rfl rfl ?_
  refine T.y (fun w hw => Yl.assign rfl) rfl rfl ?_
  refine T.y (fun w hw => Yl.assign rfl) rfl rfl ?_
  refine T.nil ?_
  refine J.sel (.cons 0 rfl (.cons 3 rfl (.cons 4 rfl (.cons 6 rfl (.cons 7 rfl .nil))))) ?_
  refine X.then_ ?_
  refine T.seq ?_
  -- region 5 (txn.go:611)
  refine T.region ?_
  refine T.y (fun w hw => Yl.fa fa_31_4 rfl) rfl rfl ?_
  refine T.y (fun w hw => Yl.ldP hw na_23 rfl mM rfl) rfl rfl ?_
  refine T.y (fun w hw => Yl.ia1 (i := 8) sC Try.underlying23 isz_5 rfl rfl rfl (by omega)) rfl rfl ?_
  refine T.y (fun w hw => (by first | exact Yl.ldB hw mM na_5 rfl (by omega) | exact Yl.ldC hw na_5 rfl mM | exact Yl.ldR sC na_5 rfl (by assumption) | exact Yl.ldV hw na_5 rfl mM rfl)) rfl rfl ?_
  refine T.y (fun w hw => Yl.conv Try.underlying5 Try.underlying3 rfl (cv_i64 (by omega))) rfl rfl ?_
  refine T.y (fun w hw => Yl.assign rfl) rfl rfl ?_
  refine T.nil ?_
  rw [hn]
  refine J.sel (.cons 0 rfl (.cons 3 rfl (.cons 4 rfl (.cons 6 rfl (.cons 7 rfl (.cons 9 rfl .nil)))))) ?_
  refine X.then_ ?_
  refine T.seq ?_
  refine T.seq ?_
  -- region 6 (txn.go:612)
  refine T.region ?_
  refine T.y (fun w hw => Yl.move rfl) rfl rfl ?_
  refine T.y (fun w hw => Yl.lss rfl rfl) rfl rfl ?_
  refine T.y (fun w hw => Yl.move rfl) rfl rfl ?_
  refine T.splitD 39 rfl (fun h39 => ?_) (fun h39 => ?_)
  ·skip
   refine T.off rfl rfl rfl ?_
   refine T.off rfl rfl rfl ?_
   refine T.off rfl rfl rfl ?_
   refine T.off rfl rfl rfl ?_
   refine T.off rfl rfl rfl ?_
   refine T.off rfl rfl rfl ?_
   refine T.off rfl rfl rfl ?_
   refine T.y (fun w hw => Yl.pickT rfl rfl) rfl rfl ?_
   refine T.y (fun w hw => Yl.move rfl) rfl rfl ?_
   refine T.off rfl rfl rfl ?_
   refine T.off rfl rfl rfl ?_
   refine T.y (fun w hw => Yl.pickT rfl rfl) rfl rfl ?_
   refine T.nil ?_
   refine J.sel (.cons 0 rfl (.cons 3 rfl (.cons 4 rfl (.cons 6 rfl (.cons 7 rfl (.cons 9 rfl (.cons 51 rfl .nil))))))) ?_
   refine X.then_ ?_
   refine T.condT rfl ?_
   refine T.seq ?_
   -- region 7 (txn.go:613)
   refine T.region ?_
   refine T.y (fun w hw => Yl.ldaP hw ag_55 rfl mM sU) rfl rfl ?_
   refine T.o0 (OpW.stA sz_55 rfl rfl rfl rfl sW uL) rfl (fun _ _ => ?_)
   refine T.y (fun w hw => Yl.assign rfl) rfl rfl ?_
   refine T.nil ?_
   refine J.sel (.cons 4 rfl (.cons 5 rfl .nil)) ?_
   refine X.then_ ?_
   refine T.ret ?_
   refine X.ret_then ?_
   refine X.retCT Try.results120 ag_55 rfl rfl mM sU (fun w hw => ?_)
   exact ⟨(⟨cb.seq, []⟩, none, 0, false), ⟨fun h => (by cases h), fun _ => made_bad (by unfold refBad; omega)⟩, rfl, by have hw := hw.viewK_nil 2 txE; exact hw.f⟩
  ·skip
   refine T.y (fun w hw => Yl.fa fa_31_4 rfl) rfl rfl ?_
   refine T.y (fun w hw => Yl.ldP hw na_23 rfl mM rfl) rfl rfl ?_
   refine T.y (fun w hw => Yl.len Try.underlying23 rfl) rfl rfl ?_
   refine T.y (fun w hw => Yl.move rfl) rfl rfl ?_
   refine T.y (fun w hw => Yl.mul rfl rfl (by omega)) rfl rfl ?_
   refine T.y (fun w hw => Yl.add rfl rfl (by omega)) rfl rfl ?_
   refine T.y (fun w hw => Yl.neq rfl rfl) rfl rfl ?_
   refine T.y (fun w hw => Yl.pickF rfl rfl) rfl rfl ?_
   refine T.y (fun w hw => Yl.move rfl) rfl rfl ?_
   refine T.splitD 48 rfl (fun h48 => ?_) (fun h48 => ?_)
   ·skip
    refine T.off rfl rfl rfl ?_
    refine T.off rfl rfl rfl ?_
    refine T.y (fun w hw => Yl.pickT rfl rfl) rfl rfl ?_
    refine T.nil ?_
    refine J.sel (.cons 0 rfl (.cons 3 rfl (.cons 4 rfl (.cons 6 rfl (.cons 7 rfl (.cons 9 rfl (.cons 51 rfl .nil))))))) ?_
    refine X.then_ ?_
    refine T.condT rfl ?_
    refine T.seq ?_
    -- region 7 (txn.go:613)
    refine T.region ?_
    refine T.y (fun w hw => Yl.ldaP hw ag_55 rfl mM sU) rfl rfl ?_
    refine T.o0 (OpW.stA sz_55 rfl rfl rfl rfl sW uL) rfl (fun _ _ => ?_)
    refine T.y (fun w hw => Yl.assign rfl) rfl rfl ?_
    refine T.nil ?_
    refine J.sel (.cons 4 rfl (.cons 5 rfl .nil)) ?_
    refine X.then_ ?_
    refine T.ret ?_
    refine X.ret_then ?_
    refine X.retCT Try.results120 ag_55 rfl rfl mM sU (fun w hw => ?_)
    exact ⟨(⟨cb.seq, []⟩, none, 0, false), ⟨fun h => (by cases h), fun _ => made_bad (by unfold refBad; omega)⟩, rfl, by have hw := hw.viewK_nil 2 txE; exact hw.f⟩
   ·skip
    refine T.y (fun w hw => Yl.move rfl) rfl rfl ?_
    refine T.y (fun w hw => Yl.gtr rfl rfl) rfl rfl ?_
    refine T.y (fun w hw => Yl.pickF rfl rfl) rfl rfl ?_
    refine T.nil ?_
    refine J.sel (.cons 0 rfl (.cons 3 rfl (.cons 4 rfl (.cons 6 rfl (.cons 7 rfl (.cons 9 rfl (.cons 51 rfl .nil))))))) ?_
    refine X.then_ ?_
    refine T.condD rfl (fun h51 => ?_) (fun h51 => ?_)
    ·skip
     refine T.seq ?_
     -- region 7 (txn.go:613)
     refine T.region ?_
     refine T.y (fun w hw => Yl.ldaP hw ag_55 rfl mM sU) rfl rfl ?_
     refine T.o0 (OpW.stA sz_55 rfl rfl rfl rfl sW uL) rfl (fun _ _ => ?_)
     refine T.y (fun w hw => Yl.assign rfl) rfl rfl ?_
     refine T.nil ?_
     refine J.sel (.cons 4 rfl (.cons 5 rfl .nil)) ?_
     refine X.then_ ?_
     refine T.ret ?_
     refine X.ret_then ?_
     refine X.retCT Try.results120 ag_55 rfl rfl mM sU (fun w hw => ?_)
     exact ⟨(⟨cb.seq, []⟩, none, 0, false), ⟨fun h => (by cases h), fun _ => made_bad (by unfold refBad; omega)⟩, rfl, by have hw := hw.viewK_nil 2 txE; exact hw.f⟩
    ·skip
     refine T.skip ?_
     refine X.then_ ?_
     refine T.seq ?_
     have hlen : cb.body.length = 9 + 3 * n := by omega
     have hgo0 := made_go (data := data) (c := cb) (by omega) (by unfold refBad; omega)
     rw [hn8] at hgo0
     have hs2 : (stepsB cb.body).length = 2 * n := by unfold stepsB; rw [hn8, List.length_take, List.length_drop]; omega
     have hc2 : (countsB cb.body).length = n := by unfold countsB; rw [hn8, List.length_drop]; omega
     have hsB : IsB (stepsB cb.body) := by unfold stepsB; exact (hB.drop 9).take _
     have hcB : IsB (countsB cb.body) := by unfold countsB; exact hB.drop _
     have hpl : (data.map putOf).length = data.length := List.length_map _
     -- region 8 (txn.go:615)
     refine T.region ?_
     refine T.y (fun w hw => Yl.move rfl) rfl rfl ?_
     refine T.y (fun w hw => Yl.conv Try.underlying127 Try.underlying3 rfl (cv_i64 (by omega))) rfl rfl ?_
     refine T.y (fun w hw => Yl.assign rfl) rfl rfl ?_
     refine T.nil ?_
     refine J.sel (.cons 0 rfl (.cons 3 rfl (.cons 4 rfl (.cons 6 rfl (.cons 9 rfl (.cons 10 rfl .nil)))))) ?_
     refine X.then_ ?_
     refine T.seq ?_
     -- region 9 (txn.go:616)
     refine T.region ?_
     refine T.y (fun w hw => Yl.assign rfl) rfl rfl ?_
     refine T.nil ?_
     refine X.then_ ?_
     refine T.seq ?_
     refine T.seq ?_
     refine J.ent (fun w hw => hw.view_nil 58 2 txE) ?_
     -- region 10 (txn.go:617)
     refine T.region ?_
     refine T.y (fun w hw => Yl.assign rfl) rfl rfl ?_
     refine T.nil ?_
     refine X.then_ ?_
     refine T.block ?_
     refine T.loop (α := Nat × Int × Nat × (Option Addr × Nat × List TxL)) (fun u => u.1 ≤ n ∧ u.2.2.2.2.2.length = u.1 ∧ u.2.2.1 ≤ data.length ∧ 0 ≤ u.2.1 ∧ u.2.1 ≤ 1099511627776 + (u.1 : Int) * 65535 ∧ refGo (stepsB cb.body) (countsB cb.body) n 0 (ge (cb.body.take 8)) (data.map putOf) [] = refGo (stepsB cb.body) (countsB cb.body) (n - u.1) u.1 u.2.1 ((data.map putOf).drop u.2.2.1) u.2.2.2.2.2) (fun u => [(10, .int .i64 u.2.1), (11, .int .i64 (u.2.2.1 : Int)), (12, .int .i64 (u.1 : Int)), (0, .slice A data.length c), (3, ptr b3 0), (4, ptr b4 0), (6, ptr b6 0), (9, .int .i64 (n : Int))]) (fun u => viewH 58 2 txE u.2.2.2.1 u.2.2.2.2.1 u.2.2.2.2.2 :: pt b6 55 [.int .i64 cb.seq, .slice u.2.2.2.1 u.2.2.2.2.2.length u.2.2.2.2.1] :: pt b3 31 [.int .i64 cb.kind, .int .i64 cb.epoch, .int .i64 cb.seq, .int .i64 cb.lba, .slice B cb.body.length kb] :: pt b4 55 [.int .i64 0, .slice none 0 0] :: M) (fun u => K) (fun u => n - u.1) (0, ge (cb.body.take 8), 0, none, 0, []) ⟨Nat.zero_le _, rfl, Nat.zero_le _, hge.1, by dsimp only; omega, rfl⟩ (.num 10 rfl rfl (.num 11 rfl rfl (.num 12 rfl rfl (.cons 0 rfl (.cons 3 rfl (.cons 4 rfl (.cons 6 rfl (.cons 9 rfl .nil)))))))) (fun w hw => hw.f) ?_
     intro ⟨i, tm, a, At, ct, acc⟩ ⟨hi, hal, ha, hT0, hT1, hgo⟩ Zk hzo
     dsimp only at hi hal ha hT0 hT1 hgo hzo ⊢
     refine T.seq ?_
     refine T.seq ?_
     -- region 11 (txn.go:617)
     refine T.region ?_
     refine T.y (fun w hw => Yl.move rfl) rfl rfl ?_
     refine T.y (fun w hw => Yl.move rfl) rfl rfl ?_
     refine T.y (fun w hw => Yl.lss rfl rfl) rfl rfl ?_
     refine T.nil ?_
     refine J.sel (.cons 0 rfl (.cons 3 rfl (.cons 4 rfl (.cons 6 rfl (.cons 9 rfl (.cons 10 rfl (.cons 11 rfl (.cons 12 rfl (.cons 57 rfl .nil))))))))) ?_
     refine X.then_ ?_
     refine T.condD rfl (fun h57 => ?_) (fun h57 => ?_)
     ·skip
      refine T.skip ?_
      refine X.then_ ?_
      refine T.seq ?_
      refine T.block ?_
      refine T.seq ?_
      have hst := rd_b (stepsB cb.body) (2 * i) (by omega) hsB
      have hst2 := rd_b (stepsB cb.body) (2 * i + 1) (by omega) hsB
      have hso : stepOf (stepsB cb.body) i = rd (stepsB cb.body) ((2 * i : Nat) : Int) + rd (stepsB cb.body) ((2 * i + 1 : Nat) : Int) * 256 := rfl
      have c1 := rd_b (countsB cb.body) i (by omega) hcB
      obtain ⟨k, hk⟩ : ∃ k : Nat, rd (countsB cb.body) (i : Nat) = k := ⟨(rd (countsB cb.body) (i : Nat)).toNat, by omega⟩
      have hkn : (rd (countsB cb.body) (i : Nat)).toNat = k := by rw [hk]; simp
      refine J.ent (fun w hw => hw.bytes_cut (xs := cb.body) (A := B) (c := kb) mM (9 + 2 * i) cb.body.length (by omega) (Nat.le_refl _)) ?_
      -- region 13 (txn.go:618)
      refine T.region ?_
      refine T.y (fun w hw => Yl.fa fa_31_4 rfl) rfl rfl ?_
      refine T.y (fun w hw => Yl.ldP hw na_23 rfl mM rfl) rfl rfl ?_
      refine T.y (fun w hw => Yl.move rfl) rfl rfl ?_
      refine T.y (fun w hw => Yl.mul rfl rfl (by omega)) rfl rfl ?_
      refine T.y (fun w hw => Yl.add rfl rfl (by omega)) rfl rfl ?_
      refine T.y (fun w hw => Yl.slLo Try.underlying23 sz_5 rfl rfl (l := 9 + 2 * i) (by push_cast; omega) (by omega) (by omega)) rfl rfl ?_
      refine T.o (OpW.call en_102 rfl (get6_ct (A := slA B kb (9 + 2 * i) 1) (c := kb - (9 + 2 * i)) (xs := (cb.body.drop (9 + 2 * i)).take (cb.body.length - (9 + 2 * i))) (n := 2) mM (by simp) rfl (by omega) (by simp; omega))) rfl rfl (fun _ _ => ?_)
      rw [step_ge hn8 hlen (show i < n by omega)]
      refine T.y (fun w hw => Yl.move rfl) rfl rfl ?_
      refine T.y (fun w hw => Yl.extract rfl rfl) rfl rfl ?_
      refine T.y (fun w hw => Yl.extract rfl rfl) rfl rfl ?_
      refine T.y (fun w hw => Yl.assign rfl) rfl rfl ?_
      refine T.y (fun w hw => Yl.assign rfl) rfl rfl ?_
      refine T.nil ?_
      refine J.sel (.cons 0 rfl (.cons 3 rfl (.cons 4 rfl (.cons 6 rfl (.cons 9 rfl (.cons 10 rfl (.cons 11 rfl (.cons 12 rfl (.cons 13 rfl .nil))))))))) ?_
      refine X.then_ ?_
      refine T.seq ?_
      -- region 14 (txn.go:619)
      refine T.region ?_
      refine T.y (fun w hw => Yl.move rfl) rfl rfl ?_
      refine T.y (fun w hw => Yl.move rfl) rfl rfl ?_
      refine T.y (fun w hw => Yl.conv Try.underlying127 Try.underlying3 rfl (cv_i64 (by omega))) rfl rfl ?_
      refine T.y (fun w hw => Yl.add rfl rfl (by omega)) rfl rfl ?_
      refine T.y (fun w hw => Yl.assign rfl) rfl rfl ?_
      refine T.nil ?_
      refine J.sel (.cons 0 rfl (.cons 3 rfl (.cons 4 rfl (.cons 6 rfl (.cons 9 rfl (.cons 10 rfl (.cons 11 rfl (.cons 12 rfl .nil)))))))) ?_
      refine X.then_ ?_
      refine T.seq ?_
      -- region 15 (txn.go:620)
      refine T.region ?_
      refine T.y (fun w hw => Yl.move rfl) rfl rfl ?_
      refine T.y (fun w hw => Yl.build rfl (bld_58_0 _)) rfl rfl ?_
      refine T.o (OpW.alloc zr_58) rfl rfl (fun b15 _ => ?_)
      refine T.o0 (OpW.stA sz_58 rfl rfl rfl rfl sW uL) rfl (fun _ _ => ?_)
      refine T.nil ?_
      refine J.sel (.cons 0 rfl (.cons 3 rfl (.cons 4 rfl (.cons 6 rfl (.cons 9 rfl (.cons 10 rfl (.cons 11 rfl (.cons 12 rfl (.cons 15 rfl .nil))))))))) ?_
      refine X.then_ ?_
      refine T.seq ?_
      -- region 16 (txn.go:621)
      refine T.region ?_
      refine T.y (fun w hw => Yl.fa fa_31_4 rfl) rfl rfl ?_
      refine T.y (fun w hw => Yl.ldP hw na_23 rfl mM rfl) rfl rfl ?_
      refine T.y (fun w hw => Yl.move rfl) rfl rfl ?_
      refine T.y (fun w hw => Yl.mul rfl rfl (by omega)) rfl rfl ?_
      refine T.y (fun w hw => Yl.add rfl rfl (by omega)) rfl rfl ?_
      refine T.y (fun w hw => Yl.move rfl) rfl rfl ?_
      refine T.y (fun w hw => Yl.add rfl rfl (by omega)) rfl rfl ?_
      refine T.y (fun w hw => Yl.ia1 (i := 9 + 2 * n + i) sC Try.underlying23 isz_5 rfl rfl (by push_cast; omega) (by omega)) rfl rfl ?_
      refine T.y (fun w hw => (by first | exact Yl.ldB hw mM na_5 rfl (by omega) | exact Yl.ldC hw na_5 rfl mM | exact Yl.ldR sC na_5 rfl (by assumption) | exact Yl.ldV hw na_5 rfl mM rfl)) rfl rfl ?_
      rw [count_rd hn8 hlen (show i < n by omega), hk]
      refine T.y (fun w hw => Yl.conv Try.underlying5 Try.underlying3 rfl (cv_i64 (by omega))) rfl rfl ?_
      refine T.y (fun w hw => Yl.assign rfl) rfl rfl ?_
      refine T.nil ?_
      refine J.sel (.cons 0 rfl (.cons 3 rfl (.cons 4 rfl (.cons 6 rfl (.cons 9 rfl (.cons 10 rfl (.cons 11 rfl (.cons 12 rfl (.cons 15 rfl (.cons 16 rfl .nil)))))))))) ?_
      refine X.then_ ?_
      refine T.seq ?_
      refine T.seq ?_
      -- region 17 (txn.go:622)
      refine T.region ?_
      refine T.y (fun w hw => Yl.move rfl) rfl rfl ?_
      refine T.y (fun w hw => Yl.move rfl) rfl rfl ?_
      refine T.y (fun w hw => Yl.len Try.underlying167 rfl) rfl rfl ?_
      refine T.y (fun w hw => Yl.move rfl) rfl rfl ?_
      refine T.y (fun w hw => Yl.sub rfl rfl (by omega)) rfl rfl ?_
      refine T.y (fun w hw => Yl.gtr rfl rfl) rfl rfl ?_
      refine T.nil ?_
      refine J.sel (.cons 0 rfl (.cons 3 rfl (.cons 4 rfl (.cons 6 rfl (.cons 9 rfl (.cons 10 rfl (.cons 11 rfl (.cons 12 rfl (.cons 15 rfl (.cons 16 rfl (.cons 91 rfl .nil))))))))))) ?_
      refine X.then_ ?_
      refine T.condD rfl (fun h91 => ?_) (fun h91 => ?_)
      ·skip
       refine T.seq ?_
       -- region 18 (txn.go:623)
       refine T.region ?_
       refine T.y (fun w hw => Yl.ldaP hw ag_55 rfl mM sU) rfl rfl ?_
       refine T.o0 (OpW.stA sz_55 rfl rfl rfl rfl sW uL) rfl (fun _ _ => ?_)
       refine T.y (fun w hw => Yl.assign rfl) rfl rfl ?_
       refine T.nil ?_
       refine J.sel (.cons 4 rfl (.cons 5 rfl .nil)) ?_
       refine X.then_ ?_
       refine T.ret ?_
       refine X.ret_then ?_
       refine X.ret_blk ?_
       refine X.ret_then ?_
       refine X.ret_then ?_
       refine X.ret_blk ?_
       refine X.ret_then ?_
       refine X.retCT Try.results120 ag_55 rfl rfl mM sU (fun w hw => ?_)
       refine ⟨(⟨cb.seq, acc⟩, At, ct, false), ⟨fun h => (by cases h), fun _ => ?_⟩, rfl, by have hw := Hold.view_freeze (e := 58) (sz := 2) (el := txE) (A := At) (c := ct) (xs := acc) (hw.pick pK); exact hw.f⟩
       rw [hgo0, hgo, show n - i = n - (i + 1) + 1 by omega, refGo_no (by rw [hkn, List.length_drop]; omega)]; rfl
      ·skip
       refine T.skip ?_
       refine X.then_ ?_
       refine T.seq ?_
       refine T.seq ?_
       refine J.ent (fun w hw => hw.view_nil 61 2 putE) ?_
       -- region 19 (txn.go:625)
       refine T.region ?_
       refine T.y (fun w hw => Yl.assign rfl) rfl rfl ?_
       refine T.nil ?_
       refine J.sel (.cons 0 rfl (.cons 3 rfl (.cons 4 rfl (.cons 6 rfl (.cons 9 rfl (.cons 10 rfl (.cons 11 rfl (.cons 12 rfl (.cons 15 rfl (.cons 16 rfl (.cons 17 rfl .nil))))))))))) ?_
       refine X.then_ ?_
       refine T.block ?_
       refine T.loop (α := Nat × Option Addr × Nat) (fun u => u.1 ≤ k) (fun u => [(11, .int .i64 ((a + u.1 : Nat) : Int)), (17, .int .i64 (u.1 : Int)), (0, .slice A data.length c), (3, ptr b3 0), (4, ptr b4 0), (6, ptr b6 0), (9, .int .i64 (n : Int)), (10, .int .i64 (tm + stepOf (stepsB cb.body) i)), (12, .int .i64 (i : Int)), (15, ptr b15 0), (16, .int .i64 (k : Int))]) (fun u => pt b15 58 [.int .i64 (tm + stepOf (stepsB cb.body) i), .slice u.2.1 (((data.map putOf).drop a).take u.1).length u.2.2] :: viewH 61 2 putE u.2.1 u.2.2 (((data.map putOf).drop a).take u.1) :: viewH 58 2 txE At ct acc :: pt b6 55 [.int .i64 cb.seq, .slice At acc.length ct] :: pt b3 31 [.int .i64 cb.kind, .int .i64 cb.epoch, .int .i64 cb.seq, .int .i64 cb.lba, .slice B cb.body.length kb] :: pt b4 55 [.int .i64 0, .slice none 0 0] :: M) (fun u => K) (fun u => k - u.1) (0, none, 0) (Nat.zero_le _) (.num 11 rfl (by omega) (.num 17 rfl rfl (.cons 0 rfl (.cons 3 rfl (.cons 4 rfl (.cons 6 rfl (.cons 9 rfl (.cons 10 rfl (.cons 12 rfl (.cons 15 rfl (.cons 16 rfl .nil))))))))))) (fun w hw => by dsimp only; rw [List.take_zero]; exact hw.f) ?_
       intro ⟨j, Ap, cp⟩ hj Zk hz2
       dsimp only at hj hz2 ⊢
       refine T.seq ?_
       refine T.seq ?_
       -- region 20 (txn.go:625)
       refine T.region ?_
       refine T.y (fun w hw => Yl.move rfl) rfl rfl ?_
       refine T.y (fun w hw => Yl.move rfl) rfl rfl ?_
       refine T.y (fun w hw => Yl.lss rfl rfl) rfl rfl ?_
       refine T.nil ?_
       refine J.sel (.cons 0 rfl (.cons 3 rfl (.cons 4 rfl (.cons 6 rfl (.cons 9 rfl (.cons 10 rfl (.cons 11 rfl (.cons 12 rfl (.cons 15 rfl (.cons 16 rfl (.cons 17 rfl (.cons 95 rfl .nil)))))))))))) ?_
       refine X.then_ ?_
       refine T.condD rfl (fun h95 => ?_) (fun h95 => ?_)
       ·skip
        refine T.skip ?_
        refine X.then_ ?_
        refine T.seq ?_
        refine T.block ?_
        refine T.seq ?_
        obtain ⟨d, hdd⟩ : ∃ d, data[a + j]? = some d := ⟨_, List.getElem?_eq_getElem (by omega)⟩
        refine J.open_ (fun w hw => hw.blk_at (bs := data) (A := A) (c := c) mM hdd) ?_
        rintro ⟨Ad, cd⟩ -
        dsimp only
        have hpl2 : (((data.map putOf).drop a).take j).length ≤ 100000 := by rw [List.length_take]; omega
        have hps : (((data.map putOf).drop a).take j) ++ [putOf d] = (((data.map putOf).drop a).take (j + 1)) := by
          have h1 : ((data.map putOf).drop a)[j]? = some (putOf d) := by rw [List.getElem?_drop, List.getElem?_map, hdd]; rfl
          obtain ⟨h2, h3⟩ := List.getElem?_eq_some_iff.1 h1
          rw [List.take_succ_eq_append_getElem h2, h3]
        -- region 22 (txn.go:626)
        refine Dr.start1 [16] (p := viewH 61 2 putE Ap cp (((data.map putOf).drop a).take j)) pK ?_
        refine Dr.take 0 rfl (by kernel_rfl) bL sS (fun w hs => have hw := hs.h; Yl.fa fa_58_1 rfl) rfl rfl ?_
        refine Dr.take 1 rfl (by kernel_rfl) bL sS (fun w hs => have hw := hs.h; Yl.ldP hw na_56 rfl mM rfl) rfl rfl ?_
        refine Dr.take 2 rfl (by kernel_rfl) bL sS (fun w hs => have hw := hs.h; Yl.move rfl) rfl rfl ?_
        refine Dr.take 3 rfl (by kernel_rfl) bL sS (fun w hs => have hw := hs.h; Yl.move rfl) rfl rfl ?_
        refine Dr.take 4 rfl (by kernel_rfl) bL sS (fun w hs => have hw := hs.h; (by first | exact Yl.iaV (i := a + j) hw mM Try.underlying167 isz_31 rfl rfl rfl (by omega) | exact Yl.ia (i := a + j) Try.underlying167 isz_31 rfl rfl rfl (by omega) sC)) rfl rfl ?_
        refine Dr.take 5 rfl (by kernel_rfl) bL sS (fun w hs => have hw := hs.h; Yl.fae fa_31_3 rfl) rfl rfl ?_
        refine Dr.take 6 rfl (by kernel_rfl) bL sS (fun w hs => have hw := hs.h; (by first | exact Yl.ldC hw na_3 rfl mM | exact Yl.ldI hw mM na_3 rfl (by omega) | exact Yl.ldR sC na_3 rfl (by assumption) | exact Yl.ldV hw na_3 rfl mM rfl)) rfl rfl ?_
        refine Dr.take 7 rfl (by kernel_rfl) bL sS (fun w hs => have hw := hs.h; Yl.move rfl) rfl rfl ?_
        refine Dr.take 8 rfl (by kernel_rfl) bL sS (fun w hs => have hw := hs.h; Yl.move rfl) rfl rfl ?_
        refine Dr.take 9 rfl (by kernel_rfl) bL sS (fun w hs => have hw := hs.h; (by first | exact Yl.iaV (i := a + j) hw mM Try.underlying167 isz_31 rfl rfl rfl (by omega) | exact Yl.ia (i := a + j) Try.underlying167 isz_31 rfl rfl rfl (by omega) sC)) rfl rfl ?_
        refine Dr.take 10 rfl (by kernel_rfl) bL sS (fun w hs => have hw := hs.h; Yl.fae fa_31_4 rfl) rfl rfl ?_
        refine Dr.take 11 rfl (by kernel_rfl) bL sS (fun w hs => have hw := hs.h; (by first | exact Yl.ldC hw na_23 rfl mM | exact Yl.ldR sC na_23 rfl (by assumption) | exact Yl.ldV hw na_23 rfl mM rfl)) rfl rfl ?_
        refine Dr.take 12 rfl (by kernel_rfl) bL sS (fun w hs => have hw := hs.h; Yl.build rfl (bld_61_0_1 _)) rfl rfl ?_
        refine Dr.act 13 rfl (by kernel_rfl) rfl (OpW.bsl (sz := 2) rfl bsl_56_1 rfl rfl) rfl rfl (fun _ _ _ => sS) (fun b111 _ => ?_)
        refine J.ent (fun w hw => hw.putE' (A := Ad) (c := cd) (p := putOf d) mM rfl) ?_
        refine J.ent (fun w hw => Hold.view_lit (e := 61) (sz := 2) (el := putE) (x := putOf d) (vs := [.int .i64 (putOf d).lba, .slice Ad (putOf d).data.length cd]) (A := some ⟨b111, 0, none⟩) (c := 1) (hw.pick pK) rfl mM) ?_
        refine Dr.act 14 rfl (by kernel_rfl) rfl (OpW.appV (el := putE) (ys := [putOf d]) Try.underlying56 inf_61 rfl rfl rfl rfl mM putE_one pK (by constructor <;> simp <;> omega)) rfl rfl (fun _ _ _ => sS) (fun ⟨A112, c112⟩ _ => ?_)
        dsimp only
        refine Dr.take 15 rfl (by kernel_rfl) bL sS (fun w hs => have hw := hs.h; Yl.fa fa_58_1 rfl) rfl rfl ?_
        refine Dr.act0 16 rfl (by kernel_rfl) rfl (OpW.st1 sz_56 rfl rfl rfl rfl sW uP) rfl (fun hB => absurd (List.elem_iff.1 rfl) hB) (fun _ _ => ?_)
        refine Dr.done (by kernel_rfl) ?_
        refine J.sel (.cons 0 rfl (.cons 3 rfl (.cons 4 rfl (.cons 6 rfl (.cons 9 rfl (.cons 10 rfl (.cons 11 rfl (.cons 12 rfl (.cons 15 rfl (.cons 16 rfl (.cons 17 rfl .nil))))))))))) ?_
        refine X.then_ ?_
        -- region 23 (txn.go:627)
        refine T.region ?_
        refine T.y (fun w hw => Yl.move rfl) rfl rfl ?_
        refine T.y (fun w hw => Yl.add rfl rfl (by omega)) rfl rfl ?_
        refine T.y (fun w hw => Yl.assign rfl) rfl rfl ?_
        refine T.nil ?_
        refine J.sel (.cons 0 rfl (.cons 3 rfl (.cons 4 rfl (.cons 6 rfl (.cons 9 rfl (.cons 10 rfl (.cons 11 rfl (.cons 12 rfl (.cons 15 rfl (.cons 16 rfl (.cons 17 rfl .nil))))))))))) ?_
        refine X.nm_blk ?_
        refine X.then_ ?_
        -- region 21 (txn.go:625)
        refine T.region ?_
        refine T.y (fun w hw => Yl.move rfl) rfl rfl ?_
        refine T.y (fun w hw => Yl.add rfl rfl (by omega)) rfl rfl ?_
        refine T.y (fun w hw => Yl.assign rfl) rfl rfl ?_
        refine T.nil ?_
        refine J.sel (.cons 0 rfl (.cons 3 rfl (.cons 4 rfl (.cons 6 rfl (.cons 9 rfl (.cons 10 rfl (.cons 11 rfl (.cons 12 rfl (.cons 15 rfl (.cons 16 rfl (.cons 17 rfl .nil))))))))))) ?_
        refine X.go (hz2 (j + 1, A112, c112) (by dsimp only; omega) (by dsimp only; omega)) (.num 11 rfl (by omega) (.num 17 rfl (by omega) (.cons 0 rfl (.cons 3 rfl (.cons 4 rfl (.cons 6 rfl (.cons 9 rfl (.cons 10 rfl (.cons 12 rfl (.cons 15 rfl (.cons 16 rfl .nil))))))))))) (fun w hw => ?_)
        dsimp only
        rw [← hps]
        exact hw.f
       ·skip
        refine T.exit ?_
        refine X.exit_then ?_
        refine X.exit_then ?_
        refine X.exit_blk ?_
        refine X.then_ ?_
        obtain rfl : k = j := by omega
        refine J.ent (fun w hw => Hold.view_freeze (e := 61) (sz := 2) (el := putE) (A := Ap) (c := cp) (xs := (((data.map putOf).drop a).take k)) (hw.pick pK)) ?_
        -- region 24 (txn.go:629)
        refine T.region ?_
        refine T.y (fun w hw => Yl.fa fa_55_1 rfl) rfl rfl ?_
        refine T.y (fun w hw => Yl.ldP hw na_53 rfl mM rfl) rfl rfl ?_
        refine T.y (fun w hw => Yl.ldaP hw ag_58 rfl mM sU) rfl rfl ?_
        refine T.o (OpW.bsl (sz := 2) rfl bsl_53_1 rfl rfl) rfl rfl (fun b119 _ => ?_)
        refine J.ent (fun w hw => hw.txE' (A := Ap) (c := cp) (t := ⟨(tm + stepOf (stepsB cb.body) i), (((data.map putOf).drop a).take k)⟩) mM rfl) ?_
        refine J.ent (fun w hw => Hold.view_lit (e := 58) (sz := 2) (el := txE) (x := ⟨(tm + stepOf (stepsB cb.body) i), (((data.map putOf).drop a).take k)⟩) (vs := [.int .i64 (tm + stepOf (stepsB cb.body) i), .slice Ap (((data.map putOf).drop a).take k).length cp]) (A := some ⟨b119, 0, none⟩) (c := 1) (hw.pick pK) rfl mM) ?_
        refine T.o (OpW.appV (el := txE) (ys := [⟨(tm + stepOf (stepsB cb.body) i), (((data.map putOf).drop a).take k)⟩]) Try.underlying53 inf_58 rfl rfl rfl rfl mM txE_one pK (by constructor <;> simp <;> omega)) rfl rfl (fun ⟨A120, c120⟩ _ => ?_)
        dsimp only
        refine T.y (fun w hw => Yl.fa fa_55_1 rfl) rfl rfl ?_
        refine T.o0 (OpW.st1 sz_53 rfl rfl rfl rfl sW uP) rfl (fun _ _ => ?_)
        refine T.nil ?_
        refine J.sel (.cons 0 rfl (.cons 3 rfl (.cons 4 rfl (.cons 6 rfl (.cons 9 rfl (.cons 10 rfl (.cons 11 rfl (.cons 12 rfl .nil)))))))) ?_
        refine X.nm_blk ?_
        refine X.then_ ?_
        -- region 12 (txn.go:617)
        refine T.region ?_
        refine T.y (fun w hw => Yl.move rfl) rfl rfl ?_
        refine T.y (fun w hw => Yl.add rfl rfl (by omega)) rfl rfl ?_
        refine T.y (fun w hw => Yl.assign rfl) rfl rfl ?_
        refine T.nil ?_
        refine J.sel (.cons 0 rfl (.cons 3 rfl (.cons 4 rfl (.cons 6 rfl (.cons 9 rfl (.cons 10 rfl (.cons 11 rfl (.cons 12 rfl .nil)))))))) ?_
        have hgo' : refGo (stepsB cb.body) (countsB cb.body) (n - i) i tm ((data.map putOf).drop a) acc = refGo (stepsB cb.body) (countsB cb.body) (n - (i + 1)) (i + 1) (tm + stepOf (stepsB cb.body) i) ((data.map putOf).drop (a + k)) (acc ++ [⟨(tm + stepOf (stepsB cb.body) i), (((data.map putOf).drop a).take k)⟩]) := by
          rw [show n - i = n - (i + 1) + 1 by omega, refGo_on (by rw [hkn, List.length_drop]; omega), hkn, List.drop_drop]
        refine X.go (hzo (i + 1, (tm + stepOf (stepsB cb.body) i), a + k, A120, c120, acc ++ [⟨(tm + stepOf (stepsB cb.body) i), (((data.map putOf).drop a).take k)⟩]) ⟨by dsimp only; omega, by simp [hal], by dsimp only; omega, by dsimp only; omega, by dsimp only; omega, by dsimp only; rw [hgo, hgo']⟩ (by dsimp only; omega)) (.num 10 rfl rfl (.num 11 rfl rfl (.num 12 rfl (by omega) (.cons 0 rfl (.cons 3 rfl (.cons 4 rfl (.cons 6 rfl (.cons 9 rfl .nil)))))))) (fun w hw => ?_)
        dsimp only
        exact hw.f
     ·skip
      refine T.exit ?_
      refine X.exit_then ?_
      refine X.exit_then ?_
      refine X.exit_blk ?_
      refine X.then_ ?_
      refine T.seq ?_
      have hin : i = n := by omega
      subst hin
      rw [Nat.sub_self] at hgo
      -- region 25 (txn.go:631)
      refine T.region ?_
      refine T.y (fun w hw => Yl.ldaP hw ag_55 rfl mM sU) rfl rfl ?_
      refine T.y (fun w hw => Yl.move rfl) rfl rfl ?_
      refine T.y (fun w hw => Yl.move rfl) rfl rfl ?_
      refine T.y (fun w hw => Yl.len Try.underlying167 rfl) rfl rfl ?_
      refine T.y (fun w hw => Yl.eql rfl rfl) rfl rfl ?_
      refine T.o0 (OpW.stA sz_55 rfl rfl rfl rfl sW uL) rfl (fun _ _ => ?_)
      refine T.y (fun w hw => Yl.assign rfl) rfl rfl ?_
      refine T.nil ?_
      refine J.sel (.cons 4 rfl (.cons 5 rfl .nil)) ?_
      refine X.then_ ?_
      refine T.ret ?_
      refine X.retCT Try.results120 ag_55 rfl rfl mM sU (fun w hw => ?_)
      refine ⟨(⟨cb.seq, acc⟩, At, ct, decide ((a : Int) = (data.length : Int))), ⟨fun h => ?_, fun h => ?_⟩, rfl, by have hw := Hold.view_freeze (e := 58) (sz := 2) (el := txE) (A := At) (c := ct) (xs := acc) (hw.pick pK); exact hw.f⟩
      · have h1 := of_decide_eq_true h
        rw [hgo0, hgo]
        show refEnd cb.seq (some (acc, (data.map putOf).drop a)) = _
        unfold refEnd; simp only; rw [if_pos (by rw [List.length_drop]; omega)]
      · have h1 := of_decide_eq_false h
        rw [hgo0, hgo]
        show refEnd cb.seq (some (acc, (data.map putOf).drop a)) = _
        unfold refEnd; simp only; rw [if_neg (by rw [List.length_drop]; omega)]

end Go.Proofs.Ytfpnodboebpemaa
