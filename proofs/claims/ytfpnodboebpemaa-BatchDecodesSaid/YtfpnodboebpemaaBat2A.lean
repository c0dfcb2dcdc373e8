/- The contract of batch.Encode. -/
import Derived.Test.YtfpnodboebpemaaBat2
namespace Go.Proofs.Ytfpnodboebpemaa
open Go.RowKit Go.Proofs.YtfpnodboebpemaaW.PrintWords
set_option linter.unusedVariables false
set_option linter.unusedSimpArgs false
attribute [local irreducible] pt rowH slK bytesK intsK rowsK rowsH cellK rowsV oldK star exH pureH knowH starL emp devH zoneH zonesH zrest cellsK viewV viewK viewH putE txE batE

set_option maxHeartbeats 4000000 in
theorem encode_b_ct {M : List HP} {K : List KP} {A : Option Addr} {c : Nat} {b : BatL} {ep : Int} (hb : viewK 2 txE A c b.txs ∈ K) : Fn 45 [.agg [.int .i64 b.num, .slice A b.txs.length c].toArray, .int .i64 ep] M K (fun _ : Option Addr × Nat => True) (fun r => .tuple [.slice r.1 (encR b ep).length r.2, .int .i64 (encE b ep)].toArray) (fun _ => M) (fun r => rowsK r.1 r.2 (encR b ep) :: K) := by
 refine Fn.of (n := 122) Try.func45 rfl Try.ntmps45 rfl ?_
 refine T.seq ?_
 -- region 0 (batch.go:61)
 refine T.region ?_
 refine T.o (OpW.box rfl) rfl rfl (fun b2 _ => ?_)
 refine T.y (fun w hw => Yl.assign rfl) rfl rfl ?_
 refine T.y (fun w hw => Yl.assign rfl) rfl rfl ?_
 refine T.nil ?_
 refine J.sel (.cons 1 rfl (.cons 2 rfl (.cons 4 rfl .nil))) ?_
 refine X.then_ ?_
 refine T.seq ?_
 refine T.seq ?_
 -- region 1 (batch.go:62)
 refine T.region ?_
 refine T.y (fun w hw => Yl.ldaP hw ag_55 rfl mM sU) rfl rfl ?_
 refine T.o (OpW.call en_46 rfl (check_ct mM)) rfl rfl (fun x hx => ?_)
 refine T.y (fun w hw => Yl.neq rfl rfl) rfl rfl ?_
 refine T.y (fun w hw => Yl.move rfl) rfl rfl ?_
 refine T.splitD 23 rfl (fun h23 => ?_) (fun h23 => ?_)
 ·skip
  refine T.off rfl rfl rfl ?_
  refine T.off rfl rfl rfl ?_
  refine T.y (fun w hw => Yl.pickT rfl rfl) rfl rfl ?_
  refine T.y (fun w hw => Yl.move rfl) rfl rfl ?_
  refine T.off rfl rfl rfl ?_
  refine T.off rfl rfl rfl ?_
  refine T.y (fun w hw => Yl.pickT rfl rfl) rfl rfl ?_
  refine T.nil ?_
  refine J.sel (.cons 1 rfl (.cons 2 rfl (.cons 4 rfl (.cons 30 rfl .nil)))) ?_
  refine X.then_ ?_
  refine T.condT rfl ?_
  refine T.seq ?_
  -- region 2 (batch.go:63)
  refine T.region ?_
  refine T.y (fun w hw => Yl.assign rfl) rfl rfl ?_
  refine T.y (fun w hw => Yl.assign rfl) rfl rfl ?_
  refine T.nil ?_
  refine J.sel (.cons 4 rfl (.cons 5 rfl .nil)) ?_
  refine X.then_ ?_
  refine T.ret ?_
  refine X.ret_then ?_
  refine X.ret2 Try.results45 rfl rfl (fun w hw => ?_)
  have hno : ¬ b.can ep := fun h => by
    have h1 := chk_yes h.1
    have h2 := h.2.1
    have h3 := h.2.2
    omega
  rw [encR_no hno, encE_no hno]
  exact ⟨(none, 0), trivial, rfl, by have hw := hw.rowsK_nil; exact hw.f⟩
 ·skip
  refine T.y (fun w hw => Yl.move rfl) rfl rfl ?_
  refine T.y (fun w hw => Yl.lss rfl rfl) rfl rfl ?_
  refine T.y (fun w hw => Yl.pickF rfl rfl) rfl rfl ?_
  refine T.y (fun w hw => Yl.move rfl) rfl rfl ?_
  refine T.splitD 27 rfl (fun h27 => ?_) (fun h27 => ?_)
  ·skip
   refine T.off rfl rfl rfl ?_
   refine T.off rfl rfl rfl ?_
   refine T.y (fun w hw => Yl.pickT rfl rfl) rfl rfl ?_
   refine T.nil ?_
   refine J.sel (.cons 1 rfl (.cons 2 rfl (.cons 4 rfl (.cons 30 rfl .nil)))) ?_
   refine X.then_ ?_
   refine T.condT rfl ?_
   refine T.seq ?_
   -- region 2 (batch.go:63)
   refine T.region ?_
   refine T.y (fun w hw => Yl.assign rfl) rfl rfl ?_
   refine T.y (fun w hw => Yl.assign rfl) rfl rfl ?_
   refine T.nil ?_
   refine J.sel (.cons 4 rfl (.cons 5 rfl .nil)) ?_
   refine X.then_ ?_
   refine T.ret ?_
   refine X.ret_then ?_
   refine X.ret2 Try.results45 rfl rfl (fun w hw => ?_)
   have hno : ¬ b.can ep := fun h => by
     have h1 := chk_yes h.1
     have h2 := h.2.1
     have h3 := h.2.2
     omega
   rw [encR_no hno, encE_no hno]
   exact ⟨(none, 0), trivial, rfl, by have hw := hw.rowsK_nil; exact hw.f⟩
  ·skip
   refine T.y (fun w hw => Yl.move rfl) rfl rfl ?_
   refine T.y (fun w hw => Yl.gtr rfl rfl) rfl rfl ?_
   refine T.y (fun w hw => Yl.pickF rfl rfl) rfl rfl ?_
   refine T.nil ?_
   refine J.sel (.cons 1 rfl (.cons 2 rfl (.cons 4 rfl (.cons 30 rfl .nil)))) ?_
   refine X.then_ ?_
   refine T.condD rfl (fun h30 => ?_) (fun h30 => ?_)
   ·skip
    refine T.seq ?_
    -- region 2 (batch.go:63)
    refine T.region ?_
    refine T.y (fun w hw => Yl.assign rfl) rfl rfl ?_
    refine T.y (fun w hw => Yl.assign rfl) rfl rfl ?_
    refine T.nil ?_
    refine J.sel (.cons 4 rfl (.cons 5 rfl .nil)) ?_
    refine X.then_ ?_
    refine T.ret ?_
    refine X.ret_then ?_
    refine X.ret2 Try.results45 rfl rfl (fun w hw => ?_)
    have hno : ¬ b.can ep := fun h => by
      have h1 := chk_yes h.1
      have h2 := h.2.1
      have h3 := h.2.2
      omega
    rw [encR_no hno, encE_no hno]
    exact ⟨(none, 0), trivial, rfl, by have hw := hw.rowsK_nil; exact hw.f⟩
   ·skip
    refine T.skip ?_
    refine X.then_ ?_
    refine T.seq ?_
    have hcan : b.can ep := ⟨chk_iff.1 (by omega), by omega, by omega⟩
    have hm := hcan.1
    have hl1 := hm.1.2.2.1
    have hl2 := hm.1.2.2.2.1
    have htm := ordered_time hm.1.2.2.2.2.1
    obtain ⟨t0, htt0⟩ : ∃ t0, b.txs[0]? = some t0 := ⟨_, List.getElem?_eq_getElem (by omega)⟩
    refine J.open_ (fun w hw => hw.tx_at mM htt0) ?_
    rintro ⟨At0, ct0⟩ -
    dsimp only
    have ht0 := htm 0 (by omega)
    obtain ⟨T0, hT0⟩ : ∃ T0 : Nat, timeAt b.txs 0 = T0 := ⟨(timeAt b.txs 0).toNat, by omega⟩
    rw [← timeAt_of htt0]
    -- region 3 (batch.go:65)
    refine T.region ?_
    refine T.y (fun w hw => Yl.fa fa_55_1 rfl) rfl rfl ?_
    refine T.y (fun w hw => Yl.ldP hw na_53 rfl mM rfl) rfl rfl ?_
    refine T.y (fun w hw => (by first | exact Yl.iaV (i := 0) hw mM Try.underlying53 isz_58 rfl rfl rfl (by omega) | exact Yl.ia (i := 0) Try.underlying53 isz_58 rfl rfl rfl (by omega) sC)) rfl rfl ?_
    refine T.y (fun w hw => Yl.fae fa_58_0 rfl) rfl rfl ?_
    refine T.y (fun w hw => (by first | exact Yl.ldC hw na_3 rfl mM | exact Yl.ldI hw mM na_3 rfl (by omega) | exact Yl.ldR sC na_3 rfl (by assumption) | exact Yl.ldV hw na_3 rfl mM rfl)) rfl rfl ?_
    refine T.y (fun w hw => Yl.assign rfl) rfl rfl ?_
    refine T.nil ?_
    refine J.sel (.cons 1 rfl (.cons 2 rfl (.cons 4 rfl (.cons 6 rfl .nil)))) ?_
    refine X.then_ ?_
    refine T.seq ?_
    -- region 4 (batch.go:66)
    refine Dr.start0 [] ?_
    refine Dr.take 0 rfl (by kernel_rfl) bL sS (fun w hs => have hw := hs.h; Yl.move rfl) rfl rfl ?_
    refine Dr.take 1 rfl (by kernel_rfl) bL sS (fun w hs => have hw := hs.h; Yl.conv Try.underlying3 Try.underlying127 rfl (cv_u64 (by omega))) rfl rfl ?_
    refine Dr.take 3 rfl (by kernel_rfl) bL sS (fun w hs => have hw := hs.h; Yl.fa fa_55_1 rfl) rfl rfl ?_
    refine Dr.take 4 rfl (by kernel_rfl) bL sS (fun w hs => have hw := hs.h; Yl.ldP hw na_53 rfl mM rfl) rfl rfl ?_
    refine Dr.take 5 rfl (by kernel_rfl) bL sS (fun w hs => have hw := hs.h; Yl.len Try.underlying53 rfl) rfl rfl ?_
    refine Dr.take 6 rfl (by kernel_rfl) bL sS (fun w hs => have hw := hs.h; Yl.conv Try.underlying3 Try.underlying5 rfl (cv_u8 (by omega))) rfl rfl ?_
    refine Dr.or (i := 2) (j := 7) (by kernel_rfl) rfl ?_ ?_
    ·skip
     refine Dr.one 2 rfl (OpW.call en_85 rfl (put64H_ct T0 hT0 (by omega))) rfl rfl (fun _ _ _ => sS) (fun ⟨A38, c38⟩ _ => ?_)
     dsimp only
     refine Dr.act 7 rfl (by kernel_rfl) rfl (OpW.bsl (sz := 1) rfl bsl_23_1 rfl rfl) rfl rfl (fun _ _ _ => sS) (fun b43 _ => ?_)
     refine Dr.act 8 rfl (by kernel_rfl) rfl (OpW.appB (ys := [(b.txs.length : Int)]) rfl rfl pK (fun w hw => hw.row (xs := nums .u8 [(b.txs.length : Int)]) mM) (by simp [le_length])) rfl rfl (fun _ _ _ => sS) (fun ⟨A44, c44⟩ _ => ?_)
     dsimp only
     refine Dr.take 9 rfl (by kernel_rfl) bL sS (fun w hs => have hw := hs.h; Yl.assign rfl) rfl rfl ?_
     refine Dr.done (by kernel_rfl) ?_
     rw [show le T0 8 ++ [(b.txs.length : Int)] = headL b.txs ++ stepsTo b.txs 0 from by unfold headL stepsTo; rw [hT0]; simp]
     refine J.sel (.cons 1 rfl (.cons 2 rfl (.cons 4 rfl (.cons 6 rfl (.cons 7 rfl .nil))))) ?_
     refine X.then_ ?_
     refine T.seq ?_
     -- region 5 (batch.go:67)
     refine T.region ?_
     refine T.y (fun w hw => Yl.move rfl) rfl rfl ?_
     refine T.y (fun w hw => Yl.assign rfl) rfl rfl ?_
     refine T.nil ?_
     refine J.sel (.cons 1 rfl (.cons 2 rfl (.cons 4 rfl (.cons 7 rfl (.cons 8 rfl .nil))))) ?_
     refine X.then_ ?_
     refine T.seq ?_
     refine T.seq ?_
     refine J.ent (fun w hw => hw.rows_nil) ?_
     -- region 6 (batch.go:68)
     refine T.region ?_
     refine T.y (fun w hw => Yl.fa fa_55_1 rfl) rfl rfl ?_
     refine T.y (fun w hw => Yl.ldP hw na_53 rfl mM rfl) rfl rfl ?_
     refine T.y (fun w hw => Yl.len Try.underlying53 rfl) rfl rfl ?_
     refine T.y (fun w hw => Yl.move rfl) rfl rfl ?_
     refine T.nil ?_
     refine J.sel (.cons 1 rfl (.cons 2 rfl (.cons 4 rfl (.cons 7 rfl (.cons 8 rfl (.cons 47 rfl (.cons 48 rfl (.cons 49 rfl .nil)))))))) ?_
     refine X.then_ ?_
     refine T.block ?_
     refine T.loop (α := Nat × Option Addr × Nat × Option Addr × Nat) (fun u => u.1 ≤ b.txs.length) (fun u => [(4, .slice u.2.1 (rowsT ep b.num (b.txs.take u.1)).length u.2.2.1), (7, .slice u.2.2.2.1 (headL b.txs ++ stepsTo b.txs u.1).length u.2.2.2.2), (8, .int .i64 (lastT b.txs u.1)), (49, .int .i64 (u.1 : Int)), (1, .int .i64 ep), (2, ptr b2 0), (47, .slice A b.txs.length c), (48, .int .i64 (b.txs.length : Int))]) (fun u => rowsH u.2.1 u.2.2.1 (rowsT ep b.num (b.txs.take u.1)) :: rowH 5 1 u.2.2.2.1 u.2.2.2.2 (headL b.txs ++ stepsTo b.txs u.1).length (nums .u8 (headL b.txs ++ stepsTo b.txs u.1)) :: pt b2 55 [.int .i64 b.num, .slice A b.txs.length c] :: M) (fun u => K) (fun u => b.txs.length - u.1) (0, none, 0, A44, c44) (Nat.zero_le _) (.cons 4 rfl (.cons 7 rfl (.num 8 rfl rfl (.num 49 rfl rfl (.cons 1 rfl (.cons 2 rfl (.cons 47 rfl (.cons 48 rfl .nil)))))))) (fun w hw => hw.f) ?_
     intro ⟨i, A4, c4, A7, c7⟩ hi Zk hzo
     dsimp only at hi hzo ⊢
     refine T.seq ?_
     -- region 7 (batch.go:68)
     refine T.region ?_
     refine T.y (fun w hw => Yl.lss rfl rfl) rfl rfl ?_
     refine T.nil ?_
     refine X.then_ ?_
     refine T.seq ?_
     refine T.condD rfl (fun h50 => ?_) (fun h50 => ?_)
     ·skip
      refine T.skip ?_
      refine X.then_ ?_
      refine T.seq ?_
      refine T.block ?_
      refine T.seq ?_
      obtain ⟨t, htt⟩ : ∃ t, b.txs[i]? = some t := ⟨_, List.getElem?_eq_getElem (by omega)⟩
      refine J.open_ (fun w hw => hw.tx_at mM htt) ?_
      rintro ⟨At, ct⟩ -
      dsimp only
      have hst := may_step hm (i := i) (by omega)
      have htmi := htm i (by omega)
      have hln := may_len hm htt
      have hlt2 : 0 < lastT b.txs i ∧ lastT b.txs i ≤ 1099511627776 := by
        unfold lastT
        split
        · exact ht0
        · exact htm (i - 1) (by omega)
      rw [timeAt_of htt] at htmi
      have hsum := may_sum hm
      have hsl := stepsTo_length b.txs i
      have hhl := headL_length b.txs
      have hbd : headL b.txs ++ stepsTo b.txs i ++ [stepAt b.txs i % 256, stepAt b.txs i / 256] = headL b.txs ++ stepsTo b.txs (i + 1) := by rw [stepsTo_succ, List.append_assoc]
      -- region 8 (batch.go:68)
      refine T.region ?_
      refine T.y (fun w hw => (by first | exact Yl.iaV hw mM Try.underlying53 isz_58 rfl rfl rfl (by omega) | exact Yl.ia Try.underlying53 isz_58 rfl rfl rfl (by omega) sC)) rfl rfl ?_
      refine T.y (fun w hw => (by first | exact Yl.ldaV hw ag_58 rfl mM rfl | exact Yl.ldaR sC ag_58 rfl sU)) rfl rfl ?_
      refine T.o (OpW.alloc zr_58) rfl rfl (fun b10 _ => ?_)
      refine T.o0 (OpW.stA sz_58 rfl rfl rfl rfl sW uL) rfl (fun _ _ => ?_)
      refine T.nil ?_
      refine J.sel (.cons 1 rfl (.cons 2 rfl (.cons 4 rfl (.cons 7 rfl (.cons 8 rfl (.cons 10 rfl (.cons 47 rfl (.cons 48 rfl (.cons 49 rfl .nil))))))))) ?_
      refine X.then_ ?_
      refine T.seq ?_
      refine T.seq ?_
      -- region 9 (batch.go:69)
      refine T.region ?_
      refine T.y (fun w hw => Yl.fa fa_58_1 rfl) rfl rfl ?_
      refine T.y (fun w hw => Yl.ldP hw na_56 rfl mM rfl) rfl rfl ?_
      refine T.y (fun w hw => Yl.len Try.underlying56 rfl) rfl rfl ?_
      refine T.y (fun w hw => Yl.move rfl) rfl rfl ?_
      refine T.nil ?_
      refine J.sel (.cons 1 rfl (.cons 2 rfl (.cons 4 rfl (.cons 7 rfl (.cons 8 rfl (.cons 10 rfl (.cons 47 rfl (.cons 48 rfl (.cons 49 rfl (.cons 54 rfl (.cons 55 rfl (.cons 56 rfl .nil)))))))))))) ?_
      refine X.then_ ?_
      refine T.block ?_
      refine T.loop (α := Nat × Option Addr × Nat) (fun u => u.1 ≤ t.puts.length) (fun u => [(4, .slice u.2.1 (rowsT ep b.num (b.txs.take i) ++ rowsP ep b.num (t.puts.take u.1)).length u.2.2), (56, .int .i64 (u.1 : Int)), (1, .int .i64 ep), (2, ptr b2 0), (7, .slice A7 (headL b.txs ++ stepsTo b.txs i).length c7), (8, .int .i64 (lastT b.txs i)), (10, ptr b10 0), (47, .slice A b.txs.length c), (48, .int .i64 (b.txs.length : Int)), (49, .int .i64 (i : Int)), (54, .slice At t.puts.length ct), (55, .int .i64 (t.puts.length : Int))]) (fun u => rowsH u.2.1 u.2.2 (rowsT ep b.num (b.txs.take i) ++ rowsP ep b.num (t.puts.take u.1)) :: rowH 5 1 A7 c7 (headL b.txs ++ stepsTo b.txs i).length (nums .u8 (headL b.txs ++ stepsTo b.txs i)) :: pt b10 58 [.int .i64 t.time, .slice At t.puts.length ct] :: pt b2 55 [.int .i64 b.num, .slice A b.txs.length c] :: M) (fun u => viewK 2 putE At ct t.puts :: K) (fun u => t.puts.length - u.1) (0, A4, c4) (Nat.zero_le _) (.eqv 4 rfl (by rw [show rowsP ep b.num (t.puts.take 0) = [] from rfl, List.append_nil]) (.num 56 rfl rfl (.cons 1 rfl (.cons 2 rfl (.cons 7 rfl (.cons 8 rfl (.cons 10 rfl (.cons 47 rfl (.cons 48 rfl (.cons 49 rfl (.cons 54 rfl (.cons 55 rfl .nil)))))))))))) (fun w hw => by dsimp only; rw [show rowsP ep b.num (t.puts.take 0) = [] from rfl, List.append_nil]; exact hw.f) ?_
      intro ⟨k, A5, c5⟩ hk Zk hz2
      dsimp only at hk hz2 ⊢
      refine T.seq ?_
      -- region 10 (batch.go:69)
      refine T.region ?_
      refine T.y (fun w hw => Yl.lss rfl rfl) rfl rfl ?_
      refine T.nil ?_
      refine X.then_ ?_
      refine T.seq ?_
      refine T.condD rfl (fun h57 => ?_) (fun h57 => ?_)
      ·skip
       refine T.skip ?_
       refine X.then_ ?_
       refine T.seq ?_
       refine T.block ?_
       refine T.seq ?_
       obtain ⟨p, htp⟩ : ∃ p, t.puts[k]? = some p := ⟨_, List.getElem?_eq_getElem (by omega)⟩
       refine J.open_ (fun w hw => hw.put_at mM htp) ?_
       rintro ⟨Ap, cp⟩ -
       dsimp only
       -- region 11 (batch.go:69)
       refine T.region ?_
       refine T.y (fun w hw => (by first | exact Yl.iaV hw mM Try.underlying56 isz_61 rfl rfl rfl (by omega) | exact Yl.ia Try.underlying56 isz_61 rfl rfl rfl (by omega) sC)) rfl rfl ?_
       refine T.y (fun w hw => (by first | exact Yl.ldaV hw ag_61 rfl mM rfl | exact Yl.ldaR sC ag_61 rfl sU)) rfl rfl ?_
       refine T.o (OpW.alloc zr_61) rfl rfl (fun b12 _ => ?_)
       refine T.o0 (OpW.stA sz_61 rfl rfl rfl rfl sW uL) rfl (fun _ _ => ?_)
       refine T.nil ?_
       refine J.sel (.cons 1 rfl (.cons 2 rfl (.cons 4 rfl (.cons 7 rfl (.cons 8 rfl (.cons 10 rfl (.cons 12 rfl (.cons 47 rfl (.cons 48 rfl (.cons 49 rfl (.cons 54 rfl (.cons 55 rfl (.cons 56 rfl .nil))))))))))))) ?_
       refine X.then_ ?_
       refine T.seq ?_
       -- region 12 (batch.go:70)
       refine T.region ?_
       refine T.y (fun w hw => Yl.move rfl) rfl rfl ?_
       refine T.y (fun w hw => Yl.fa fa_55_0 rfl) rfl rfl ?_
       refine T.y (fun w hw => Yl.ldP hw na_3 rfl mM rfl) rfl rfl ?_
       refine T.y (fun w hw => Yl.fa fa_61_0 rfl) rfl rfl ?_
       refine T.y (fun w hw => Yl.ldP hw na_3 rfl mM rfl) rfl rfl ?_
       refine T.y (fun w hw => Yl.fa fa_61_1 rfl) rfl rfl ?_
       refine T.y (fun w hw => Yl.ldP hw na_23 rfl mM rfl) rfl rfl ?_
       refine T.y (fun w hw => Yl.build rfl (bld_29_0_1_2_3_4 _)) rfl rfl ?_
       refine T.o (OpW.call en_28 rfl (encode0_ct ⟨1, ep, b.num, p.lba, p.data⟩ (data_err hcan (may_put hm htt (List.mem_of_getElem? htp))) rfl mM)) rfl rfl (fun ⟨A60, c60⟩ _ => ?_)
       dsimp only
       refine T.y (fun w hw => Yl.move rfl) rfl rfl ?_
       refine T.y (fun w hw => Yl.extract rfl rfl) rfl rfl ?_
       refine T.y (fun w hw => Yl.extract rfl rfl) rfl rfl ?_
       refine T.y (fun w hw => Yl.assign rfl) rfl rfl ?_
       refine T.y (fun w hw => Yl.assign rfl) rfl rfl ?_
       refine T.nil ?_
       refine J.sel (.cons 1 rfl (.cons 2 rfl (.cons 4 rfl (.cons 7 rfl (.cons 8 rfl (.cons 10 rfl (.cons 13 rfl (.cons 47 rfl (.cons 48 rfl (.cons 49 rfl (.cons 54 rfl (.cons 55 rfl (.cons 56 rfl .nil))))))))))))) ?_
       refine X.then_ ?_
       -- region 13 (batch.go:71)
       refine T.region ?_
       refine T.y (fun w hw => Yl.move rfl) rfl rfl ?_
       refine T.y (fun w hw => Yl.move rfl) rfl rfl ?_
       refine T.o (OpW.bsl (sz := 1) rfl bsl_62_1 rfl rfl) rfl rfl (fun b74 _ => ?_)
       refine T.o (OpW.appR inf_23 Try.underlying62 rfl rfl mM mM pK (by rw [List.length_append, rowsT_length]; have := sumP_take_le b.txs i; simp [rowsP]; omega)) rfl rfl (fun ⟨A75, c75⟩ _ => ?_)
       dsimp only
       refine T.y (fun w hw => Yl.assign rfl) rfl rfl ?_
       refine T.nil ?_
       refine J.sel (.cons 1 rfl (.cons 2 rfl (.cons 4 rfl (.cons 7 rfl (.cons 8 rfl (.cons 10 rfl (.cons 47 rfl (.cons 48 rfl (.cons 49 rfl (.cons 54 rfl (.cons 55 rfl (.cons 56 rfl .nil)))))))))))) ?_
       refine X.nm_blk ?_
       refine X.then_ ?_
       -- region 14 (batch.go:69)
       refine T.region ?_
       refine T.y (fun w hw => Yl.add rfl rfl (by omega)) rfl rfl ?_
       refine T.y (fun w hw => Yl.move rfl) rfl rfl ?_
       refine T.nil ?_
       refine J.sel (.cons 1 rfl (.cons 2 rfl (.cons 4 rfl (.cons 7 rfl (.cons 8 rfl (.cons 10 rfl (.cons 47 rfl (.cons 48 rfl (.cons 49 rfl (.cons 54 rfl (.cons 55 rfl (.cons 56 rfl .nil)))))))))))) ?_
       refine X.go (hz2 (k + 1, A75, c75) (by dsimp only; omega) (by dsimp only; omega)) (.eqv 4 rfl (by rw [← rowsP_take htp, List.append_assoc]; rfl) (.num 56 rfl (by omega) (.cons 1 rfl (.cons 2 rfl (.cons 7 rfl (.cons 8 rfl (.cons 10 rfl (.cons 47 rfl (.cons 48 rfl (.cons 49 rfl (.cons 54 rfl (.cons 55 rfl .nil)))))))))))) (fun w hw => ?_)
       dsimp only
       rw [← rowsP_take htp, ← List.append_assoc]
       exact hw.f
      ·skip
       refine T.exit ?_
       refine X.exit_then ?_
       refine X.exit_then ?_
       refine X.exit_blk ?_
       refine X.then_ ?_
       refine T.seq ?_
       have hke : k = t.puts.length := by omega
       subst hke
       rw [List.take_length]
       -- region 15 (batch.go:73)
       refine T.region ?_
       refine T.y (fun w hw => Yl.fa fa_58_0 rfl) rfl rfl ?_
       refine T.y (fun w hw => Yl.ldP hw na_3 rfl mM rfl) rfl rfl ?_
       refine T.y (fun w hw => Yl.move rfl) rfl rfl ?_
       refine T.y (fun w hw => Yl.sub rfl rfl (by omega)) rfl rfl ?_
       rw [← timeAt_of htt, lastT_step]
       refine T.y (fun w hw => Yl.assign rfl) rfl rfl ?_
       refine T.nil ?_
       refine J.sel (.cons 1 rfl (.cons 2 rfl (.cons 4 rfl (.cons 7 rfl (.cons 10 rfl (.cons 15 rfl (.cons 47 rfl (.cons 48 rfl (.cons 49 rfl .nil))))))))) ?_
       refine X.then_ ?_
       refine T.seq ?_
       -- region 16 (batch.go:74)
       refine T.region ?_
       refine T.y (fun w hw => Yl.fa fa_58_0 rfl) rfl rfl ?_
       refine T.y (fun w hw => Yl.ldP hw na_3 rfl mM rfl) rfl rfl ?_
       refine T.y (fun w hw => Yl.assign rfl) rfl rfl ?_
       refine T.nil ?_
       refine J.sel (.cons 1 rfl (.cons 2 rfl (.cons 4 rfl (.cons 7 rfl (.cons 8 rfl (.cons 15 rfl (.cons 47 rfl (.cons 48 rfl (.cons 49 rfl .nil))))))))) ?_
       refine X.then_ ?_
       -- region 17 (batch.go:75)
       refine T.region ?_
       refine T.y (fun w hw => Yl.move rfl) rfl rfl ?_
       refine T.y (fun w hw => Yl.move rfl) rfl rfl ?_
       refine T.y (fun w hw => Yl.convW Try.underlying3 Try.underlying5 rfl) rfl rfl ?_
       rw [show IntKind.u8.wrap (stepAt b.txs i) = stepAt b.txs i % 256 from IntKind.wrap_u8 _]
       refine T.y (fun w hw => Yl.move rfl) rfl rfl ?_
       refine T.y (fun w hw => Yl.shr (n := 8) rfl rfl (by decide)) rfl rfl ?_
       rw [show (stepAt b.txs i) / 2 ^ 8 = stepAt b.txs i / 256 from by rw [show (2 : Int) ^ 8 = 256 from by decide]]
       refine T.y (fun w hw => Yl.conv Try.underlying3 Try.underlying5 rfl (cv_u8 (by omega))) rfl rfl ?_
       refine T.o (OpW.bsl (sz := 1) rfl bsl_23_2 rfl rfl) rfl rfl (fun b89 _ => ?_)
       refine T.o (OpW.appB (ys := [stepAt b.txs i % 256, stepAt b.txs i / 256]) rfl rfl pK (fun w hw => hw.row (xs := nums .u8 [stepAt b.txs i % 256, stepAt b.txs i / 256]) mM) (by rw [List.length_append, hsl, hhl]; simp; omega)) rfl rfl (fun ⟨A90, c90⟩ _ => ?_)
       dsimp only
       refine T.y (fun w hw => Yl.assign rfl) rfl rfl ?_
       refine T.nil ?_
       refine J.sel (.cons 1 rfl (.cons 2 rfl (.cons 4 rfl (.cons 7 rfl (.cons 8 rfl (.cons 47 rfl (.cons 48 rfl (.cons 49 rfl .nil)))))))) ?_
       refine X.nm_blk ?_
       refine X.then_ ?_
       -- region 18 (batch.go:68)
       refine T.region ?_
       refine T.y (fun w hw => Yl.add rfl rfl (by omega)) rfl rfl ?_
       refine T.y (fun w hw => Yl.move rfl) rfl rfl ?_
       refine T.nil ?_
       refine J.sel (.cons 1 rfl (.cons 2 rfl (.cons 4 rfl (.cons 7 rfl (.cons 8 rfl (.cons 47 rfl (.cons 48 rfl (.cons 49 rfl .nil)))))))) ?_
       refine X.go (hzo (i + 1, A5, c5, A90, c90) (by dsimp only; omega) (by dsimp only; omega)) (.eqv 4 rfl (by rw [← rowsT_take htt]) (.eqv 7 rfl (by rw [← hbd]) (.num 8 rfl (by rw [lastT_succ, timeAt_of htt]) (.num 49 rfl (by omega) (.cons 1 rfl (.cons 2 rfl (.cons 47 rfl (.cons 48 rfl .nil)))))))) (fun w hw => ?_)
       dsimp only
       rw [← rowsT_take htt, ← hbd]
       exact hw.f
     ·skip
      refine T.exit ?_
      refine X.exit_then ?_
      refine X.exit_then ?_
      refine X.exit_blk ?_
      refine X.then_ ?_
      refine T.seq ?_
      refine T.seq ?_
      have hie : i = b.txs.length := by omega
      subst hie
      rw [List.take_length]
      -- region 19 (batch.go:77)
      refine T.region ?_
      refine T.y (fun w hw => Yl.fa fa_55_1 rfl) rfl rfl ?_
      refine T.y (fun w hw => Yl.ldP hw na_53 rfl mM rfl) rfl rfl ?_
      refine T.y (fun w hw => Yl.len Try.underlying53 rfl) rfl rfl ?_
      refine T.y (fun w hw => Yl.move rfl) rfl rfl ?_
      refine T.nil ?_
      refine J.sel (.cons 1 rfl (.cons 2 rfl (.cons 4 rfl (.cons 7 rfl (.cons 93 rfl (.cons 94 rfl (.cons 95 rfl .nil))))))) ?_
      refine X.then_ ?_
      refine T.block ?_
      refine T.loop (α := Nat × Option Addr × Nat) (fun u => u.1 ≤ b.txs.length) (fun u => [(7, .slice u.2.1 (headL b.txs ++ stepsTo b.txs b.txs.length ++ countsTo b.txs u.1).length u.2.2), (95, .int .i64 (u.1 : Int)), (1, .int .i64 ep), (2, ptr b2 0), (4, .slice A4 (rowsT ep b.num b.txs).length c4), (93, .slice A b.txs.length c), (94, .int .i64 (b.txs.length : Int))]) (fun u => rowH 5 1 u.2.1 u.2.2 (headL b.txs ++ stepsTo b.txs b.txs.length ++ countsTo b.txs u.1).length (nums .u8 (headL b.txs ++ stepsTo b.txs b.txs.length ++ countsTo b.txs u.1)) :: rowsH A4 c4 (rowsT ep b.num b.txs) :: pt b2 55 [.int .i64 b.num, .slice A b.txs.length c] :: M) (fun u => K) (fun u => b.txs.length - u.1) (0, A7, c7) (Nat.zero_le _) (.eqv 7 rfl (by rw [show countsTo b.txs 0 = [] from rfl, List.append_nil]) (.num 95 rfl rfl (.cons 1 rfl (.cons 2 rfl (.cons 4 rfl (.cons 93 rfl (.cons 94 rfl .nil))))))) (fun w hw => by dsimp only; rw [show countsTo b.txs 0 = [] from rfl, List.append_nil]; exact hw.f) ?_
      intro ⟨k, A8, c8⟩ hk Zk hz4
      dsimp only at hk hz4 ⊢
      refine T.seq ?_
      -- region 20 (batch.go:77)
      refine T.region ?_
      refine T.y (fun w hw => Yl.lss rfl rfl) rfl rfl ?_
      refine T.nil ?_
      refine X.then_ ?_
      refine T.seq ?_
      refine T.condD rfl (fun h96 => ?_) (fun h96 => ?_)
      ·skip
       refine T.skip ?_
       refine X.then_ ?_
       refine T.seq ?_
       refine T.block ?_
       refine T.seq ?_
       obtain ⟨t, htt⟩ : ∃ t, b.txs[k]? = some t := ⟨_, List.getElem?_eq_getElem (by omega)⟩
       refine J.open_ (fun w hw => hw.tx_at mM htt) ?_
       rintro ⟨At, ct⟩ -
       dsimp only
       have hln := may_len hm htt
       have hcd : headL b.txs ++ stepsTo b.txs b.txs.length ++ countsTo b.txs k ++ [(t.puts.length : Int)] = headL b.txs ++ stepsTo b.txs b.txs.length ++ countsTo b.txs (k + 1) := by rw [countsTo_succ, putsAt_of htt, List.append_assoc]
       -- region 21 (batch.go:77)
       refine T.region ?_
       refine T.y (fun w hw => (by first | exact Yl.iaV hw mM Try.underlying53 isz_58 rfl rfl rfl (by omega) | exact Yl.ia Try.underlying53 isz_58 rfl rfl rfl (by omega) sC)) rfl rfl ?_
       refine T.y (fun w hw => (by first | exact Yl.ldaV hw ag_58 rfl mM rfl | exact Yl.ldaR sC ag_58 rfl sU)) rfl rfl ?_
       refine T.o (OpW.alloc zr_58) rfl rfl (fun b17 _ => ?_)
       refine T.o0 (OpW.stA sz_58 rfl rfl rfl rfl sW uL) rfl (fun _ _ => ?_)
       refine T.nil ?_
       refine J.sel (.cons 1 rfl (.cons 2 rfl (.cons 4 rfl (.cons 7 rfl (.cons 17 rfl (.cons 93 rfl (.cons 94 rfl (.cons 95 rfl .nil)))))))) ?_
       refine X.then_ ?_
       -- region 22 (batch.go:78)
       refine T.region ?_
       refine T.y (fun w hw => Yl.move rfl) rfl rfl ?_
       refine T.y (fun w hw => Yl.fa fa_58_1 rfl) rfl rfl ?_
       refine T.y (fun w hw => Yl.ldP hw na_56 rfl mM rfl) rfl rfl ?_
       refine T.y (fun w hw => Yl.len Try.underlying56 rfl) rfl rfl ?_
       refine T.y (fun w hw => Yl.conv Try.underlying3 Try.underlying5 rfl (cv_u8 (by omega))) rfl rfl ?_
       refine T.o (OpW.bsl (sz := 1) rfl bsl_23_1 rfl rfl) rfl rfl (fun b104 _ => ?_)
       refine T.o (OpW.appB (ys := [(t.puts.length : Int)]) rfl rfl pK (fun w hw => hw.row (xs := nums .u8 [(t.puts.length : Int)]) mM) (by rw [List.length_append, List.length_append, stepsTo_length, headL_length, countsTo_length]; simp; omega)) rfl rfl (fun ⟨A105, c105⟩ _ => ?_)
       dsimp only
       refine T.y (fun w hw => Yl.assign rfl) rfl rfl ?_
       refine T.nil ?_
       refine J.sel (.cons 1 rfl (.cons 2 rfl (.cons 4 rfl (.cons 7 rfl (.cons 93 rfl (.cons 94 rfl (.cons 95 rfl .nil))))))) ?_
       refine X.nm_blk ?_
       refine X.then_ ?_
       -- region 23 (batch.go:77)
       refine T.region ?_
       refine T.y (fun w hw => Yl.add rfl rfl (by omega)) rfl rfl ?_
       refine T.y (fun w hw => Yl.move rfl) rfl rfl ?_
       refine T.nil ?_
       refine J.sel (.cons 1 rfl (.cons 2 rfl (.cons 4 rfl (.cons 7 rfl (.cons 93 rfl (.cons 94 rfl (.cons 95 rfl .nil))))))) ?_
       refine X.go (hz4 (k + 1, A105, c105) (by dsimp only; omega) (by dsimp only; omega)) (.eqv 7 rfl (by rw [← hcd]) (.num 95 rfl (by omega) (.cons 1 rfl (.cons 2 rfl (.cons 4 rfl (.cons 93 rfl (.cons 94 rfl .nil))))))) (fun w hw => ?_)
       dsimp only
       rw [← hcd]
       exact hw.f
      ·skip
       refine T.exit ?_
       refine X.exit_then ?_
       refine X.exit_then ?_
       refine X.exit_blk ?_
       refine X.then_ ?_
       refine T.seq ?_
       have hke : k = b.txs.length := by omega
       subst hke
       refine J.ent (fun w hw => Hold.row_bytes (A := A8) (c := c8) (xs := bodyB b.txs) (hw.pick pK) (isB_append (isB_append (headL_b hm) (stepsTo_b hm (Nat.le_refl _))) (countsTo_b hm (Nat.le_refl _)))) ?_
       -- region 24 (batch.go:80)
       refine T.region ?_
       refine T.y (fun w hw => Yl.move rfl) rfl rfl ?_
       refine T.y (fun w hw => Yl.fa fa_55_0 rfl) rfl rfl ?_
       refine T.y (fun w hw => Yl.ldP hw na_3 rfl mM rfl) rfl rfl ?_
       refine T.y (fun w hw => Yl.move rfl) rfl rfl ?_
       refine T.y (fun w hw => Yl.len Try.underlying62 rfl) rfl rfl ?_
       refine T.y (fun w hw => Yl.move rfl) rfl rfl ?_
       refine T.y (fun w hw => Yl.build rfl (bld_29_0_1_2_3_4 _)) rfl rfl ?_
       refine T.o (OpW.call en_28 rfl (encode0_ct (lastRow b ep) (last_err hcan) rfl mM)) rfl rfl (fun ⟨A107, c107⟩ _ => ?_)
       dsimp only
       refine T.y (fun w hw => Yl.move rfl) rfl rfl ?_
       refine T.y (fun w hw => Yl.extract rfl rfl) rfl rfl ?_
       refine T.y (fun w hw => Yl.extract rfl rfl) rfl rfl ?_
       refine T.y (fun w hw => Yl.assign rfl) rfl rfl ?_
       refine T.y (fun w hw => Yl.assign rfl) rfl rfl ?_
       refine T.nil ?_
       refine J.sel (.cons 4 rfl (.cons 18 rfl .nil)) ?_
       refine X.then_ ?_
       refine T.seq ?_
       -- region 25 (batch.go:81)
       refine T.region ?_
       refine T.y (fun w hw => Yl.move rfl) rfl rfl ?_
       refine T.y (fun w hw => Yl.move rfl) rfl rfl ?_
       refine T.o (OpW.bsl (sz := 1) rfl bsl_62_1 rfl rfl) rfl rfl (fun b120 _ => ?_)
       refine T.o (OpW.appR inf_23 Try.underlying62 rfl rfl mM mM pK (by rw [rowsT_length]; have := may_sum hm; omega)) rfl rfl (fun ⟨A121, c121⟩ _ => ?_)
       dsimp only
       refine T.y (fun w hw => Yl.assign rfl) rfl rfl ?_
       refine T.y (fun w hw => Yl.assign rfl) rfl rfl ?_
       refine T.nil ?_
       refine J.sel (.cons 4 rfl (.cons 5 rfl .nil)) ?_
       refine X.then_ ?_
       refine T.ret ?_
       refine X.ret2 Try.results45 rfl rfl (fun w hw => ?_)
       rw [encR_yes hcan, encE_yes hcan]
       exact ⟨(A121, c121), trivial, rfl, (by have hw := Hold.rows_freeze (hw.pick (p := rowsH A121 c121 (encB b ep)) pK); exact hw.f)⟩
    ·skip
     refine Dr.one 7 rfl (OpW.bsl (sz := 1) rfl bsl_23_1 rfl rfl) rfl rfl (fun _ _ _ => sS) (fun b43 _ => ?_)
     refine Dr.act 2 rfl (by kernel_rfl) rfl (OpW.call en_85 rfl (put64H_ct T0 hT0 (by omega))) rfl rfl (fun _ _ _ => sS) (fun ⟨A38, c38⟩ _ => ?_)
     dsimp only
     refine Dr.act 8 rfl (by kernel_rfl) rfl (OpW.appB (ys := [(b.txs.length : Int)]) rfl rfl pK (fun w hw => hw.row (xs := nums .u8 [(b.txs.length : Int)]) mM) (by simp [le_length])) rfl rfl (fun _ _ _ => sS) (fun ⟨A44, c44⟩ _ => ?_)
     dsimp only
     refine Dr.take 9 rfl (by kernel_rfl) bL sS (fun w hs => have hw := hs.h; Yl.assign rfl) rfl rfl ?_
     refine Dr.done (by kernel_rfl) ?_
     rw [show le T0 8 ++ [(b.txs.length : Int)] = headL b.txs ++ stepsTo b.txs 0 from by unfold headL stepsTo; rw [hT0]; simp]
     refine J.sel (.cons 1 rfl (.cons 2 rfl (.cons 4 rfl (.cons 6 rfl (.cons 7 rfl .nil))))) ?_
     refine X.then_ ?_
     refine T.seq ?_
     -- region 5 (batch.go:67)
     refine T.region ?_
     refine T.y (fun w hw => Yl.move rfl) rfl rfl ?_
     refine T.y (fun w hw => Yl.assign rfl) rfl rfl ?_
     refine T.nil ?_
     refine J.sel (.cons 1 rfl (.cons 2 rfl (.cons 4 rfl (.cons 7 rfl (.cons 8 rfl .nil))))) ?_
     refine X.then_ ?_
     refine T.seq ?_
     refine T.seq ?_
     refine J.ent (fun w hw => hw.rows_nil) ?_
     -- region 6 (batch.go:68)
     refine T.region ?_
     refine T.y (fun w hw => Yl.fa fa_55_1 rfl) rfl rfl ?_
     refine T.y (fun w hw => Yl.ldP hw na_53 rfl mM rfl) rfl rfl ?_
     refine T.y (fun w hw => Yl.len Try.underlying53 rfl) rfl rfl ?_
     refine T.y (fun w hw => Yl.move rfl) rfl rfl ?_
     refine T.nil ?_
     refine J.sel (.cons 1 rfl (.cons 2 rfl (.cons 4 rfl (.cons 7 rfl (.cons 8 rfl (.cons 47 rfl (.cons 48 rfl (.cons 49 rfl .nil)))))))) ?_
     refine X.then_ ?_
     refine T.block ?_
     refine T.loop (α := Nat × Option Addr × Nat × Option Addr × Nat) (fun u => u.1 ≤ b.txs.length) (fun u => [(4, .slice u.2.1 (rowsT ep b.num (b.txs.take u.1)).length u.2.2.1), (7, .slice u.2.2.2.1 (headL b.txs ++ stepsTo b.txs u.1).length u.2.2.2.2), (8, .int .i64 (lastT b.txs u.1)), (49, .int .i64 (u.1 : Int)), (1, .int .i64 ep), (2, ptr b2 0), (47, .slice A b.txs.length c), (48, .int .i64 (b.txs.length : Int))]) (fun u => rowsH u.2.1 u.2.2.1 (rowsT ep b.num (b.txs.take u.1)) :: rowH 5 1 u.2.2.2.1 u.2.2.2.2 (headL b.txs ++ stepsTo b.txs u.1).length (nums .u8 (headL b.txs ++ stepsTo b.txs u.1)) :: pt b2 55 [.int .i64 b.num, .slice A b.txs.length c] :: M) (fun u => K) (fun u => b.txs.length - u.1) (0, none, 0, A44, c44) (Nat.zero_le _) (.cons 4 rfl (.cons 7 rfl (.num 8 rfl rfl (.num 49 rfl rfl (.cons 1 rfl (.cons 2 rfl (.cons 47 rfl (.cons 48 rfl .nil)))))))) (fun w hw => hw.f) ?_
     intro ⟨i, A4, c4, A7, c7⟩ hi Zk hzo
     dsimp only at hi hzo ⊢
     refine T.seq ?_
     -- region 7 (batch.go:68)
     refine T.region ?_
     refine T.y (fun w hw => Yl.lss rfl rfl) rfl rfl ?_
     refine T.nil ?_
     refine X.then_ ?_
     refine T.seq ?_
     refine T.condD rfl (fun h50 => ?_) (fun h50 => ?_)
     ·skip
      refine T.skip ?_
      refine X.then_ ?_
      refine T.seq ?_
      refine T.block ?_
      refine T.seq ?_
      obtain ⟨t, htt⟩ : ∃ t, b.txs[i]? = some t := ⟨_, List.getElem?_eq_getElem (by omega)⟩
      refine J.open_ (fun w hw => hw.tx_at mM htt) ?_
      rintro ⟨At, ct⟩ -
      dsimp only
      have hst := may_step hm (i := i) (by omega)
      have htmi := htm i (by omega)
      have hln := may_len hm htt
      have hlt2 : 0 < lastT b.txs i ∧ lastT b.txs i ≤ 1099511627776 := by
        unfold lastT
        split
        · exact ht0
        · exact htm (i - 1) (by omega)
      rw [timeAt_of htt] at htmi
      have hsum := may_sum hm
      have hsl := stepsTo_length b.txs i
      have hhl := headL_length b.txs
      have hbd : headL b.txs ++ stepsTo b.txs i ++ [stepAt b.txs i % 256, stepAt b.txs i / 256] = headL b.txs ++ stepsTo b.txs (i + 1) := by rw [stepsTo_succ, List.append_assoc]
      -- region 8 (batch.go:68)
      refine T.region ?_
      refine T.y (fun w hw => (by first | exact Yl.iaV hw mM Try.underlying53 isz_58 rfl rfl rfl (by omega) | exact Yl.ia Try.underlying53 isz_58 rfl rfl rfl (by omega) sC)) rfl rfl ?_
      refine T.y (fun w hw => (by first | exact Yl.ldaV hw ag_58 rfl mM rfl | exact Yl.ldaR sC ag_58 rfl sU)) rfl rfl ?_
      refine T.o (OpW.alloc zr_58) rfl rfl (fun b10 _ => ?_)
      refine T.o0 (OpW.stA sz_58 rfl rfl rfl rfl sW uL) rfl (fun _ _ => ?_)
      refine T.nil ?_
      refine J.sel (.cons 1 rfl (.cons 2 rfl (.cons 4 rfl (.cons 7 rfl (.cons 8 rfl (.cons 10 rfl (.cons 47 rfl (.cons 48 rfl (.cons 49 rfl .nil))))))))) ?_
      refine X.then_ ?_
      refine T.seq ?_
      refine T.seq ?_
      -- region 9 (batch.go:69)
      refine T.region ?_
      refine T.y (fun w hw => Yl.fa fa_58_1 rfl) rfl rfl ?_
      refine T.y (fun w hw => Yl.ldP hw na_56 rfl mM rfl) rfl rfl ?_
      refine T.y (fun w hw => Yl.len Try.underlying56 rfl) rfl rfl ?_
      refine T.y (fun w hw => Yl.move rfl) rfl rfl ?_
      refine T.nil ?_
      refine J.sel (.cons 1 rfl (.cons 2 rfl (.cons 4 rfl (.cons 7 rfl (.cons 8 rfl (.cons 10 rfl (.cons 47 rfl (.cons 48 rfl (.cons 49 rfl (.cons 54 rfl (.cons 55 rfl (.cons 56 rfl .nil)))))))))))) ?_
      refine X.then_ ?_
      refine T.block ?_
      refine T.loop (α := Nat × Option Addr × Nat) (fun u => u.1 ≤ t.puts.length) (fun u => [(4, .slice u.2.1 (rowsT ep b.num (b.txs.take i) ++ rowsP ep b.num (t.puts.take u.1)).length u.2.2), (56, .int .i64 (u.1 : Int)), (1, .int .i64 ep), (2, ptr b2 0), (7, .slice A7 (headL b.txs ++ stepsTo b.txs i).length c7), (8, .int .i64 (lastT b.txs i)), (10, ptr b10 0), (47, .slice A b.txs.length c), (48, .int .i64 (b.txs.length : Int)), (49, .int .i64 (i : Int)), (54, .slice At t.puts.length ct), (55, .int .i64 (t.puts.length : Int))]) (fun u => rowsH u.2.1 u.2.2 (rowsT ep b.num (b.txs.take i) ++ rowsP ep b.num (t.puts.take u.1)) :: rowH 5 1 A7 c7 (headL b.txs ++ stepsTo b.txs i).length (nums .u8 (headL b.txs ++ stepsTo b.txs i)) :: pt b10 58 [.int .i64 t.time, .slice At t.puts.length ct] :: pt b2 55 [.int .i64 b.num, .slice A b.txs.length c] :: M) (fun u => viewK 2 putE At ct t.puts :: K) (fun u => t.puts.length - u.1) (0, A4, c4) (Nat.zero_le _) (.eqv 4 rfl (by rw [show rowsP ep b.num (t.puts.take 0) = [] from rfl, List.append_nil]) (.num 56 rfl rfl (.cons 1 rfl (.cons 2 rfl (.cons 7 rfl (.cons 8 rfl (.cons 10 rfl (.cons 47 rfl (.cons 48 rfl (.cons 49 rfl (.cons 54 rfl (.cons 55 rfl .nil)))))))))))) (fun w hw => by dsimp only; rw [show rowsP ep b.num (t.puts.take 0) = [] from rfl, List.append_nil]; exact hw.f) ?_
      intro ⟨k, A5, c5⟩ hk Zk hz2
      dsimp only at hk hz2 ⊢
      refine T.seq ?_
      -- region 10 (batch.go:69)
      refine T.region ?_
      refine T.y (fun w hw => Yl.lss rfl rfl) rfl rfl ?_
      refine T.nil ?_
      refine X.then_ ?_
      refine T.seq ?_
      refine T.condD rfl (fun h57 => ?_) (fun h57 => ?_)
      ·skip
       refine T.skip ?_
       refine X.then_ ?_
       refine T.seq ?_
       refine T.block ?_
       refine T.seq ?_
       obtain ⟨p, htp⟩ : ∃ p, t.puts[k]? = some p := ⟨_, List.getElem?_eq_getElem (by omega)⟩
       refine J.open_ (fun w hw => hw.put_at mM htp) ?_
       rintro ⟨Ap, cp⟩ -
       dsimp only
       -- region 11 (batch.go:69)
       refine T.region ?_
       refine T.y (fun w hw => (by first | exact Yl.iaV hw mM Try.underlying56 isz_61 rfl rfl rfl (by omega) | exact Yl.ia Try.underlying56 isz_61 rfl rfl rfl (by omega) sC)) rfl rfl ?_
       refine T.y (fun w hw => (by first | exact Yl.ldaV hw ag_61 rfl mM rfl | exact Yl.ldaR sC ag_61 rfl sU)) rfl rfl ?_
       refine T.o (OpW.alloc zr_61) rfl rfl (fun b12 _ => ?_)
       refine T.o0 (OpW.stA sz_61 rfl rfl rfl rfl sW uL) rfl (fun _ _ => ?_)
       refine T.nil ?_
       refine J.sel (.cons 1 rfl (.cons 2 rfl (.cons 4 rfl (.cons 7 rfl (.cons 8 rfl (.cons 10 rfl (.cons 12 rfl (.cons 47 rfl (.cons 48 rfl (.cons 49 rfl (.cons 54 rfl (.cons 55 rfl (.cons 56 rfl .nil))))))))))))) ?_
       refine X.then_ ?_
       refine T.seq ?_
       -- region 12 (batch.go:70)
       refine T.region ?_
       refine T.y (fun w hw => Yl.move rfl) rfl rfl ?_
       refine T.y (fun w hw => Yl.fa fa_55_0 rfl) rfl rfl ?_
       refine T.y (fun w hw => Yl.ldP hw na_3 rfl mM rfl) rfl rfl ?_
       refine T.y (fun w hw => Yl.fa fa_61_0 rfl) rfl rfl ?_
       refine T.y (fun w hw => Yl.ldP hw na_3 rfl mM rfl) rfl rfl ?_
       refine T.y (fun w hw => Yl.fa fa_61_1 rfl) rfl rfl ?_
       refine T.y (fun w hw => Yl.ldP hw na_23 rfl mM rfl) rfl rfl ?_
       refine T.y (fun w hw => Yl.build rfl (bld_29_0_1_2_3_4 _)) rfl rfl ?_
       refine T.o (OpW.call en_28 rfl (encode0_ct ⟨1, ep, b.num, p.lba, p.data⟩ (data_err hcan (may_put hm htt (List.mem_of_getElem? htp))) rfl mM)) rfl rfl (fun ⟨A60, c60⟩ _ => ?_)
       dsimp only
       refine T.y (fun w hw => Yl.move rfl) rfl rfl ?_
       refine T.y (fun w hw => Yl.extract rfl rfl) rfl rfl ?_
       refine T.y (fun w hw => Yl.extract rfl rfl) rfl rfl ?_
       refine T.y (fun w hw => Yl.assign rfl) rfl rfl ?_
       refine T.y (fun w hw => Yl.assign rfl) rfl rfl ?_
       refine T.nil ?_
       refine J.sel (.cons 1 rfl (.cons 2 rfl (.cons 4 rfl (.cons 7 rfl (.cons 8 rfl (.cons 10 rfl (.cons 13 rfl (.cons 47 rfl (.cons 48 rfl (.cons 49 rfl (.cons 54 rfl (.cons 55 rfl (.cons 56 rfl .nil))))))))))))) ?_
       refine X.then_ ?_
       -- region 13 (batch.go:71)
       refine T.region ?_
       refine T.y (fun w hw => Yl.move rfl) rfl rfl ?_
       refine T.y (fun w hw => Yl.move rfl) rfl rfl ?_
       refine T.o (OpW.bsl (sz := 1) rfl bsl_62_1 rfl rfl) rfl rfl (fun b74 _ => ?_)
       refine T.o (OpW.appR inf_23 Try.underlying62 rfl rfl mM mM pK (by rw [List.length_append, rowsT_length]; have := sumP_take_le b.txs i; simp [rowsP]; omega)) rfl rfl (fun ⟨A75, c75⟩ _ => ?_)
       dsimp only
       refine T.y (fun w hw => Yl.assign rfl) rfl rfl ?_
       refine T.nil ?_
       refine J.sel (.cons 1 rfl (.cons 2 rfl (.cons 4 rfl (.cons 7 rfl (.cons 8 rfl (.cons 10 rfl (.cons 47 rfl (.cons 48 rfl (.cons 49 rfl (.cons 54 rfl (.cons 55 rfl (.cons 56 rfl .nil)))))))))))) ?_
       refine X.nm_blk ?_
       refine X.then_ ?_
       -- region 14 (batch.go:69)
       refine T.region ?_
       refine T.y (fun w hw => Yl.add rfl rfl (by omega)) rfl rfl ?_
       refine T.y (fun w hw => Yl.move rfl) rfl rfl ?_
       refine T.nil ?_
       refine J.sel (.cons 1 rfl (.cons 2 rfl (.cons 4 rfl (.cons 7 rfl (.cons 8 rfl (.cons 10 rfl (.cons 47 rfl (.cons 48 rfl (.cons 49 rfl (.cons 54 rfl (.cons 55 rfl (.cons 56 rfl .nil)))))))))))) ?_
       refine X.go (hz2 (k + 1, A75, c75) (by dsimp only; omega) (by dsimp only; omega)) (.eqv 4 rfl (by rw [← rowsP_take htp, List.append_assoc]; rfl) (.num 56 rfl (by omega) (.cons 1 rfl (.cons 2 rfl (.cons 7 rfl (.cons 8 rfl (.cons 10 rfl (.cons 47 rfl (.cons 48 rfl (.cons 49 rfl (.cons 54 rfl (.cons 55 rfl .nil)))))))))))) (fun w hw => ?_)
       dsimp only
       rw [← rowsP_take htp, ← List.append_assoc]
       exact hw.f
      ·skip
       refine T.exit ?_
       refine X.exit_then ?_
       refine X.exit_then ?_
       refine X.exit_blk ?_
       refine X.then_ ?_
       refine T.seq ?_
       have hke : k = t.puts.length := by omega
       subst hke
       rw [List.take_length]
       -- region 15 (batch.go:73)
       refine T.region ?_
       refine T.y (fun w hw => Yl.fa fa_58_0 rfl) rfl rfl ?_
       refine T.y (fun w hw => Yl.ldP hw na_3 rfl mM rfl) rfl rfl ?_
       refine T.y (fun w hw => Yl.move rfl) rfl rfl ?_
       refine T.y (fun w hw => Yl.sub rfl rfl (by omega)) rfl rfl ?_
       rw [← timeAt_of htt, lastT_step]
       refine T.y (fun w hw => Yl.assign rfl) rfl rfl ?_
       refine T.nil ?_
       refine J.sel (.cons 1 rfl (.cons 2 rfl (.cons 4 rfl (.cons 7 rfl (.cons 10 rfl (.cons 15 rfl (.cons 47 rfl (.cons 48 rfl (.cons 49 rfl .nil))))))))) ?_
       refine X.then_ ?_
       refine T.seq ?_
       -- region 16 (batch.go:74)
       refine T.region ?_
       refine T.y (fun w hw => Yl.fa fa_58_0 rfl) rfl rfl ?_
       refine T.y (fun w hw => Yl.ldP hw na_3 rfl mM rfl) rfl rfl ?_
       refine T.y (fun w hw => Yl.assign rfl) rfl rfl ?_
       refine T.nil ?_
       refine J.sel (.cons 1 rfl (.cons 2 rfl (.cons 4 rfl (.cons 7 rfl (.cons 8 rfl (.cons 15 rfl (.cons 47 rfl (.cons 48 rfl (.cons 49 rfl .nil))))))))) ?_
       refine X.then_ ?_
       -- region 17 (batch.go:75)
       refine T.region ?_
       refine T.y (fun w hw => Yl.move rfl) rfl rfl ?_
       refine T.y (fun w hw => Yl.move rfl) rfl rfl ?_
       refine T.y (fun w hw => Yl.convW Try.underlying3 Try.underlying5 rfl) rfl rfl ?_
       rw [show IntKind.u8.wrap (stepAt b.txs i) = stepAt b.txs i % 256 from IntKind.wrap_u8 _]
       refine T.y (fun w hw => Yl.move rfl) rfl rfl ?_
       refine T.y (fun w hw => Yl.shr (n := 8) rfl rfl (by decide)) rfl rfl ?_
       rw [show (stepAt b.txs i) / 2 ^ 8 = stepAt b.txs i / 256 from by rw [show (2 : Int) ^ 8 = 256 from by decide]]
       refine T.y (fun w hw => Yl.conv Try.underlying3 Try.underlying5 rfl (cv_u8 (by omega))) rfl rfl ?_
       refine T.o (OpW.bsl (sz := 1) rfl bsl_23_2 rfl rfl) rfl rfl (fun b89 _ => ?_)
       refine T.o (OpW.appB (ys := [stepAt b.txs i % 256, stepAt b.txs i / 256]) rfl rfl pK (fun w hw => hw.row (xs := nums .u8 [stepAt b.txs i % 256, stepAt b.txs i / 256]) mM) (by rw [List.length_append, hsl, hhl]; simp; omega)) rfl rfl (fun ⟨A90, c90⟩ _ => ?_)
       dsimp only
       refine T.y (fun w hw => Yl.assign rfl) rfl rfl ?_
       refine T.nil ?_
       refine J.sel (.cons 1 rfl (.cons 2 rfl (.cons 4 rfl (.cons 7 rfl (.cons 8 rfl (.cons 47 rfl (.cons 48 rfl (.cons 49 rfl .nil)))))))) ?_
       refine X.nm_blk ?_
       refine X.then_ ?_
       -- region 18 (batch.go:68)
       refine T.region ?_
       refine T.y (fun w hw => Yl.add rfl rfl (by omega)) rfl rfl ?_
       refine T.y (fun w hw => Yl.move rfl) rfl rfl ?_
       refine T.nil ?_
       refine J.sel (.cons 1 rfl (.cons 2 rfl (.cons 4 rfl (.cons 7 rfl (.cons 8 rfl (.cons 47 rfl (.cons 48 rfl (.cons 49 rfl .nil)))))))) ?_
       refine X.go (hzo (i + 1, A5, c5, A90, c90) (by dsimp only; omega) (by dsimp only; omega)) (.eqv 4 rfl (by rw [← rowsT_take htt]) (.eqv 7 rfl (by rw [← hbd]) (.num 8 rfl (by rw [lastT_succ, timeAt_of htt]) (.num 49 rfl (by omega) (.cons 1 rfl (.cons 2 rfl (.cons 47 rfl (.cons 48 rfl .nil)))))))) (fun w hw => ?_)
       dsimp only
       rw [← rowsT_take htt, ← hbd]
       exact hw.f
     ·skip
      refine T.exit ?_
      refine X.exit_then ?_
      refine X.exit_then ?_
      refine X.exit_blk ?_
      refine X.then_ ?_
      refine T.seq ?_
      refine T.seq ?_
      have hie : i = b.txs.length := by omega
      subst hie
      rw [List.take_length]
      -- region 19 (batch.go:77)
      refine T.region ?_
      refine T.y (fun w hw => Yl.fa fa_55_1 rfl) rfl rfl ?_
      refine T.y (fun w hw => Yl.ldP hw na_53 rfl mM rfl) rfl rfl ?_
      refine T.y (fun w hw => Yl.len Try.underlying53 rfl) rfl rfl ?_
      refine T.y (fun w hw => Yl.move rfl) rfl rfl ?_
      refine T.nil ?_
      refine J.sel (.cons 1 rfl (.cons 2 rfl (.cons 4 rfl (.cons 7 rfl (.cons 93 rfl (.cons 94 rfl (.cons 95 rfl .nil))))))) ?_
      refine X.then_ ?_
      refine T.block ?_
      refine T.loop (α := Nat × Option Addr × Nat) (fun u => u.1 ≤ b.txs.length) (fun u => [(7, .slice u.2.1 (headL b.txs ++ stepsTo b.txs b.txs.length ++ countsTo b.txs u.1).length u.2.2), (95, .int .i64 (u.1 : Int)), (1, .int .i64 ep), (2, ptr b2 0), (4, .slice A4 (rowsT ep b.num b.txs).length c4), (93, .slice A b.txs.length c), (94, .int .i64 (b.txs.length : Int))]) (fun u => rowH 5 1 u.2.1 u.2.2 (headL b.txs ++ stepsTo b.txs b.txs.length ++ countsTo b.txs u.1).length (nums .u8 (headL b.txs ++ stepsTo b.txs b.txs.length ++ countsTo b.txs u.1)) :: rowsH A4 c4 (rowsT ep b.num b.txs) :: pt b2 55 [.int .i64 b.num, .slice A b.txs.length c] :: M) (fun u => K) (fun u => b.txs.length - u.1) (0, A7, c7) (Nat.zero_le _) (.eqv 7 rfl (by rw [show countsTo b.txs 0 = [] from rfl, List.append_nil]) (.num 95 rfl rfl (.cons 1 rfl (.cons 2 rfl (.cons 4 rfl (.cons 93 rfl (.cons 94 rfl .nil))))))) (fun w hw => by dsimp only; rw [show countsTo b.txs 0 = [] from rfl, List.append_nil]; exact hw.f) ?_
      intro ⟨k, A8, c8⟩ hk Zk hz4
      dsimp only at hk hz4 ⊢
      refine T.seq ?_
      -- region 20 (batch.go:77)
      refine T.region ?_
      refine T.y (fun w hw => Yl.lss rfl rfl) rfl rfl ?_
      refine T.nil ?_
      refine X.then_ ?_
      refine T.seq ?_
      refine T.condD rfl (fun h96 => ?_) (fun h96 => ?_)
      ·skip
       refine T.skip ?_
       refine X.then_ ?_
       refine T.seq ?_
       refine T.block ?_
       refine T.seq ?_
       obtain ⟨t, htt⟩ : ∃ t, b.txs[k]? = some t := ⟨_, List.getElem?_eq_getElem (by omega)⟩
       refine J.open_ (fun w hw => hw.tx_at mM htt) ?_
       rintro ⟨At, ct⟩ -
       dsimp only
       have hln := may_len hm htt
       have hcd : headL b.txs ++ stepsTo b.txs b.txs.length ++ countsTo b.txs k ++ [(t.puts.length : Int)] = headL b.txs ++ stepsTo b.txs b.txs.length ++ countsTo b.txs (k + 1) := by rw [countsTo_succ, putsAt_of htt, List.append_assoc]
       -- region 21 (batch.go:77)
       refine T.region ?_
       refine T.y (fun w hw => (by first | exact Yl.iaV hw mM Try.underlying53 isz_58 rfl rfl rfl (by omega) | exact Yl.ia Try.underlying53 isz_58 rfl rfl rfl (by omega) sC)) rfl rfl ?_
       refine T.y (fun w hw => (by first | exact Yl.ldaV hw ag_58 rfl mM rfl | exact Yl.ldaR sC ag_58 rfl sU)) rfl rfl ?_
       refine T.o (OpW.alloc zr_58) rfl rfl (fun b17 _ => ?_)
       refine T.o0 (OpW.stA sz_58 rfl rfl rfl rfl sW uL) rfl (fun _ _ => ?_)
       refine T.nil ?_
       refine J.sel (.cons 1 rfl (.cons 2 rfl (.cons 4 rfl (.cons 7 rfl (.cons 17 rfl (.cons 93 rfl (.cons 94 rfl (.cons 95 rfl .nil)))))))) ?_
       refine X.then_ ?_
       -- region 22 (batch.go:78)
       refine T.region ?_
       refine T.y (fun w hw => Yl.move rfl) rfl rfl ?_
       refine T.y (fun w hw => Yl.fa fa_58_1 rfl) rfl rfl ?_
       refine T.y (fun w hw => Yl.ldP hw na_56 rfl mM rfl) rfl rfl ?_
       refine T.y (fun w hw => Yl.len Try.underlying56 rfl) rfl rfl ?_
       refine T.y (fun w hw => Yl.conv Try.underlying3 Try.underlying5 rfl (cv_u8 (by omega))) rfl rfl ?_
       refine T.o (OpW.bsl (sz := 1) rfl bsl_23_1 rfl rfl) rfl rfl (fun b104 _ => ?_)
       refine T.o (OpW.appB (ys := [(t.puts.length : Int)]) rfl rfl pK (fun w hw => hw.row (xs := nums .u8 [(t.puts.length : Int)]) mM) (by rw [List.length_append, List.length_append, stepsTo_length, headL_length, countsTo_length]; simp; omega)) rfl rfl (fun ⟨A105, c105⟩ _ => ?_)
       dsimp only
       refine T.y (fun w hw => Yl.assign rfl) rfl rfl ?_
       refine T.nil ?_
       refine J.sel (.cons 1 rfl (.cons 2 rfl (.cons 4 rfl (.cons 7 rfl (.cons 93 rfl (.cons 94 rfl (.cons 95 rfl .nil))))))) ?_
       refine X.nm_blk ?_
       refine X.then_ ?_
       -- region 23 (batch.go:77)
       refine T.region ?_
       refine T.y (fun w hw => Yl.add rfl rfl (by omega)) rfl rfl ?_
       refine T.y (fun w hw => Yl.move rfl) rfl rfl ?_
       refine T.nil ?_
       refine J.sel (.cons 1 rfl (.cons 2 rfl (.cons 4 rfl (.cons 7 rfl (.cons 93 rfl (.cons 94 rfl (.cons 95 rfl .nil))))))) ?_
       refine X.go (hz4 (k + 1, A105, c105) (by dsimp only; omega) (by dsimp only; omega)) (.eqv 7 rfl (by rw [← hcd]) (.num 95 rfl (by omega) (.cons 1 rfl (.cons 2 rfl (.cons 4 rfl (.cons 93 rfl (.cons 94 rfl .nil))))))) (fun w hw => ?_)
       dsimp only
       rw [← hcd]
       exact hw.f
      ·skip
       refine T.exit ?_
       refine X.exit_then ?_
       refine X.exit_then ?_
       refine X.exit_blk ?_
       refine X.then_ ?_
       refine T.seq ?_
       have hke : k = b.txs.length := by omega
       subst hke
       refine J.ent (fun w hw => Hold.row_bytes (A := A8) (c := c8) (xs := bodyB b.txs) (hw.pick pK) (isB_append (isB_append (headL_b hm) (stepsTo_b hm (Nat.le_refl _))) (countsTo_b hm (Nat.le_refl _)))) ?_
       -- region 24 (batch.go:80)
       refine T.region ?_
       refine T.y (fun w hw => Yl.move rfl) rfl rfl ?_
       refine T.y (fun w hw => Yl.fa fa_55_0 rfl) rfl rfl ?_
       refine T.y (fun w hw => Yl.ldP hw na_3 rfl mM rfl) rfl rfl ?_
       refine T.y (fun w hw => Yl.move rfl) rfl rfl ?_
       refine T.y (fun w hw => Yl.len Try.underlying62 rfl) rfl rfl ?_
       refine T.y (fun w hw => Yl.move rfl) rfl rfl ?_
       refine T.y (fun w hw => Yl.build rfl (bld_29_0_1_2_3_4 _)) rfl rfl ?_
       refine T.o (OpW.call en_28 rfl (encode0_ct (lastRow b ep) (last_err hcan) rfl mM)) rfl rfl (fun ⟨A107, c107⟩ _ => ?_)
       dsimp only
       refine T.y (fun w hw => Yl.move rfl) rfl rfl ?_
       refine T.y (fun w hw => Yl.extract rfl rfl) rfl rfl ?_
       refine T.y (fun w hw => Yl.extract rfl rfl) rfl rfl ?_
       refine T.y (fun w hw => Yl.assign rfl) rfl rfl ?_
       refine T.y (fun w hw => Yl.assign rfl) rfl rfl ?_
       refine T.nil ?_
       refine J.sel (.cons 4 rfl (.cons 18 rfl .nil)) ?_
       refine X.then_ ?_
       refine T.seq ?_
       -- region 25 (batch.go:81)
       refine T.region ?_
       refine T.y (fun w hw => Yl.move rfl) rfl rfl ?_
       refine T.y (fun w hw => Yl.move rfl) rfl rfl ?_
       refine T.o (OpW.bsl (sz := 1) rfl bsl_62_1 rfl rfl) rfl rfl (fun b120 _ => ?_)
       refine T.o (OpW.appR inf_23 Try.underlying62 rfl rfl mM mM pK (by rw [rowsT_length]; have := may_sum hm; omega)) rfl rfl (fun ⟨A121, c121⟩ _ => ?_)
       dsimp only
       refine T.y (fun w hw => Yl.assign rfl) rfl rfl ?_
       refine T.y (fun w hw => Yl.assign rfl) rfl rfl ?_
       refine T.nil ?_
       refine J.sel (.cons 4 rfl (.cons 5 rfl .nil)) ?_
       refine X.then_ ?_
       refine T.ret ?_
       refine X.ret2 Try.results45 rfl rfl (fun w hw => ?_)
       rw [encR_yes hcan, encE_yes hcan]
       exact ⟨(A121, c121), trivial, rfl, (by have hw := Hold.rows_freeze (hw.pick (p := rowsH A121 c121 (encB b ep)) pK); exact hw.f)⟩

end Go.Proofs.Ytfpnodboebpemaa
