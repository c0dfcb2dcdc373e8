/- The law BatchBack. -/
import Derived.Test.YtfpnodboebpemaaBat9
import Derived.Test.YtfpnodboebpemaaArgB
namespace Go.Proofs.Ytfpnodboebpemaa
open Go.RowKit Go.Proofs.YtfpnodboebpemaaW.PrintWords
set_option linter.unusedVariables false
set_option linter.unusedSimpArgs false
attribute [local irreducible] pt rowH slK bytesK intsK rowsK rowsH cellK rowsV oldK star exH pureH knowH starL emp devH zoneH zonesH zrest cellsK viewV viewK viewH putE txE batE ownL restO

set_option maxHeartbeats 4000000 in
theorem back_ct {M : List HP} {K : List KP} {A B : Option Addr} {c k : Nat} {b : BatL} {ep cut bit : Int} {bh : List (List Int)} (hb : viewK 2 txE A c b.txs ∈ K) (hh : rowsK B k bh ∈ K) : Fn 17 [.agg [.int .i64 b.num, .slice A b.txs.length c].toArray, .int .i64 ep, .slice B bh.length k, .int .i64 cut, .int .i64 bit] M K (fun _ : Unit => True) (fun _ => .bool true) (fun _ => M) (fun _ => K) := by
 refine Fn.of (n := 169) Try.func17 rfl Try.ntmps17 rfl ?_
 refine T.seq ?_
 -- region 0 (law.go:46)
 refine T.region ?_
 refine T.o (OpW.box rfl) rfl rfl (fun b5 _ => ?_)
 refine T.y (fun w hw => Yl.assign rfl) rfl rfl ?_
 refine T.nil ?_
 refine J.sel (.cons 1 rfl (.cons 2 rfl (.cons 3 rfl (.cons 4 rfl (.cons 5 rfl .nil))))) ?_
 refine X.then_ ?_
 refine T.seq ?_
 refine T.seq ?_
 -- region 1 (law.go:47)
 refine T.region ?_
 refine T.y (fun w hw => Yl.fa fa_55_1 rfl) rfl rfl ?_
 refine T.y (fun w hw => Yl.ldP hw na_53 rfl mM rfl) rfl rfl ?_
 refine T.o (OpW.call en_72 rfl (small_ct (ts := b.txs) mM)) rfl rfl (fun r _ => ?_)
 refine T.y (fun w hw => Yl.not rfl) rfl rfl ?_
 refine T.y (fun w hw => Yl.move rfl) rfl rfl ?_
 refine T.split 32 rfl (fun h32 => ?_) (fun h32 => ?_)
 ·skip
  refine T.off rfl rfl rfl ?_
  refine T.off rfl rfl rfl ?_
  refine T.off rfl rfl rfl ?_
  refine T.y (fun w hw => Yl.pickT rfl rfl) rfl rfl ?_
  refine T.y (fun w hw => Yl.move rfl) rfl rfl ?_
  refine T.off rfl rfl rfl ?_
  refine T.off rfl rfl rfl ?_
  refine T.off rfl rfl rfl ?_
  refine T.y (fun w hw => Yl.pickT rfl rfl) rfl rfl ?_
  refine T.nil ?_
  refine J.sel (.cons 1 rfl (.cons 2 rfl (.cons 3 rfl (.cons 4 rfl (.cons 5 rfl (.cons 41 rfl .nil)))))) ?_
  refine X.then_ ?_
  refine T.condT rfl ?_
  refine T.seq ?_
  -- region 2 (law.go:48)
  refine T.region ?_
  refine T.o (OpW.call en_43 rfl (awake17_ct)) rfl rfl (fun x hx => ?_)
  refine T.y (fun w hw => Yl.assign rfl) rfl rfl ?_
  refine T.nil ?_
  refine J.sel (.cons 10 rfl .nil) ?_
  refine X.then_ ?_
  refine T.ret ?_
  refine X.ret_then ?_
  refine X.ret1 Try.results17 rfl (fun w hw => ?_)
  exact ⟨(), trivial, rfl, hw.f⟩
 ·skip
  refine T.y (fun w hw => Yl.move rfl) rfl rfl ?_
  refine T.y (fun w hw => Yl.len Try.underlying62 rfl) rfl rfl ?_
  refine T.y (fun w hw => Yl.gtr rfl rfl) rfl rfl ?_
  refine T.y (fun w hw => Yl.pickF rfl rfl) rfl rfl ?_
  refine T.y (fun w hw => Yl.move rfl) rfl rfl ?_
  refine T.splitD 37 rfl (fun h37 => ?_) (fun h37 => ?_)
  ·skip
   refine T.off rfl rfl rfl ?_
   refine T.off rfl rfl rfl ?_
   refine T.off rfl rfl rfl ?_
   refine T.y (fun w hw => Yl.pickT rfl rfl) rfl rfl ?_
   refine T.nil ?_
   refine J.sel (.cons 1 rfl (.cons 2 rfl (.cons 3 rfl (.cons 4 rfl (.cons 5 rfl (.cons 41 rfl .nil)))))) ?_
   refine X.then_ ?_
   refine T.condT rfl ?_
   refine T.seq ?_
   -- region 2 (law.go:48)
   refine T.region ?_
   refine T.o (OpW.call en_43 rfl (awake17_ct)) rfl rfl (fun x hx => ?_)
   refine T.y (fun w hw => Yl.assign rfl) rfl rfl ?_
   refine T.nil ?_
   refine J.sel (.cons 10 rfl .nil) ?_
   refine X.then_ ?_
   refine T.ret ?_
   refine X.ret_then ?_
   refine X.ret1 Try.results17 rfl (fun w hw => ?_)
   exact ⟨(), trivial, rfl, hw.f⟩
  ·skip
   refine T.y (fun w hw => Yl.move rfl) rfl rfl ?_
   refine T.o (OpW.call en_68 rfl (total_ct (rows := bh) mM)) rfl rfl (fun s ⟨hs0, hs1⟩ => ?_)
   refine T.y (fun w hw => Yl.gtr rfl rfl) rfl rfl ?_
   refine T.y (fun w hw => Yl.pickF rfl rfl) rfl rfl ?_
   refine T.nil ?_
   refine J.sel (.cons 1 rfl (.cons 2 rfl (.cons 3 rfl (.cons 4 rfl (.cons 5 rfl (.cons 41 rfl .nil)))))) ?_
   refine X.then_ ?_
   refine T.condD rfl (fun h41 => ?_) (fun h41 => ?_)
   ·skip
    refine T.seq ?_
    -- region 2 (law.go:48)
    refine T.region ?_
    refine T.o (OpW.call en_43 rfl (awake17_ct)) rfl rfl (fun x hx => ?_)
    refine T.y (fun w hw => Yl.assign rfl) rfl rfl ?_
    refine T.nil ?_
    refine J.sel (.cons 10 rfl .nil) ?_
    refine X.then_ ?_
    refine T.ret ?_
    refine X.ret_then ?_
    refine X.ret1 Try.results17 rfl (fun w hw => ?_)
    exact ⟨(), trivial, rfl, hw.f⟩
   ·skip
    refine T.skip ?_
    refine X.then_ ?_
    refine T.seq ?_
    -- region 3 (law.go:50)
    refine T.region ?_
    refine T.y (fun w hw => Yl.ldaP hw ag_55 rfl mM sU) rfl rfl ?_
    refine T.y (fun w hw => Yl.move rfl) rfl rfl ?_
    refine T.o (OpW.call en_45 rfl (encode_b_ct (b := b) mM)) rfl rfl (fun ⟨A46, c46⟩ _ => ?_)
    dsimp only
    refine T.y (fun w hw => Yl.move rfl) rfl rfl ?_
    refine T.y (fun w hw => Yl.extract rfl rfl) rfl rfl ?_
    refine T.y (fun w hw => Yl.extract rfl rfl) rfl rfl ?_
    refine T.y (fun w hw => Yl.assign rfl) rfl rfl ?_
    refine T.y (fun w hw => Yl.assign rfl) rfl rfl ?_
    refine T.nil ?_
    refine J.sel (.cons 1 rfl (.cons 2 rfl (.cons 3 rfl (.cons 4 rfl (.cons 5 rfl (.cons 11 rfl (.cons 12 rfl .nil))))))) ?_
    refine X.then_ ?_
    refine T.seq ?_
    refine T.seq ?_
    -- region 4 (law.go:51)
    refine T.region ?_
    refine T.y (fun w hw => Yl.move rfl) rfl rfl ?_
    refine T.y (fun w hw => Yl.neq rfl rfl) rfl rfl ?_
    refine T.nil ?_
    refine J.sel (.cons 1 rfl (.cons 2 rfl (.cons 3 rfl (.cons 4 rfl (.cons 5 rfl (.cons 11 rfl (.cons 50 rfl .nil))))))) ?_
    refine X.then_ ?_
    refine T.condD rfl (fun h50 => ?_) (fun h50 => ?_)
    ·skip
     refine T.seq ?_
     have hno : ¬ b.can ep := fun h => h50 (encE_yes h)
     rw [encR_no hno]
     -- region 5 (law.go:52)
     refine T.region ?_
     refine T.y (fun w hw => Yl.move rfl) rfl rfl ?_
     refine T.y (fun w hw => Yl.len Try.underlying62 rfl) rfl rfl ?_
     refine T.y (fun w hw => Yl.eql rfl rfl) rfl rfl ?_
     refine T.y (fun w hw => Yl.move rfl) rfl rfl ?_
     refine T.o (OpW.call en_43 rfl (awake17_ct)) rfl rfl (fun x hx => ?_)
     refine T.y (fun w hw => Yl.pickT rfl rfl) rfl rfl ?_
     refine T.y (fun w hw => Yl.assign rfl) rfl rfl ?_
     refine T.nil ?_
     refine J.sel (.cons 10 rfl .nil) ?_
     refine X.then_ ?_
     refine T.ret ?_
     refine X.ret_then ?_
     refine X.ret1 Try.results17 rfl (fun w hw => ?_)
     exact ⟨(), trivial, rfl, hw.f⟩
    ·skip
     refine T.skip ?_
     refine X.then_ ?_
     refine T.seq ?_
     refine T.seq ?_
     have hcan : b.can ep := encE_iff.1 (Classical.not_not.1 h50)
     rw [encR_yes hcan]
     obtain ⟨hl2, hl33⟩ := encB_two hcan
     refine J.fact (fun w hw => hw.rows_max (A := A46) (c := c46) (rows := (encB b ep)) mM) ?_
     intro hmx
     refine J.fact (fun w hw => hw.rows_b (A := A46) (c := c46) (rows := (encB b ep)) mM) ?_
     intro hLB
     -- region 6 (law.go:54)
     refine T.region ?_
     refine T.y (fun w hw => Yl.move rfl) rfl rfl ?_
     refine T.y (fun w hw => Yl.len Try.underlying62 rfl) rfl rfl ?_
     refine T.y (fun w hw => Yl.lss rfl rfl) rfl rfl ?_
     refine T.nil ?_
     refine J.sel (.cons 1 rfl (.cons 2 rfl (.cons 3 rfl (.cons 4 rfl (.cons 5 rfl (.cons 11 rfl (.cons 59 rfl .nil))))))) ?_
     refine X.then_ ?_
     refine T.condD rfl (fun h59 => ?_) (fun h59 => ?_)
     · exfalso; (first | omega | exact absurd rfl (by assumption))
     ·skip
      refine T.skip ?_
      refine X.then_ ?_
      refine T.seq ?_
      -- region 8 (law.go:57)
      refine T.region ?_
      refine T.o (OpW.bsl (sz := 1) rfl bsl_62_0 rfl rfl) rfl rfl (fun b61 _ => ?_)
      refine J.ent (fun w hw => Hold.rows_empty (A := some ⟨b61, 0, none⟩) (c := 0) (hw.pick pK)) ?_
      refine T.y (fun w hw => Yl.move rfl) rfl rfl ?_
      refine T.o (OpW.appRR (rows := []) (r2 := (encB b ep)) inf_23 Try.underlying62 rfl rfl mM pK (by simp; omega)) rfl rfl (fun ⟨A63, c63⟩ _ => ?_)
      dsimp only
      refine T.y (fun w hw => Yl.move rfl) rfl rfl ?_
      refine T.o (OpW.appRR (rows := [] ++ (encB b ep)) (r2 := bh) inf_23 Try.underlying62 rfl rfl mM pK (by simp; omega)) rfl rfl (fun ⟨A65, c65⟩ _ => ?_)
      dsimp only
      rw [List.nil_append]
      refine J.ent (fun w hw => Hold.rows_freeze (A := A65) (c := c65) (rows := ((encB b ep) ++ bh)) (hw.pick pK)) ?_
      refine T.o (OpW.call en_69 rfl (decode_b_ct (l := (encB b ep) ++ bh) mM (by rw [List.length_append]; omega))) rfl rfl (fun ⟨A66, c66⟩ _ => ?_)
      dsimp only
      rw [(dec_encB hcan bh).1, (dec_encB hcan bh).2]
      dsimp only
      refine T.y (fun w hw => Yl.move rfl) rfl rfl ?_
      refine T.y (fun w hw => Yl.extract rfl rfl) rfl rfl ?_
      refine T.y (fun w hw => Yl.extract rfl rfl) rfl rfl ?_
      refine T.y (fun w hw => Yl.extract rfl rfl) rfl rfl ?_
      refine T.y (fun w hw => Yl.extract rfl rfl) rfl rfl ?_
      refine T.o (OpW.alloc zr_55) rfl rfl (fun b13 _ => ?_)
      refine T.o0 (OpW.stA sz_55 rfl rfl rfl rfl sW uL) rfl (fun _ _ => ?_)
      refine T.y (fun w hw => Yl.assign rfl) rfl rfl ?_
      refine T.y (fun w hw => Yl.assign rfl) rfl rfl ?_
      refine T.y (fun w hw => Yl.assign rfl) rfl rfl ?_
      refine T.nil ?_
      refine J.sel (.cons 1 rfl (.cons 3 rfl (.cons 4 rfl (.cons 5 rfl (.cons 11 rfl (.cons 13 rfl (.cons 14 rfl (.cons 15 rfl (.cons 16 rfl .nil))))))))) ?_
      refine X.then_ ?_
      refine T.seq ?_
      refine T.seq ?_
      -- region 9 (law.go:58)
      refine T.region ?_
      refine T.y (fun w hw => Yl.move rfl) rfl rfl ?_
      refine T.y (fun w hw => Yl.neq rfl rfl) rfl rfl ?_
      refine T.y (fun w hw => Yl.move rfl) rfl rfl ?_
      refine T.y (fun w hw => Yl.move rfl) rfl rfl ?_
      refine T.y (fun w hw => Yl.move rfl) rfl rfl ?_
      refine T.y (fun w hw => Yl.len Try.underlying62 rfl) rfl rfl ?_
      refine T.y (fun w hw => Yl.neq rfl rfl) rfl rfl ?_
      refine T.y (fun w hw => Yl.pickF rfl rfl) rfl rfl ?_
      refine T.y (fun w hw => Yl.move rfl) rfl rfl ?_
      refine T.splitD 79 rfl (fun h79 => ?_) (fun h79 => ?_)
      · exfalso; (first | omega | exact absurd rfl (by assumption))
      ·skip
       refine T.y (fun w hw => Yl.move rfl) rfl rfl ?_
       refine T.y (fun w hw => Yl.move rfl) rfl rfl ?_
       refine T.y (fun w hw => Yl.neq rfl rfl) rfl rfl ?_
       refine T.y (fun w hw => Yl.pickF rfl rfl) rfl rfl ?_
       refine T.y (fun w hw => Yl.move rfl) rfl rfl ?_
       refine T.splitD 84 rfl (fun h84 => ?_) (fun h84 => ?_)
       · exfalso; (first | omega | exact absurd rfl (by assumption))
       ·skip
        refine T.y (fun w hw => Yl.ldaP hw ag_55 rfl mM sU) rfl rfl ?_
        refine T.y (fun w hw => Yl.ldaP hw ag_55 rfl mM sU) rfl rfl ?_
        refine T.o (OpW.call en_71 rfl (sameBatch_ct (a := b) (b := b) mM mM)) rfl rfl (fun _ _ => ?_)
        rw [eqv_yes rfl]
        refine T.y (fun w hw => Yl.not rfl) rfl rfl ?_
        refine T.y (fun w hw => Yl.pickF rfl rfl) rfl rfl ?_
        refine T.nil ?_
        refine J.sel (.cons 3 rfl (.cons 4 rfl (.cons 11 rfl (.cons 89 rfl .nil)))) ?_
        refine X.then_ ?_
        refine T.condF rfl ?_
        refine T.skip ?_
        refine X.then_ ?_
        refine T.seq ?_
        -- region 11 (law.go:61)
        refine T.region ?_
        refine T.y (fun w hw => Yl.move rfl) rfl rfl ?_
        refine T.y (fun w hw => Yl.move rfl) rfl rfl ?_
        refine T.y (fun w hw => Yl.move rfl) rfl rfl ?_
        refine T.y (fun w hw => Yl.len Try.underlying62 rfl) rfl rfl ?_
        refine T.o (OpW.call en_37 rfl (round_ct (by omega) (by omega))) rfl rfl (fun x hx => ?_)
        obtain ⟨x, hx, hx2⟩ : ∃ x : Nat, cut % (((encB b ep).length : Nat) : Int) = x ∧ x < (encB b ep).length := ⟨(cut % (((encB b ep).length : Nat) : Int)).toNat, by have := Int.emod_nonneg cut (b := (((encB b ep).length : Nat) : Int)) (by omega); omega, by have := Int.emod_nonneg cut (b := (((encB b ep).length : Nat) : Int)) (by omega); have := Int.emod_lt_of_pos cut (b := (((encB b ep).length : Nat) : Int)) (by omega); omega⟩
        rw [hx]
        refine T.y (fun w hw => Yl.slHi Try.underlying62 sz_23 rfl rfl (l := x) rfl (by omega)) rfl rfl ?_
        rw [slA_zero]
        refine J.ent (fun w hw => hw.rows_pre (A := A46) (c := c46) (rows := (encB b ep)) mM x (by omega)) ?_
        refine T.o (OpW.call en_69 rfl (decode_b_ct' (l := (encB b ep).take x) mM (by rw [List.length_take]; omega) (by omega))) rfl rfl (fun ⟨A97, c97⟩ _ => ?_)
        dsimp only
        rw [(dec_cut hcan hx2).1, (dec_cut hcan hx2).2]
        dsimp only
        refine T.y (fun w hw => Yl.move rfl) rfl rfl ?_
        refine T.y (fun w hw => Yl.extract rfl rfl) rfl rfl ?_
        refine T.y (fun w hw => Yl.extract rfl rfl) rfl rfl ?_
        refine T.y (fun w hw => Yl.extract rfl rfl) rfl rfl ?_
        refine T.y (fun w hw => Yl.extract rfl rfl) rfl rfl ?_
        refine T.o (OpW.alloc zr_55) rfl rfl (fun b17 _ => ?_)
        refine T.o0 (OpW.stA sz_55 rfl rfl rfl rfl sW uL) rfl (fun _ _ => ?_)
        refine T.y (fun w hw => Yl.assign rfl) rfl rfl ?_
        refine T.y (fun w hw => Yl.assign rfl) rfl rfl ?_
        refine T.y (fun w hw => Yl.assign rfl) rfl rfl ?_
        refine T.nil ?_
        refine J.sel (.cons 4 rfl (.cons 11 rfl (.cons 19 rfl (.cons 20 rfl .nil)))) ?_
        refine X.then_ ?_
        refine T.seq ?_
        -- region 12 (law.go:62)
        refine T.region ?_
        refine T.y (fun w hw => Yl.move rfl) rfl rfl ?_
        refine T.y (fun w hw => Yl.move rfl) rfl rfl ?_
        refine T.y (fun w hw => Yl.len Try.underlying62 rfl) rfl rfl ?_
        refine T.y (fun w hw => Yl.mul rfl rfl (by omega)) rfl rfl ?_
        refine T.o (OpW.call en_37 rfl (round_ct (by omega) (by omega))) rfl rfl (fun x hx => ?_)
        obtain ⟨j, hj, hj2⟩ : ∃ j : Nat, bit % ((((encB b ep).length : Nat) : Int) * 512) = j ∧ j < (encB b ep).length * 512 := ⟨(bit % ((((encB b ep).length : Nat) : Int) * 512)).toNat, by have := Int.emod_nonneg bit (b := (((encB b ep).length : Nat) : Int) * 512) (by omega); omega, by have := Int.emod_nonneg bit (b := (((encB b ep).length : Nat) : Int) * 512) (by omega); have := Int.emod_lt_of_pos bit (b := (((encB b ep).length : Nat) : Int) * 512) (by omega); omega⟩
        rw [hj]
        refine T.y (fun w hw => Yl.assign rfl) rfl rfl ?_
        refine T.nil ?_
        refine J.sel (.cons 11 rfl (.cons 19 rfl (.cons 20 rfl (.cons 21 rfl .nil)))) ?_
        refine X.then_ ?_
        refine T.seq ?_
        -- region 13 (law.go:63)
        refine T.region ?_
        refine T.y (fun w hw => Yl.assign rfl) rfl rfl ?_
        refine T.nil ?_
        refine X.then_ ?_
        refine T.seq ?_
        refine T.seq ?_
        refine J.row_nil 23 1 ?_
        refine J.ent (fun w hw => hw.own_nil) ?_
        -- region 14 (law.go:64)
        refine T.region ?_
        refine T.y (fun w hw => Yl.assign rfl) rfl rfl ?_
        refine T.nil ?_
        refine X.then_ ?_
        refine T.block ?_
        refine T.loop (α := Nat × Option Addr × Nat × List (Option Addr × Nat)) (fun u => u.1 ≤ (encB b ep).length ∧ u.2.2.2.length = u.1) (fun u => [(22, .slice u.2.1 u.1 u.2.2.1), (23, .int .i64 (u.1 : Int)), (11, .slice A46 (encB b ep).length c46), (19, .int .i64 0), (20, .int .i64 14), (21, .int .i64 (j : Int))]) (fun u => rowH 23 1 u.2.1 u.2.2.1 u.1 (slsO u.2.2.2 ((encB b ep).take u.1)) :: ownL u.2.2.2 ((encB b ep).take u.1) :: M) (fun u => rowsK A46 c46 (encB b ep) :: K) (fun u => (encB b ep).length - u.1) (0, none, 0, []) ⟨Nat.zero_le _, rfl⟩ (.cons 22 rfl (.num 23 rfl rfl (.cons 11 rfl (.cons 19 rfl (.cons 20 rfl (.cons 21 rfl .nil)))))) (fun w hw => hw.f) ?_
        intro ⟨i, At, ct, xs⟩ ⟨hi, hxs⟩ Zk hz2
        dsimp only at hi hxs hz2 ⊢
        refine T.seq ?_
        refine T.seq ?_
        -- region 15 (law.go:64)
        refine T.region ?_
        refine T.y (fun w hw => Yl.move rfl) rfl rfl ?_
        refine T.y (fun w hw => Yl.move rfl) rfl rfl ?_
        refine T.y (fun w hw => Yl.len Try.underlying62 rfl) rfl rfl ?_
        refine T.y (fun w hw => Yl.lss rfl rfl) rfl rfl ?_
        refine T.nil ?_
        refine J.sel (.cons 11 rfl (.cons 19 rfl (.cons 20 rfl (.cons 21 rfl (.cons 22 rfl (.cons 23 rfl (.cons 110 rfl .nil))))))) ?_
        refine X.then_ ?_
        refine T.condD rfl (fun h110 => ?_) (fun h110 => ?_)
        ·skip
         refine T.skip ?_
         refine X.then_ ?_
         refine T.seq ?_
         refine T.block ?_
         obtain ⟨q, hq⟩ : ∃ q, (encB b ep)[i]? = some q := ⟨_, List.getElem?_eq_getElem (by omega)⟩
         have hq64 := encB_64 hcan (List.mem_of_getElem? hq)
         have htk : (encB b ep).take i ++ [q] = (encB b ep).take (i + 1) := by
           obtain ⟨hlt, rfl⟩ := List.getElem?_eq_some_iff.1 hq
           rw [List.take_succ_eq_append_getElem hlt]
         have hxl : xs.length = ((encB b ep).take i).length := by rw [List.length_take]; omega
         refine J.open_ (fun w hw => hw.rows_at (A := A46) (c := c46) (rows := (encB b ep)) mM hq) ?_
         rintro ⟨Aq, cq⟩ -
         dsimp only
         -- region 17 (law.go:65)
         refine T.region ?_
         refine T.y (fun w hw => Yl.move rfl) rfl rfl ?_
         refine T.o (OpW.bsl (sz := 1) rfl bsl_23_0 rfl rfl) rfl rfl (fun b114 _ => ?_)
         refine T.y (fun w hw => Yl.move rfl) rfl rfl ?_
         refine T.y (fun w hw => Yl.move rfl) rfl rfl ?_
         refine T.y (fun w hw => (by first | exact Yl.iaK (i := i) hw mM Try.underlying62 isz_23 rfl rfl rfl (by omega) | exact Yl.ia1 (i := i) sC Try.underlying62 isz_23 rfl rfl rfl (by omega))) rfl rfl ?_
         refine T.y (fun w hw => (by first | exact Yl.ldC hw na_23 rfl mM | exact Yl.ldR sC na_23 rfl (by assumption) | exact Yl.ldV hw na_23 rfl mM rfl)) rfl rfl ?_
         refine T.o (OpW.appB (xs := []) (ys := q) rfl rfl pK (fun w hw => hw.bytes mM) (by simp; omega)) rfl rfl (fun ⟨A119, c119⟩ _ => ?_)
         dsimp only
         rw [List.nil_append]
         refine T.o (OpW.bsl (sz := 1) rfl bsl_62_1 rfl rfl) rfl rfl (fun b120 _ => ?_)
         refine T.o (OpW.app Try.underlying62 inf_23 rfl rfl rfl rfl pK (fun w hw => hw.row mM) oN (by constructor <;> omega)) rfl rfl (fun ⟨A121, c121⟩ _ => ?_)
         dsimp only
         refine T.y (fun w hw => Yl.assign rfl) rfl rfl ?_
         refine T.nil ?_
         refine J.sel (.cons 11 rfl (.cons 19 rfl (.cons 20 rfl (.cons 21 rfl (.cons 22 rfl (.cons 23 rfl .nil)))))) ?_
         refine X.nm_blk ?_
         refine X.then_ ?_
         -- region 16 (law.go:64)
         refine T.region ?_
         refine T.y (fun w hw => Yl.move rfl) rfl rfl ?_
         refine T.y (fun w hw => Yl.add rfl rfl (by omega)) rfl rfl ?_
         refine T.y (fun w hw => Yl.assign rfl) rfl rfl ?_
         refine T.nil ?_
         refine J.sel (.cons 11 rfl (.cons 19 rfl (.cons 20 rfl (.cons 21 rfl (.cons 22 rfl (.cons 23 rfl .nil)))))) ?_
         refine X.go (hz2 (i + 1, A121, c121, xs ++ [(A119, c119)]) ⟨by dsimp only; omega, by simp [hxs]⟩ (by dsimp only; omega)) (.cons 22 rfl (.num 23 rfl (by omega) (.cons 11 rfl (.cons 19 rfl (.cons 20 rfl (.cons 21 rfl .nil)))))) (fun w hw => ?_)
         dsimp only
         have hw := Hold.own_snoc (xs := xs) (rows := (encB b ep).take i) (A := A119) (c := c119) (q := q) ((hw.pick (p := ownL xs ((encB b ep).take i)) pK).pick (p := rowH 5 1 A119 c119 q.length (nums .u8 q)) pK) hxl
         rw [← htk, slsO_snoc hxl]
         exact hw.f
        ·skip
         refine T.exit ?_
         refine X.exit_then ?_
         refine X.exit_then ?_
         refine X.exit_blk ?_
         refine X.then_ ?_
         refine T.seq ?_
         have hiL : i = (encB b ep).length := by omega
         subst hiL
         rw [List.take_length]
         obtain ⟨q, hq⟩ : ∃ q, (encB b ep)[j / 512]? = some q := ⟨_, List.getElem?_eq_getElem (by omega)⟩
         obtain ⟨⟨Aq, cq⟩, hx0⟩ : ∃ x, xs[j / 512]? = some x := ⟨_, List.getElem?_eq_getElem (by omega)⟩
         have hq64 := encB_64 hcan (List.mem_of_getElem? hq)
         have hqB := hLB q (List.mem_of_getElem? hq)
         have hsl := slsO_at hx0 hq
         obtain ⟨jj, hjj⟩ : ∃ jj, jj = j % 512 / 8 := ⟨_, rfl⟩
         have hjj64 : jj < 64 := by omega
         have hrb := rd_b q jj (by omega) hqB
         have hnv : (nums .u8 q)[jj]? = some (.int .u8 (rd q (jj : Nat))) := nums_at (by omega)
         have hnl : (nums .u8 q).length = 64 := by rw [nums_length, hq64]
         have hp8 := pow8 (m := j % 8) (by omega)
         refine J.ent (fun w hw => (hw.pick (p := ownL xs (encB b ep)) pK).own_focus hx0 hq) ?_
         dsimp only
         -- region 18 (law.go:67)
         refine Dr.start0 [23] ?_
         refine Dr.take 0 rfl (by kernel_rfl) bL sS (fun w hs => have hw := hs.h; Yl.move rfl) rfl rfl ?_
         refine Dr.take 1 rfl (by kernel_rfl) bL sS (fun w hs => have hw := hs.h; Yl.move rfl) rfl rfl ?_
         refine Dr.take 2 rfl (by kernel_rfl) bL sS (fun w hs => have hw := hs.h; Yl.quo rfl rfl (by omega)) rfl rfl ?_
         refine Dr.take 3 rfl (by kernel_rfl) bL sS (fun w hs => have hw := hs.h; Yl.ia1 (i := j / 512) (hw.row (e := 23) mM) Try.underlying62 isz_23 rfl rfl (by omega) (by omega)) rfl rfl ?_
         refine Dr.take 4 rfl (by kernel_rfl) bL sS (fun w hs => have hw := hs.h; Yl.ldR (hw.row (e := 23) mM) na_23 rfl hsl) rfl rfl ?_
         refine Dr.take 5 rfl (by kernel_rfl) bL sS (fun w hs => have hw := hs.h; Yl.move rfl) rfl rfl ?_
         refine Dr.take 6 rfl (by kernel_rfl) bL sS (fun w hs => have hw := hs.h; Yl.rem rfl rfl (by omega)) rfl rfl ?_
         refine Dr.take 7 rfl (by kernel_rfl) bL sS (fun w hs => have hw := hs.h; Yl.quo rfl rfl (by omega)) rfl rfl ?_
         refine Dr.take 8 rfl (by kernel_rfl) bL sS (fun w hs => have hw := hs.h; Yl.move rfl) rfl rfl ?_
         refine Dr.take 9 rfl (by kernel_rfl) bL sS (fun w hs => have hw := hs.h; Yl.move rfl) rfl rfl ?_
         refine Dr.take 10 rfl (by kernel_rfl) bL sS (fun w hs => have hw := hs.h; Yl.quo rfl rfl (by omega)) rfl rfl ?_
         refine Dr.take 11 rfl (by kernel_rfl) bL sS (fun w hs => have hw := hs.h; Yl.ia1 (i := j / 512) (hw.row (e := 23) mM) Try.underlying62 isz_23 rfl rfl (by omega) (by omega)) rfl rfl ?_
         refine Dr.take 12 rfl (by kernel_rfl) bL sS (fun w hs => have hw := hs.h; Yl.ldR (hw.row (e := 23) mM) na_23 rfl hsl) rfl rfl ?_
         refine Dr.take 13 rfl (by kernel_rfl) bL sS (fun w hs => have hw := hs.h; Yl.move rfl) rfl rfl ?_
         refine Dr.take 14 rfl (by kernel_rfl) bL sS (fun w hs => have hw := hs.h; Yl.rem rfl rfl (by omega)) rfl rfl ?_
         refine Dr.take 15 rfl (by kernel_rfl) bL sS (fun w hs => have hw := hs.h; Yl.quo rfl rfl (by omega)) rfl rfl ?_
         refine Dr.take 16 rfl (by kernel_rfl) bL sS (fun w hs => have hw := hs.h; Yl.ia1 (i := jj) (hw.row (e := 5) mM) Try.underlying23 isz_5 rfl rfl (by omega) (by omega)) rfl rfl ?_
         refine Dr.take 17 rfl (by kernel_rfl) bL sS (fun w hs => have hw := hs.h; Yl.ldR (hw.row (e := 5) mM) na_5 rfl hnv) rfl rfl ?_
         refine Dr.take 18 rfl (by kernel_rfl) bL sS (fun w hs => have hw := hs.h; Yl.move rfl) rfl rfl ?_
         refine Dr.take 19 rfl (by kernel_rfl) bL sS (fun w hs => have hw := hs.h; Yl.rem rfl rfl (by omega)) rfl rfl ?_
         refine Dr.take 20 rfl (by kernel_rfl) bL sS (fun w hs => have hw := hs.h; Yl.shl8 (m := j % 8) rfl rfl (by omega) (by omega)) rfl rfl ?_
         refine Dr.take 21 rfl (by kernel_rfl) bL sS (fun w hs => have hw := hs.h; Yl.xor8 rfl rfl hrb hp8) rfl rfl ?_
         refine Dr.take 22 rfl (by kernel_rfl) bL sS (fun w hs => have hw := hs.h; Yl.ia1 (i := jj) (hw.row (e := 5) mM) Try.underlying23 isz_5 rfl rfl (by omega) (by omega)) rfl rfl ?_
         refine Dr.act0 23 rfl (by kernel_rfl) rfl (OpW.stR sz_5 rfl rfl rfl rfl sW (by omega) (by omega)) rfl (fun hB => absurd (List.elem_iff.1 rfl) hB) (fun _ _ => ?_)
         refine Dr.done (by kernel_rfl) ?_
         refine J.sel (.cons 19 rfl (.cons 20 rfl (.cons 22 rfl .nil))) ?_
         refine X.then_ ?_
         refine T.seq ?_
         obtain ⟨y, hy⟩ : ∃ y : Int, y = (((rd q (jj : Nat)).toNat ^^^ (((2 ^ (j % 8) : Nat) : Int)).toNat : Nat) : Int) := ⟨_, rfl⟩
         have hyb : 0 ≤ y ∧ y ≤ 255 := by rw [hy]; exact xor_b hrb hp8
         have hyn : y ≠ rd q (jj : Nat) := by rw [hy]; exact flip_ne hrb
         have hdec := dec_turned hcan (k := j / 512) (q := q.set jj y) (by omega) (turned_bad hcan (List.mem_of_getElem? hq) hqB hjj64 hyb hyn)
         have hsq : (q.set jj y).length = q.length := by simp
         rw [← hy, nums_set]
         refine J.ent (fun w hw => Hold.own_back (r := q) (r' := q.set jj y) (x := (Aq, cq)) (i := j / 512) (xs := xs) (rows := (encB b ep)) (by rw [hsq]; exact hw.pick pK |>.pick pK) hx0 hq) ?_
         refine J.ent (fun w hw => Hold.own_rows (A := At) (c := ct) (n := (encB b ep).length) (xs := xs) (rows := (encB b ep).set (j / 512) (q.set jj y)) (by rw [slsO_set hq hsq]; exact hw.f) (by rw [List.length_set]; exact hxs) (by rw [List.length_set]) (fun r hr => ?_)) ?_
         · rcases List.mem_or_eq_of_mem_set hr with hr | rfl
           · exact hLB r hr
           · exact set_b hqB jj hyb
         -- region 19 (law.go:68)
         refine T.region ?_
         refine T.y (fun w hw => Yl.move rfl) rfl rfl ?_
         refine T.o (OpW.call en_69 rfl (decode_b_ct' (l := (encB b ep).set (j / 512) (q.set jj y)) mM (by rw [List.length_set]) (by omega))) rfl rfl (fun ⟨A147, c147⟩ _ => ?_)
         dsimp only
         rw [hdec.1, hdec.2]
         dsimp only
         refine T.y (fun w hw => Yl.move rfl) rfl rfl ?_
         refine T.y (fun w hw => Yl.extract rfl rfl) rfl rfl ?_
         refine T.y (fun w hw => Yl.extract rfl rfl) rfl rfl ?_
         refine T.y (fun w hw => Yl.extract rfl rfl) rfl rfl ?_
         refine T.y (fun w hw => Yl.extract rfl rfl) rfl rfl ?_
         refine T.o (OpW.alloc zr_55) rfl rfl (fun b24 _ => ?_)
         refine T.o0 (OpW.stA sz_55 rfl rfl rfl rfl sW uL) rfl (fun _ _ => ?_)
         refine T.y (fun w hw => Yl.assign rfl) rfl rfl ?_
         refine T.y (fun w hw => Yl.assign rfl) rfl rfl ?_
         refine T.y (fun w hw => Yl.assign rfl) rfl rfl ?_
         refine T.nil ?_
         refine J.sel (.cons 19 rfl (.cons 20 rfl (.cons 26 rfl (.cons 27 rfl .nil)))) ?_
         refine X.then_ ?_
         refine T.seq ?_
         -- region 20 (law.go:69)
         refine T.region ?_
         refine T.y (fun w hw => Yl.move rfl) rfl rfl ?_
         refine T.y (fun w hw => Yl.eql rfl rfl) rfl rfl ?_
         refine T.y (fun w hw => Yl.move rfl) rfl rfl ?_
         refine T.y (fun w hw => Yl.move rfl) rfl rfl ?_
         refine T.y (fun w hw => Yl.eql rfl rfl) rfl rfl ?_
         refine T.y (fun w hw => Yl.pickT rfl rfl) rfl rfl ?_
         refine T.y (fun w hw => Yl.move rfl) rfl rfl ?_
         refine T.y (fun w hw => Yl.move rfl) rfl rfl ?_
         refine T.y (fun w hw => Yl.eql rfl rfl) rfl rfl ?_
         refine T.y (fun w hw => Yl.pickT rfl rfl) rfl rfl ?_
         refine T.y (fun w hw => Yl.move rfl) rfl rfl ?_
         refine T.y (fun w hw => Yl.move rfl) rfl rfl ?_
         refine T.y (fun w hw => Yl.eql rfl rfl) rfl rfl ?_
         refine T.y (fun w hw => Yl.pickT rfl rfl) rfl rfl ?_
         refine T.y (fun w hw => Yl.move rfl) rfl rfl ?_
         refine T.o (OpW.call en_43 rfl (awake17_ct)) rfl rfl (fun x hx => ?_)
         refine T.y (fun w hw => Yl.pickT rfl rfl) rfl rfl ?_
         refine T.y (fun w hw => Yl.assign rfl) rfl rfl ?_
         refine T.nil ?_
         refine J.sel (.cons 10 rfl .nil) ?_
         refine X.then_ ?_
         refine T.ret ?_
         refine X.ret1 Try.results17 rfl (fun w hw => ?_)
         exact ⟨(), trivial, rfl, hw.f⟩

set_option maxRecDepth 100000 in
theorem batchBack_walk {w : World} (b : BatL) (A : Option Addr) (c : Nat) (hb : (viewK 2 txE A c b.txs).sat w (fun k => k < w.heap.size)) (ep : Int) (v : Value) (rows : List (List Int)) (hx : Row (fun k => k < w.heap.size) w v rows) (hB : ∀ r ∈ rows, IsB r) (cut bit : Int) : Calls Try.prog 17 #[b.val A c, .int .i64 ep, v, .int .i64 cut, .int .i64 bit] w fun e w' => e = .returned (.bool true) ∧ Below w.heap.size w w' := by
  obtain ⟨B, k, rfl, hk⟩ := row_open hx hB
  exact law_of (vs := [b.val A c, .int .i64 ep, .slice B rows.length k, .int .i64 cut, .int .i64 bit]) (K := [viewK 2 txE A c b.txs, rowsK B k rows]) (back_ct (.tail _ (.head _)) (.tail _ (.tail _ (.head _)))) (fun k' hk' => by
    rcases List.mem_cons.1 hk' with rfl | hk'
    · exact hb
    · rw [List.mem_singleton.1 hk']; exact hk)
end Go.Proofs.Ytfpnodboebpemaa
