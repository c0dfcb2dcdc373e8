/- The contract of slot.write. -/
import Derived.Test.YtfpnodboebpemaaSltB
namespace Go.Proofs.Ytfpnodboebpemaa
open Go.RowKit Go.Proofs.YtfpnodboebpemaaW.PrintWords
set_option linter.unusedVariables false
set_option linter.unusedSimpArgs false
attribute [local irreducible] pt rowH slK bytesK intsK rowsK rowsH cellK rowsV oldK star exH pureH knowH starL emp devH zoneH zonesH zrest cellsK viewV viewK viewH blkE slotH

set_option maxHeartbeats 2000000 in
theorem write0_ct {M : List HP} {K : List KP} {p d lo mid hi c : Nat} {A : Option Addr} {D : Dev} {e f g h : Value} {n : Int} {t : List Int} (hD : D.ok) (h1 : lo ≤ mid) (h2 : mid ≤ D.zones.length) (hn : seqOk n) (ht : bytesK A c t ∈ K) (htl : t.length ≤ 1000000) : Fn 127 [ptr p 0, .int .i64 0, .int .i64 n, .slice A t.length c] (pt p 175 [ptr d 0, .int .i64 lo, .int .i64 mid, .int .i64 hi, .int .i64 D.size, e, f, g, h] :: devH d D :: M) K (fun _ : Unit => True) (fun _ => .int .i64 (sltWrite D lo mid n t).2) (fun _ => pt p 175 [ptr d 0, .int .i64 lo, .int .i64 mid, .int .i64 hi, .int .i64 D.size, e, f, g, h] :: devH d (sltWrite D lo mid n t).1 :: M) (fun _ => K) := by
 refine Fn.of (n := 133) Try.func127 rfl Try.ntmps127 rfl ?_
 have hz64 := hD.zones
 have hs192 := hD.size
 refine J.fact (fun w hw => hw.isB (A := A) (c := c) (xs := t) mM) ?_
 intro hB
 refine J.fact (fun w hw => hw.bytes_cap (A := A) (c := c) (xs := t) mM) ?_
 intro hcap
 refine T.seq ?_
 -- region 0 (slot.go:104)
 refine T.region ?_
 refine T.y (fun w hw => Yl.assign rfl) rfl rfl ?_
 refine T.nil ?_
 refine J.sel (.cons 0 rfl (.cons 1 rfl (.cons 2 rfl (.cons 3 rfl .nil)))) ?_
 refine X.then_ ?_
 refine T.seq ?_
 refine T.seq ?_
 -- region 1 (slot.go:105)
 refine T.region ?_
 refine T.y (fun w hw => Yl.move rfl) rfl rfl ?_
 refine T.y (fun w hw => Yl.move rfl) rfl rfl ?_
 refine T.y (fun w hw => Yl.nilck rfl) rfl rfl ?_
 refine T.y (fun w hw => Yl.fa fa_175_1 rfl) rfl rfl ?_
 refine T.y (fun w hw => Yl.iaA (i := 0) Try.underlying173 sz_3 rfl rfl rfl (by decide)) rfl rfl ?_
 refine T.y (fun w hw => Yl.ldP hw na_3 rfl mM rfl) rfl rfl ?_
 refine T.y (fun w hw => Yl.assign rfl) rfl rfl ?_
 refine T.nil ?_
 refine J.sel (.cons 0 rfl (.cons 1 rfl (.cons 2 rfl (.cons 3 rfl (.cons 9 rfl .nil))))) ?_
 refine X.then_ ?_
 refine T.block ?_
 refine T.loop (α := Nat × Dev) (fun u => lo ≤ u.1 ∧ u.1 ≤ mid ∧ u.2.ok ∧ u.2.size = D.size ∧ u.2.zones.length = D.zones.length ∧ resets D lo (mid - lo) = resets u.2 u.1 (mid - u.1)) (fun u => [(9, .int .i64 (u.1 : Int)), (0, ptr p 0), (1, .int .i64 0), (2, .int .i64 n), (3, .slice A t.length c)]) (fun u => pt p 175 [ptr d 0, .int .i64 lo, .int .i64 mid, .int .i64 hi, .int .i64 D.size, e, f, g, h] :: devH d u.2 :: M) (fun u => K) (fun u => mid - u.1) (lo, D) ⟨Nat.le_refl _, h1, hD, rfl, rfl, rfl⟩ (.num 9 rfl rfl (.cons 0 rfl (.cons 1 rfl (.cons 2 rfl (.cons 3 rfl .nil))))) (fun w hw => hw.f) ?_
 intro ⟨z, D1⟩ ⟨hz1, hz2, hD1, hs1, hl1, hrs⟩ Zk hzo
 dsimp only at hz1 hz2 hD1 hs1 hl1 hrs hzo ⊢
 refine T.seq ?_
 refine T.seq ?_
 -- region 2 (slot.go:105)
 refine T.region ?_
 refine T.y (fun w hw => Yl.move rfl) rfl rfl ?_
 refine T.y (fun w hw => Yl.move rfl) rfl rfl ?_
 refine T.y (fun w hw => Yl.move rfl) rfl rfl ?_
 refine T.y (fun w hw => Yl.add rfl rfl (by decide)) rfl rfl ?_
 refine T.y (fun w hw => Yl.nilck rfl) rfl rfl ?_
 refine T.y (fun w hw => Yl.fa fa_175_1 rfl) rfl rfl ?_
 refine T.y (fun w hw => Yl.iaA (i := 1) Try.underlying173 sz_3 rfl rfl (by decide) (by decide)) rfl rfl ?_
 refine T.y (fun w hw => Yl.ldP hw na_3 rfl mM rfl) rfl rfl ?_
 refine T.y (fun w hw => Yl.lss rfl rfl) rfl rfl ?_
 refine T.nil ?_
 refine J.sel (.cons 0 rfl (.cons 1 rfl (.cons 2 rfl (.cons 3 rfl (.cons 9 rfl (.cons 33 rfl .nil)))))) ?_
 refine X.then_ ?_
 refine T.condD rfl (fun h33 => ?_) (fun h33 => ?_)
 ·skip
  refine T.skip ?_
  refine X.then_ ?_
  refine T.seq ?_
  refine T.block ?_
  refine T.seq ?_
  have hbz : mid - z = mid - (z + 1) + 1 := by omega
  have hsm := reset_same hD1 (z : Nat)
  -- region 4 (slot.go:106)
  refine T.region ?_
  refine T.y (fun w hw => Yl.move rfl) rfl rfl ?_
  refine T.y (fun w hw => Yl.nilck rfl) rfl rfl ?_
  refine T.y (fun w hw => Yl.fa fa_175_0 rfl) rfl rfl ?_
  refine T.y (fun w hw => Yl.ldP hw na_38 rfl mM rfl) rfl rfl ?_
  refine T.y (fun w hw => Yl.move rfl) rfl rfl ?_
  refine J.pick (p := devH d D1) pK ?_
  refine T.o (OpW.call en_40 rfl (pointerF_ct (k := z) hD1 rfl (by omega))) rfl rfl (fun _ _ => ?_)
  refine T.y (fun w hw => Yl.move rfl) rfl rfl ?_
  refine T.y (fun w hw => Yl.extract rfl rfl) rfl rfl ?_
  refine T.y (fun w hw => Yl.extract rfl rfl) rfl rfl ?_
  refine T.y (fun w hw => Yl.assign rfl) rfl rfl ?_
  refine T.y (fun w hw => Yl.assign rfl) rfl rfl ?_
  refine T.nil ?_
  refine J.sel (.cons 0 rfl (.cons 1 rfl (.cons 2 rfl (.cons 3 rfl (.cons 9 rfl (.cons 10 rfl .nil)))))) ?_
  refine X.then_ ?_
  refine T.seq ?_
  -- region 5 (slot.go:106)
  refine T.region ?_
  refine T.y (fun w hw => Yl.move rfl) rfl rfl ?_
  refine T.y (fun w hw => Yl.gtr rfl rfl) rfl rfl ?_
  refine T.nil ?_
  refine J.sel (.cons 0 rfl (.cons 1 rfl (.cons 2 rfl (.cons 3 rfl (.cons 9 rfl (.cons 46 rfl .nil)))))) ?_
  refine X.then_ ?_
  refine T.condD rfl (fun h46 => ?_) (fun h46 => ?_)
  ·skip
   refine T.seq ?_
   -- region 6 (slot.go:107)
   refine T.region ?_
   refine T.y (fun w hw => Yl.move rfl) rfl rfl ?_
   refine T.y (fun w hw => Yl.nilck rfl) rfl rfl ?_
   refine T.y (fun w hw => Yl.fa fa_175_0 rfl) rfl rfl ?_
   refine T.y (fun w hw => Yl.ldP hw na_38 rfl mM rfl) rfl rfl ?_
   refine T.y (fun w hw => Yl.move rfl) rfl rfl ?_
   refine J.pick (p := devH d D1) pK ?_
   refine T.o (OpW.call en_38 rfl (reset_ct (i := (z : Nat)) hD1)) rfl rfl (fun _ _ => ?_)
   refine T.y (fun w hw => Yl.assign rfl) rfl rfl ?_
   refine T.nil ?_
   refine J.sel (.cons 0 rfl (.cons 1 rfl (.cons 2 rfl (.cons 3 rfl (.cons 9 rfl (.cons 12 rfl .nil)))))) ?_
   refine X.then_ ?_
   refine T.seq ?_
   -- region 7 (slot.go:107)
   refine T.region ?_
   refine T.y (fun w hw => Yl.move rfl) rfl rfl ?_
   refine T.y (fun w hw => Yl.neq rfl rfl) rfl rfl ?_
   refine T.nil ?_
   refine J.sel (.cons 0 rfl (.cons 1 rfl (.cons 2 rfl (.cons 3 rfl (.cons 9 rfl (.cons 12 rfl (.cons 54 rfl .nil))))))) ?_
   refine X.then_ ?_
   refine T.condD rfl (fun h54 => ?_) (fun h54 => ?_)
   ·skip
    refine T.seq ?_
    -- region 8 (slot.go:108)
    refine T.region ?_
    refine T.y (fun w hw => Yl.move rfl) rfl rfl ?_
    refine T.y (fun w hw => Yl.assign rfl) rfl rfl ?_
    refine T.nil ?_
    refine J.sel (.cons 8 rfl .nil) ?_
    refine X.then_ ?_
    refine T.ret ?_
    refine X.ret_blk ?_
    refine X.ret_then ?_
    refine X.ret_then ?_
    refine X.ret_blk ?_
    refine X.ret_then ?_
    refine X.ret1 Try.results127 rfl (fun w hw => ?_)
    have hrs2 : resets D lo (mid - lo) = D1.reset (z : Nat) := by rw [hrs, hbz, resets_no (by omega) h54]
    rw [write_1 (by rw [hrs2]; exact h54), hrs2]
    exact ⟨(), trivial, rfl, hw.f⟩
   ·skip
    refine T.skip ?_
    refine X.nm_blk ?_
    refine X.then_ ?_
    -- region 3 (slot.go:105)
    refine T.region ?_
    refine T.y (fun w hw => Yl.move rfl) rfl rfl ?_
    refine T.y (fun w hw => Yl.add rfl rfl (by omega)) rfl rfl ?_
    refine T.y (fun w hw => Yl.assign rfl) rfl rfl ?_
    refine T.nil ?_
    refine J.sel (.cons 0 rfl (.cons 1 rfl (.cons 2 rfl (.cons 3 rfl (.cons 9 rfl .nil))))) ?_
    first
      | (refine X.go (hzo (z + 1, (D1.reset (z : Nat)).1) ⟨by dsimp only; omega, by dsimp only; omega, hsm.1, by dsimp only; rw [hsm.2.1, hs1], by dsimp only; rw [hsm.2.2, hl1], by dsimp only; rw [hrs, hbz, resets_on (by omega) h54]⟩ (by dsimp only; omega)) (.num 9 rfl (by omega) (.cons 0 rfl (.cons 1 rfl (.cons 2 rfl (.cons 3 rfl .nil))))) (fun w hw => ?_)
         exact hw.f)
      | (refine X.go (hzo (z + 1, D1) ⟨by dsimp only; omega, by dsimp only; omega, hD1, hs1, hl1, by dsimp only; rw [hrs, hbz, resets_skip (by omega)]⟩ (by dsimp only; omega)) (.num 9 rfl (by omega) (.cons 0 rfl (.cons 1 rfl (.cons 2 rfl (.cons 3 rfl .nil))))) (fun w hw => ?_)
         exact hw.f)
  ·skip
   refine T.skip ?_
   refine X.nm_blk ?_
   refine X.then_ ?_
   -- region 3 (slot.go:105)
   refine T.region ?_
   refine T.y (fun w hw => Yl.move rfl) rfl rfl ?_
   refine T.y (fun w hw => Yl.add rfl rfl (by omega)) rfl rfl ?_
   refine T.y (fun w hw => Yl.assign rfl) rfl rfl ?_
   refine T.nil ?_
   refine J.sel (.cons 0 rfl (.cons 1 rfl (.cons 2 rfl (.cons 3 rfl (.cons 9 rfl .nil))))) ?_
   first
     | (refine X.go (hzo (z + 1, (D1.reset (z : Nat)).1) ⟨by dsimp only; omega, by dsimp only; omega, hsm.1, by dsimp only; rw [hsm.2.1, hs1], by dsimp only; rw [hsm.2.2, hl1], by dsimp only; rw [hrs, hbz, resets_on (by omega) h54]⟩ (by dsimp only; omega)) (.num 9 rfl (by omega) (.cons 0 rfl (.cons 1 rfl (.cons 2 rfl (.cons 3 rfl .nil))))) (fun w hw => ?_)
        exact hw.f)
     | (refine X.go (hzo (z + 1, D1) ⟨by dsimp only; omega, by dsimp only; omega, hD1, hs1, hl1, by dsimp only; rw [hrs, hbz, resets_skip (by omega)]⟩ (by dsimp only; omega)) (.num 9 rfl (by omega) (.cons 0 rfl (.cons 1 rfl (.cons 2 rfl (.cons 3 rfl .nil))))) (fun w hw => ?_)
        exact hw.f)
 ·skip
  refine T.exit ?_
  refine X.exit_then ?_
  refine X.exit_then ?_
  refine X.exit_blk ?_
  refine X.then_ ?_
  refine T.seq ?_
  have hzb : mid - z = 0 := by omega
  rw [hzb] at hrs
  have hr1 : (resets D lo (mid - lo)).1 = D1 := by rw [hrs]; rfl
  have hr2 : ¬ (resets D lo (mid - lo)).2 ≠ 0 := by rw [hrs]; simp [resets]
  -- region 9 (slot.go:112)
  refine T.region ?_
  refine T.y (fun w hw => Yl.move rfl) rfl rfl ?_
  refine T.y (fun w hw => Yl.build rfl (bld_29_0_2 _)) rfl rfl ?_
  refine T.o (OpW.bsl (sz := 5) rfl bsl_153_1 rfl rfl) rfl rfl (fun b58 _ => ?_)
  refine T.y (fun w hw => Yl.assign rfl) rfl rfl ?_
  refine T.nil ?_
  refine J.ent (fun w hw => hw.bytesK_nil) ?_
  refine J.ent (fun w hw => hw.blkE' (A := none) (c := 0) (b := (headF n)) mM rfl) ?_
  refine J.ent (fun w hw => Hold.view_one (e := 29) (sz := 5) (el := blkE) (x := headF n) (vs := blkC (headF n) none 0) (A := some ⟨b58, 0, none⟩) (c := 1) (hw.pick pK) rfl mM) ?_
  refine J.sel (.cons 0 rfl (.cons 1 rfl (.cons 2 rfl (.cons 3 rfl (.cons 13 rfl .nil))))) ?_
  refine X.then_ ?_
  refine T.seq ?_
  refine T.seq ?_
  -- region 10 (slot.go:113)
  refine T.region ?_
  refine T.y (fun w hw => Yl.assign rfl) rfl rfl ?_
  refine T.nil ?_
  refine X.then_ ?_
  refine T.block ?_
  refine T.loop (α := Nat × Option Addr × Nat) (fun u => u.1 ≤ partsC t) (fun u => [(13, .slice u.2.1 ([headF n] ++ (partsN t u.1).map (dataF n)).length u.2.2), (14, .int .i64 ((40 * u.1 : Nat) : Int)), (0, ptr p 0), (1, .int .i64 0), (2, .int .i64 n), (3, .slice A t.length c)]) (fun u => viewH 29 5 blkE u.2.1 u.2.2 ([headF n] ++ (partsN t u.1).map (dataF n)) :: pt p 175 [ptr d 0, .int .i64 lo, .int .i64 mid, .int .i64 hi, .int .i64 D.size, e, f, g, h] :: devH d D1 :: M) (fun u => K) (fun u => partsC t - u.1) (0, some ⟨b58, 0, none⟩, 1) (Nat.zero_le _) (.cons 13 rfl (.num 14 rfl rfl (.cons 0 rfl (.cons 1 rfl (.cons 2 rfl (.cons 3 rfl .nil)))))) (fun w hw => hw.f) ?_
  intro ⟨k, Al, cl⟩ hk Zk hz2
  dsimp only at hk hz2 ⊢
  refine T.seq ?_
  refine T.seq ?_
  -- region 11 (slot.go:113)
  refine T.region ?_
  refine T.y (fun w hw => Yl.move rfl) rfl rfl ?_
  refine T.y (fun w hw => Yl.move rfl) rfl rfl ?_
  refine T.y (fun w hw => Yl.len Try.underlying23 rfl) rfl rfl ?_
  refine T.y (fun w hw => Yl.lss rfl rfl) rfl rfl ?_
  refine T.nil ?_
  refine J.sel (.cons 0 rfl (.cons 1 rfl (.cons 2 rfl (.cons 3 rfl (.cons 13 rfl (.cons 14 rfl (.cons 62 rfl .nil))))))) ?_
  refine X.then_ ?_
  refine T.condD rfl (fun h62 => ?_) (fun h62 => ?_)
  ·skip
   refine T.skip ?_
   refine X.then_ ?_
   refine T.seq ?_
   refine T.block ?_
   have hkc : 40 * k < t.length := by omega
   have hkp : k < partsC t := by unfold partsC; omega
   have hpc : partsC t ≤ 30000 := by unfold partsC; omega
   obtain ⟨m, hm⟩ : ∃ m, m = min (40 * k + 40) t.length := ⟨_, rfl⟩
   have hbl : ((t.drop (40 * k)).take 40).length = m - 40 * k := by rw [List.length_take, List.length_drop]; omega
   have hbe : (t.drop (40 * k)).take (m - 40 * k) = ((t.drop (40 * k)).take 40) := by
     rw [hm]
     rcases Nat.lt_or_ge t.length (40 * k + 40) with h | h
     · rw [List.take_of_length_le (by rw [List.length_drop]; omega), List.take_of_length_le (by rw [List.length_drop]; omega)]
     · rw [Nat.min_eq_left h, Nat.add_sub_cancel_left]
   have hls : ([headF n] ++ (partsN t k).map (dataF n)) ++ [dataF n ((t.drop (40 * k)).take 40)] = ([headF n] ++ (partsN t (k + 1)).map (dataF n)) := by rw [partsN_succ, List.map_append, List.append_assoc]; rfl
   have hll : ([headF n] ++ (partsN t k).map (dataF n)).length = 1 + k := by rw [List.length_append, List.length_map, partsN_length]; rfl
   refine J.ent (fun w hw => hw.bytes_cut (xs := t) (A := A) (c := c) mM (40 * k) m (by omega) (by omega)) ?_
   rw [hbe]
   -- region 13 (slot.go:114)
   refine T.region ?_
   refine T.y (fun w hw => Yl.move rfl) rfl rfl ?_
   refine T.y (fun w hw => Yl.move rfl) rfl rfl ?_
   refine T.y (fun w hw => Yl.move rfl) rfl rfl ?_
   refine T.y (fun w hw => Yl.move rfl) rfl rfl ?_
   refine T.y (fun w hw => Yl.move rfl) rfl rfl ?_
   refine T.y (fun w hw => Yl.add rfl rfl (by push_cast; omega)) rfl rfl ?_
   refine T.y (fun w hw => Yl.move rfl) rfl rfl ?_
   refine T.y (fun w hw => Yl.len Try.underlying23 rfl) rfl rfl ?_
   refine T.y (fun w hw => Yl.min rfl rfl) rfl rfl ?_
   refine T.y (fun w hw => Yl.slLH Try.underlying23 sz_5 rfl rfl rfl (l := 40 * k) (h := m) rfl (by push_cast; split <;> omega) (by omega) (by omega)) rfl rfl ?_
   rw [← hbl]
   refine T.y (fun w hw => Yl.build rfl (bld_29_0_2_4 _)) rfl rfl ?_
   refine T.o (OpW.bsl (sz := 5) rfl bsl_153_1 rfl rfl) rfl rfl (fun b76 _ => ?_)
   refine J.ent (fun w hw => hw.blkE' (A := (slA A c (40 * k) 1)) (c := (c - 40 * k)) (b := (dataF n ((t.drop (40 * k)).take 40))) mM rfl) ?_
   refine J.ent (fun w hw => Hold.view_lit (e := 29) (sz := 5) (el := blkE) (x := (dataF n ((t.drop (40 * k)).take 40))) (vs := blkC (dataF n ((t.drop (40 * k)).take 40)) (slA A c (40 * k) 1) (c - 40 * k)) (A := some ⟨b76, 0, none⟩) (c := 1) (hw.pick pK) rfl mM) ?_
   refine T.o (OpW.appV (el := blkE) (ys := [dataF n ((t.drop (40 * k)).take 40)]) Try.underlying153 inf_29 rfl rfl rfl rfl mM blkE_one pK ⟨by rw [hll]; show 1 + k + 1 ≤ 1000000; omega, by decide⟩) rfl rfl (fun ⟨A77, c77⟩ _ => ?_)
   dsimp only
   refine T.y (fun w hw => Yl.assign rfl) rfl rfl ?_
   refine T.nil ?_
   refine J.sel (.cons 0 rfl (.cons 1 rfl (.cons 2 rfl (.cons 3 rfl (.cons 13 rfl (.cons 14 rfl .nil)))))) ?_
   refine X.nm_blk ?_
   refine X.then_ ?_
   -- region 12 (slot.go:113)
   refine T.region ?_
   refine T.y (fun w hw => Yl.move rfl) rfl rfl ?_
   refine T.y (fun w hw => Yl.add rfl rfl (by push_cast; omega)) rfl rfl ?_
   refine T.y (fun w hw => Yl.assign rfl) rfl rfl ?_
   refine T.nil ?_
   refine J.sel (.cons 0 rfl (.cons 1 rfl (.cons 2 rfl (.cons 3 rfl (.cons 13 rfl (.cons 14 rfl .nil)))))) ?_
   refine X.go (hz2 (k + 1, A77, c77) (by dsimp only; omega) (by dsimp only; omega)) (.eqv 13 rfl (by rw [← hls]) (.num 14 rfl (by push_cast; omega) (.cons 0 rfl (.cons 1 rfl (.cons 2 rfl (.cons 3 rfl .nil)))))) (fun w hw => ?_)
   dsimp only
   rw [← hls]
   exact hw.f
  ·skip
   refine T.exit ?_
   refine X.exit_then ?_
   refine X.exit_then ?_
   refine X.exit_blk ?_
   refine X.then_ ?_
   refine T.seq ?_
   have hkp : k = partsC t := by
     have h40 : ¬ 40 * k < t.length := by omega
     unfold partsC at hk ⊢
     omega
   subst hkp
   have hpc : partsC t ≤ 30000 := by unfold partsC; omega
   have hll : ([headF n] ++ (partsN t (partsC t)).map (dataF n)).length = 1 + partsC t := by rw [List.length_append, List.length_map, partsN_length]; rfl
   have hlf : ([headF n] ++ (partsN t (partsC t)).map (dataF n)) ++ [endF n (parts t).length t] = (slotF n t) := by unfold slotF parts; simp
   -- region 14 (slot.go:116)
   refine T.region ?_
   refine T.y (fun w hw => Yl.move rfl) rfl rfl ?_
   refine T.y (fun w hw => Yl.move rfl) rfl rfl ?_
   refine T.y (fun w hw => Yl.move rfl) rfl rfl ?_
   refine T.y (fun w hw => Yl.len Try.underlying153 rfl) rfl rfl ?_
   refine T.y (fun w hw => Yl.sub rfl rfl (by omega)) rfl rfl ?_
   refine T.y (fun w hw => Yl.move rfl) rfl rfl ?_
   refine T.o (OpW.call en_147 rfl (tail_ct (A := A) (c := c) (t := t) mM htl)) rfl rfl (fun ⟨A84, c84⟩ _ => ?_)
   dsimp only
   rw [show (((([headF n] ++ (partsN t (partsC t)).map (dataF n)).length : Nat) : Int) - 1) = (((parts t).length : Nat) : Int) from by rw [hll, parts_length]; omega]
   refine T.y (fun w hw => Yl.build rfl (bld_29_0_2_3_4 _)) rfl rfl ?_
   refine T.o (OpW.bsl (sz := 5) rfl bsl_153_1 rfl rfl) rfl rfl (fun b86 _ => ?_)
   refine J.ent (fun w hw => hw.blkE' (A := A84) (c := c84) (b := (endF n (parts t).length t)) mM rfl) ?_
   refine J.ent (fun w hw => Hold.view_lit (e := 29) (sz := 5) (el := blkE) (x := (endF n (parts t).length t)) (vs := blkC (endF n (parts t).length t) A84 c84) (A := some ⟨b86, 0, none⟩) (c := 1) (hw.pick pK) rfl mM) ?_
   refine T.o (OpW.appV (el := blkE) (ys := [endF n (parts t).length t]) Try.underlying153 inf_29 rfl rfl rfl rfl mM blkE_one pK ⟨by rw [hll]; show 1 + partsC t + 1 ≤ 1000000; omega, by decide⟩) rfl rfl (fun ⟨A87, c87⟩ _ => ?_)
   dsimp only
   rw [hlf]
   refine T.y (fun w hw => Yl.assign rfl) rfl rfl ?_
   refine T.nil ?_
   refine J.sel (.cons 0 rfl (.cons 1 rfl (.cons 13 rfl .nil))) ?_
   refine X.then_ ?_
   refine T.seq ?_
   refine T.seq ?_
   refine J.ent (fun w hw => Hold.view_freeze (e := 29) (sz := 5) (el := blkE) (A := A87) (c := c87) (xs := (slotF n t)) (hw.pick pK)) ?_
   have hlfl := slotF_length n t
   have hlbl := slotB_length n t
   -- region 15 (slot.go:117)
   refine T.region ?_
   refine T.y (fun w hw => Yl.move rfl) rfl rfl ?_
   refine T.y (fun w hw => Yl.len Try.underlying153 rfl) rfl rfl ?_
   refine T.y (fun w hw => Yl.move rfl) rfl rfl ?_
   refine T.nil ?_
   refine J.sel (.cons 0 rfl (.cons 1 rfl (.cons 88 rfl (.cons 89 rfl (.cons 90 rfl .nil))))) ?_
   refine X.then_ ?_
   refine T.block ?_
   refine T.loop (α := Nat × Dev) (fun u => u.1 ≤ (slotF n t).length ∧ u.2.ok ∧ u.2.size = D.size ∧ u.2.zones.length = D.zones.length ∧ appends lo D.size D1 0 (slotB n t) = appends lo D.size u.2 u.1 ((slotB n t).drop u.1)) (fun u => [(90, .int .i64 (u.1 : Int)), (0, ptr p 0), (1, .int .i64 0), (88, .slice A87 (slotF n t).length c87), (89, .int .i64 ((slotF n t).length : Int))]) (fun u => pt p 175 [ptr d 0, .int .i64 lo, .int .i64 mid, .int .i64 hi, .int .i64 D.size, e, f, g, h] :: devH d u.2 :: M) (fun u => viewK 5 blkE A87 c87 (slotF n t) :: K) (fun u => (slotF n t).length - u.1) (0, D1) ⟨Nat.zero_le _, hD1, hs1, hl1, rfl⟩ (.num 90 rfl rfl (.cons 0 rfl (.cons 1 rfl (.cons 88 rfl (.cons 89 rfl .nil))))) (fun w hw => hw.f) ?_
   intro ⟨k, D2⟩ ⟨hk, hD2, hs2, hl2, hap⟩ Zk hzq
   dsimp only at hk hD2 hs2 hl2 hap hzq ⊢
   refine T.seq ?_
   -- region 16 (slot.go:117)
   refine T.region ?_
   refine T.y (fun w hw => Yl.lss rfl rfl) rfl rfl ?_
   refine T.nil ?_
   refine X.then_ ?_
   refine T.seq ?_
   refine T.condD rfl (fun h91 => ?_) (fun h91 => ?_)
   ·skip
    refine T.skip ?_
    refine X.then_ ?_
    refine T.seq ?_
    refine T.block ?_
    refine T.seq ?_
    obtain ⟨b, hb⟩ : ∃ b, (slotF n t)[k]? = some b := ⟨_, List.getElem?_eq_getElem (by omega)⟩
    have hbe := slotF_err hn htl b (List.mem_of_getElem? hb)
    have hbB := slotF_b hB b (List.mem_of_getElem? hb)
    have hel := enc_len hbe
    have henB := enc_b b (err_fits hbe).1 (err_fits hbe).2 hbB
    have hdr : (slotB n t).drop k = b.enc :: (slotB n t).drop (k + 1) := drop_cons (by unfold slotB; rw [List.getElem?_map, hb]; rfl)
    have hsm := append_same hD2 ((lo + k / D.size : Nat) : Int) henB
    have hkd : k / D.size ≤ k := Nat.div_le_self _ _
    have hq : (k : Int) / (D.size : Int) = ((k / D.size : Nat) : Int) := by norm_cast
    refine J.open_ (fun w hw => hw.blk_at (bs := (slotF n t)) (A := A87) (c := c87) mM hb) ?_
    rintro ⟨Ab, cb⟩ -
    dsimp only
    -- region 17 (slot.go:117)
    refine T.region ?_
    refine T.y (fun w hw => Yl.move rfl) rfl rfl ?_
    refine T.y (fun w hw => (by first | exact Yl.iaV (i := k) hw mM Try.underlying153 isz_29 rfl rfl rfl (by omega) | exact Yl.ia (i := k) Try.underlying153 isz_29 rfl rfl rfl (by omega) sC)) rfl rfl ?_
    refine T.y (fun w hw => (by first | exact Yl.ldaV hw ag_29 rfl mM rfl | exact Yl.ldaR sC ag_29 rfl sU)) rfl rfl ?_
    refine T.o (OpW.alloc zr_29) rfl rfl (fun b16 _ => ?_)
    refine T.y (fun w hw => Yl.assign rfl) rfl rfl ?_
    refine T.o0 (OpW.stA sz_29 rfl rfl rfl rfl sW uL) rfl (fun _ _ => ?_)
    refine T.nil ?_
    refine J.sel (.cons 0 rfl (.cons 1 rfl (.cons 15 rfl (.cons 16 rfl (.cons 88 rfl (.cons 89 rfl (.cons 90 rfl .nil))))))) ?_
    refine X.then_ ?_
    refine T.seq ?_
    -- region 18 (slot.go:118)
    refine T.region ?_
    refine T.y (fun w hw => Yl.ldaP hw ag_29 rfl mM sU) rfl rfl ?_
    refine T.o (OpW.call en_28 rfl (encode0_ct b hbe rfl mM)) rfl rfl (fun ⟨A97, c97⟩ _ => ?_)
    dsimp only
    refine T.y (fun w hw => Yl.move rfl) rfl rfl ?_
    refine T.y (fun w hw => Yl.extract rfl rfl) rfl rfl ?_
    refine T.y (fun w hw => Yl.extract rfl rfl) rfl rfl ?_
    refine T.y (fun w hw => Yl.assign rfl) rfl rfl ?_
    refine T.y (fun w hw => Yl.assign rfl) rfl rfl ?_
    refine T.nil ?_
    refine J.sel (.cons 0 rfl (.cons 1 rfl (.cons 15 rfl (.cons 17 rfl (.cons 18 rfl (.cons 88 rfl (.cons 89 rfl (.cons 90 rfl .nil)))))))) ?_
    refine X.then_ ?_
    refine T.seq ?_
    refine T.seq ?_
    -- region 19 (slot.go:119)
    refine T.region ?_
    refine T.y (fun w hw => Yl.move rfl) rfl rfl ?_
    refine T.y (fun w hw => Yl.eql rfl rfl) rfl rfl ?_
    refine T.nil ?_
    refine J.sel (.cons 0 rfl (.cons 1 rfl (.cons 15 rfl (.cons 17 rfl (.cons 18 rfl (.cons 88 rfl (.cons 89 rfl (.cons 90 rfl (.cons 101 rfl .nil))))))))) ?_
    refine X.then_ ?_
    refine T.condT rfl ?_
    -- region 20 (slot.go:120)
    refine Dr.start1 [] (p := devH d D2) pK ?_
    refine Dr.take 0 rfl (by kernel_rfl) bL sS (fun w hs => have hw := hs.h; Yl.move rfl) rfl rfl ?_
    refine Dr.take 1 rfl (by kernel_rfl) bL sS (fun w hs => have hw := hs.h; Yl.nilck rfl) rfl rfl ?_
    refine Dr.take 2 rfl (by kernel_rfl) bL sS (fun w hs => have hw := hs.h; Yl.fa fa_175_0 rfl) rfl rfl ?_
    refine Dr.take 3 rfl (by kernel_rfl) bL sS (fun w hs => have hw := hs.h; Yl.ldP hw na_38 rfl mM rfl) rfl rfl ?_
    refine Dr.take 4 rfl (by kernel_rfl) bL sS (fun w hs => have hw := hs.h; Yl.move rfl) rfl rfl ?_
    refine Dr.take 5 rfl (by kernel_rfl) bL sS (fun w hs => have hw := hs.h; Yl.move rfl) rfl rfl ?_
    refine Dr.take 6 rfl (by kernel_rfl) bL sS (fun w hs => have hw := hs.h; Yl.nilck rfl) rfl rfl ?_
    refine Dr.take 7 rfl (by kernel_rfl) bL sS (fun w hs => have hw := hs.h; Yl.fa fa_175_1 rfl) rfl rfl ?_
    refine Dr.take 8 rfl (by kernel_rfl) bL sS (fun w hs => have hw := hs.h; Yl.iaA (i := 0) Try.underlying173 sz_3 rfl rfl rfl (by decide)) rfl rfl ?_
    refine Dr.take 9 rfl (by kernel_rfl) bL sS (fun w hs => have hw := hs.h; Yl.ldP hw na_3 rfl mM rfl) rfl rfl ?_
    refine Dr.take 10 rfl (by kernel_rfl) bL sS (fun w hs => have hw := hs.h; Yl.move rfl) rfl rfl ?_
    refine Dr.take 11 rfl (by kernel_rfl) bL sS (fun w hs => have hw := hs.h; Yl.move rfl) rfl rfl ?_
    refine Dr.take 12 rfl (by kernel_rfl) bL sS (fun w hs => have hw := hs.h; Yl.nilck rfl) rfl rfl ?_
    refine Dr.take 13 rfl (by kernel_rfl) bL sS (fun w hs => have hw := hs.h; Yl.fa fa_175_2 rfl) rfl rfl ?_
    refine Dr.take 14 rfl (by kernel_rfl) bL sS (fun w hs => have hw := hs.h; Yl.ldP hw na_3 rfl mM rfl) rfl rfl ?_
    refine Dr.take 15 rfl (by kernel_rfl) bL sS (fun w hs => have hw := hs.h; Yl.quo rfl rfl (by omega)) rfl rfl ?_
    rw [hq]
    generalize hkq : k / D.size = kq at *
    refine Dr.take 16 rfl (by kernel_rfl) bL sS (fun w hs => have hw := hs.h; Yl.add rfl rfl (by omega)) rfl rfl ?_
    refine Dr.take 17 rfl (by kernel_rfl) bL sS (fun w hs => have hw := hs.h; Yl.move rfl) rfl rfl ?_
    rw [show (lo : Int) + (kq : Int) = ((lo + kq : Nat) : Int) from by push_cast; rfl]
    subst hkq
    refine J.pick (p := devH d D2) pK ?_
    refine Dr.act 18 rfl (by kernel_rfl) rfl (OpW.call en_39 rfl (append_ct (i := ((lo + k / D.size : Nat) : Int)) hD2 mM (by omega))) rfl rfl (fun _ _ _ => sS) (fun _ _ => ?_)
    refine Dr.take 19 rfl (by kernel_rfl) bL sS (fun w hs => have hw := hs.h; Yl.move rfl) rfl rfl ?_
    refine Dr.take 20 rfl (by kernel_rfl) bL sS (fun w hs => have hw := hs.h; Yl.extract rfl rfl) rfl rfl ?_
    refine Dr.take 21 rfl (by kernel_rfl) bL sS (fun w hs => have hw := hs.h; Yl.extract rfl rfl) rfl rfl ?_
    refine Dr.take 22 rfl (by kernel_rfl) bL sS (fun w hs => have hw := hs.h; Yl.assign rfl) rfl rfl ?_
    refine Dr.done (by kernel_rfl) ?_
    refine J.sel (.cons 0 rfl (.cons 1 rfl (.cons 18 rfl (.cons 88 rfl (.cons 89 rfl (.cons 90 rfl .nil)))))) ?_
    refine X.then_ ?_
    refine T.seq ?_
    -- region 21 (slot.go:122)
    refine T.region ?_
    refine T.y (fun w hw => Yl.move rfl) rfl rfl ?_
    refine T.y (fun w hw => Yl.neq rfl rfl) rfl rfl ?_
    refine T.nil ?_
    refine J.sel (.cons 0 rfl (.cons 1 rfl (.cons 18 rfl (.cons 88 rfl (.cons 89 rfl (.cons 90 rfl (.cons 125 rfl .nil))))))) ?_
    refine X.then_ ?_
    refine T.condD rfl (fun h125 => ?_) (fun h125 => ?_)
    ·skip
     refine T.seq ?_
     -- region 22 (slot.go:123)
     refine T.region ?_
     refine T.y (fun w hw => Yl.move rfl) rfl rfl ?_
     refine T.y (fun w hw => Yl.assign rfl) rfl rfl ?_
     refine T.nil ?_
     refine J.sel (.cons 8 rfl .nil) ?_
     refine X.then_ ?_
     refine T.ret ?_
     refine X.ret_blk ?_
     refine X.ret_then ?_
     refine X.ret_then ?_
     refine X.ret_blk ?_
     refine X.ret_then ?_
     refine X.ret1 Try.results127 rfl (fun w hw => ?_)
     have hap2 : appends lo D.size D1 0 (slotB n t) = ((D2.append ((lo + k / D.size : Nat) : Int) b.enc).1, (D2.append ((lo + k / D.size : Nat) : Int) b.enc).2.2) := by rw [hap, hdr, appends_no h125]
     rw [write_2 hr2 (by rw [hr1, hap2]; exact h125), hr1, hap2]
     exact ⟨(), trivial, rfl, hw.f⟩
    ·skip
     refine T.skip ?_
     refine X.nm_blk ?_
     refine X.then_ ?_
     -- region 23 (slot.go:117)
     refine T.region ?_
     refine T.y (fun w hw => Yl.add rfl rfl (by omega)) rfl rfl ?_
     refine T.y (fun w hw => Yl.move rfl) rfl rfl ?_
     refine T.nil ?_
     refine J.sel (.cons 0 rfl (.cons 1 rfl (.cons 88 rfl (.cons 89 rfl (.cons 90 rfl .nil))))) ?_
     refine X.go (hzq (k + 1, (D2.append ((lo + k / D.size : Nat) : Int) b.enc).1) ⟨by dsimp only; omega, hsm.1, by dsimp only; rw [hsm.2.1, hs2], by dsimp only; rw [hsm.2.2, hl2], by dsimp only; rw [hap, hdr, appends_on h125]⟩ (by dsimp only; omega)) (.num 90 rfl (by omega) (.cons 0 rfl (.cons 1 rfl (.cons 88 rfl (.cons 89 rfl .nil))))) (fun w hw => ?_)
     exact hw.f
   ·skip
    refine T.exit ?_
    refine X.exit_then ?_
    refine X.exit_then ?_
    refine X.exit_blk ?_
    refine X.then_ ?_
    refine T.seq ?_
    have hkl : (slotF n t).length = k := by omega
    have hap2 : appends lo D.size D1 0 (slotB n t) = (D2, 0) := by rw [hap, List.drop_of_length_le (by omega)]; rfl
    -- region 24 (slot.go:126)
    refine T.region ?_
    refine T.y (fun w hw => Yl.move rfl) rfl rfl ?_
    refine T.y (fun w hw => Yl.nilck rfl) rfl rfl ?_
    refine T.y (fun w hw => Yl.fa fa_175_0 rfl) rfl rfl ?_
    refine T.y (fun w hw => Yl.ldP hw na_38 rfl mM rfl) rfl rfl ?_
    refine J.pick (p := devH d D2) pK ?_
    refine T.o (OpW.call en_67 rfl (flush_ct hD2)) rfl rfl (fun _ _ => ?_)
    refine T.y (fun w hw => Yl.assign rfl) rfl rfl ?_
    refine T.nil ?_
    refine J.sel (.cons 8 rfl .nil) ?_
    refine X.then_ ?_
    refine T.ret ?_
    refine X.ret1 Try.results127 rfl (fun w hw => ?_)
    rw [write_3 hr2 (by rw [hr1, hap2]; simp), hr1, hap2]
    exact ⟨(), trivial, rfl, hw.f⟩

set_option maxHeartbeats 2000000 in
theorem write1_ct {M : List HP} {K : List KP} {p d lo mid hi c : Nat} {A : Option Addr} {D : Dev} {e f g h : Value} {n : Int} {t : List Int} (hD : D.ok) (h1 : mid ≤ hi) (h2 : hi ≤ D.zones.length) (hn : seqOk n) (ht : bytesK A c t ∈ K) (htl : t.length ≤ 1000000) : Fn 127 [ptr p 0, .int .i64 1, .int .i64 n, .slice A t.length c] (pt p 175 [ptr d 0, .int .i64 lo, .int .i64 mid, .int .i64 hi, .int .i64 D.size, e, f, g, h] :: devH d D :: M) K (fun _ : Unit => True) (fun _ => .int .i64 (sltWrite D mid hi n t).2) (fun _ => pt p 175 [ptr d 0, .int .i64 lo, .int .i64 mid, .int .i64 hi, .int .i64 D.size, e, f, g, h] :: devH d (sltWrite D mid hi n t).1 :: M) (fun _ => K) := by
 refine Fn.of (n := 133) Try.func127 rfl Try.ntmps127 rfl ?_
 have hz64 := hD.zones
 have hs192 := hD.size
 refine J.fact (fun w hw => hw.isB (A := A) (c := c) (xs := t) mM) ?_
 intro hB
 refine J.fact (fun w hw => hw.bytes_cap (A := A) (c := c) (xs := t) mM) ?_
 intro hcap
 refine T.seq ?_
 -- region 0 (slot.go:104)
 refine T.region ?_
 refine T.y (fun w hw => Yl.assign rfl) rfl rfl ?_
 refine T.nil ?_
 refine J.sel (.cons 0 rfl (.cons 1 rfl (.cons 2 rfl (.cons 3 rfl .nil)))) ?_
 refine X.then_ ?_
 refine T.seq ?_
 refine T.seq ?_
 -- region 1 (slot.go:105)
 refine T.region ?_
 refine T.y (fun w hw => Yl.move rfl) rfl rfl ?_
 refine T.y (fun w hw => Yl.move rfl) rfl rfl ?_
 refine T.y (fun w hw => Yl.nilck rfl) rfl rfl ?_
 refine T.y (fun w hw => Yl.fa fa_175_1 rfl) rfl rfl ?_
 refine T.y (fun w hw => Yl.iaA (i := 1) Try.underlying173 sz_3 rfl rfl rfl (by decide)) rfl rfl ?_
 refine T.y (fun w hw => Yl.ldP hw na_3 rfl mM rfl) rfl rfl ?_
 refine T.y (fun w hw => Yl.assign rfl) rfl rfl ?_
 refine T.nil ?_
 refine J.sel (.cons 0 rfl (.cons 1 rfl (.cons 2 rfl (.cons 3 rfl (.cons 9 rfl .nil))))) ?_
 refine X.then_ ?_
 refine T.block ?_
 refine T.loop (α := Nat × Dev) (fun u => mid ≤ u.1 ∧ u.1 ≤ hi ∧ u.2.ok ∧ u.2.size = D.size ∧ u.2.zones.length = D.zones.length ∧ resets D mid (hi - mid) = resets u.2 u.1 (hi - u.1)) (fun u => [(9, .int .i64 (u.1 : Int)), (0, ptr p 0), (1, .int .i64 1), (2, .int .i64 n), (3, .slice A t.length c)]) (fun u => pt p 175 [ptr d 0, .int .i64 lo, .int .i64 mid, .int .i64 hi, .int .i64 D.size, e, f, g, h] :: devH d u.2 :: M) (fun u => K) (fun u => hi - u.1) (mid, D) ⟨Nat.le_refl _, h1, hD, rfl, rfl, rfl⟩ (.num 9 rfl rfl (.cons 0 rfl (.cons 1 rfl (.cons 2 rfl (.cons 3 rfl .nil))))) (fun w hw => hw.f) ?_
 intro ⟨z, D1⟩ ⟨hz1, hz2, hD1, hs1, hl1, hrs⟩ Zk hzo
 dsimp only at hz1 hz2 hD1 hs1 hl1 hrs hzo ⊢
 refine T.seq ?_
 refine T.seq ?_
 -- region 2 (slot.go:105)
 refine T.region ?_
 refine T.y (fun w hw => Yl.move rfl) rfl rfl ?_
 refine T.y (fun w hw => Yl.move rfl) rfl rfl ?_
 refine T.y (fun w hw => Yl.move rfl) rfl rfl ?_
 refine T.y (fun w hw => Yl.add rfl rfl (by decide)) rfl rfl ?_
 refine T.y (fun w hw => Yl.nilck rfl) rfl rfl ?_
 refine T.y (fun w hw => Yl.fa fa_175_1 rfl) rfl rfl ?_
 refine T.y (fun w hw => Yl.iaA (i := 2) Try.underlying173 sz_3 rfl rfl (by decide) (by decide)) rfl rfl ?_
 refine T.y (fun w hw => Yl.ldP hw na_3 rfl mM rfl) rfl rfl ?_
 refine T.y (fun w hw => Yl.lss rfl rfl) rfl rfl ?_
 refine T.nil ?_
 refine J.sel (.cons 0 rfl (.cons 1 rfl (.cons 2 rfl (.cons 3 rfl (.cons 9 rfl (.cons 33 rfl .nil)))))) ?_
 refine X.then_ ?_
 refine T.condD rfl (fun h33 => ?_) (fun h33 => ?_)
 ·skip
  refine T.skip ?_
  refine X.then_ ?_
  refine T.seq ?_
  refine T.block ?_
  refine T.seq ?_
  have hbz : hi - z = hi - (z + 1) + 1 := by omega
  have hsm := reset_same hD1 (z : Nat)
  -- region 4 (slot.go:106)
  refine T.region ?_
  refine T.y (fun w hw => Yl.move rfl) rfl rfl ?_
  refine T.y (fun w hw => Yl.nilck rfl) rfl rfl ?_
  refine T.y (fun w hw => Yl.fa fa_175_0 rfl) rfl rfl ?_
  refine T.y (fun w hw => Yl.ldP hw na_38 rfl mM rfl) rfl rfl ?_
  refine T.y (fun w hw => Yl.move rfl) rfl rfl ?_
  refine J.pick (p := devH d D1) pK ?_
  refine T.o (OpW.call en_40 rfl (pointerF_ct (k := z) hD1 rfl (by omega))) rfl rfl (fun _ _ => ?_)
  refine T.y (fun w hw => Yl.move rfl) rfl rfl ?_
  refine T.y (fun w hw => Yl.extract rfl rfl) rfl rfl ?_
  refine T.y (fun w hw => Yl.extract rfl rfl) rfl rfl ?_
  refine T.y (fun w hw => Yl.assign rfl) rfl rfl ?_
  refine T.y (fun w hw => Yl.assign rfl) rfl rfl ?_
  refine T.nil ?_
  refine J.sel (.cons 0 rfl (.cons 1 rfl (.cons 2 rfl (.cons 3 rfl (.cons 9 rfl (.cons 10 rfl .nil)))))) ?_
  refine X.then_ ?_
  refine T.seq ?_
  -- region 5 (slot.go:106)
  refine T.region ?_
  refine T.y (fun w hw => Yl.move rfl) rfl rfl ?_
  refine T.y (fun w hw => Yl.gtr rfl rfl) rfl rfl ?_
  refine T.nil ?_
  refine J.sel (.cons 0 rfl (.cons 1 rfl (.cons 2 rfl (.cons 3 rfl (.cons 9 rfl (.cons 46 rfl .nil)))))) ?_
  refine X.then_ ?_
  refine T.condD rfl (fun h46 => ?_) (fun h46 => ?_)
  ·skip
   refine T.seq ?_
   -- region 6 (slot.go:107)
   refine T.region ?_
   refine T.y (fun w hw => Yl.move rfl) rfl rfl ?_
   refine T.y (fun w hw => Yl.nilck rfl) rfl rfl ?_
   refine T.y (fun w hw => Yl.fa fa_175_0 rfl) rfl rfl ?_
   refine T.y (fun w hw => Yl.ldP hw na_38 rfl mM rfl) rfl rfl ?_
   refine T.y (fun w hw => Yl.move rfl) rfl rfl ?_
   refine J.pick (p := devH d D1) pK ?_
   refine T.o (OpW.call en_38 rfl (reset_ct (i := (z : Nat)) hD1)) rfl rfl (fun _ _ => ?_)
   refine T.y (fun w hw => Yl.assign rfl) rfl rfl ?_
   refine T.nil ?_
   refine J.sel (.cons 0 rfl (.cons 1 rfl (.cons 2 rfl (.cons 3 rfl (.cons 9 rfl (.cons 12 rfl .nil)))))) ?_
   refine X.then_ ?_
   refine T.seq ?_
   -- region 7 (slot.go:107)
   refine T.region ?_
   refine T.y (fun w hw => Yl.move rfl) rfl rfl ?_
   refine T.y (fun w hw => Yl.neq rfl rfl) rfl rfl ?_
   refine T.nil ?_
   refine J.sel (.cons 0 rfl (.cons 1 rfl (.cons 2 rfl (.cons 3 rfl (.cons 9 rfl (.cons 12 rfl (.cons 54 rfl .nil))))))) ?_
   refine X.then_ ?_
   refine T.condD rfl (fun h54 => ?_) (fun h54 => ?_)
   ·skip
    refine T.seq ?_
    -- region 8 (slot.go:108)
    refine T.region ?_
    refine T.y (fun w hw => Yl.move rfl) rfl rfl ?_
    refine T.y (fun w hw => Yl.assign rfl) rfl rfl ?_
    refine T.nil ?_
    refine J.sel (.cons 8 rfl .nil) ?_
    refine X.then_ ?_
    refine T.ret ?_
    refine X.ret_blk ?_
    refine X.ret_then ?_
    refine X.ret_then ?_
    refine X.ret_blk ?_
    refine X.ret_then ?_
    refine X.ret1 Try.results127 rfl (fun w hw => ?_)
    have hrs2 : resets D mid (hi - mid) = D1.reset (z : Nat) := by rw [hrs, hbz, resets_no (by omega) h54]
    rw [write_1 (by rw [hrs2]; exact h54), hrs2]
    exact ⟨(), trivial, rfl, hw.f⟩
   ·skip
    refine T.skip ?_
    refine X.nm_blk ?_
    refine X.then_ ?_
    -- region 3 (slot.go:105)
    refine T.region ?_
    refine T.y (fun w hw => Yl.move rfl) rfl rfl ?_
    refine T.y (fun w hw => Yl.add rfl rfl (by omega)) rfl rfl ?_
    refine T.y (fun w hw => Yl.assign rfl) rfl rfl ?_
    refine T.nil ?_
    refine J.sel (.cons 0 rfl (.cons 1 rfl (.cons 2 rfl (.cons 3 rfl (.cons 9 rfl .nil))))) ?_
    first
      | (refine X.go (hzo (z + 1, (D1.reset (z : Nat)).1) ⟨by dsimp only; omega, by dsimp only; omega, hsm.1, by dsimp only; rw [hsm.2.1, hs1], by dsimp only; rw [hsm.2.2, hl1], by dsimp only; rw [hrs, hbz, resets_on (by omega) h54]⟩ (by dsimp only; omega)) (.num 9 rfl (by omega) (.cons 0 rfl (.cons 1 rfl (.cons 2 rfl (.cons 3 rfl .nil))))) (fun w hw => ?_)
         exact hw.f)
      | (refine X.go (hzo (z + 1, D1) ⟨by dsimp only; omega, by dsimp only; omega, hD1, hs1, hl1, by dsimp only; rw [hrs, hbz, resets_skip (by omega)]⟩ (by dsimp only; omega)) (.num 9 rfl (by omega) (.cons 0 rfl (.cons 1 rfl (.cons 2 rfl (.cons 3 rfl .nil))))) (fun w hw => ?_)
         exact hw.f)
  ·skip
   refine T.skip ?_
   refine X.nm_blk ?_
   refine X.then_ ?_
   -- region 3 (slot.go:105)
   refine T.region ?_
   refine T.y (fun w hw => Yl.move rfl) rfl rfl ?_
   refine T.y (fun w hw => Yl.add rfl rfl (by omega)) rfl rfl ?_
   refine T.y (fun w hw => Yl.assign rfl) rfl rfl ?_
   refine T.nil ?_
   refine J.sel (.cons 0 rfl (.cons 1 rfl (.cons 2 rfl (.cons 3 rfl (.cons 9 rfl .nil))))) ?_
   first
     | (refine X.go (hzo (z + 1, (D1.reset (z : Nat)).1) ⟨by dsimp only; omega, by dsimp only; omega, hsm.1, by dsimp only; rw [hsm.2.1, hs1], by dsimp only; rw [hsm.2.2, hl1], by dsimp only; rw [hrs, hbz, resets_on (by omega) h54]⟩ (by dsimp only; omega)) (.num 9 rfl (by omega) (.cons 0 rfl (.cons 1 rfl (.cons 2 rfl (.cons 3 rfl .nil))))) (fun w hw => ?_)
        exact hw.f)
     | (refine X.go (hzo (z + 1, D1) ⟨by dsimp only; omega, by dsimp only; omega, hD1, hs1, hl1, by dsimp only; rw [hrs, hbz, resets_skip (by omega)]⟩ (by dsimp only; omega)) (.num 9 rfl (by omega) (.cons 0 rfl (.cons 1 rfl (.cons 2 rfl (.cons 3 rfl .nil))))) (fun w hw => ?_)
        exact hw.f)
 ·skip
  refine T.exit ?_
  refine X.exit_then ?_
  refine X.exit_then ?_
  refine X.exit_blk ?_
  refine X.then_ ?_
  refine T.seq ?_
  have hzb : hi - z = 0 := by omega
  rw [hzb] at hrs
  have hr1 : (resets D mid (hi - mid)).1 = D1 := by rw [hrs]; rfl
  have hr2 : ¬ (resets D mid (hi - mid)).2 ≠ 0 := by rw [hrs]; simp [resets]
  -- region 9 (slot.go:112)
  refine T.region ?_
  refine T.y (fun w hw => Yl.move rfl) rfl rfl ?_
  refine T.y (fun w hw => Yl.build rfl (bld_29_0_2 _)) rfl rfl ?_
  refine T.o (OpW.bsl (sz := 5) rfl bsl_153_1 rfl rfl) rfl rfl (fun b58 _ => ?_)
  refine T.y (fun w hw => Yl.assign rfl) rfl rfl ?_
  refine T.nil ?_
  refine J.ent (fun w hw => hw.bytesK_nil) ?_
  refine J.ent (fun w hw => hw.blkE' (A := none) (c := 0) (b := (headF n)) mM rfl) ?_
  refine J.ent (fun w hw => Hold.view_one (e := 29) (sz := 5) (el := blkE) (x := headF n) (vs := blkC (headF n) none 0) (A := some ⟨b58, 0, none⟩) (c := 1) (hw.pick pK) rfl mM) ?_
  refine J.sel (.cons 0 rfl (.cons 1 rfl (.cons 2 rfl (.cons 3 rfl (.cons 13 rfl .nil))))) ?_
  refine X.then_ ?_
  refine T.seq ?_
  refine T.seq ?_
  -- region 10 (slot.go:113)
  refine T.region ?_
  refine T.y (fun w hw => Yl.assign rfl) rfl rfl ?_
  refine T.nil ?_
  refine X.then_ ?_
  refine T.block ?_
  refine T.loop (α := Nat × Option Addr × Nat) (fun u => u.1 ≤ partsC t) (fun u => [(13, .slice u.2.1 ([headF n] ++ (partsN t u.1).map (dataF n)).length u.2.2), (14, .int .i64 ((40 * u.1 : Nat) : Int)), (0, ptr p 0), (1, .int .i64 1), (2, .int .i64 n), (3, .slice A t.length c)]) (fun u => viewH 29 5 blkE u.2.1 u.2.2 ([headF n] ++ (partsN t u.1).map (dataF n)) :: pt p 175 [ptr d 0, .int .i64 lo, .int .i64 mid, .int .i64 hi, .int .i64 D.size, e, f, g, h] :: devH d D1 :: M) (fun u => K) (fun u => partsC t - u.1) (0, some ⟨b58, 0, none⟩, 1) (Nat.zero_le _) (.cons 13 rfl (.num 14 rfl rfl (.cons 0 rfl (.cons 1 rfl (.cons 2 rfl (.cons 3 rfl .nil)))))) (fun w hw => hw.f) ?_
  intro ⟨k, Al, cl⟩ hk Zk hz2
  dsimp only at hk hz2 ⊢
  refine T.seq ?_
  refine T.seq ?_
  -- region 11 (slot.go:113)
  refine T.region ?_
  refine T.y (fun w hw => Yl.move rfl) rfl rfl ?_
  refine T.y (fun w hw => Yl.move rfl) rfl rfl ?_
  refine T.y (fun w hw => Yl.len Try.underlying23 rfl) rfl rfl ?_
  refine T.y (fun w hw => Yl.lss rfl rfl) rfl rfl ?_
  refine T.nil ?_
  refine J.sel (.cons 0 rfl (.cons 1 rfl (.cons 2 rfl (.cons 3 rfl (.cons 13 rfl (.cons 14 rfl (.cons 62 rfl .nil))))))) ?_
  refine X.then_ ?_
  refine T.condD rfl (fun h62 => ?_) (fun h62 => ?_)
  ·skip
   refine T.skip ?_
   refine X.then_ ?_
   refine T.seq ?_
   refine T.block ?_
   have hkc : 40 * k < t.length := by omega
   have hkp : k < partsC t := by unfold partsC; omega
   have hpc : partsC t ≤ 30000 := by unfold partsC; omega
   obtain ⟨m, hm⟩ : ∃ m, m = min (40 * k + 40) t.length := ⟨_, rfl⟩
   have hbl : ((t.drop (40 * k)).take 40).length = m - 40 * k := by rw [List.length_take, List.length_drop]; omega
   have hbe : (t.drop (40 * k)).take (m - 40 * k) = ((t.drop (40 * k)).take 40) := by
     rw [hm]
     rcases Nat.lt_or_ge t.length (40 * k + 40) with h | h
     · rw [List.take_of_length_le (by rw [List.length_drop]; omega), List.take_of_length_le (by rw [List.length_drop]; omega)]
     · rw [Nat.min_eq_left h, Nat.add_sub_cancel_left]
   have hls : ([headF n] ++ (partsN t k).map (dataF n)) ++ [dataF n ((t.drop (40 * k)).take 40)] = ([headF n] ++ (partsN t (k + 1)).map (dataF n)) := by rw [partsN_succ, List.map_append, List.append_assoc]; rfl
   have hll : ([headF n] ++ (partsN t k).map (dataF n)).length = 1 + k := by rw [List.length_append, List.length_map, partsN_length]; rfl
   refine J.ent (fun w hw => hw.bytes_cut (xs := t) (A := A) (c := c) mM (40 * k) m (by omega) (by omega)) ?_
   rw [hbe]
   -- region 13 (slot.go:114)
   refine T.region ?_
   refine T.y (fun w hw => Yl.move rfl) rfl rfl ?_
   refine T.y (fun w hw => Yl.move rfl) rfl rfl ?_
   refine T.y (fun w hw => Yl.move rfl) rfl rfl ?_
   refine T.y (fun w hw => Yl.move rfl) rfl rfl ?_
   refine T.y (fun w hw => Yl.move rfl) rfl rfl ?_
   refine T.y (fun w hw => Yl.add rfl rfl (by push_cast; omega)) rfl rfl ?_
   refine T.y (fun w hw => Yl.move rfl) rfl rfl ?_
   refine T.y (fun w hw => Yl.len Try.underlying23 rfl) rfl rfl ?_
   refine T.y (fun w hw => Yl.min rfl rfl) rfl rfl ?_
   refine T.y (fun w hw => Yl.slLH Try.underlying23 sz_5 rfl rfl rfl (l := 40 * k) (h := m) rfl (by push_cast; split <;> omega) (by omega) (by omega)) rfl rfl ?_
   rw [← hbl]
   refine T.y (fun w hw => Yl.build rfl (bld_29_0_2_4 _)) rfl rfl ?_
   refine T.o (OpW.bsl (sz := 5) rfl bsl_153_1 rfl rfl) rfl rfl (fun b76 _ => ?_)
   refine J.ent (fun w hw => hw.blkE' (A := (slA A c (40 * k) 1)) (c := (c - 40 * k)) (b := (dataF n ((t.drop (40 * k)).take 40))) mM rfl) ?_
   refine J.ent (fun w hw => Hold.view_lit (e := 29) (sz := 5) (el := blkE) (x := (dataF n ((t.drop (40 * k)).take 40))) (vs := blkC (dataF n ((t.drop (40 * k)).take 40)) (slA A c (40 * k) 1) (c - 40 * k)) (A := some ⟨b76, 0, none⟩) (c := 1) (hw.pick pK) rfl mM) ?_
   refine T.o (OpW.appV (el := blkE) (ys := [dataF n ((t.drop (40 * k)).take 40)]) Try.underlying153 inf_29 rfl rfl rfl rfl mM blkE_one pK ⟨by rw [hll]; show 1 + k + 1 ≤ 1000000; omega, by decide⟩) rfl rfl (fun ⟨A77, c77⟩ _ => ?_)
   dsimp only
   refine T.y (fun w hw => Yl.assign rfl) rfl rfl ?_
   refine T.nil ?_
   refine J.sel (.cons 0 rfl (.cons 1 rfl (.cons 2 rfl (.cons 3 rfl (.cons 13 rfl (.cons 14 rfl .nil)))))) ?_
   refine X.nm_blk ?_
   refine X.then_ ?_
   -- region 12 (slot.go:113)
   refine T.region ?_
   refine T.y (fun w hw => Yl.move rfl) rfl rfl ?_
   refine T.y (fun w hw => Yl.add rfl rfl (by push_cast; omega)) rfl rfl ?_
   refine T.y (fun w hw => Yl.assign rfl) rfl rfl ?_
   refine T.nil ?_
   refine J.sel (.cons 0 rfl (.cons 1 rfl (.cons 2 rfl (.cons 3 rfl (.cons 13 rfl (.cons 14 rfl .nil)))))) ?_
   refine X.go (hz2 (k + 1, A77, c77) (by dsimp only; omega) (by dsimp only; omega)) (.eqv 13 rfl (by rw [← hls]) (.num 14 rfl (by push_cast; omega) (.cons 0 rfl (.cons 1 rfl (.cons 2 rfl (.cons 3 rfl .nil)))))) (fun w hw => ?_)
   dsimp only
   rw [← hls]
   exact hw.f
  ·skip
   refine T.exit ?_
   refine X.exit_then ?_
   refine X.exit_then ?_
   refine X.exit_blk ?_
   refine X.then_ ?_
   refine T.seq ?_
   have hkp : k = partsC t := by
     have h40 : ¬ 40 * k < t.length := by omega
     unfold partsC at hk ⊢
     omega
   subst hkp
   have hpc : partsC t ≤ 30000 := by unfold partsC; omega
   have hll : ([headF n] ++ (partsN t (partsC t)).map (dataF n)).length = 1 + partsC t := by rw [List.length_append, List.length_map, partsN_length]; rfl
   have hlf : ([headF n] ++ (partsN t (partsC t)).map (dataF n)) ++ [endF n (parts t).length t] = (slotF n t) := by unfold slotF parts; simp
   -- region 14 (slot.go:116)
   refine T.region ?_
   refine T.y (fun w hw => Yl.move rfl) rfl rfl ?_
   refine T.y (fun w hw => Yl.move rfl) rfl rfl ?_
   refine T.y (fun w hw => Yl.move rfl) rfl rfl ?_
   refine T.y (fun w hw => Yl.len Try.underlying153 rfl) rfl rfl ?_
   refine T.y (fun w hw => Yl.sub rfl rfl (by omega)) rfl rfl ?_
   refine T.y (fun w hw => Yl.move rfl) rfl rfl ?_
   refine T.o (OpW.call en_147 rfl (tail_ct (A := A) (c := c) (t := t) mM htl)) rfl rfl (fun ⟨A84, c84⟩ _ => ?_)
   dsimp only
   rw [show (((([headF n] ++ (partsN t (partsC t)).map (dataF n)).length : Nat) : Int) - 1) = (((parts t).length : Nat) : Int) from by rw [hll, parts_length]; omega]
   refine T.y (fun w hw => Yl.build rfl (bld_29_0_2_3_4 _)) rfl rfl ?_
   refine T.o (OpW.bsl (sz := 5) rfl bsl_153_1 rfl rfl) rfl rfl (fun b86 _ => ?_)
   refine J.ent (fun w hw => hw.blkE' (A := A84) (c := c84) (b := (endF n (parts t).length t)) mM rfl) ?_
   refine J.ent (fun w hw => Hold.view_lit (e := 29) (sz := 5) (el := blkE) (x := (endF n (parts t).length t)) (vs := blkC (endF n (parts t).length t) A84 c84) (A := some ⟨b86, 0, none⟩) (c := 1) (hw.pick pK) rfl mM) ?_
   refine T.o (OpW.appV (el := blkE) (ys := [endF n (parts t).length t]) Try.underlying153 inf_29 rfl rfl rfl rfl mM blkE_one pK ⟨by rw [hll]; show 1 + partsC t + 1 ≤ 1000000; omega, by decide⟩) rfl rfl (fun ⟨A87, c87⟩ _ => ?_)
   dsimp only
   rw [hlf]
   refine T.y (fun w hw => Yl.assign rfl) rfl rfl ?_
   refine T.nil ?_
   refine J.sel (.cons 0 rfl (.cons 1 rfl (.cons 13 rfl .nil))) ?_
   refine X.then_ ?_
   refine T.seq ?_
   refine T.seq ?_
   refine J.ent (fun w hw => Hold.view_freeze (e := 29) (sz := 5) (el := blkE) (A := A87) (c := c87) (xs := (slotF n t)) (hw.pick pK)) ?_
   have hlfl := slotF_length n t
   have hlbl := slotB_length n t
   -- region 15 (slot.go:117)
   refine T.region ?_
   refine T.y (fun w hw => Yl.move rfl) rfl rfl ?_
   refine T.y (fun w hw => Yl.len Try.underlying153 rfl) rfl rfl ?_
   refine T.y (fun w hw => Yl.move rfl) rfl rfl ?_
   refine T.nil ?_
   refine J.sel (.cons 0 rfl (.cons 1 rfl (.cons 88 rfl (.cons 89 rfl (.cons 90 rfl .nil))))) ?_
   refine X.then_ ?_
   refine T.block ?_
   refine T.loop (α := Nat × Dev) (fun u => u.1 ≤ (slotF n t).length ∧ u.2.ok ∧ u.2.size = D.size ∧ u.2.zones.length = D.zones.length ∧ appends mid D.size D1 0 (slotB n t) = appends mid D.size u.2 u.1 ((slotB n t).drop u.1)) (fun u => [(90, .int .i64 (u.1 : Int)), (0, ptr p 0), (1, .int .i64 1), (88, .slice A87 (slotF n t).length c87), (89, .int .i64 ((slotF n t).length : Int))]) (fun u => pt p 175 [ptr d 0, .int .i64 lo, .int .i64 mid, .int .i64 hi, .int .i64 D.size, e, f, g, h] :: devH d u.2 :: M) (fun u => viewK 5 blkE A87 c87 (slotF n t) :: K) (fun u => (slotF n t).length - u.1) (0, D1) ⟨Nat.zero_le _, hD1, hs1, hl1, rfl⟩ (.num 90 rfl rfl (.cons 0 rfl (.cons 1 rfl (.cons 88 rfl (.cons 89 rfl .nil))))) (fun w hw => hw.f) ?_
   intro ⟨k, D2⟩ ⟨hk, hD2, hs2, hl2, hap⟩ Zk hzq
   dsimp only at hk hD2 hs2 hl2 hap hzq ⊢
   refine T.seq ?_
   -- region 16 (slot.go:117)
   refine T.region ?_
   refine T.y (fun w hw => Yl.lss rfl rfl) rfl rfl ?_
   refine T.nil ?_
   refine X.then_ ?_
   refine T.seq ?_
   refine T.condD rfl (fun h91 => ?_) (fun h91 => ?_)
   ·skip
    refine T.skip ?_
    refine X.then_ ?_
    refine T.seq ?_
    refine T.block ?_
    refine T.seq ?_
    obtain ⟨b, hb⟩ : ∃ b, (slotF n t)[k]? = some b := ⟨_, List.getElem?_eq_getElem (by omega)⟩
    have hbe := slotF_err hn htl b (List.mem_of_getElem? hb)
    have hbB := slotF_b hB b (List.mem_of_getElem? hb)
    have hel := enc_len hbe
    have henB := enc_b b (err_fits hbe).1 (err_fits hbe).2 hbB
    have hdr : (slotB n t).drop k = b.enc :: (slotB n t).drop (k + 1) := drop_cons (by unfold slotB; rw [List.getElem?_map, hb]; rfl)
    have hsm := append_same hD2 ((mid + k / D.size : Nat) : Int) henB
    have hkd : k / D.size ≤ k := Nat.div_le_self _ _
    have hq : (k : Int) / (D.size : Int) = ((k / D.size : Nat) : Int) := by norm_cast
    refine J.open_ (fun w hw => hw.blk_at (bs := (slotF n t)) (A := A87) (c := c87) mM hb) ?_
    rintro ⟨Ab, cb⟩ -
    dsimp only
    -- region 17 (slot.go:117)
    refine T.region ?_
    refine T.y (fun w hw => Yl.move rfl) rfl rfl ?_
    refine T.y (fun w hw => (by first | exact Yl.iaV (i := k) hw mM Try.underlying153 isz_29 rfl rfl rfl (by omega) | exact Yl.ia (i := k) Try.underlying153 isz_29 rfl rfl rfl (by omega) sC)) rfl rfl ?_
    refine T.y (fun w hw => (by first | exact Yl.ldaV hw ag_29 rfl mM rfl | exact Yl.ldaR sC ag_29 rfl sU)) rfl rfl ?_
    refine T.o (OpW.alloc zr_29) rfl rfl (fun b16 _ => ?_)
    refine T.y (fun w hw => Yl.assign rfl) rfl rfl ?_
    refine T.o0 (OpW.stA sz_29 rfl rfl rfl rfl sW uL) rfl (fun _ _ => ?_)
    refine T.nil ?_
    refine J.sel (.cons 0 rfl (.cons 1 rfl (.cons 15 rfl (.cons 16 rfl (.cons 88 rfl (.cons 89 rfl (.cons 90 rfl .nil))))))) ?_
    refine X.then_ ?_
    refine T.seq ?_
    -- region 18 (slot.go:118)
    refine T.region ?_
    refine T.y (fun w hw => Yl.ldaP hw ag_29 rfl mM sU) rfl rfl ?_
    refine T.o (OpW.call en_28 rfl (encode0_ct b hbe rfl mM)) rfl rfl (fun ⟨A97, c97⟩ _ => ?_)
    dsimp only
    refine T.y (fun w hw => Yl.move rfl) rfl rfl ?_
    refine T.y (fun w hw => Yl.extract rfl rfl) rfl rfl ?_
    refine T.y (fun w hw => Yl.extract rfl rfl) rfl rfl ?_
    refine T.y (fun w hw => Yl.assign rfl) rfl rfl ?_
    refine T.y (fun w hw => Yl.assign rfl) rfl rfl ?_
    refine T.nil ?_
    refine J.sel (.cons 0 rfl (.cons 1 rfl (.cons 15 rfl (.cons 17 rfl (.cons 18 rfl (.cons 88 rfl (.cons 89 rfl (.cons 90 rfl .nil)))))))) ?_
    refine X.then_ ?_
    refine T.seq ?_
    refine T.seq ?_
    -- region 19 (slot.go:119)
    refine T.region ?_
    refine T.y (fun w hw => Yl.move rfl) rfl rfl ?_
    refine T.y (fun w hw => Yl.eql rfl rfl) rfl rfl ?_
    refine T.nil ?_
    refine J.sel (.cons 0 rfl (.cons 1 rfl (.cons 15 rfl (.cons 17 rfl (.cons 18 rfl (.cons 88 rfl (.cons 89 rfl (.cons 90 rfl (.cons 101 rfl .nil))))))))) ?_
    refine X.then_ ?_
    refine T.condT rfl ?_
    -- region 20 (slot.go:120)
    refine Dr.start1 [] (p := devH d D2) pK ?_
    refine Dr.take 0 rfl (by kernel_rfl) bL sS (fun w hs => have hw := hs.h; Yl.move rfl) rfl rfl ?_
    refine Dr.take 1 rfl (by kernel_rfl) bL sS (fun w hs => have hw := hs.h; Yl.nilck rfl) rfl rfl ?_
    refine Dr.take 2 rfl (by kernel_rfl) bL sS (fun w hs => have hw := hs.h; Yl.fa fa_175_0 rfl) rfl rfl ?_
    refine Dr.take 3 rfl (by kernel_rfl) bL sS (fun w hs => have hw := hs.h; Yl.ldP hw na_38 rfl mM rfl) rfl rfl ?_
    refine Dr.take 4 rfl (by kernel_rfl) bL sS (fun w hs => have hw := hs.h; Yl.move rfl) rfl rfl ?_
    refine Dr.take 5 rfl (by kernel_rfl) bL sS (fun w hs => have hw := hs.h; Yl.move rfl) rfl rfl ?_
    refine Dr.take 6 rfl (by kernel_rfl) bL sS (fun w hs => have hw := hs.h; Yl.nilck rfl) rfl rfl ?_
    refine Dr.take 7 rfl (by kernel_rfl) bL sS (fun w hs => have hw := hs.h; Yl.fa fa_175_1 rfl) rfl rfl ?_
    refine Dr.take 8 rfl (by kernel_rfl) bL sS (fun w hs => have hw := hs.h; Yl.iaA (i := 1) Try.underlying173 sz_3 rfl rfl rfl (by decide)) rfl rfl ?_
    refine Dr.take 9 rfl (by kernel_rfl) bL sS (fun w hs => have hw := hs.h; Yl.ldP hw na_3 rfl mM rfl) rfl rfl ?_
    refine Dr.take 10 rfl (by kernel_rfl) bL sS (fun w hs => have hw := hs.h; Yl.move rfl) rfl rfl ?_
    refine Dr.take 11 rfl (by kernel_rfl) bL sS (fun w hs => have hw := hs.h; Yl.move rfl) rfl rfl ?_
    refine Dr.take 12 rfl (by kernel_rfl) bL sS (fun w hs => have hw := hs.h; Yl.nilck rfl) rfl rfl ?_
    refine Dr.take 13 rfl (by kernel_rfl) bL sS (fun w hs => have hw := hs.h; Yl.fa fa_175_2 rfl) rfl rfl ?_
    refine Dr.take 14 rfl (by kernel_rfl) bL sS (fun w hs => have hw := hs.h; Yl.ldP hw na_3 rfl mM rfl) rfl rfl ?_
    refine Dr.take 15 rfl (by kernel_rfl) bL sS (fun w hs => have hw := hs.h; Yl.quo rfl rfl (by omega)) rfl rfl ?_
    rw [hq]
    generalize hkq : k / D.size = kq at *
    refine Dr.take 16 rfl (by kernel_rfl) bL sS (fun w hs => have hw := hs.h; Yl.add rfl rfl (by omega)) rfl rfl ?_
    refine Dr.take 17 rfl (by kernel_rfl) bL sS (fun w hs => have hw := hs.h; Yl.move rfl) rfl rfl ?_
    rw [show (mid : Int) + (kq : Int) = ((mid + kq : Nat) : Int) from by push_cast; rfl]
    subst hkq
    refine J.pick (p := devH d D2) pK ?_
    refine Dr.act 18 rfl (by kernel_rfl) rfl (OpW.call en_39 rfl (append_ct (i := ((mid + k / D.size : Nat) : Int)) hD2 mM (by omega))) rfl rfl (fun _ _ _ => sS) (fun _ _ => ?_)
    refine Dr.take 19 rfl (by kernel_rfl) bL sS (fun w hs => have hw := hs.h; Yl.move rfl) rfl rfl ?_
    refine Dr.take 20 rfl (by kernel_rfl) bL sS (fun w hs => have hw := hs.h; Yl.extract rfl rfl) rfl rfl ?_
    refine Dr.take 21 rfl (by kernel_rfl) bL sS (fun w hs => have hw := hs.h; Yl.extract rfl rfl) rfl rfl ?_
    refine Dr.take 22 rfl (by kernel_rfl) bL sS (fun w hs => have hw := hs.h; Yl.assign rfl) rfl rfl ?_
    refine Dr.done (by kernel_rfl) ?_
    refine J.sel (.cons 0 rfl (.cons 1 rfl (.cons 18 rfl (.cons 88 rfl (.cons 89 rfl (.cons 90 rfl .nil)))))) ?_
    refine X.then_ ?_
    refine T.seq ?_
    -- region 21 (slot.go:122)
    refine T.region ?_
    refine T.y (fun w hw => Yl.move rfl) rfl rfl ?_
    refine T.y (fun w hw => Yl.neq rfl rfl) rfl rfl ?_
    refine T.nil ?_
    refine J.sel (.cons 0 rfl (.cons 1 rfl (.cons 18 rfl (.cons 88 rfl (.cons 89 rfl (.cons 90 rfl (.cons 125 rfl .nil))))))) ?_
    refine X.then_ ?_
    refine T.condD rfl (fun h125 => ?_) (fun h125 => ?_)
    ·skip
     refine T.seq ?_
     -- region 22 (slot.go:123)
     refine T.region ?_
     refine T.y (fun w hw => Yl.move rfl) rfl rfl ?_
     refine T.y (fun w hw => Yl.assign rfl) rfl rfl ?_
     refine T.nil ?_
     refine J.sel (.cons 8 rfl .nil) ?_
     refine X.then_ ?_
     refine T.ret ?_
     refine X.ret_blk ?_
     refine X.ret_then ?_
     refine X.ret_then ?_
     refine X.ret_blk ?_
     refine X.ret_then ?_
     refine X.ret1 Try.results127 rfl (fun w hw => ?_)
     have hap2 : appends mid D.size D1 0 (slotB n t) = ((D2.append ((mid + k / D.size : Nat) : Int) b.enc).1, (D2.append ((mid + k / D.size : Nat) : Int) b.enc).2.2) := by rw [hap, hdr, appends_no h125]
     rw [write_2 hr2 (by rw [hr1, hap2]; exact h125), hr1, hap2]
     exact ⟨(), trivial, rfl, hw.f⟩
    ·skip
     refine T.skip ?_
     refine X.nm_blk ?_
     refine X.then_ ?_
     -- region 23 (slot.go:117)
     refine T.region ?_
     refine T.y (fun w hw => Yl.add rfl rfl (by omega)) rfl rfl ?_
     refine T.y (fun w hw => Yl.move rfl) rfl rfl ?_
     refine T.nil ?_
     refine J.sel (.cons 0 rfl (.cons 1 rfl (.cons 88 rfl (.cons 89 rfl (.cons 90 rfl .nil))))) ?_
     refine X.go (hzq (k + 1, (D2.append ((mid + k / D.size : Nat) : Int) b.enc).1) ⟨by dsimp only; omega, hsm.1, by dsimp only; rw [hsm.2.1, hs2], by dsimp only; rw [hsm.2.2, hl2], by dsimp only; rw [hap, hdr, appends_on h125]⟩ (by dsimp only; omega)) (.num 90 rfl (by omega) (.cons 0 rfl (.cons 1 rfl (.cons 88 rfl (.cons 89 rfl .nil))))) (fun w hw => ?_)
     exact hw.f
   ·skip
    refine T.exit ?_
    refine X.exit_then ?_
    refine X.exit_then ?_
    refine X.exit_blk ?_
    refine X.then_ ?_
    refine T.seq ?_
    have hkl : (slotF n t).length = k := by omega
    have hap2 : appends mid D.size D1 0 (slotB n t) = (D2, 0) := by rw [hap, List.drop_of_length_le (by omega)]; rfl
    -- region 24 (slot.go:126)
    refine T.region ?_
    refine T.y (fun w hw => Yl.move rfl) rfl rfl ?_
    refine T.y (fun w hw => Yl.nilck rfl) rfl rfl ?_
    refine T.y (fun w hw => Yl.fa fa_175_0 rfl) rfl rfl ?_
    refine T.y (fun w hw => Yl.ldP hw na_38 rfl mM rfl) rfl rfl ?_
    refine J.pick (p := devH d D2) pK ?_
    refine T.o (OpW.call en_67 rfl (flush_ct hD2)) rfl rfl (fun _ _ => ?_)
    refine T.y (fun w hw => Yl.assign rfl) rfl rfl ?_
    refine T.nil ?_
    refine J.sel (.cons 8 rfl .nil) ?_
    refine X.then_ ?_
    refine T.ret ?_
    refine X.ret1 Try.results127 rfl (fun w hw => ?_)
    rw [write_3 hr2 (by rw [hr1, hap2]; simp), hr1, hap2]
    exact ⟨(), trivial, rfl, hw.f⟩

end Go.Proofs.Ytfpnodboebpemaa
