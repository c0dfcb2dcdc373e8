/- The contracts of batch.row, batch.batch, batch.Decode. -/
import Derived.Test.YtfpnodboebpemaaBat3
namespace Go.Proofs.Ytfpnodboebpemaa
open Go.RowKit Go.Proofs.YtfpnodboebpemaaW.PrintWords
set_option linter.unusedVariables false
set_option linter.unusedSimpArgs false
attribute [local irreducible] pt rowH slK bytesK intsK rowsK rowsH cellK rowsV oldK star exH pureH knowH starL emp devH zoneH zonesH zrest cellsK viewV viewK viewH putE txE batE

set_option maxHeartbeats 400000 in
theorem row_ct {M : List HP} {K : List KP} {A : Option Addr} {c : Nat} {l : List (List Int)} (hl : rowsK A c l ∈ K) (hn : l.length ≤ 100000) : Fn 118 [.slice A l.length c] M K (fun _ : (Option Addr × Nat) × (Option Addr × Nat) => True) (fun r => .tuple [.slice r.1.1 (rowOf l).1.length r.1.2, .agg [.int .i64 (rowOf l).2.1.kind, .int .i64 (rowOf l).2.1.epoch, .int .i64 (rowOf l).2.1.seq, .int .i64 (rowOf l).2.1.lba, .slice r.2.1 (rowOf l).2.1.body.length r.2.2].toArray, .bool (rowOf l).2.2].toArray) (fun _ => M) (fun r => viewK 2 putE r.1.1 r.1.2 (rowOf l).1 :: bytesK r.2.1 r.2.2 (rowOf l).2.1.body :: K) := by
 refine Fn.of (n := 59) Try.func118 rfl Try.ntmps118 rfl ?_
 refine T.seq ?_
 -- region 0 (batch.go:85)
 refine T.region ?_
 refine T.y (fun w hw => Yl.assign rfl) rfl rfl ?_
 refine T.o (OpW.alloc zr_29) rfl rfl (fun b3 _ => ?_)
 refine T.y (fun w hw => Yl.assign rfl) rfl rfl ?_
 refine T.nil ?_
 refine X.then_ ?_
 refine T.scope ?_
 refine T.seq ?_
 -- region 1 (batch.go:86)
 refine T.region ?_
 refine T.y (fun w hw => Yl.build rfl (bld_29_z _)) rfl rfl ?_
 refine T.o (OpW.alloc zr_29) rfl rfl (fun b5 _ => ?_)
 refine T.o0 (OpW.stA sz_29 rfl rfl rfl rfl sW uL) rfl (fun _ _ => ?_)
 refine T.nil ?_
 refine J.sel (.cons 0 rfl (.cons 2 rfl (.cons 3 rfl (.cons 4 rfl (.cons 5 rfl .nil))))) ?_
 refine X.then_ ?_
 refine T.seq ?_
 refine T.label ?_
 refine X.then_ ?_
 refine T.cut (α := (Option Addr × Nat) × (Option Addr × Nat)) (φ := fun u => True) (Ec := fun u => [(2, .slice u.1.1 (rowOf l).1.length u.1.2), (4, .bool (rowOf l).2.2), (3, ptr b3 0)]) (Mc := fun u => pt b3 29 [.int .i64 (rowOf l).2.1.kind, .int .i64 (rowOf l).2.1.epoch, .int .i64 (rowOf l).2.1.seq, .int .i64 (rowOf l).2.1.lba, .slice u.2.1 (rowOf l).2.1.body.length u.2.2] :: viewH 61 2 putE u.1.1 u.1.2 (rowOf l).1 :: M) (Kc := fun u => bytesK u.2.1 u.2.2 (rowOf l).2.1.body :: K) ?_ ?_
 ·intro Zk hz5
  refine T.seq ?_
  refine J.ent (fun w hw => hw.view_nil 61 2 putE) ?_
  -- region 2 (batch.go:88)
  refine T.region ?_
  refine T.y (fun w hw => Yl.move rfl) rfl rfl ?_
  refine T.y (fun w hw => Yl.len Try.underlying62 rfl) rfl rfl ?_
  refine T.y (fun w hw => Yl.move rfl) rfl rfl ?_
  refine T.nil ?_
  refine J.sel (.cons 2 rfl (.cons 3 rfl (.cons 4 rfl (.cons 5 rfl (.cons 11 rfl (.cons 12 rfl (.cons 13 rfl .nil))))))) ?_
  refine X.then_ ?_
  refine T.block ?_
  refine T.loop (α := Nat × (Fb × Option Addr × Nat) × (Option Addr × Nat × List PutL)) (fun u => u.1 ≤ l.length ∧ u.2.2.2.2.length ≤ u.1 ∧ rowOf l = rowM (l.drop u.1) u.2.1.1 (decide (u.1 = 0)) u.2.2.2.2) (fun u => [(2, .slice u.2.2.1 u.2.2.2.2.length u.2.2.2.1), (13, .int .i64 (u.1 : Int)), (3, ptr b3 0), (4, .bool false), (5, ptr b5 0), (11, .slice A l.length c), (12, .int .i64 (l.length : Int))]) (fun u => viewH 61 2 putE u.2.2.1 u.2.2.2.1 u.2.2.2.2 :: pt b3 29 [.int .i64 0, .int .i64 0, .int .i64 0, .int .i64 0, .slice none 0 0] :: pt b5 29 [.int .i64 u.2.1.1.kind, .int .i64 u.2.1.1.epoch, .int .i64 u.2.1.1.seq, .int .i64 u.2.1.1.lba, .slice u.2.1.2.1 u.2.1.1.body.length u.2.1.2.2] :: M) (fun u => K) (fun u => l.length - u.1) (0, (Fb.zero, none, 0), (none, 0, [])) ⟨Nat.zero_le _, Nat.le_refl _, rfl⟩ (.cons 2 rfl (.num 13 rfl rfl (.cons 3 rfl (.cons 4 rfl (.cons 5 rfl (.cons 11 rfl (.cons 12 rfl .nil))))))) (fun w hw => hw.f) ?_
  intro ⟨i, ⟨first, Af, cf⟩, ⟨A2, c2, acc⟩⟩ ⟨hi, hacc, hrow⟩ Zk hz2
  dsimp only at hi hacc hrow hz2 ⊢
  refine T.seq ?_
  -- region 3 (batch.go:88)
  refine T.region ?_
  refine T.y (fun w hw => Yl.lss rfl rfl) rfl rfl ?_
  refine T.nil ?_
  refine X.then_ ?_
  refine T.seq ?_
  refine T.condD rfl (fun h14 => ?_) (fun h14 => ?_)
  ·skip
   refine T.skip ?_
   refine X.then_ ?_
   refine T.seq ?_
   refine T.block ?_
   refine T.seq ?_
   obtain ⟨p, hp⟩ : ∃ p, l[i]? = some p := ⟨_, List.getElem?_eq_getElem (by omega)⟩
   refine J.open_ (fun w hw => hw.rows_at (A := A) (c := c) (rows := l) mM hp) ?_
   rintro ⟨Ap, cp⟩ -
   dsimp only
   -- region 4 (batch.go:88)
   refine T.region ?_
   refine T.y (fun w hw => Yl.move rfl) rfl rfl ?_
   refine T.y (fun w hw => (by first | exact Yl.iaK (i := i) hw mM Try.underlying62 isz_23 rfl rfl rfl (by omega) | exact Yl.ia1 (i := i) sC Try.underlying62 isz_23 rfl rfl rfl (by omega))) rfl rfl ?_
   refine T.y (fun w hw => (by first | exact Yl.ldC hw na_23 rfl mM | exact Yl.ldR sC na_23 rfl (by assumption) | exact Yl.ldV hw na_23 rfl mM rfl)) rfl rfl ?_
   refine T.y (fun w hw => Yl.assign rfl) rfl rfl ?_
   refine T.y (fun w hw => Yl.assign rfl) rfl rfl ?_
   refine T.nil ?_
   refine J.sel (.cons 2 rfl (.cons 3 rfl (.cons 4 rfl (.cons 5 rfl (.cons 6 rfl (.cons 7 rfl (.cons 11 rfl (.cons 12 rfl (.cons 13 rfl .nil))))))))) ?_
   refine X.then_ ?_
   refine T.seq ?_
   -- region 5 (batch.go:89)
   refine T.region ?_
   refine T.y (fun w hw => Yl.move rfl) rfl rfl ?_
   refine T.o (OpW.call en_48 rfl (decode_ct (p := p) mM)) rfl rfl (fun ⟨A8, c8⟩ _ => ?_)
   dsimp only
   refine T.y (fun w hw => Yl.move rfl) rfl rfl ?_
   refine T.y (fun w hw => Yl.extract rfl rfl) rfl rfl ?_
   refine T.y (fun w hw => Yl.extract rfl rfl) rfl rfl ?_
   refine T.o (OpW.alloc zr_29) rfl rfl (fun b8 _ => ?_)
   refine T.o0 (OpW.stA sz_29 rfl rfl rfl rfl sW uL) rfl (fun _ _ => ?_)
   refine T.y (fun w hw => Yl.assign rfl) rfl rfl ?_
   refine T.nil ?_
   obtain ⟨f, hf⟩ : ∃ f : Fb, f = if decide (i = 0) = true then decB p else first := ⟨_, rfl⟩
   refine J.sel (.cons 2 rfl (.cons 3 rfl (.cons 4 rfl (.cons 5 rfl (.cons 6 rfl (.cons 8 rfl (.cons 9 rfl (.cons 11 rfl (.cons 12 rfl (.cons 13 rfl .nil)))))))))) ?_
   refine X.then_ ?_
   refine T.cut (α := Option Addr × Nat) (φ := fun u => True) (Ec := fun u => [(2, .slice A2 acc.length c2), (3, ptr b3 0), (4, .bool false), (5, ptr b5 0), (8, ptr b8 0), (9, .int .i64 (decErr p)), (11, .slice A l.length c), (12, .int .i64 (l.length : Int)), (13, .int .i64 (i : Int))]) (Mc := fun u => pt b5 29 [.int .i64 f.kind, .int .i64 f.epoch, .int .i64 f.seq, .int .i64 f.lba, .slice u.1 f.body.length u.2] :: pt b8 29 [.int .i64 (decB p).kind, .int .i64 (decB p).epoch, .int .i64 (decB p).seq, .int .i64 (decB p).lba, .slice A8 (decB p).body.length c8] :: viewH 61 2 putE A2 c2 acc :: pt b3 29 [.int .i64 0, .int .i64 0, .int .i64 0, .int .i64 0, .slice none 0 0] :: M) (Kc := fun u => bytesK A8 c8 (decB p).body :: K) ?_ ?_
   ·intro Zk hz6
    refine T.seq ?_
    -- region 6 (batch.go:90)
    refine T.region ?_
    refine T.y (fun w hw => Yl.move rfl) rfl rfl ?_
    refine T.y (fun w hw => Yl.eql rfl rfl) rfl rfl ?_
    refine T.nil ?_
    refine J.sel (.cons 2 rfl (.cons 3 rfl (.cons 4 rfl (.cons 5 rfl (.cons 8 rfl (.cons 9 rfl (.cons 11 rfl (.cons 12 rfl (.cons 13 rfl (.cons 24 rfl .nil)))))))))) ?_
    refine X.then_ ?_
    refine T.condD rfl (fun h24 => ?_) (fun h24 => ?_)
    ·skip
     -- region 7 (batch.go:91)
     refine T.region ?_
     refine T.y (fun w hw => Yl.ldaP hw ag_29 rfl mM sU) rfl rfl ?_
     refine T.o0 (OpW.stA sz_29 rfl rfl rfl rfl sW uL) rfl (fun _ _ => ?_)
     refine T.nil ?_
     refine J.sel (.cons 2 rfl (.cons 3 rfl (.cons 4 rfl (.cons 5 rfl (.cons 8 rfl (.cons 9 rfl (.cons 11 rfl (.cons 12 rfl (.cons 13 rfl .nil))))))))) ?_
     have hfe : f = decB p := by rw [hf, if_pos (by simpa using h24)]
     refine X.go (hz6 (A8, c8) trivial) (.cons 2 rfl (.cons 3 rfl (.cons 4 rfl (.cons 5 rfl (.cons 8 rfl (.cons 9 rfl (.cons 11 rfl (.cons 12 rfl (.cons 13 rfl .nil))))))))) (fun w hw => ?_)
     dsimp only
     rw [hfe]
     exact hw.f
    ·skip
     refine T.skip ?_
     have hfe : f = first := by rw [hf, if_neg (by simpa using h24)]
     refine X.go (hz6 (Af, cf) trivial) (.cons 2 rfl (.cons 3 rfl (.cons 4 rfl (.cons 5 rfl (.cons 8 rfl (.cons 9 rfl (.cons 11 rfl (.cons 12 rfl (.cons 13 rfl .nil))))))))) (fun w hw => ?_)
     dsimp only
     rw [hfe]
     exact hw.f
   ·intro ⟨Af', cf'⟩ _
    dsimp only
    refine T.seq ?_
    refine T.seq ?_
    -- region 8 (batch.go:93)
    refine T.region ?_
    refine T.y (fun w hw => Yl.move rfl) rfl rfl ?_
    refine T.y (fun w hw => Yl.neq rfl rfl) rfl rfl ?_
    refine T.y (fun w hw => Yl.move rfl) rfl rfl ?_
    refine T.splitD 28 rfl (fun h28 => ?_) (fun h28 => ?_)
    ·skip
     refine T.off rfl rfl rfl ?_
     refine T.off rfl rfl rfl ?_
     refine T.off rfl rfl rfl ?_
     refine T.off rfl rfl rfl ?_
     refine T.off rfl rfl rfl ?_
     refine T.y (fun w hw => Yl.pickT rfl rfl) rfl rfl ?_
     refine T.y (fun w hw => Yl.move rfl) rfl rfl ?_
     refine T.off rfl rfl rfl ?_
     refine T.off rfl rfl rfl ?_
     refine T.off rfl rfl rfl ?_
     refine T.off rfl rfl rfl ?_
     refine T.off rfl rfl rfl ?_
     refine T.y (fun w hw => Yl.pickT rfl rfl) rfl rfl ?_
     refine T.nil ?_
     refine J.sel (.cons 2 rfl (.cons 3 rfl (.cons 4 rfl (.cons 5 rfl (.cons 8 rfl (.cons 11 rfl (.cons 12 rfl (.cons 13 rfl (.cons 41 rfl .nil))))))))) ?_
     refine X.then_ ?_
     refine T.condT rfl ?_
     refine T.seq ?_
     -- region 9 (batch.go:94)
     refine T.region ?_
     refine T.y (fun w hw => Yl.build rfl (bld_29_z _)) rfl rfl ?_
     refine T.o0 (OpW.stA sz_29 rfl rfl rfl rfl sW uL) rfl (fun _ _ => ?_)
     refine T.y (fun w hw => Yl.assign rfl) rfl rfl ?_
     refine T.nil ?_
     refine J.sel (.cons 2 rfl (.cons 3 rfl (.cons 4 rfl .nil))) ?_
     refine X.then_ ?_
     refine T.exit ?_
     refine X.exit_then ?_
     refine X.exit_blk_ne rfl ?_
     refine X.exit_then ?_
     refine X.exit_then ?_
     refine X.exit_blk ?_
     have hro : rowOf l = (acc, Fb.zero, true) := by
       rw [hrow, drop_cons hp, rowM_bad (by rw [← hf]; first | exact .inl h28 | exact .inr (.inl h35) | exact .inr (.inr h41))]
     refine X.go (hz5 ((A2, c2), (none, 0)) trivial) (.eqv 2 rfl (by rw [hro]) (.eqv 4 rfl (by rw [hro]) (.cons 3 rfl .nil))) (fun w hw => ?_)
     rw [hro]
     have hw := hw.bytesK_nil
     exact hw.f
    ·skip
     refine T.y (fun w hw => Yl.fa fa_29_1 rfl) rfl rfl ?_
     refine T.y (fun w hw => Yl.ldP hw na_3 rfl mM rfl) rfl rfl ?_
     refine T.y (fun w hw => Yl.fa fa_29_1 rfl) rfl rfl ?_
     refine T.y (fun w hw => Yl.ldP hw na_3 rfl mM rfl) rfl rfl ?_
     refine T.y (fun w hw => Yl.neq rfl rfl) rfl rfl ?_
     refine T.y (fun w hw => Yl.pickF rfl rfl) rfl rfl ?_
     refine T.y (fun w hw => Yl.move rfl) rfl rfl ?_
     refine T.splitD 35 rfl (fun h35 => ?_) (fun h35 => ?_)
     ·skip
      refine T.off rfl rfl rfl ?_
      refine T.off rfl rfl rfl ?_
      refine T.off rfl rfl rfl ?_
      refine T.off rfl rfl rfl ?_
      refine T.off rfl rfl rfl ?_
      refine T.y (fun w hw => Yl.pickT rfl rfl) rfl rfl ?_
      refine T.nil ?_
      refine J.sel (.cons 2 rfl (.cons 3 rfl (.cons 4 rfl (.cons 5 rfl (.cons 8 rfl (.cons 11 rfl (.cons 12 rfl (.cons 13 rfl (.cons 41 rfl .nil))))))))) ?_
      refine X.then_ ?_
      refine T.condT rfl ?_
      refine T.seq ?_
      -- region 9 (batch.go:94)
      refine T.region ?_
      refine T.y (fun w hw => Yl.build rfl (bld_29_z _)) rfl rfl ?_
      refine T.o0 (OpW.stA sz_29 rfl rfl rfl rfl sW uL) rfl (fun _ _ => ?_)
      refine T.y (fun w hw => Yl.assign rfl) rfl rfl ?_
      refine T.nil ?_
      refine J.sel (.cons 2 rfl (.cons 3 rfl (.cons 4 rfl .nil))) ?_
      refine X.then_ ?_
      refine T.exit ?_
      refine X.exit_then ?_
      refine X.exit_blk_ne rfl ?_
      refine X.exit_then ?_
      refine X.exit_then ?_
      refine X.exit_blk ?_
      have hro : rowOf l = (acc, Fb.zero, true) := by
        rw [hrow, drop_cons hp, rowM_bad (by rw [← hf]; first | exact .inl h28 | exact .inr (.inl h35) | exact .inr (.inr h41))]
      refine X.go (hz5 ((A2, c2), (none, 0)) trivial) (.eqv 2 rfl (by rw [hro]) (.eqv 4 rfl (by rw [hro]) (.cons 3 rfl .nil))) (fun w hw => ?_)
      rw [hro]
      have hw := hw.bytesK_nil
      exact hw.f
     ·skip
      refine T.y (fun w hw => Yl.fa fa_29_2 rfl) rfl rfl ?_
      refine T.y (fun w hw => Yl.ldP hw na_3 rfl mM rfl) rfl rfl ?_
      refine T.y (fun w hw => Yl.fa fa_29_2 rfl) rfl rfl ?_
      refine T.y (fun w hw => Yl.ldP hw na_3 rfl mM rfl) rfl rfl ?_
      refine T.y (fun w hw => Yl.neq rfl rfl) rfl rfl ?_
      refine T.y (fun w hw => Yl.pickF rfl rfl) rfl rfl ?_
      refine T.nil ?_
      refine J.sel (.cons 2 rfl (.cons 3 rfl (.cons 4 rfl (.cons 5 rfl (.cons 8 rfl (.cons 11 rfl (.cons 12 rfl (.cons 13 rfl (.cons 41 rfl .nil))))))))) ?_
      refine X.then_ ?_
      refine T.condD rfl (fun h41 => ?_) (fun h41 => ?_)
      ·skip
       refine T.seq ?_
       -- region 9 (batch.go:94)
       refine T.region ?_
       refine T.y (fun w hw => Yl.build rfl (bld_29_z _)) rfl rfl ?_
       refine T.o0 (OpW.stA sz_29 rfl rfl rfl rfl sW uL) rfl (fun _ _ => ?_)
       refine T.y (fun w hw => Yl.assign rfl) rfl rfl ?_
       refine T.nil ?_
       refine J.sel (.cons 2 rfl (.cons 3 rfl (.cons 4 rfl .nil))) ?_
       refine X.then_ ?_
       refine T.exit ?_
       refine X.exit_then ?_
       refine X.exit_blk_ne rfl ?_
       refine X.exit_then ?_
       refine X.exit_then ?_
       refine X.exit_blk ?_
       have hro : rowOf l = (acc, Fb.zero, true) := by
         rw [hrow, drop_cons hp, rowM_bad (by rw [← hf]; first | exact .inl h28 | exact .inr (.inl h35) | exact .inr (.inr h41))]
       refine X.go (hz5 ((A2, c2), (none, 0)) trivial) (.eqv 2 rfl (by rw [hro]) (.eqv 4 rfl (by rw [hro]) (.cons 3 rfl .nil))) (fun w hw => ?_)
       rw [hro]
       have hw := hw.bytesK_nil
       exact hw.f
      ·skip
       refine T.skip ?_
       refine X.then_ ?_
       refine T.seq ?_
       refine T.seq ?_
       -- region 10 (batch.go:97)
       refine T.region ?_
       refine T.y (fun w hw => Yl.fa fa_29_0 rfl) rfl rfl ?_
       refine T.y (fun w hw => Yl.ldP hw na_3 rfl mM rfl) rfl rfl ?_
       refine T.y (fun w hw => Yl.neq rfl rfl) rfl rfl ?_
       refine T.nil ?_
       refine J.sel (.cons 2 rfl (.cons 3 rfl (.cons 4 rfl (.cons 5 rfl (.cons 8 rfl (.cons 11 rfl (.cons 12 rfl (.cons 13 rfl (.cons 45 rfl .nil))))))))) ?_
       refine X.then_ ?_
       refine T.condD rfl (fun h45 => ?_) (fun h45 => ?_)
       ·skip
        refine T.seq ?_
        -- region 11 (batch.go:98)
        refine T.region ?_
        refine T.y (fun w hw => Yl.ldaP hw ag_29 rfl mM sU) rfl rfl ?_
        refine T.o0 (OpW.stA sz_29 rfl rfl rfl rfl sW uL) rfl (fun _ _ => ?_)
        refine T.y (fun w hw => Yl.assign rfl) rfl rfl ?_
        refine T.nil ?_
        refine J.sel (.cons 2 rfl (.cons 3 rfl (.cons 4 rfl .nil))) ?_
        refine X.then_ ?_
        refine T.exit ?_
        refine X.exit_then ?_
        refine X.exit_blk_ne rfl ?_
        refine X.exit_then ?_
        refine X.exit_then ?_
        refine X.exit_blk ?_
        have hro : rowOf l = (acc, decB p, true) := by
          rw [hrow, drop_cons hp, rowM_end (by rw [← hf]; rintro (h | h | h) <;> contradiction) h45]
        refine X.go (hz5 ((A2, c2), (A8, c8)) trivial) (.eqv 2 rfl (by rw [hro]) (.eqv 4 rfl (by rw [hro]) (.cons 3 rfl .nil))) (fun w hw => ?_)
        rw [hro]
        exact hw.f
       ·skip
        refine T.skip ?_
        refine X.then_ ?_
        -- region 12 (batch.go:101)
        refine T.region ?_
        refine T.y (fun w hw => Yl.move rfl) rfl rfl ?_
        refine T.y (fun w hw => Yl.fa fa_29_3 rfl) rfl rfl ?_
        refine T.y (fun w hw => Yl.ldP hw na_3 rfl mM rfl) rfl rfl ?_
        refine T.y (fun w hw => Yl.fa fa_29_4 rfl) rfl rfl ?_
        refine T.y (fun w hw => Yl.ldP hw na_23 rfl mM rfl) rfl rfl ?_
        refine T.y (fun w hw => Yl.build rfl (bld_61_0_1 _)) rfl rfl ?_
        refine T.o (OpW.bsl (sz := 2) rfl bsl_56_1 rfl rfl) rfl rfl (fun b53 _ => ?_)
        refine J.ent (fun w hw => hw.putE' (A := A8) (c := c8) (p := ⟨(decB p).lba, (decB p).body⟩) mM rfl) ?_
        refine J.ent (fun w hw => Hold.view_lit (e := 61) (sz := 2) (el := putE) (x := ⟨(decB p).lba, (decB p).body⟩) (vs := [.int .i64 (decB p).lba, .slice A8 (decB p).body.length c8]) (A := some ⟨b53, 0, none⟩) (c := 1) (hw.pick pK) rfl mM) ?_
        refine T.o (OpW.appV (el := putE) (ys := [⟨(decB p).lba, (decB p).body⟩]) Try.underlying56 inf_61 rfl rfl rfl rfl mM putE_one pK (by constructor <;> simp <;> omega)) rfl rfl (fun ⟨A54, c54⟩ _ => ?_)
        dsimp only
        refine T.y (fun w hw => Yl.assign rfl) rfl rfl ?_
        refine T.nil ?_
        refine J.sel (.cons 2 rfl (.cons 3 rfl (.cons 4 rfl (.cons 5 rfl (.cons 11 rfl (.cons 12 rfl (.cons 13 rfl .nil))))))) ?_
        refine X.nm_blk ?_
        refine X.then_ ?_
        -- region 13 (batch.go:88)
        refine T.region ?_
        refine T.y (fun w hw => Yl.add rfl rfl (by omega)) rfl rfl ?_
        refine T.y (fun w hw => Yl.move rfl) rfl rfl ?_
        refine T.nil ?_
        refine J.sel (.cons 2 rfl (.cons 3 rfl (.cons 4 rfl (.cons 5 rfl (.cons 11 rfl (.cons 12 rfl (.cons 13 rfl .nil))))))) ?_
        refine X.go (hz2 (i + 1, (f, Af', cf'), (A54, c54, acc ++ [⟨(decB p).lba, (decB p).body⟩])) ⟨by omega, by simp; omega, ?_⟩ (by dsimp only; omega)) (.cons 2 rfl (.num 13 rfl (by omega) (.cons 3 rfl (.cons 4 rfl (.cons 5 rfl (.cons 11 rfl (.cons 12 rfl .nil))))))) (fun w hw => ?_)
        · rw [hrow, drop_cons hp, rowM_on (by rw [← hf]; rintro (h | h | h) <;> contradiction) h45, ← hf]; congr 1
        · exact hw.f
  ·skip
   refine T.exit ?_
   refine X.exit_then ?_
   refine X.exit_then ?_
   refine X.exit_blk ?_
   have hro : rowOf l = (acc, Fb.zero, false) := by rw [hrow, List.drop_eq_nil_of_le (by omega)]; rfl
   refine X.go (hz5 ((A2, c2), (none, 0)) trivial) (.eqv 2 rfl (by rw [hro]) (.eqv 4 rfl (by rw [hro]) (.cons 3 rfl .nil))) (fun w hw => ?_)
   rw [hro]
   have hw := hw.bytesK_nil
   exact hw.f
 ·intro ⟨⟨A2, c2⟩, ⟨A3, c3⟩⟩ _
  dsimp only
  refine T.seq ?_
  -- region 14 (batch.go:103)
  refine Dr.start0 [] ?_
  refine Dr.take 0 rfl (by kernel_rfl) bL sS (fun w hs => have hw := hs.h; Yl.move rfl) rfl rfl ?_
  refine Dr.take 1 rfl (by kernel_rfl) bL sS (fun w hs => have hw := hs.h; Yl.ldaP hw ag_29 rfl mM sU) rfl rfl ?_
  refine Dr.take 2 rfl (by kernel_rfl) bL sS (fun w hs => have hw := hs.h; Yl.move rfl) rfl rfl ?_
  refine Dr.take 3 rfl (by kernel_rfl) bL sS (fun w hs => have hw := hs.h; Yl.assign rfl) rfl rfl ?_
  refine Dr.act0 4 rfl (by kernel_rfl) rfl (OpW.stA sz_29 rfl rfl rfl rfl sW uL) rfl (fun _ _ _ => sS) (fun _ _ => ?_)
  refine Dr.take 5 rfl (by kernel_rfl) bL sS (fun w hs => have hw := hs.h; Yl.assign rfl) rfl rfl ?_
  refine Dr.done (by kernel_rfl) ?_
  refine J.sel (.cons 2 rfl (.cons 3 rfl (.cons 4 rfl .nil))) ?_
  refine X.then_ ?_
  refine T.ret ?_
  refine X.ret_sc ?_
  refine X.retTCT Try.results118 ag_29 rfl rfl rfl mM sU (fun w hw => ?_)
  exact ⟨((A2, c2), (A3, c3)), trivial, rfl, by have hw := Hold.view_freeze (e := 61) (sz := 2) (el := putE) (A := A2) (c := c2) (xs := (rowOf l).1) (hw.pick pK); exact hw.f⟩

set_option maxHeartbeats 400000 in
theorem batch_ct {M : List HP} {K : List KP} {A B : Option Addr} {ca cp : Nat} {cb : Fb} {ps : List PutL} (hc : bytesK A ca cb.body ∈ K) (hps : viewK 2 putE B cp ps ∈ K) : Fn 119 [.agg [.int .i64 cb.kind, .int .i64 cb.epoch, .int .i64 cb.seq, .int .i64 cb.lba, .slice A cb.body.length ca].toArray, .slice B ps.length cp] M K (fun r : BatL × Option Addr × Nat × Bool => batM cb ps = if r.2.2.2 = true then some r.1 else none) (fun r => .tuple [.agg [.int .i64 r.1.num, .slice r.2.1 r.1.txs.length r.2.2.1].toArray, .bool r.2.2.2].toArray) (fun _ => M) (fun r => viewK 2 txE r.2.1 r.2.2.1 r.1.txs :: K) := by
 refine Fn.of (n := 137) Try.func119 rfl Try.ntmps119 rfl ?_
 refine J.fact (fun w hw => hw.isB (A := A) (c := ca) (xs := cb.body) mM) ?_
 intro hB
 refine J.fact (fun w hw => hw.bytes_cap (A := A) (c := ca) (xs := cb.body) mM) ?_
 intro hcap
 refine T.seq ?_
 -- region 0 (batch.go:107)
 refine T.region ?_
 refine T.o (OpW.box rfl) rfl rfl (fun b2 _ => ?_)
 refine T.o (OpW.alloc zr_55) rfl rfl (fun b4 _ => ?_)
 refine T.y (fun w hw => Yl.assign rfl) rfl rfl ?_
 refine T.nil ?_
 refine J.sel (.cons 1 rfl (.cons 2 rfl (.cons 4 rfl .nil))) ?_
 refine X.then_ ?_
 refine T.seq ?_
 refine T.seq ?_
 -- region 1 (batch.go:108)
 refine T.region ?_
 refine T.y (fun w hw => Yl.fa fa_29_0 rfl) rfl rfl ?_
 refine T.y (fun w hw => Yl.ldP hw na_3 rfl mM rfl) rfl rfl ?_
 refine T.y (fun w hw => Yl.neq rfl rfl) rfl rfl ?_
 refine T.y (fun w hw => Yl.move rfl) rfl rfl ?_
 refine T.splitD 17 rfl (fun h17 => ?_) (fun h17 => ?_)
 ·skip
  refine T.off rfl rfl rfl ?_
  refine T.off rfl rfl rfl ?_
  refine T.off rfl rfl rfl ?_
  refine T.off rfl rfl rfl ?_
  refine T.off rfl rfl rfl ?_
  refine T.y (fun w hw => Yl.pickT rfl rfl) rfl rfl ?_
  refine T.y (fun w hw => Yl.move rfl) rfl rfl ?_
  refine T.off rfl rfl rfl ?_
  refine T.off rfl rfl rfl ?_
  refine T.off rfl rfl rfl ?_
  refine T.off rfl rfl rfl ?_
  refine T.y (fun w hw => Yl.pickT rfl rfl) rfl rfl ?_
  refine T.nil ?_
  refine J.sel (.cons 1 rfl (.cons 2 rfl (.cons 4 rfl (.cons 29 rfl .nil)))) ?_
  refine X.then_ ?_
  refine T.condT rfl ?_
  refine T.seq ?_
  -- region 2 (batch.go:109)
  refine T.region ?_
  refine T.y (fun w hw => Yl.ldaP hw ag_55 rfl mM sU) rfl rfl ?_
  refine T.o0 (OpW.stA sz_55 rfl rfl rfl rfl sW uL) rfl (fun _ _ => ?_)
  refine T.y (fun w hw => Yl.assign rfl) rfl rfl ?_
  refine T.nil ?_
  refine J.sel (.cons 4 rfl (.cons 5 rfl .nil)) ?_
  refine X.then_ ?_
  refine T.ret ?_
  refine X.ret_then ?_
  refine X.retCT Try.results119 ag_55 rfl rfl mM sU (fun w hw => ?_)
  have hno : batM cb ps = none := batM_head (by first | exact .inl h17 | exact .inr (.inl h24) | exact .inr (.inr (by omega)))
  exact ⟨(⟨0, []⟩, none, 0, false), by rw [hno]; rfl, rfl, by have hw := hw.viewK_nil 2 txE; exact hw.f⟩
 ·skip
  refine T.y (fun w hw => Yl.fa fa_29_3 rfl) rfl rfl ?_
  refine T.y (fun w hw => Yl.ldP hw na_3 rfl mM rfl) rfl rfl ?_
  refine T.y (fun w hw => Yl.move rfl) rfl rfl ?_
  refine T.y (fun w hw => Yl.len Try.underlying56 rfl) rfl rfl ?_
  refine T.y (fun w hw => Yl.neq rfl rfl) rfl rfl ?_
  refine T.y (fun w hw => Yl.pickF rfl rfl) rfl rfl ?_
  refine T.y (fun w hw => Yl.move rfl) rfl rfl ?_
  refine T.splitD 24 rfl (fun h24 => ?_) (fun h24 => ?_)
  ·skip
   refine T.off rfl rfl rfl ?_
   refine T.off rfl rfl rfl ?_
   refine T.off rfl rfl rfl ?_
   refine T.off rfl rfl rfl ?_
   refine T.y (fun w hw => Yl.pickT rfl rfl) rfl rfl ?_
   refine T.nil ?_
   refine J.sel (.cons 1 rfl (.cons 2 rfl (.cons 4 rfl (.cons 29 rfl .nil)))) ?_
   refine X.then_ ?_
   refine T.condT rfl ?_
   refine T.seq ?_
   -- region 2 (batch.go:109)
   refine T.region ?_
   refine T.y (fun w hw => Yl.ldaP hw ag_55 rfl mM sU) rfl rfl ?_
   refine T.o0 (OpW.stA sz_55 rfl rfl rfl rfl sW uL) rfl (fun _ _ => ?_)
   refine T.y (fun w hw => Yl.assign rfl) rfl rfl ?_
   refine T.nil ?_
   refine J.sel (.cons 4 rfl (.cons 5 rfl .nil)) ?_
   refine X.then_ ?_
   refine T.ret ?_
   refine X.ret_then ?_
   refine X.retCT Try.results119 ag_55 rfl rfl mM sU (fun w hw => ?_)
   have hno : batM cb ps = none := batM_head (by first | exact .inl h17 | exact .inr (.inl h24) | exact .inr (.inr (by omega)))
   exact ⟨(⟨0, []⟩, none, 0, false), by rw [hno]; rfl, rfl, by have hw := hw.viewK_nil 2 txE; exact hw.f⟩
  ·skip
   refine T.y (fun w hw => Yl.fa fa_29_4 rfl) rfl rfl ?_
   refine T.y (fun w hw => Yl.ldP hw na_23 rfl mM rfl) rfl rfl ?_
   refine T.y (fun w hw => Yl.len Try.underlying23 rfl) rfl rfl ?_
   refine T.y (fun w hw => Yl.lss rfl rfl) rfl rfl ?_
   refine T.y (fun w hw => Yl.pickF rfl rfl) rfl rfl ?_
   refine T.nil ?_
   refine J.sel (.cons 1 rfl (.cons 2 rfl (.cons 4 rfl (.cons 29 rfl .nil)))) ?_
   refine X.then_ ?_
   refine T.condD rfl (fun h29 => ?_) (fun h29 => ?_)
   ·skip
    refine T.seq ?_
    -- region 2 (batch.go:109)
    refine T.region ?_
    refine T.y (fun w hw => Yl.ldaP hw ag_55 rfl mM sU) rfl rfl ?_
    refine T.o0 (OpW.stA sz_55 rfl rfl rfl rfl sW uL) rfl (fun _ _ => ?_)
    refine T.y (fun w hw => Yl.assign rfl) rfl rfl ?_
    refine T.nil ?_
    refine J.sel (.cons 4 rfl (.cons 5 rfl .nil)) ?_
    refine X.then_ ?_
    refine T.ret ?_
    refine X.ret_then ?_
    refine X.retCT Try.results119 ag_55 rfl rfl mM sU (fun w hw => ?_)
    have hno : batM cb ps = none := batM_head (by first | exact .inl h17 | exact .inr (.inl h24) | exact .inr (.inr (by omega)))
    exact ⟨(⟨0, []⟩, none, 0, false), by rw [hno]; rfl, rfl, by have hw := hw.viewK_nil 2 txE; exact hw.f⟩
   ·skip
    refine T.skip ?_
    refine X.then_ ?_
    refine T.seq ?_
    have hhead : ¬ (cb.kind ≠ 2 ∨ cb.lba ≠ ps.length ∨ cb.body.length < 9) := by rintro (h | h | h) <;> first | contradiction | omega
    have r8 := rd_b cb.body 8 (by omega) hB
    obtain ⟨n, hn⟩ : ∃ n : Nat, rd cb.body ((8 : Nat) : Int) = n := ⟨(rd cb.body ((8 : Nat) : Int)).toNat, by omega⟩
    have hn8 : (rd cb.body 8).toNat = n := by rw [show rd cb.body 8 = (n : Int) from hn]; simp
    -- region 3 (batch.go:111)
    refine T.region ?_
    refine T.y (fun w hw => Yl.fa fa_29_4 rfl) rfl rfl ?_
    refine T.y (fun w hw => Yl.ldP hw na_23 rfl mM rfl) rfl rfl ?_
    refine T.y (fun w hw => Yl.ia1 (i := 8) sC Try.underlying23 isz_5 rfl rfl rfl (by omega)) rfl rfl ?_
    refine T.y (fun w hw => (by first | exact Yl.ldB hw mM na_5 rfl (by omega) | exact Yl.ldC hw na_5 rfl mM | exact Yl.ldR sC na_5 rfl (by assumption) | exact Yl.ldV hw na_5 rfl mM rfl)) rfl rfl ?_
    refine T.y (fun w hw => Yl.conv Try.underlying5 Try.underlying3 rfl (cv_i64 (by omega))) rfl rfl ?_
    refine T.y (fun w hw => Yl.assign rfl) rfl rfl ?_
    refine T.nil ?_
    rw [hn]
    refine J.sel (.cons 1 rfl (.cons 2 rfl (.cons 4 rfl (.cons 6 rfl .nil)))) ?_
    refine X.then_ ?_
    refine T.seq ?_
    refine T.seq ?_
    -- region 4 (batch.go:112)
    refine T.region ?_
    refine T.y (fun w hw => Yl.fa fa_29_4 rfl) rfl rfl ?_
    refine T.y (fun w hw => Yl.ldP hw na_23 rfl mM rfl) rfl rfl ?_
    refine T.y (fun w hw => Yl.len Try.underlying23 rfl) rfl rfl ?_
    refine T.y (fun w hw => Yl.move rfl) rfl rfl ?_
    refine T.y (fun w hw => Yl.mul rfl rfl (by omega)) rfl rfl ?_
    refine T.y (fun w hw => Yl.add rfl rfl (by omega)) rfl rfl ?_
    refine T.y (fun w hw => Yl.neq rfl rfl) rfl rfl ?_
    refine T.nil ?_
    refine J.sel (.cons 1 rfl (.cons 2 rfl (.cons 4 rfl (.cons 6 rfl (.cons 42 rfl .nil))))) ?_
    refine X.then_ ?_
    refine T.condD rfl (fun h42 => ?_) (fun h42 => ?_)
    ·skip
     refine T.seq ?_
     -- region 5 (batch.go:113)
     refine T.region ?_
     refine T.y (fun w hw => Yl.ldaP hw ag_55 rfl mM sU) rfl rfl ?_
     refine T.o0 (OpW.stA sz_55 rfl rfl rfl rfl sW uL) rfl (fun _ _ => ?_)
     refine T.y (fun w hw => Yl.assign rfl) rfl rfl ?_
     refine T.nil ?_
     refine J.sel (.cons 4 rfl (.cons 5 rfl .nil)) ?_
     refine X.then_ ?_
     refine T.ret ?_
     refine X.ret_then ?_
     refine X.retCT Try.results119 ag_55 rfl rfl mM sU (fun w hw => ?_)
     have hno : batM cb ps = none := batM_len (by rw [hn8]; omega)
     exact ⟨(⟨0, []⟩, none, 0, false), by rw [hno]; rfl, rfl, by have hw := hw.viewK_nil 2 txE; exact hw.f⟩
    ·skip
     refine T.skip ?_
     refine X.then_ ?_
     refine T.seq ?_
     have hlen : cb.body.length = 9 + 3 * n := by omega
     have hge := ge_bound (cb.body.take 8) (hB.take 8)
     rw [show (cb.body.take 8).length = 8 by simp; omega, show (256 : Int) ^ 8 = 18446744073709551616 by decide] at hge
     -- region 6 (batch.go:115)
     refine T.region ?_
     refine T.y (fun w hw => Yl.fa fa_29_4 rfl) rfl rfl ?_
     refine T.y (fun w hw => Yl.ldP hw na_23 rfl mM rfl) rfl rfl ?_
     refine T.o (OpW.call en_99 rfl (get64_ct mM (by omega))) rfl rfl (fun x hx => ?_)
     refine T.y (fun w hw => Yl.move rfl) rfl rfl ?_
     refine T.y (fun w hw => Yl.extract rfl rfl) rfl rfl ?_
     refine T.y (fun w hw => Yl.extract rfl rfl) rfl rfl ?_
     refine T.y (fun w hw => Yl.assign rfl) rfl rfl ?_
     refine T.y (fun w hw => Yl.assign rfl) rfl rfl ?_
     refine T.nil ?_
     refine J.sel (.cons 1 rfl (.cons 2 rfl (.cons 4 rfl (.cons 6 rfl (.cons 7 rfl .nil))))) ?_
     refine X.then_ ?_
     refine T.seq ?_
     -- region 7 (batch.go:116)
     refine Dr.start0 [] ?_
     refine Dr.take 0 rfl (by kernel_rfl) bL sS (fun w hs => have hw := hs.h; Yl.fa fa_29_4 rfl) rfl rfl ?_
     refine Dr.take 1 rfl (by kernel_rfl) bL sS (fun w hs => have hw := hs.h; Yl.ldP hw na_23 rfl mM rfl) rfl rfl ?_
     refine Dr.take 2 rfl (by kernel_rfl) bL sS (fun w hs => have hw := hs.h; Yl.move rfl) rfl rfl ?_
     refine Dr.take 3 rfl (by kernel_rfl) bL sS (fun w hs => have hw := hs.h; Yl.mul rfl rfl (by omega)) rfl rfl ?_
     refine Dr.take 4 rfl (by kernel_rfl) bL sS (fun w hs => have hw := hs.h; Yl.add rfl rfl (by omega)) rfl rfl ?_
     refine Dr.take 5 rfl (by kernel_rfl) bL sS (fun w hs => have hw := hs.h; Yl.slLH Try.underlying23 sz_5 rfl rfl rfl (l := 9) (h := 9 + 2 * n) rfl (by push_cast; omega) (by omega) (by omega)) rfl rfl ?_
     refine Dr.take 6 rfl (by kernel_rfl) bL sS (fun w hs => have hw := hs.h; Yl.fa fa_29_4 rfl) rfl rfl ?_
     refine Dr.take 7 rfl (by kernel_rfl) bL sS (fun w hs => have hw := hs.h; Yl.ldP hw na_23 rfl mM rfl) rfl rfl ?_
     refine Dr.take 8 rfl (by kernel_rfl) bL sS (fun w hs => have hw := hs.h; Yl.move rfl) rfl rfl ?_
     refine Dr.take 9 rfl (by kernel_rfl) bL sS (fun w hs => have hw := hs.h; Yl.mul rfl rfl (by omega)) rfl rfl ?_
     refine Dr.take 10 rfl (by kernel_rfl) bL sS (fun w hs => have hw := hs.h; Yl.add rfl rfl (by omega)) rfl rfl ?_
     refine Dr.take 11 rfl (by kernel_rfl) bL sS (fun w hs => have hw := hs.h; Yl.slLo Try.underlying23 sz_5 rfl rfl (l := 9 + 2 * n) (by push_cast; omega) (by omega) (by omega)) rfl rfl ?_
     refine Dr.take 12 rfl (by kernel_rfl) bL sS (fun w hs => have hw := hs.h; Yl.assign rfl) rfl rfl ?_
     refine Dr.take 13 rfl (by kernel_rfl) bL sS (fun w hs => have hw := hs.h; Yl.assign rfl) rfl rfl ?_
     refine Dr.done (by kernel_rfl) ?_
     refine J.sel (.cons 1 rfl (.cons 2 rfl (.cons 4 rfl (.cons 6 rfl (.cons 7 rfl (.cons 9 rfl (.cons 10 rfl .nil))))))) ?_
     refine X.then_ ?_
     refine T.seq ?_
     -- region 8 (batch.go:117)
     refine T.region ?_
     refine T.y (fun w hw => Yl.move rfl) rfl rfl ?_
     refine T.y (fun w hw => Yl.min rfl rfl) rfl rfl ?_
     refine T.y (fun w hw => Yl.conv Try.underlying127 Try.underlying3 rfl (cv_i64 (by split <;> omega))) rfl rfl ?_
     refine T.y (fun w hw => Yl.assign rfl) rfl rfl ?_
     refine T.nil ?_
     refine J.sel (.cons 1 rfl (.cons 2 rfl (.cons 4 rfl (.cons 6 rfl (.cons 9 rfl (.cons 10 rfl (.cons 11 rfl .nil))))))) ?_
     refine X.then_ ?_
     refine T.seq ?_
     -- region 9 (batch.go:118)
     refine T.region ?_
     refine T.y (fun w hw => Yl.fa fa_29_2 rfl) rfl rfl ?_
     refine T.y (fun w hw => Yl.ldP hw na_3 rfl mM rfl) rfl rfl ?_
     refine T.y (fun w hw => Yl.fa fa_55_0 rfl) rfl rfl ?_
     refine T.o0 (OpW.st1 sz_3 rfl rfl rfl rfl sW uP) rfl (fun _ _ => ?_)
     refine T.nil ?_
     refine J.sel (.cons 1 rfl (.cons 4 rfl (.cons 6 rfl (.cons 9 rfl (.cons 10 rfl (.cons 11 rfl .nil)))))) ?_
     refine X.then_ ?_
     refine T.seq ?_
     refine T.seq ?_
     have hs1 : stepsB cb.body = (cb.body.drop 9).take (9 + 2 * n - 9) := by unfold stepsB; rw [hn8]; congr 1; omega
     have hs2 : (stepsB cb.body).length = 2 * n := by rw [hs1]; simp; omega
     have hc1 : countsB cb.body = (cb.body.drop (9 + 2 * n)).take (cb.body.length - (9 + 2 * n)) := by unfold countsB; rw [hn8, List.take_of_length_le (by simp)]
     have hc2 : (countsB cb.body).length = n := by rw [hc1]; simp; omega
     have hfb : 0 ≤ firstB cb.body ∧ firstB cb.body ≤ 4611686018427387904 := by unfold firstB; split <;> omega
     have hsB : IsB (stepsB cb.body) := by rw [hs1]; exact (hB.drop 9).take _
     have hcB : IsB (countsB cb.body) := by rw [hc1]; exact (hB.drop _).take _
     refine J.ent (fun w hw => hw.bytes_cut (xs := cb.body) (A := A) (c := ca) mM 9 (9 + 2 * n) (by omega) (by omega)) ?_
     refine J.ent (fun w hw => hw.bytes_cut (xs := cb.body) (A := A) (c := ca) mM (9 + 2 * n) cb.body.length (by omega) (Nat.le_refl _)) ?_
     rw [← hs1, ← hc1]
     refine J.ent (fun w hw => hw.view_nil 58 2 txE) ?_
     -- region 10 (batch.go:119)
     refine T.region ?_
     refine T.y (fun w hw => Yl.move rfl) rfl rfl ?_
     refine T.y (fun w hw => Yl.move rfl) rfl rfl ?_
     refine T.nil ?_
     refine J.sel (.cons 1 rfl (.cons 4 rfl (.cons 9 rfl (.cons 10 rfl (.cons 11 rfl (.cons 68 rfl (.cons 69 rfl .nil))))))) ?_
     refine X.then_ ?_
     refine T.block ?_
     refine T.loop (α := Nat × Int × (Option Addr × Nat × List PutL) × (Option Addr × Nat × List TxL)) (fun u => u.1 ≤ n ∧ u.2.2.2.2.2.length = u.1 ∧ 0 ≤ u.2.1 ∧ u.2.1 ≤ 4611686018427387904 + (u.1 : Int) * 65535 ∧ batGo (stepsB cb.body) (countsB cb.body) n 0 (firstB cb.body) ps [] = batGo (stepsB cb.body) (countsB cb.body) (n - u.1) u.1 u.2.1 u.2.2.1.2.2 u.2.2.2.2.2) (fun u => [(1, .slice u.2.2.1.1 u.2.2.1.2.2.length u.2.2.1.2.1), (9, .slice (slA A ca 9 1) (stepsB cb.body).length (ca - 9)), (10, .slice (slA A ca (9 + 2 * n) 1) (countsB cb.body).length (ca - (9 + 2 * n))), (11, .int .i64 u.2.1), (69, .int .i64 (u.1 : Int)), (4, ptr b4 0), (68, .int .i64 (n : Int))]) (fun u => viewH 58 2 txE u.2.2.2.1 u.2.2.2.2.1 u.2.2.2.2.2 :: pt b4 55 [.int .i64 cb.seq, .slice u.2.2.2.1 u.2.2.2.2.2.length u.2.2.2.2.1] :: pt b2 29 [.int .i64 cb.kind, .int .i64 cb.epoch, .int .i64 cb.seq, .int .i64 cb.lba, .slice A cb.body.length ca] :: M) (fun u => viewK 2 putE u.2.2.1.1 u.2.2.1.2.1 u.2.2.1.2.2 :: bytesK (slA A ca 9 1) (ca - 9) (stepsB cb.body) :: bytesK (slA A ca (9 + 2 * n) 1) (ca - (9 + 2 * n)) (countsB cb.body) :: K) (fun u => n - u.1) (0, firstB cb.body, (B, cp, ps), (none, 0, [])) ⟨Nat.zero_le _, rfl, hfb.1, by dsimp only; omega, rfl⟩ (.cons 1 rfl (.eqv 9 rfl (by rw [hs2]; congr 1; omega) (.eqv 10 rfl (by rw [hc2]; congr 1; omega) (.num 11 rfl rfl (.num 69 rfl rfl (.cons 4 rfl (.cons 68 rfl .nil))))))) (fun w hw => hw.f) ?_
     intro ⟨i, tm, ⟨Bp, mp, qs⟩, ⟨At, ct, acc⟩⟩ ⟨hi, hal, hT0, hT1, hgo⟩ Zk hz2
     dsimp only at hi hal hT0 hT1 hgo hz2 ⊢
     refine T.seq ?_
     -- region 11 (batch.go:119)
     refine T.region ?_
     refine T.y (fun w hw => Yl.lss rfl rfl) rfl rfl ?_
     refine T.nil ?_
     refine X.then_ ?_
     refine T.seq ?_
     refine T.condD rfl (fun h70 => ?_) (fun h70 => ?_)
     ·skip
      refine T.skip ?_
      refine X.then_ ?_
      refine T.seq ?_
      refine T.block ?_
      refine T.seq ?_
      have s1 := rd_b (stepsB cb.body) (2 * i) (by omega) hsB
      have s2 := rd_b (stepsB cb.body) (2 * i + 1) (by omega) hsB
      have q1 := rd_b (stepsB cb.body) 0 (by omega) hsB
      have q2 := rd_b (stepsB cb.body) 1 (by omega) hsB
      have c1 := rd_b (countsB cb.body) i (by omega) hcB
      obtain ⟨k, hk⟩ : ∃ k : Nat, rd (countsB cb.body) (i : Nat) = k := ⟨(rd (countsB cb.body) (i : Nat)).toNat, by omega⟩
      have hkn : (rd (countsB cb.body) (i : Nat)).toNat = k := by rw [hk]; simp
      have hso : stepOf (stepsB cb.body) i = rd (stepsB cb.body) ((2 * i : Nat) : Int) + rd (stepsB cb.body) ((2 * i + 1 : Nat) : Int) * 256 := rfl
      refine J.fact (fun w hw => hw.view_max (xs := qs) (A := Bp) (c := mp) (sz := 2) (el := putE) mM) ?_
      intro hmp
      -- region 12 (batch.go:119)
      refine T.region ?_
      refine T.y (fun w hw => Yl.move rfl) rfl rfl ?_
      refine T.y (fun w hw => Yl.assign rfl) rfl rfl ?_
      refine T.nil ?_
      refine J.sel (.cons 1 rfl (.cons 4 rfl (.cons 9 rfl (.cons 10 rfl (.cons 11 rfl (.cons 12 rfl (.cons 68 rfl (.cons 69 rfl .nil)))))))) ?_
      refine X.then_ ?_
      refine T.seq ?_
      -- region 13 (batch.go:120)
      refine Dr.start0 [] ?_
      refine Dr.take 0 rfl (by kernel_rfl) bL sS (fun w hs => have hw := hs.h; Yl.move rfl) rfl rfl ?_
      refine Dr.take 1 rfl (by kernel_rfl) bL sS (fun w hs => have hw := hs.h; Yl.move rfl) rfl rfl ?_
      refine Dr.take 2 rfl (by kernel_rfl) bL sS (fun w hs => have hw := hs.h; Yl.move rfl) rfl rfl ?_
      refine Dr.take 3 rfl (by kernel_rfl) bL sS (fun w hs => have hw := hs.h; Yl.mul rfl rfl (by omega)) rfl rfl ?_
      refine Dr.take 4 rfl (by kernel_rfl) bL sS (fun w hs => have hw := hs.h; Yl.ia1 (i := 2 * i) sC Try.underlying23 isz_5 rfl rfl (by push_cast; rfl) (by omega)) rfl rfl ?_
      refine Dr.take 5 rfl (by kernel_rfl) bL sS (fun w hs => have hw := hs.h; (by first | exact Yl.ldB hw mM na_5 rfl (by omega) | exact Yl.ldC hw na_5 rfl mM | exact Yl.ldR sC na_5 rfl (by assumption) | exact Yl.ldV hw na_5 rfl mM rfl)) rfl rfl ?_
      refine Dr.take 6 rfl (by kernel_rfl) bL sS (fun w hs => have hw := hs.h; Yl.conv Try.underlying5 Try.underlying3 rfl (cv_i64 (by omega))) rfl rfl ?_
      refine Dr.take 7 rfl (by kernel_rfl) bL sS (fun w hs => have hw := hs.h; Yl.move rfl) rfl rfl ?_
      refine Dr.take 8 rfl (by kernel_rfl) bL sS (fun w hs => have hw := hs.h; Yl.move rfl) rfl rfl ?_
      refine Dr.take 9 rfl (by kernel_rfl) bL sS (fun w hs => have hw := hs.h; Yl.mul rfl rfl (by omega)) rfl rfl ?_
      refine Dr.take 10 rfl (by kernel_rfl) bL sS (fun w hs => have hw := hs.h; Yl.add rfl rfl (by omega)) rfl rfl ?_
      refine Dr.take 11 rfl (by kernel_rfl) bL sS (fun w hs => have hw := hs.h; Yl.ia1 (i := 2 * i + 1) sC Try.underlying23 isz_5 rfl rfl (by push_cast; rfl) (by omega)) rfl rfl ?_
      refine Dr.take 12 rfl (by kernel_rfl) bL sS (fun w hs => have hw := hs.h; (by first | exact Yl.ldB hw mM na_5 rfl (by omega) | exact Yl.ldC hw na_5 rfl mM | exact Yl.ldR sC na_5 rfl (by assumption) | exact Yl.ldV hw na_5 rfl mM rfl)) rfl rfl ?_
      refine Dr.take 13 rfl (by kernel_rfl) bL sS (fun w hs => have hw := hs.h; Yl.conv Try.underlying5 Try.underlying3 rfl (cv_i64 (by omega))) rfl rfl ?_
      refine Dr.take 14 rfl (by kernel_rfl) bL sS (fun w hs => have hw := hs.h; Yl.shl (n := 8) rfl rfl (by decide) (by rw [IntKind.wrap_i64]; omega)) rfl rfl ?_
      refine Dr.take 15 rfl (by kernel_rfl) bL sS (fun w hs => have hw := hs.h; Yl.orJ rfl rfl 8 (by omega) (by omega) (by decide)) rfl rfl ?_
      refine Dr.take 16 rfl (by kernel_rfl) bL sS (fun w hs => have hw := hs.h; Yl.add rfl rfl (by omega)) rfl rfl ?_
      refine Dr.take 17 rfl (by kernel_rfl) bL sS (fun w hs => have hw := hs.h; Yl.assign rfl) rfl rfl ?_
      refine Dr.done (by kernel_rfl) ?_
      rw [show (2 : Int) ^ 8 = 256 from by decide, ← hso]
      refine J.sel (.cons 1 rfl (.cons 4 rfl (.cons 9 rfl (.cons 10 rfl (.cons 11 rfl (.cons 12 rfl (.cons 68 rfl (.cons 69 rfl .nil)))))))) ?_
      refine X.then_ ?_
      refine T.seq ?_
      -- region 14 (batch.go:121)
      refine T.region ?_
      refine T.y (fun w hw => Yl.move rfl) rfl rfl ?_
      refine T.y (fun w hw => Yl.move rfl) rfl rfl ?_
      refine T.y (fun w hw => Yl.ia1 sC Try.underlying23 isz_5 rfl rfl rfl (by omega)) rfl rfl ?_
      refine T.y (fun w hw => (by first | exact Yl.ldB hw mM na_5 rfl (by omega) | exact Yl.ldC hw na_5 rfl mM | exact Yl.ldR sC na_5 rfl (by assumption) | exact Yl.ldV hw na_5 rfl mM rfl)) rfl rfl ?_
      refine T.y (fun w hw => Yl.conv Try.underlying5 Try.underlying3 rfl (cv_i64 (by omega))) rfl rfl ?_
      refine T.y (fun w hw => Yl.assign rfl) rfl rfl ?_
      refine T.nil ?_
      rw [hk]
      refine J.sel (.cons 1 rfl (.cons 4 rfl (.cons 9 rfl (.cons 10 rfl (.cons 11 rfl (.cons 12 rfl (.cons 13 rfl (.cons 68 rfl (.cons 69 rfl .nil))))))))) ?_
      refine X.then_ ?_
      refine T.seq ?_
      refine T.seq ?_
      -- region 15 (batch.go:122)
      refine Dr.start0 [] ?_
      refine Dr.take 0 rfl (by kernel_rfl) bL sS (fun w hs => have hw := hs.h; Yl.move rfl) rfl rfl ?_
      refine Dr.take 1 rfl (by kernel_rfl) bL sS (fun w hs => have hw := hs.h; Yl.move rfl) rfl rfl ?_
      refine Dr.take 2 rfl (by kernel_rfl) bL sS (fun w hs => have hw := hs.h; Yl.len Try.underlying56 rfl) rfl rfl ?_
      refine Dr.take 3 rfl (by kernel_rfl) bL sS (fun w hs => have hw := hs.h; Yl.gtr rfl rfl) rfl rfl ?_
      refine Dr.take 4 rfl (by kernel_rfl) bL sS (fun w hs => have hw := hs.h; Yl.move rfl) rfl rfl ?_
      refine T.splitD 98 rfl (fun h98 => ?_) (fun h98 => ?_)
      ·skip
       refine Dr.off 5 rfl (by kernel_rfl) bL sS rfl rfl ?_
       refine Dr.off 6 rfl (by kernel_rfl) bL sS rfl rfl ?_
       refine Dr.off 7 rfl (by kernel_rfl) bL sS rfl rfl ?_
       refine Dr.off 8 rfl (by kernel_rfl) bL sS rfl rfl ?_
       refine Dr.off 9 rfl (by kernel_rfl) bL sS rfl rfl ?_
       refine Dr.off 10 rfl (by kernel_rfl) bL sS rfl rfl ?_
       refine Dr.off 11 rfl (by kernel_rfl) bL sS rfl rfl ?_
       refine Dr.off 12 rfl (by kernel_rfl) bL sS rfl rfl ?_
       refine Dr.off 13 rfl (by kernel_rfl) bL sS rfl rfl ?_
       refine Dr.off 14 rfl (by kernel_rfl) bL sS rfl rfl ?_
       refine Dr.off 15 rfl (by kernel_rfl) bL sS rfl rfl ?_
       refine Dr.off 16 rfl (by kernel_rfl) bL sS rfl rfl ?_
       refine Dr.take 17 rfl (by kernel_rfl) bL sS (fun w hs => have hw := hs.h; Yl.pickT rfl rfl) rfl rfl ?_
       refine Dr.done (by kernel_rfl) ?_
       refine J.sel (.cons 1 rfl (.cons 4 rfl (.cons 9 rfl (.cons 10 rfl (.cons 11 rfl (.cons 13 rfl (.cons 68 rfl (.cons 69 rfl (.cons 111 rfl .nil))))))))) ?_
       refine X.then_ ?_
       refine T.condT rfl ?_
       refine T.seq ?_
       -- region 16 (batch.go:123)
       refine T.region ?_
       refine T.y (fun w hw => Yl.ldaP hw ag_55 rfl mM sU) rfl rfl ?_
       refine T.o0 (OpW.stA sz_55 rfl rfl rfl rfl sW uL) rfl (fun _ _ => ?_)
       refine T.y (fun w hw => Yl.assign rfl) rfl rfl ?_
       refine T.nil ?_
       refine J.sel (.cons 4 rfl (.cons 5 rfl .nil)) ?_
       refine X.then_ ?_
       refine T.ret ?_
       refine X.ret_then ?_
       refine X.ret_blk ?_
       refine X.ret_then ?_
       refine X.ret_then ?_
       refine X.ret_blk ?_
       refine X.ret_then ?_
       refine X.retCT Try.results119 ag_55 rfl rfl mM sU (fun w hw => ?_)
       have hno : batM cb ps = none := by
         rw [batM_go hhead (by rw [hn8]; omega), hn8, hgo, show n - i = n - (i + 1) + 1 by omega, batGo_no]; rfl
         rw [hkn]
         first
           | (left; omega)
           | (right; exact ⟨by omega, fun h => h111 ((stepOf_zero_iff q1.1 q2.1).1 h)⟩)
       exact ⟨(⟨cb.seq, acc⟩, At, ct, false), by rw [hno]; rfl, rfl, by have hw := Hold.view_freeze (e := 58) (sz := 2) (el := txE) (A := At) (c := ct) (xs := acc) (hw.pick pK); exact hw.f⟩
      ·skip
       refine Dr.take 5 rfl (by kernel_rfl) bL sS (fun w hs => have hw := hs.h; Yl.move rfl) rfl rfl ?_
       refine Dr.take 6 rfl (by kernel_rfl) bL sS (fun w hs => have hw := hs.h; Yl.eql rfl rfl) rfl rfl ?_
       refine Dr.take 7 rfl (by kernel_rfl) bL sS (fun w hs => have hw := hs.h; Yl.move rfl) rfl rfl ?_
       refine T.splitD 101 rfl (fun h101 => ?_) (fun h101 => ?_)
       ·skip
        refine Dr.take 8 rfl (by kernel_rfl) bL sS (fun w hs => have hw := hs.h; Yl.move rfl) rfl rfl ?_
        refine Dr.take 9 rfl (by kernel_rfl) bL sS (fun w hs => have hw := hs.h; Yl.ia1 (i := 0) sC Try.underlying23 isz_5 rfl rfl rfl (by omega)) rfl rfl ?_
        refine Dr.take 10 rfl (by kernel_rfl) bL sS (fun w hs => have hw := hs.h; (by first | exact Yl.ldB hw mM na_5 rfl (by omega) | exact Yl.ldC hw na_5 rfl mM | exact Yl.ldR sC na_5 rfl (by assumption) | exact Yl.ldV hw na_5 rfl mM rfl)) rfl rfl ?_
        refine Dr.take 11 rfl (by kernel_rfl) bL sS (fun w hs => have hw := hs.h; Yl.move rfl) rfl rfl ?_
        refine Dr.take 12 rfl (by kernel_rfl) bL sS (fun w hs => have hw := hs.h; Yl.ia1 (i := 1) sC Try.underlying23 isz_5 rfl rfl rfl (by omega)) rfl rfl ?_
        refine Dr.take 13 rfl (by kernel_rfl) bL sS (fun w hs => have hw := hs.h; (by first | exact Yl.ldB hw mM na_5 rfl (by omega) | exact Yl.ldC hw na_5 rfl mM | exact Yl.ldR sC na_5 rfl (by assumption) | exact Yl.ldV hw na_5 rfl mM rfl)) rfl rfl ?_
        refine Dr.take 14 rfl (by kernel_rfl) bL sS (fun w hs => have hw := hs.h; Yl.or8 rfl rfl (by omega) (by omega)) rfl rfl ?_
        refine Dr.take 15 rfl (by kernel_rfl) bL sS (fun w hs => have hw := hs.h; Yl.neq rfl rfl) rfl rfl ?_
        refine Dr.take 16 rfl (by kernel_rfl) bL sS (fun w hs => have hw := hs.h; Yl.pickT rfl rfl) rfl rfl ?_
        refine Dr.take 17 rfl (by kernel_rfl) bL sS (fun w hs => have hw := hs.h; Yl.pickF rfl rfl) rfl rfl ?_
        refine Dr.done (by kernel_rfl) ?_
        refine J.sel (.cons 1 rfl (.cons 4 rfl (.cons 9 rfl (.cons 10 rfl (.cons 11 rfl (.cons 13 rfl (.cons 68 rfl (.cons 69 rfl (.cons 111 rfl .nil))))))))) ?_
        refine X.then_ ?_
        refine T.condD rfl (fun h111 => ?_) (fun h111 => ?_)
        ·skip
         refine T.seq ?_
         -- region 16 (batch.go:123)
         refine T.region ?_
         refine T.y (fun w hw => Yl.ldaP hw ag_55 rfl mM sU) rfl rfl ?_
         refine T.o0 (OpW.stA sz_55 rfl rfl rfl rfl sW uL) rfl (fun _ _ => ?_)
         refine T.y (fun w hw => Yl.assign rfl) rfl rfl ?_
         refine T.nil ?_
         refine J.sel (.cons 4 rfl (.cons 5 rfl .nil)) ?_
         refine X.then_ ?_
         refine T.ret ?_
         refine X.ret_then ?_
         refine X.ret_blk ?_
         refine X.ret_then ?_
         refine X.ret_then ?_
         refine X.ret_blk ?_
         refine X.ret_then ?_
         refine X.retCT Try.results119 ag_55 rfl rfl mM sU (fun w hw => ?_)
         have hno : batM cb ps = none := by
           rw [batM_go hhead (by rw [hn8]; omega), hn8, hgo, show n - i = n - (i + 1) + 1 by omega, batGo_no]; rfl
           rw [hkn]
           first
             | (left; omega)
             | (right; exact ⟨by omega, fun h => h111 ((stepOf_zero_iff q1.1 q2.1).1 h)⟩)
         exact ⟨(⟨cb.seq, acc⟩, At, ct, false), by rw [hno]; rfl, rfl, by have hw := Hold.view_freeze (e := 58) (sz := 2) (el := txE) (A := At) (c := ct) (xs := acc) (hw.pick pK); exact hw.f⟩
        ·skip
         refine T.skip ?_
         refine X.then_ ?_
         refine T.seq ?_
         -- region 17 (batch.go:125)
         refine Dr.start1 [11] (p := viewH 58 2 txE At ct acc) pK ?_
         refine Dr.take 0 rfl (by kernel_rfl) bL sS (fun w hs => have hw := hs.h; Yl.fa fa_55_1 rfl) rfl rfl ?_
         refine Dr.take 1 rfl (by kernel_rfl) bL sS (fun w hs => have hw := hs.h; Yl.ldP hw na_53 rfl mM rfl) rfl rfl ?_
         refine Dr.take 2 rfl (by kernel_rfl) bL sS (fun w hs => have hw := hs.h; Yl.move rfl) rfl rfl ?_
         refine Dr.take 3 rfl (by kernel_rfl) bL sS (fun w hs => have hw := hs.h; Yl.move rfl) rfl rfl ?_
         refine Dr.take 4 rfl (by kernel_rfl) bL sS (fun w hs => have hw := hs.h; Yl.move rfl) rfl rfl ?_
         refine Dr.take 5 rfl (by kernel_rfl) bL sS (fun w hs => have hw := hs.h; Yl.move rfl) rfl rfl ?_
         refine Dr.take 6 rfl (by kernel_rfl) bL sS (fun w hs => have hw := hs.h; Yl.slHM Try.underlying56 sz_61 rfl rfl rfl (l := k) (h := k) rfl rfl (Nat.le_refl _) (by omega)) rfl rfl ?_
         rw [slA_zero]
         refine Dr.take 7 rfl (by kernel_rfl) bL sS (fun w hs => have hw := hs.h; Yl.build rfl (bld_58_0_1 _)) rfl rfl ?_
         refine Dr.act 8 rfl (by kernel_rfl) rfl (OpW.bsl (sz := 2) rfl bsl_53_1 rfl rfl) rfl rfl (fun _ _ _ => sS) (fun b121 _ => ?_)
         refine J.ent (fun w hw => hw.view_pre (sz := 2) (el := putE) (A := Bp) (c := mp) (xs := qs) mM k (by omega)) ?_
         refine J.ent (fun w hw => hw.txE' (A := Bp) (c := k) (n := k) (t := ⟨(tm + stepOf (stepsB cb.body) i), qs.take k⟩) mM (by simp; omega)) ?_
         refine J.ent (fun w hw => Hold.view_lit (e := 58) (sz := 2) (el := txE) (x := ⟨(tm + stepOf (stepsB cb.body) i), qs.take k⟩) (vs := [.int .i64 (tm + stepOf (stepsB cb.body) i), .slice Bp k k]) (A := some ⟨b121, 0, none⟩) (c := 1) (hw.pick pK) rfl mM) ?_
         refine Dr.act 9 rfl (by kernel_rfl) rfl (OpW.appV (el := txE) (ys := [⟨(tm + stepOf (stepsB cb.body) i), qs.take k⟩]) Try.underlying53 inf_58 rfl rfl rfl rfl mM txE_one pK (by constructor <;> simp <;> omega)) rfl rfl (fun _ _ _ => sS) (fun ⟨A122, c122⟩ _ => ?_)
         dsimp only
         refine Dr.take 10 rfl (by kernel_rfl) bL sS (fun w hs => have hw := hs.h; Yl.fa fa_55_1 rfl) rfl rfl ?_
         refine Dr.act0 11 rfl (by kernel_rfl) rfl (OpW.st1 sz_53 rfl rfl rfl rfl sW uP) rfl (fun hB => absurd (List.elem_iff.1 rfl) hB) (fun _ _ => ?_)
         refine Dr.done (by kernel_rfl) ?_
         refine J.sel (.cons 1 rfl (.cons 4 rfl (.cons 9 rfl (.cons 10 rfl (.cons 11 rfl (.cons 13 rfl (.cons 68 rfl (.cons 69 rfl .nil)))))))) ?_
         refine X.then_ ?_
         -- region 18 (batch.go:126)
         refine T.region ?_
         refine T.y (fun w hw => Yl.move rfl) rfl rfl ?_
         refine T.y (fun w hw => Yl.move rfl) rfl rfl ?_
         refine T.y (fun w hw => Yl.slLo Try.underlying56 sz_61 rfl rfl (l := k) rfl (by omega) (by omega)) rfl rfl ?_
         refine T.y (fun w hw => Yl.assign rfl) rfl rfl ?_
         refine T.nil ?_
         refine J.sel (.cons 1 rfl (.cons 4 rfl (.cons 9 rfl (.cons 10 rfl (.cons 11 rfl (.cons 68 rfl (.cons 69 rfl .nil))))))) ?_
         refine X.nm_blk ?_
         refine X.then_ ?_
         -- region 19 (batch.go:119)
         refine T.region ?_
         refine T.y (fun w hw => Yl.add rfl rfl (by omega)) rfl rfl ?_
         refine T.y (fun w hw => Yl.move rfl) rfl rfl ?_
         refine T.nil ?_
         refine J.sel (.cons 1 rfl (.cons 4 rfl (.cons 9 rfl (.cons 10 rfl (.cons 11 rfl (.cons 68 rfl (.cons 69 rfl .nil))))))) ?_
         have hstep : batGo (stepsB cb.body) (countsB cb.body) (n - i) i tm qs acc = batGo (stepsB cb.body) (countsB cb.body) (n - (i + 1)) (i + 1) (tm + stepOf (stepsB cb.body) i) (qs.drop k) (acc ++ [⟨(tm + stepOf (stepsB cb.body) i), qs.take k⟩]) := by
           rw [show n - i = n - (i + 1) + 1 by omega, batGo_on, hkn]
           rw [hkn]
           rintro (h | ⟨h, h'⟩)
           · omega
           · first
               | exact h101 (by omega)
               | (apply h'; exact (stepOf_zero_iff q1.1 q2.1).2 (Classical.not_not.1 h111))
         refine X.go (hz2 (i + 1, (tm + stepOf (stepsB cb.body) i), (slA Bp mp k 2, mp - k, qs.drop k), (A122, c122, acc ++ [⟨(tm + stepOf (stepsB cb.body) i), qs.take k⟩])) ⟨by omega, by simp [hal], by dsimp only; omega, by dsimp only; omega, by rw [hgo, hstep]⟩ (by dsimp only; omega)) (.eqv 1 rfl (by rw [List.length_drop]) (.cons 9 rfl (.cons 10 rfl (.num 11 rfl rfl (.num 69 rfl (by omega) (.cons 4 rfl (.cons 68 rfl .nil))))))) (fun w hw => ?_)
         dsimp only
         have hw := hw.view_suf (sz := 2) (el := putE) (A := Bp) (c := mp) (xs := qs) mM k (by omega)
         exact hw.f
       ·skip
        refine Dr.off 8 rfl (by kernel_rfl) bL sS rfl rfl ?_
        refine Dr.off 9 rfl (by kernel_rfl) bL sS rfl rfl ?_
        refine Dr.off 10 rfl (by kernel_rfl) bL sS rfl rfl ?_
        refine Dr.off 11 rfl (by kernel_rfl) bL sS rfl rfl ?_
        refine Dr.off 12 rfl (by kernel_rfl) bL sS rfl rfl ?_
        refine Dr.off 13 rfl (by kernel_rfl) bL sS rfl rfl ?_
        refine Dr.off 14 rfl (by kernel_rfl) bL sS rfl rfl ?_
        refine Dr.off 15 rfl (by kernel_rfl) bL sS rfl rfl ?_
        refine Dr.take 16 rfl (by kernel_rfl) bL sS (fun w hs => have hw := hs.h; Yl.pickF rfl rfl) rfl rfl ?_
        refine Dr.take 17 rfl (by kernel_rfl) bL sS (fun w hs => have hw := hs.h; Yl.pickF rfl rfl) rfl rfl ?_
        refine Dr.done (by kernel_rfl) ?_
        refine J.sel (.cons 1 rfl (.cons 4 rfl (.cons 9 rfl (.cons 10 rfl (.cons 11 rfl (.cons 13 rfl (.cons 68 rfl (.cons 69 rfl (.cons 111 rfl .nil))))))))) ?_
        refine X.then_ ?_
        refine T.condF rfl ?_
        refine T.skip ?_
        refine X.then_ ?_
        refine T.seq ?_
        -- region 17 (batch.go:125)
        refine Dr.start1 [11] (p := viewH 58 2 txE At ct acc) pK ?_
        refine Dr.take 0 rfl (by kernel_rfl) bL sS (fun w hs => have hw := hs.h; Yl.fa fa_55_1 rfl) rfl rfl ?_
        refine Dr.take 1 rfl (by kernel_rfl) bL sS (fun w hs => have hw := hs.h; Yl.ldP hw na_53 rfl mM rfl) rfl rfl ?_
        refine Dr.take 2 rfl (by kernel_rfl) bL sS (fun w hs => have hw := hs.h; Yl.move rfl) rfl rfl ?_
        refine Dr.take 3 rfl (by kernel_rfl) bL sS (fun w hs => have hw := hs.h; Yl.move rfl) rfl rfl ?_
        refine Dr.take 4 rfl (by kernel_rfl) bL sS (fun w hs => have hw := hs.h; Yl.move rfl) rfl rfl ?_
        refine Dr.take 5 rfl (by kernel_rfl) bL sS (fun w hs => have hw := hs.h; Yl.move rfl) rfl rfl ?_
        refine Dr.take 6 rfl (by kernel_rfl) bL sS (fun w hs => have hw := hs.h; Yl.slHM Try.underlying56 sz_61 rfl rfl rfl (l := k) (h := k) rfl rfl (Nat.le_refl _) (by omega)) rfl rfl ?_
        rw [slA_zero]
        refine Dr.take 7 rfl (by kernel_rfl) bL sS (fun w hs => have hw := hs.h; Yl.build rfl (bld_58_0_1 _)) rfl rfl ?_
        refine Dr.act 8 rfl (by kernel_rfl) rfl (OpW.bsl (sz := 2) rfl bsl_53_1 rfl rfl) rfl rfl (fun _ _ _ => sS) (fun b121 _ => ?_)
        refine J.ent (fun w hw => hw.view_pre (sz := 2) (el := putE) (A := Bp) (c := mp) (xs := qs) mM k (by omega)) ?_
        refine J.ent (fun w hw => hw.txE' (A := Bp) (c := k) (n := k) (t := ⟨(tm + stepOf (stepsB cb.body) i), qs.take k⟩) mM (by simp; omega)) ?_
        refine J.ent (fun w hw => Hold.view_lit (e := 58) (sz := 2) (el := txE) (x := ⟨(tm + stepOf (stepsB cb.body) i), qs.take k⟩) (vs := [.int .i64 (tm + stepOf (stepsB cb.body) i), .slice Bp k k]) (A := some ⟨b121, 0, none⟩) (c := 1) (hw.pick pK) rfl mM) ?_
        refine Dr.act 9 rfl (by kernel_rfl) rfl (OpW.appV (el := txE) (ys := [⟨(tm + stepOf (stepsB cb.body) i), qs.take k⟩]) Try.underlying53 inf_58 rfl rfl rfl rfl mM txE_one pK (by constructor <;> simp <;> omega)) rfl rfl (fun _ _ _ => sS) (fun ⟨A122, c122⟩ _ => ?_)
        dsimp only
        refine Dr.take 10 rfl (by kernel_rfl) bL sS (fun w hs => have hw := hs.h; Yl.fa fa_55_1 rfl) rfl rfl ?_
        refine Dr.act0 11 rfl (by kernel_rfl) rfl (OpW.st1 sz_53 rfl rfl rfl rfl sW uP) rfl (fun hB => absurd (List.elem_iff.1 rfl) hB) (fun _ _ => ?_)
        refine Dr.done (by kernel_rfl) ?_
        refine J.sel (.cons 1 rfl (.cons 4 rfl (.cons 9 rfl (.cons 10 rfl (.cons 11 rfl (.cons 13 rfl (.cons 68 rfl (.cons 69 rfl .nil)))))))) ?_
        refine X.then_ ?_
        -- region 18 (batch.go:126)
        refine T.region ?_
        refine T.y (fun w hw => Yl.move rfl) rfl rfl ?_
        refine T.y (fun w hw => Yl.move rfl) rfl rfl ?_
        refine T.y (fun w hw => Yl.slLo Try.underlying56 sz_61 rfl rfl (l := k) rfl (by omega) (by omega)) rfl rfl ?_
        refine T.y (fun w hw => Yl.assign rfl) rfl rfl ?_
        refine T.nil ?_
        refine J.sel (.cons 1 rfl (.cons 4 rfl (.cons 9 rfl (.cons 10 rfl (.cons 11 rfl (.cons 68 rfl (.cons 69 rfl .nil))))))) ?_
        refine X.nm_blk ?_
        refine X.then_ ?_
        -- region 19 (batch.go:119)
        refine T.region ?_
        refine T.y (fun w hw => Yl.add rfl rfl (by omega)) rfl rfl ?_
        refine T.y (fun w hw => Yl.move rfl) rfl rfl ?_
        refine T.nil ?_
        refine J.sel (.cons 1 rfl (.cons 4 rfl (.cons 9 rfl (.cons 10 rfl (.cons 11 rfl (.cons 68 rfl (.cons 69 rfl .nil))))))) ?_
        have hstep : batGo (stepsB cb.body) (countsB cb.body) (n - i) i tm qs acc = batGo (stepsB cb.body) (countsB cb.body) (n - (i + 1)) (i + 1) (tm + stepOf (stepsB cb.body) i) (qs.drop k) (acc ++ [⟨(tm + stepOf (stepsB cb.body) i), qs.take k⟩]) := by
          rw [show n - i = n - (i + 1) + 1 by omega, batGo_on, hkn]
          rw [hkn]
          rintro (h | ⟨h, h'⟩)
          · omega
          · first
              | exact h101 (by omega)
              | (apply h'; exact (stepOf_zero_iff q1.1 q2.1).2 (Classical.not_not.1 h111))
        refine X.go (hz2 (i + 1, (tm + stepOf (stepsB cb.body) i), (slA Bp mp k 2, mp - k, qs.drop k), (A122, c122, acc ++ [⟨(tm + stepOf (stepsB cb.body) i), qs.take k⟩])) ⟨by omega, by simp [hal], by dsimp only; omega, by dsimp only; omega, by rw [hgo, hstep]⟩ (by dsimp only; omega)) (.eqv 1 rfl (by rw [List.length_drop]) (.cons 9 rfl (.cons 10 rfl (.num 11 rfl rfl (.num 69 rfl (by omega) (.cons 4 rfl (.cons 68 rfl .nil))))))) (fun w hw => ?_)
        dsimp only
        have hw := hw.view_suf (sz := 2) (el := putE) (A := Bp) (c := mp) (xs := qs) mM k (by omega)
        exact hw.f
     ·skip
      refine T.exit ?_
      refine X.exit_then ?_
      refine X.exit_then ?_
      refine X.exit_blk ?_
      refine X.then_ ?_
      refine T.seq ?_
      have hin : i = n := by omega
      subst hin
      rw [Nat.sub_self] at hgo
      have hfin : batM cb ps = batEnd cb.seq (some (acc, qs)) := by rw [batM_go hhead (by rw [hn8]; omega), hn8, hgo]; rfl
      refine J.ent (fun w hw => Hold.view_freeze (e := 58) (sz := 2) (el := txE) (A := At) (c := ct) (xs := acc) (hw.pick pK)) ?_
      -- region 20 (batch.go:128)
      refine Dr.start0 [] ?_
      refine Dr.take 0 rfl (by kernel_rfl) bL sS (fun w hs => have hw := hs.h; Yl.ldaP hw ag_55 rfl mM sU) rfl rfl ?_
      refine Dr.take 1 rfl (by kernel_rfl) bL sS (fun w hs => have hw := hs.h; Yl.move rfl) rfl rfl ?_
      refine Dr.take 2 rfl (by kernel_rfl) bL sS (fun w hs => have hw := hs.h; Yl.len Try.underlying56 rfl) rfl rfl ?_
      refine Dr.take 3 rfl (by kernel_rfl) bL sS (fun w hs => have hw := hs.h; Yl.eql rfl rfl) rfl rfl ?_
      refine Dr.take 4 rfl (by kernel_rfl) bL sS (fun w hs => have hw := hs.h; Yl.move rfl) rfl rfl ?_
      refine T.splitD 132 rfl (fun h132 => ?_) (fun h132 => ?_)
      ·skip
       refine Dr.take 5 rfl (by kernel_rfl) bL sS (fun w hs => have hw := hs.h; Yl.ldaP hw ag_55 rfl mM sU) rfl rfl ?_
       refine Dr.act 6 rfl (by kernel_rfl) rfl (OpW.call en_46 rfl (check_ct (b := ⟨cb.seq, acc⟩) mM)) rfl rfl (fun _ _ _ => sS) (fun x hx => ?_)
       refine Dr.take 7 rfl (by kernel_rfl) bL sS (fun w hs => have hw := hs.h; Yl.eql rfl rfl) rfl rfl ?_
       refine Dr.take 8 rfl (by kernel_rfl) bL sS (fun w hs => have hw := hs.h; Yl.pickT rfl rfl) rfl rfl ?_
       refine Dr.act0 9 rfl (by kernel_rfl) rfl (OpW.stA sz_55 rfl rfl rfl rfl sW uL) rfl (fun _ _ _ => sS) (fun _ _ => ?_)
       refine Dr.take 10 rfl (by kernel_rfl) bL sS (fun w hs => have hw := hs.h; Yl.assign rfl) rfl rfl ?_
       refine Dr.done (by kernel_rfl) ?_
       refine J.sel (.cons 4 rfl (.cons 5 rfl .nil)) ?_
       refine X.then_ ?_
       refine T.ret ?_
       refine X.retCT Try.results119 ag_55 rfl rfl mM sU (fun w hw => ?_)
       first
         | exact ⟨(⟨cb.seq, acc⟩, At, ct, false), (by rw [hfin, batEnd_no (fun h => by omega)]; rfl), rfl, hw.f⟩
         | (refine ⟨(⟨cb.seq, acc⟩, At, ct, decide ((⟨cb.seq, acc⟩ : BatL).chk = 0)), ?_, rfl, hw.f⟩
            rw [hfin]
            by_cases hck : (⟨cb.seq, acc⟩ : BatL).chk = 0
            · rw [batEnd_yes (by omega) hck]; exact (if_pos (by simpa using hck)).symm
            · rw [batEnd_no (fun h => hck h.2)]; exact (if_neg (by simpa using hck)).symm)
      ·skip
       refine Dr.off 5 rfl (by kernel_rfl) bL sS rfl rfl ?_
       refine Dr.off 6 rfl (by kernel_rfl) bL sS rfl rfl ?_
       refine Dr.off 7 rfl (by kernel_rfl) bL sS rfl rfl ?_
       refine Dr.take 8 rfl (by kernel_rfl) bL sS (fun w hs => have hw := hs.h; Yl.pickF rfl rfl) rfl rfl ?_
       refine Dr.act0 9 rfl (by kernel_rfl) rfl (OpW.stA sz_55 rfl rfl rfl rfl sW uL) rfl (fun _ _ _ => sS) (fun _ _ => ?_)
       refine Dr.take 10 rfl (by kernel_rfl) bL sS (fun w hs => have hw := hs.h; Yl.assign rfl) rfl rfl ?_
       refine Dr.done (by kernel_rfl) ?_
       refine J.sel (.cons 4 rfl (.cons 5 rfl .nil)) ?_
       refine X.then_ ?_
       refine T.ret ?_
       refine X.retCT Try.results119 ag_55 rfl rfl mM sU (fun w hw => ?_)
       first
         | exact ⟨(⟨cb.seq, acc⟩, At, ct, false), (by rw [hfin, batEnd_no (fun h => by omega)]; rfl), rfl, hw.f⟩
         | (refine ⟨(⟨cb.seq, acc⟩, At, ct, decide ((⟨cb.seq, acc⟩ : BatL).chk = 0)), ?_, rfl, hw.f⟩
            rw [hfin]
            by_cases hck : (⟨cb.seq, acc⟩ : BatL).chk = 0
            · rw [batEnd_yes (by omega) hck]; exact (if_pos (by simpa using hck)).symm
            · rw [batEnd_no (fun h => hck h.2)]; exact (if_neg (by simpa using hck)).symm)

set_option maxHeartbeats 400000 in
theorem decode_b_ct {M : List HP} {K : List KP} {A : Option Addr} {c : Nat} {l : List (List Int)} (hl : rowsK A c l ∈ K) (hn : l.length ≤ 100000) : Fn 69 [.slice A l.length c] M K (fun _ : Option Addr × Nat => True) (fun r => .tuple [.agg [.int .i64 (decR l).1.num, .slice r.1 (decR l).1.txs.length r.2].toArray, .int .i64 (decR l).2.1, .int .i64 (decR l).2.2, .int .i64 (decE l)].toArray) (fun _ => M) (fun r => viewK 2 txE r.1 r.2 (decR l).1.txs :: K) := by
 refine Fn.of (n := 34) Try.func69 rfl Try.ntmps69 rfl ?_
 have hrl := rowM_len l Fb.zero true []
 rw [List.length_nil, Nat.zero_add] at hrl
 have hrl : (rowOf l).1.length ≤ l.length := hrl
 refine T.seq ?_
 -- region 0 (batch.go:132)
 refine T.region ?_
 refine T.o (OpW.alloc zr_55) rfl rfl (fun b2 _ => ?_)
 refine T.y (fun w hw => Yl.assign rfl) rfl rfl ?_
 refine T.y (fun w hw => Yl.assign rfl) rfl rfl ?_
 refine T.y (fun w hw => Yl.assign rfl) rfl rfl ?_
 refine T.nil ?_
 refine J.sel (.cons 0 rfl (.cons 2 rfl .nil)) ?_
 refine X.then_ ?_
 refine T.seq ?_
 -- region 1 (batch.go:133)
 refine T.region ?_
 refine T.y (fun w hw => Yl.move rfl) rfl rfl ?_
 refine T.o (OpW.call en_118 rfl (row_ct mM hn)) rfl rfl (fun ⟨⟨A6, c6⟩, ⟨A7, c7⟩⟩ _ => ?_)
 dsimp only
 refine T.y (fun w hw => Yl.move rfl) rfl rfl ?_
 refine T.y (fun w hw => Yl.extract rfl rfl) rfl rfl ?_
 refine T.y (fun w hw => Yl.extract rfl rfl) rfl rfl ?_
 refine T.y (fun w hw => Yl.extract rfl rfl) rfl rfl ?_
 refine T.o (OpW.alloc zr_29) rfl rfl (fun b7 _ => ?_)
 refine T.y (fun w hw => Yl.assign rfl) rfl rfl ?_
 refine T.o0 (OpW.stA sz_29 rfl rfl rfl rfl sW uL) rfl (fun _ _ => ?_)
 refine T.y (fun w hw => Yl.assign rfl) rfl rfl ?_
 refine T.nil ?_
 refine J.sel (.cons 2 rfl (.cons 6 rfl (.cons 7 rfl (.cons 8 rfl .nil)))) ?_
 refine X.then_ ?_
 refine T.seq ?_
 refine T.seq ?_
 -- region 2 (batch.go:134)
 refine T.region ?_
 refine T.y (fun w hw => Yl.move rfl) rfl rfl ?_
 refine T.y (fun w hw => Yl.not rfl) rfl rfl ?_
 refine T.nil ?_
 refine J.sel (.cons 2 rfl (.cons 6 rfl (.cons 7 rfl (.cons 17 rfl .nil)))) ?_
 refine X.then_ ?_
 refine T.cond rfl (fun h17 => ?_) (fun h17 => ?_)
 ·skip
  refine T.seq ?_
  -- region 3 (batch.go:135)
  refine T.region ?_
  refine T.y (fun w hw => Yl.build rfl (bld_55_z _)) rfl rfl ?_
  refine T.o0 (OpW.stA sz_55 rfl rfl rfl rfl sW uL) rfl (fun _ _ => ?_)
  refine T.y (fun w hw => Yl.assign rfl) rfl rfl ?_
  refine T.y (fun w hw => Yl.assign rfl) rfl rfl ?_
  refine T.y (fun w hw => Yl.assign rfl) rfl rfl ?_
  refine T.nil ?_
  refine J.sel (.cons 2 rfl (.cons 3 rfl (.cons 4 rfl (.cons 5 rfl .nil)))) ?_
  refine X.then_ ?_
  refine T.ret ?_
  refine X.ret_then ?_
  refine X.retCTTT Try.results69 ag_55 rfl rfl rfl rfl mM sU (fun w hw => ?_)
  obtain ⟨e1, e2⟩ := dec_part (l := l) (by simpa using h17)
  rw [e1, e2]
  exact ⟨(none, 0), trivial, rfl, by have hw := hw.viewK_nil 2 txE; exact hw.f⟩
 ·skip
  refine T.skip ?_
  refine X.then_ ?_
  refine T.seq ?_
  -- region 4 (batch.go:137)
  refine T.region ?_
  refine T.y (fun w hw => Yl.ldaP hw ag_29 rfl mM sU) rfl rfl ?_
  refine T.y (fun w hw => Yl.move rfl) rfl rfl ?_
  refine T.o (OpW.call en_119 rfl (batch_ct (cb := (rowOf l).2.1) (ps := (rowOf l).1) mM mM)) rfl rfl (fun ⟨b', At, ct, ok⟩ hbm => ?_)
  dsimp only
  dsimp only at hbm ⊢
  refine T.y (fun w hw => Yl.move rfl) rfl rfl ?_
  refine T.y (fun w hw => Yl.extract rfl rfl) rfl rfl ?_
  refine T.y (fun w hw => Yl.extract rfl rfl) rfl rfl ?_
  refine T.o0 (OpW.stA sz_55 rfl rfl rfl rfl sW uL) rfl (fun _ _ => ?_)
  refine T.y (fun w hw => Yl.assign rfl) rfl rfl ?_
  refine T.nil ?_
  refine J.sel (.cons 2 rfl (.cons 6 rfl (.cons 7 rfl (.cons 9 rfl .nil)))) ?_
  refine X.then_ ?_
  refine T.seq ?_
  refine T.seq ?_
  -- region 5 (batch.go:138)
  refine T.region ?_
  refine T.y (fun w hw => Yl.move rfl) rfl rfl ?_
  refine T.y (fun w hw => Yl.not rfl) rfl rfl ?_
  refine T.nil ?_
  refine J.sel (.cons 2 rfl (.cons 6 rfl (.cons 7 rfl (.cons 26 rfl .nil)))) ?_
  refine X.then_ ?_
  refine T.cond rfl (fun h26 => ?_) (fun h26 => ?_)
  ·skip
   refine T.seq ?_
   -- region 6 (batch.go:139)
   refine T.region ?_
   refine T.y (fun w hw => Yl.build rfl (bld_55_z _)) rfl rfl ?_
   refine T.o0 (OpW.stA sz_55 rfl rfl rfl rfl sW uL) rfl (fun _ _ => ?_)
   refine T.y (fun w hw => Yl.assign rfl) rfl rfl ?_
   refine T.y (fun w hw => Yl.assign rfl) rfl rfl ?_
   refine T.y (fun w hw => Yl.assign rfl) rfl rfl ?_
   refine T.nil ?_
   refine J.sel (.cons 2 rfl (.cons 3 rfl (.cons 4 rfl (.cons 5 rfl .nil)))) ?_
   refine X.then_ ?_
   refine T.ret ?_
   refine X.ret_then ?_
   refine X.retCTTT Try.results69 ag_55 rfl rfl rfl rfl mM sU (fun w hw => ?_)
   have hok : ok = false := by simpa using h26
   have hwh : (rowOf l).2.2 = true := by simpa using h17
   rw [hok] at hbm
   obtain ⟨e1, e2⟩ := dec_none hwh hbm
   rw [e1, e2]
   exact ⟨(none, 0), trivial, rfl, by have hw := hw.viewK_nil 2 txE; exact hw.f⟩
  ·skip
   refine T.skip ?_
   refine X.then_ ?_
   refine T.seq ?_
   -- region 7 (batch.go:141)
   refine Dr.start0 [] ?_
   refine Dr.take 0 rfl (by kernel_rfl) bL sS (fun w hs => have hw := hs.h; Yl.ldaP hw ag_55 rfl mM sU) rfl rfl ?_
   refine Dr.take 1 rfl (by kernel_rfl) bL sS (fun w hs => have hw := hs.h; Yl.fa fa_29_1 rfl) rfl rfl ?_
   refine Dr.take 2 rfl (by kernel_rfl) bL sS (fun w hs => have hw := hs.h; Yl.ldP hw na_3 rfl mM rfl) rfl rfl ?_
   refine Dr.take 3 rfl (by kernel_rfl) bL sS (fun w hs => have hw := hs.h; Yl.move rfl) rfl rfl ?_
   refine Dr.take 4 rfl (by kernel_rfl) bL sS (fun w hs => have hw := hs.h; Yl.len Try.underlying56 rfl) rfl rfl ?_
   refine Dr.take 5 rfl (by kernel_rfl) bL sS (fun w hs => have hw := hs.h; Yl.add rfl rfl (by omega)) rfl rfl ?_
   refine Dr.act0 6 rfl (by kernel_rfl) rfl (OpW.stA sz_55 rfl rfl rfl rfl sW uL) rfl (fun _ _ _ => sS) (fun _ _ => ?_)
   refine Dr.take 7 rfl (by kernel_rfl) bL sS (fun w hs => have hw := hs.h; Yl.assign rfl) rfl rfl ?_
   refine Dr.take 8 rfl (by kernel_rfl) bL sS (fun w hs => have hw := hs.h; Yl.assign rfl) rfl rfl ?_
   refine Dr.take 9 rfl (by kernel_rfl) bL sS (fun w hs => have hw := hs.h; Yl.assign rfl) rfl rfl ?_
   refine Dr.done (by kernel_rfl) ?_
   refine J.sel (.cons 2 rfl (.cons 3 rfl (.cons 4 rfl (.cons 5 rfl .nil)))) ?_
   refine X.then_ ?_
   refine T.ret ?_
   refine X.retCTTT Try.results69 ag_55 rfl rfl rfl rfl mM sU (fun w hw => ?_)
   have hok : ok = true := by simpa using h26
   have hwh : (rowOf l).2.2 = true := by simpa using h17
   rw [hok] at hbm
   obtain ⟨e1, e2⟩ := dec_some hwh hbm
   rw [e1, e2]
   exact ⟨(At, ct), trivial, rfl, hw.f⟩

end Go.Proofs.Ytfpnodboebpemaa
