/- The law ZdevApart. -/
import Derived.Test.YtfpnodboebpemaaLawZ
namespace Go.Proofs.Ytfpnodboebpemaa
open Go.RowKit Go.Proofs.YtfpnodboebpemaaW.PrintWords
set_option linter.unusedVariables false
set_option linter.unusedSimpArgs false
attribute [local irreducible] pt rowH slK bytesK intsK rowsK rowsH cellK rowsV oldK star exH pureH knowH starL emp devH zoneH zonesH zrest

set_option maxHeartbeats 4000000 in
theorem apart_ct {M : List HP} {K : List KP} {A : Option Addr} {c : Nat} {o : List Int} {p : Int} (hp : intsK A c o ∈ K) : Fn 15 [.int .i64 p, .slice A o.length c] M K (fun _ : Unit => True) (fun _ => .bool true) (fun _ => M) (fun _ => K) := by
  refine Fn.of (n := 184) Try.func15 rfl Try.ntmps15 rfl ?_
  refine T.seq ?_
  -- region 0 (law.go:251)
  refine T.region ?_
  refine T.y (fun w hw => Yl.assign rfl) rfl rfl ?_
  refine T.nil ?_
  refine J.sel (.cons 0 rfl (.cons 1 rfl .nil)) ?_
  refine X.then_ ?_
  refine T.seq ?_
  refine T.seq ?_
  -- region 1 (law.go:252)
  refine T.region ?_
  refine T.y (fun w hw => Yl.move rfl) rfl rfl ?_
  refine T.y (fun w hw => Yl.lss rfl rfl) rfl rfl ?_
  refine T.y (fun w hw => Yl.move rfl) rfl rfl ?_
  refine T.splitD 24 rfl (fun h24 => ?_) (fun h24 => ?_)
  · skip
    refine T.off rfl rfl rfl ?_
    refine T.off rfl rfl rfl ?_
    refine T.y (fun w hw => Yl.pickT rfl rfl) rfl rfl ?_
    refine T.y (fun w hw => Yl.move rfl) rfl rfl ?_
    refine T.off rfl rfl rfl ?_
    refine T.off rfl rfl rfl ?_
    refine T.off rfl rfl rfl ?_
    refine T.y (fun w hw => Yl.pickT rfl rfl) rfl rfl ?_
    refine T.nil ?_
    refine J.sel (.cons 0 rfl (.cons 1 rfl (.cons 32 rfl .nil))) ?_
    refine X.then_ ?_
    refine T.condT rfl ?_
    refine T.seq ?_
    -- region 2 (law.go:253)
    refine T.region ?_
    refine T.o (OpW.call en_34 rfl (awake_ct)) rfl rfl (fun x hx => ?_)
    refine T.y (fun w hw => Yl.assign rfl) rfl rfl ?_
    refine T.nil ?_
    refine J.sel (.cons 4 rfl .nil) ?_
    refine X.then_ ?_
    refine T.ret ?_
    refine X.ret_then ?_
    refine X.ret1 Try.results15 rfl (fun w hw => ?_)
    exact ⟨(), trivial, rfl, hw.fin (by (repeat (first | exact Picks.refl | exact Picks.nil | (apply Picks.cons; (focus ((repeat (first | exact Pick.head | apply Pick.tail)); done))) | apply Picks.drop))) (by (repeat (first | exact Ks.refl | exact Ks.nil | (apply Ks.cons; (focus ((repeat (first | assumption | exact List.Mem.head _ | apply List.Mem.tail)); done))) | apply Ks.drop)))⟩
  · skip
    refine T.y (fun w hw => Yl.move rfl) rfl rfl ?_
    refine T.y (fun w hw => Yl.gtr rfl rfl) rfl rfl ?_
    refine T.y (fun w hw => Yl.pickF rfl rfl) rfl rfl ?_
    refine T.y (fun w hw => Yl.move rfl) rfl rfl ?_
    refine T.splitD 28 rfl (fun h28 => ?_) (fun h28 => ?_)
    · skip
      refine T.off rfl rfl rfl ?_
      refine T.off rfl rfl rfl ?_
      refine T.off rfl rfl rfl ?_
      refine T.y (fun w hw => Yl.pickT rfl rfl) rfl rfl ?_
      refine T.nil ?_
      refine J.sel (.cons 0 rfl (.cons 1 rfl (.cons 32 rfl .nil))) ?_
      refine X.then_ ?_
      refine T.condT rfl ?_
      refine T.seq ?_
      -- region 2 (law.go:253)
      refine T.region ?_
      refine T.o (OpW.call en_34 rfl (awake_ct)) rfl rfl (fun x hx => ?_)
      refine T.y (fun w hw => Yl.assign rfl) rfl rfl ?_
      refine T.nil ?_
      refine J.sel (.cons 4 rfl .nil) ?_
      refine X.then_ ?_
      refine T.ret ?_
      refine X.ret_then ?_
      refine X.ret1 Try.results15 rfl (fun w hw => ?_)
      exact ⟨(), trivial, rfl, hw.fin (by (repeat (first | exact Picks.refl | exact Picks.nil | (apply Picks.cons; (focus ((repeat (first | exact Pick.head | apply Pick.tail)); done))) | apply Picks.drop))) (by (repeat (first | exact Ks.refl | exact Ks.nil | (apply Ks.cons; (focus ((repeat (first | assumption | exact List.Mem.head _ | apply List.Mem.tail)); done))) | apply Ks.drop)))⟩
    · skip
      refine T.y (fun w hw => Yl.move rfl) rfl rfl ?_
      refine T.y (fun w hw => Yl.len Try.underlying37 rfl) rfl rfl ?_
      refine T.y (fun w hw => Yl.gtr rfl rfl) rfl rfl ?_
      refine T.y (fun w hw => Yl.pickF rfl rfl) rfl rfl ?_
      refine T.nil ?_
      refine J.sel (.cons 0 rfl (.cons 1 rfl (.cons 32 rfl .nil))) ?_
      refine X.then_ ?_
      refine T.condD rfl (fun h32 => ?_) (fun h32 => ?_)
      · skip
        refine T.seq ?_
        -- region 2 (law.go:253)
        refine T.region ?_
        refine T.o (OpW.call en_34 rfl (awake_ct)) rfl rfl (fun x hx => ?_)
        refine T.y (fun w hw => Yl.assign rfl) rfl rfl ?_
        refine T.nil ?_
        refine J.sel (.cons 4 rfl .nil) ?_
        refine X.then_ ?_
        refine T.ret ?_
        refine X.ret_then ?_
        refine X.ret1 Try.results15 rfl (fun w hw => ?_)
        exact ⟨(), trivial, rfl, hw.fin (by (repeat (first | exact Picks.refl | exact Picks.nil | (apply Picks.cons; (focus ((repeat (first | exact Pick.head | apply Pick.tail)); done))) | apply Picks.drop))) (by (repeat (first | exact Ks.refl | exact Ks.nil | (apply Ks.cons; (focus ((repeat (first | assumption | exact List.Mem.head _ | apply List.Mem.tail)); done))) | apply Ks.drop)))⟩
      · skip
        refine T.skip ?_
        refine X.then_ ?_
        refine T.seq ?_
        obtain ⟨P, rfl⟩ : ∃ P : Nat, p = P := ⟨p.toNat, by omega⟩
        -- region 3 (law.go:255)
        refine T.region ?_
        refine T.o (OpW.call en_36 rfl (least_ct)) rfl rfl (fun x hx => ?_)
        refine T.o (OpW.call en_35 rfl (new_ct (Z := 8) (S := 96) (by omega) (by omega))) rfl rfl (fun d _ => ?_)
        refine T.y (fun w hw => Yl.move rfl) rfl rfl ?_
        refine T.y (fun w hw => Yl.extract rfl rfl) rfl rfl ?_
        refine T.y (fun w hw => Yl.extract rfl rfl) rfl rfl ?_
        refine T.y (fun w hw => Yl.assign rfl) rfl rfl ?_
        refine T.y (fun w hw => Yl.assign rfl) rfl rfl ?_
        refine T.nil ?_
        refine J.sel (.cons 0 rfl (.cons 1 rfl (.cons 5 rfl (.cons 6 rfl .nil)))) ?_
        refine X.then_ ?_
        refine T.seq ?_
        refine T.seq ?_
        -- region 4 (law.go:256)
        refine T.region ?_
        refine T.y (fun w hw => Yl.move rfl) rfl rfl ?_
        refine T.y (fun w hw => Yl.neq rfl rfl) rfl rfl ?_
        refine T.y (fun w hw => Yl.move rfl) rfl rfl ?_
        refine T.splitD 41 rfl (fun h41 => ?_) (fun h41 => ?_)
        · exfalso; (first | omega | exact absurd rfl (by assumption))
        · skip
          refine T.y (fun w hw => Yl.move rfl) rfl rfl ?_
          refine T.y (fun w hw => Yl.eqP Try.underlying38 rfl rfl) rfl rfl ?_
          refine T.y (fun w hw => Yl.pickF rfl rfl) rfl rfl ?_
          refine T.nil ?_
          refine J.sel (.cons 0 rfl (.cons 1 rfl (.cons 5 rfl (.cons 44 rfl .nil)))) ?_
          refine X.then_ ?_
          refine T.condF rfl ?_
          refine T.skip ?_
          refine X.then_ ?_
          refine T.seq ?_
          refine T.seq ?_
          -- region 6 (law.go:259)
          refine T.region ?_
          refine T.y (fun w hw => Yl.assign rfl) rfl rfl ?_
          refine T.nil ?_
          refine J.sel (.cons 0 rfl (.cons 1 rfl (.cons 5 rfl (.cons 7 rfl .nil)))) ?_
          refine X.then_ ?_
          refine T.block ?_
          refine T.loop (α := Nat × Dev) (fun u => u.1 ≤ P ∧ u.2.fine u.1 ∧ u.2.zones.length = 8 ∧ u.2.size = 96 ∧ (u.2.at 2).blocks = bks u.1) (fun u => [(7, .int .i64 (u.1 : Int)), (0, .int .i64 (P : Int)), (1, .slice A o.length c), (5, ptr d 0)]) (fun u => devH d u.2 :: M) (fun u => K) (fun u => P - u.1) (0, newDev 8 96) ⟨Nat.zero_le _, newDev_fine (by omega) (by omega), by simp [newDev], rfl, by rw [newDev_at]; rfl⟩ (.num 7 rfl rfl (.cons 0 rfl (.cons 1 rfl (.cons 5 rfl .nil)))) (fun w hw => hw.fin (by (repeat (first | exact Picks.refl | exact Picks.nil | (apply Picks.cons; (focus ((repeat (first | exact Pick.head | apply Pick.tail)); done))) | apply Picks.drop))) (by (repeat (first | exact Ks.refl | exact Ks.nil | (apply Ks.cons; (focus ((repeat (first | assumption | exact List.Mem.head _ | apply List.Mem.tail)); done))) | apply Ks.drop)))) ?_
          intro ⟨i, D⟩ ⟨hi, hF, hz8, hs, hB⟩ Zk hz3
          dsimp only at hi hF hz8 hs hB hz3 ⊢
          refine T.seq ?_
          refine T.seq ?_
          -- region 7 (law.go:259)
          refine T.region ?_
          refine T.y (fun w hw => Yl.move rfl) rfl rfl ?_
          refine T.y (fun w hw => Yl.move rfl) rfl rfl ?_
          refine T.y (fun w hw => Yl.lss rfl rfl) rfl rfl ?_
          refine T.nil ?_
          refine J.sel (.cons 0 rfl (.cons 1 rfl (.cons 5 rfl (.cons 7 rfl (.cons 47 rfl .nil))))) ?_
          refine X.then_ ?_
          refine T.condD rfl (fun h47 => ?_) (fun h47 => ?_)
          · skip
            refine T.skip ?_
            refine X.then_ ?_
            refine T.seq ?_
            refine T.block ?_
            -- region 9 (law.go:260)
            refine T.region ?_
            refine T.y (fun w hw => Yl.move rfl) rfl rfl ?_
            refine T.y (fun w hw => Yl.move rfl) rfl rfl ?_
            refine T.o (OpW.call en_29 rfl (block64_ct)) rfl rfl (fun ⟨B, b⟩ _ => ?_)
            dsimp only
            refine T.o (OpW.call en_39 rfl (appendF_ct (k := 2) hF (by omega) rfl (by omega) (by (repeat (first | assumption | exact List.Mem.head _ | apply List.Mem.tail))) (bk_length _ _) (by rw [hB, bks_length]; omega))) rfl rfl (fun D2 ⟨hF2, hzz, hs2⟩ => ?_)
            refine T.nil ?_
            refine J.sel (.cons 0 rfl (.cons 1 rfl (.cons 5 rfl (.cons 7 rfl .nil)))) ?_
            refine X.nm_blk ?_
            refine X.then_ ?_
            -- region 8 (law.go:259)
            refine T.region ?_
            refine T.y (fun w hw => Yl.move rfl) rfl rfl ?_
            refine T.y (fun w hw => Yl.add rfl rfl (by omega)) rfl rfl ?_
            refine T.y (fun w hw => Yl.assign rfl) rfl rfl ?_
            refine T.nil ?_
            refine J.sel (.cons 0 rfl (.cons 1 rfl (.cons 5 rfl (.cons 7 rfl .nil)))) ?_
            refine X.go (hz3 (i + 1, D2) ⟨by omega, hF2, by rw [len_of_zones hzz]; exact hz8, by dsimp only; omega, by rw [at_of_zones (by omega) hzz, if_pos rfl]; dsimp only; rw [hB, bks_succ]⟩ (by dsimp only; omega)) (.num 7 rfl (by omega) (.cons 0 rfl (.cons 1 rfl (.cons 5 rfl .nil)))) (fun w hw => ?_)
            (refine hw.fin ?_ ?_; (focus ((repeat (first | exact Picks.refl | exact Picks.nil | (apply Picks.cons; (focus ((repeat (first | exact Pick.head | apply Pick.tail)); done))) | apply Picks.drop)); done)); (focus ((repeat (first | exact Ks.refl | exact Ks.nil | (apply Ks.cons; (focus ((repeat (first | assumption | exact List.Mem.head _ | apply List.Mem.tail)); done))) | apply Ks.drop)); done)))
          · skip
            refine T.exit ?_
            refine X.exit_then ?_
            refine X.exit_then ?_
            refine X.exit_blk ?_
            refine X.then_ ?_
            refine T.seq ?_
            have hie : P = i := by omega
            subst hie
            -- region 10 (law.go:262)
            refine T.region ?_
            refine T.y (fun w hw => Yl.move rfl) rfl rfl ?_
            refine T.o (OpW.call en_67 rfl (flushF_ct hF (by omega))) rfl rfl (fun D1 ⟨hF1, hzf, hsf⟩ => ?_)
            have hz1 : D1.zones.length = 8 := by rw [hzf]; simpa using hz8
            have hs1 : D1.size = 96 := by omega
            have hB1 : D1.at 2 = ⟨bks P, P⟩ := by rw [at_flush hzf, hB, bks_length]
            have hB2 : (D1.crash [5] [1]).at 2 = ⟨bks P, P⟩ := by
              rw [at_crash (by omega), hB1]
              simp [crashZ, Zn.crash, Zn.cutAt, pickL, bks_length]
              rw [List.take_of_length_le (by rw [bks_length]; exact Nat.le_refl _)]
            refine T.nil ?_
            refine J.sel (.cons 0 rfl (.cons 1 rfl (.cons 5 rfl .nil))) ?_
            refine X.then_ ?_
            refine T.seq ?_
            -- region 11 (law.go:263)
            refine T.region ?_
            refine T.y (fun w hw => Yl.move rfl) rfl rfl ?_
            refine T.o (OpW.call en_63 rfl (copy_ct hF1.ok)) rfl rfl (fun x _ => ?_)
            refine T.y (fun w hw => Yl.assign rfl) rfl rfl ?_
            refine T.nil ?_
            refine J.sel (.cons 0 rfl (.cons 1 rfl (.cons 5 rfl (.cons 8 rfl .nil)))) ?_
            refine X.then_ ?_
            refine T.seq ?_
            -- region 12 (law.go:264)
            refine T.region ?_
            refine T.y (fun w hw => Yl.move rfl) rfl rfl ?_
            refine T.o (OpW.bsl (sz := 1) rfl bsl_37_1 rfl rfl) rfl rfl (fun b59 _ => ?_)
            refine T.o (OpW.bsl (sz := 1) rfl bsl_37_1 rfl rfl) rfl rfl (fun b60 _ => ?_)
            refine J.ent (fun w hw => Hold.row_ints (xs := [1]) (hw.pick (p := rowH 3 1 (some ⟨b60, 0, none⟩) 1 1 [.int .i64 1]) (by (repeat (first | exact Pick.head | apply Pick.tail))))) ?_
            refine J.ent (fun w hw => Hold.row_ints (xs := [5]) (hw.pick (p := rowH 3 1 (some ⟨b59, 0, none⟩) 1 1 [.int .i64 5]) (by (repeat (first | exact Pick.head | apply Pick.tail))))) ?_
            refine J.pick (p := devH d D1) (by (repeat (first | exact Pick.head | apply Pick.tail))) ?_
            refine T.o (OpW.call en_56 rfl (crash_ct (picks := [5]) (torn := [1]) hF1.ok (by (repeat (first | assumption | exact List.Mem.head _ | apply List.Mem.tail))) (by (repeat (first | assumption | exact List.Mem.head _ | apply List.Mem.tail))) (by simp) (by simp))) rfl rfl (fun y _ => ?_)
            refine T.y (fun w hw => Yl.assign rfl) rfl rfl ?_
            refine T.nil ?_
            refine J.sel (.cons 0 rfl (.cons 1 rfl (.cons 5 rfl (.cons 8 rfl (.cons 9 rfl .nil))))) ?_
            refine X.then_ ?_
            refine T.seq ?_
            refine T.seq ?_
            -- region 13 (law.go:265)
            refine T.region ?_
            refine T.y (fun w hw => Yl.move rfl) rfl rfl ?_
            refine T.y (fun w hw => Yl.eqP Try.underlying38 rfl rfl) rfl rfl ?_
            refine T.y (fun w hw => Yl.move rfl) rfl rfl ?_
            refine T.y (fun w hw => Yl.move rfl) rfl rfl ?_
            refine T.y (fun w hw => Yl.eqP Try.underlying38 rfl rfl) rfl rfl ?_
            refine T.y (fun w hw => Yl.pickF rfl rfl) rfl rfl ?_
            refine T.y (fun w hw => Yl.move rfl) rfl rfl ?_
            refine T.y (fun w hw => Yl.move rfl) rfl rfl ?_
            refine J.pick (p := devH x D1) (by (repeat (first | exact Pick.head | apply Pick.tail))) ?_
            refine T.o (OpW.call en_41 rfl (opsF_ct hF1)) rfl rfl (fun _ _ => ?_)
            refine T.y (fun w hw => Yl.move rfl) rfl rfl ?_
            refine T.y (fun w hw => Yl.add rfl rfl (by omega)) rfl rfl ?_
            refine T.y (fun w hw => Yl.neq rfl rfl) rfl rfl ?_
            refine T.y (fun w hw => Yl.pickF rfl rfl) rfl rfl ?_
            refine T.y (fun w hw => Yl.move rfl) rfl rfl ?_
            refine T.splitD 75 rfl (fun h75 => ?_) (fun h75 => ?_)
            · exfalso; (first | omega | exact absurd rfl (by assumption))
            · skip
              refine T.y (fun w hw => Yl.move rfl) rfl rfl ?_
              refine J.pick (p := devH y (D1.crash [5] [1])) (by (repeat (first | exact Pick.head | apply Pick.tail))) ?_
              refine T.o (OpW.call en_41 rfl (opsF_ct (crash_fine hF1.ok _ _))) rfl rfl (fun _ _ => ?_)
              refine T.y (fun w hw => Yl.neq rfl rfl) rfl rfl ?_
              refine T.y (fun w hw => Yl.pickF rfl rfl) rfl rfl ?_
              refine T.nil ?_
              refine J.sel (.cons 0 rfl (.cons 1 rfl (.cons 5 rfl (.cons 8 rfl (.cons 9 rfl (.cons 79 rfl .nil)))))) ?_
              refine X.then_ ?_
              refine T.condD rfl (fun h79 => ?_) (fun h79 => ?_)
              · exfalso; (first | omega | exact absurd rfl (by assumption))
              · skip
                refine T.skip ?_
                refine X.then_ ?_
                refine T.seq ?_
                refine T.seq ?_
                -- region 15 (law.go:268)
                refine T.region ?_
                refine T.y (fun w hw => Yl.assign rfl) rfl rfl ?_
                refine T.nil ?_
                refine J.sel (.cons 0 rfl (.cons 1 rfl (.cons 5 rfl (.cons 8 rfl (.cons 9 rfl (.cons 10 rfl .nil)))))) ?_
                refine X.then_ ?_
                refine T.block ?_
                refine T.loop (α := Nat × Nat × Dev) (fun u => u.1 ≤ o.length ∧ u.2.2.fine u.2.1 ∧ u.2.1 ≤ 61 + u.1 ∧ u.2.2.zones.length = 8 ∧ u.2.2.size = 96) (fun u => [(10, .int .i64 (u.1 : Int)), (0, .int .i64 (P : Int)), (1, .slice A o.length c), (5, ptr d 0), (8, ptr x 0), (9, ptr y 0)]) (fun u => devH d u.2.2 :: devH x D1 :: devH y (D1.crash [5] [1]) :: M) (fun u => K) (fun u => o.length - u.1) (0, P + 1, D1) ⟨Nat.zero_le _, hF1, by dsimp only; omega, hz1, hs1⟩ (.num 10 rfl rfl (.cons 0 rfl (.cons 1 rfl (.cons 5 rfl (.cons 8 rfl (.cons 9 rfl .nil)))))) (fun w hw => hw.fin (by (repeat (first | exact Picks.refl | exact Picks.nil | (apply Picks.cons; (focus ((repeat (first | exact Pick.head | apply Pick.tail)); done))) | apply Picks.drop))) (by (repeat (first | exact Ks.refl | exact Ks.nil | (apply Ks.cons; (focus ((repeat (first | assumption | exact List.Mem.head _ | apply List.Mem.tail)); done))) | apply Ks.drop)))) ?_
                intro ⟨j, n, D⟩ ⟨hj, hF, hn, hz8, hs⟩ Zk hz4
                dsimp only at hj hF hn hz8 hs hz4 ⊢
                refine T.seq ?_
                refine T.seq ?_
                -- region 16 (law.go:268)
                refine T.region ?_
                refine T.y (fun w hw => Yl.move rfl) rfl rfl ?_
                refine T.y (fun w hw => Yl.move rfl) rfl rfl ?_
                refine T.y (fun w hw => Yl.len Try.underlying37 rfl) rfl rfl ?_
                refine T.y (fun w hw => Yl.lss rfl rfl) rfl rfl ?_
                refine T.nil ?_
                refine J.sel (.cons 0 rfl (.cons 1 rfl (.cons 5 rfl (.cons 8 rfl (.cons 9 rfl (.cons 10 rfl (.cons 83 rfl .nil))))))) ?_
                refine X.then_ ?_
                refine T.condD rfl (fun h83 => ?_) (fun h83 => ?_)
                · skip
                  refine T.skip ?_
                  refine X.then_ ?_
                  refine T.seq ?_
                  refine T.block ?_
                  refine T.seq ?_
                  -- region 18 (law.go:269)
                  refine T.region ?_
                  refine T.y (fun w hw => Yl.move rfl) rfl rfl ?_
                  refine T.y (fun w hw => Yl.move rfl) rfl rfl ?_
                  refine T.y (fun w hw => Yl.ia1 (by first | (apply hw.bytes; (repeat (first | assumption | exact List.Mem.head _ | apply List.Mem.tail)); done) | (apply hw.ints; (repeat (first | assumption | exact List.Mem.head _ | apply List.Mem.tail)); done) | (apply hw.sl; (repeat (first | assumption | exact List.Mem.head _ | apply List.Mem.tail)); done) | (apply hw.row; (repeat (first | assumption | exact List.Mem.head _ | apply List.Mem.tail)); done)) Try.underlying37 isz_3 rfl rfl rfl (by omega)) rfl rfl ?_
                  refine T.y (fun w hw => (by first | (apply Yl.ldC (hh := hw) (hn := na_3) (hx := rfl); (repeat (first | assumption | exact List.Mem.head _ | apply List.Mem.tail)); done) | (apply Yl.ldI (hh := hw) (hn := na_3) (hx := rfl); (focus ((repeat (first | assumption | exact List.Mem.head _ | apply List.Mem.tail)); done)); exact (by omega); done) | (apply Yl.ldR (hn := na_3) (hx := rfl); (focus (first | (apply hw.bytes; (repeat (first | assumption | exact List.Mem.head _ | apply List.Mem.tail)); done) | (apply hw.ints; (repeat (first | assumption | exact List.Mem.head _ | apply List.Mem.tail)); done) | (apply hw.sl; (repeat (first | assumption | exact List.Mem.head _ | apply List.Mem.tail)); done) | (apply hw.row; (repeat (first | assumption | exact List.Mem.head _ | apply List.Mem.tail)); done))); assumption; done))) rfl rfl ?_
                  refine T.y (fun w hw => Yl.remT rfl rfl (by decide)) rfl rfl ?_
                  refine T.y (fun w hw => Yl.eql rfl rfl) rfl rfl ?_
                  refine T.nil ?_
                  refine J.sel (.cons 0 rfl (.cons 1 rfl (.cons 5 rfl (.cons 8 rfl (.cons 9 rfl (.cons 10 rfl (.cons 91 rfl .nil))))))) ?_
                  refine X.then_ ?_
                  refine T.condD rfl (fun h91 => ?_) (fun h91 => ?_)
                  · skip
                    -- region 19 (law.go:270)
                    refine T.region ?_
                    refine T.y (fun w hw => Yl.move rfl) rfl rfl ?_
                    refine T.o (OpW.call en_38 rfl (resetF_ct (k := 2) hF (by omega) rfl (by omega))) rfl rfl (fun D2 ⟨hF2, hzz, hs2⟩ => ?_)
                    have hzl : D2.zones.length = 8 := by rw [len_of_zones hzz]; exact hz8
                    refine T.nil ?_
                    refine J.sel (.cons 0 rfl (.cons 1 rfl (.cons 5 rfl (.cons 8 rfl (.cons 9 rfl (.cons 10 rfl .nil)))))) ?_
                    refine X.nm_blk ?_
                    refine X.then_ ?_
                    -- region 17 (law.go:268)
                    refine T.region ?_
                    refine T.y (fun w hw => Yl.move rfl) rfl rfl ?_
                    refine T.y (fun w hw => Yl.add rfl rfl (by omega)) rfl rfl ?_
                    refine T.y (fun w hw => Yl.assign rfl) rfl rfl ?_
                    refine T.nil ?_
                    refine J.sel (.cons 0 rfl (.cons 1 rfl (.cons 5 rfl (.cons 8 rfl (.cons 9 rfl (.cons 10 rfl .nil)))))) ?_
                    refine X.go (hz4 (j + 1, n + 1, D2) ⟨by omega, hF2, by dsimp only; omega, by omega, by dsimp only; omega⟩ (by dsimp only; omega)) (.num 10 rfl (by omega) (.cons 0 rfl (.cons 1 rfl (.cons 5 rfl (.cons 8 rfl (.cons 9 rfl .nil)))))) (fun w hw => ?_)
                    (refine hw.fin ?_ ?_; (focus ((repeat (first | exact Picks.refl | exact Picks.nil | (apply Picks.cons; (focus ((repeat (first | exact Pick.head | apply Pick.tail)); done))) | apply Picks.drop)); done)); (focus ((repeat (first | exact Ks.refl | exact Ks.nil | (apply Ks.cons; (focus ((repeat (first | assumption | exact List.Mem.head _ | apply List.Mem.tail)); done))) | apply Ks.drop)); done)))
                  · skip
                    -- region 20 (law.go:272)
                    refine T.region ?_
                    refine T.y (fun w hw => Yl.move rfl) rfl rfl ?_
                    refine T.y (fun w hw => Yl.move rfl) rfl rfl ?_
                    refine T.y (fun w hw => Yl.move rfl) rfl rfl ?_
                    refine T.y (fun w hw => Yl.ia1 (by first | (apply hw.bytes; (repeat (first | assumption | exact List.Mem.head _ | apply List.Mem.tail)); done) | (apply hw.ints; (repeat (first | assumption | exact List.Mem.head _ | apply List.Mem.tail)); done) | (apply hw.sl; (repeat (first | assumption | exact List.Mem.head _ | apply List.Mem.tail)); done) | (apply hw.row; (repeat (first | assumption | exact List.Mem.head _ | apply List.Mem.tail)); done)) Try.underlying37 isz_3 rfl rfl rfl (by omega)) rfl rfl ?_
                    refine T.y (fun w hw => (by first | (apply Yl.ldC (hh := hw) (hn := na_3) (hx := rfl); (repeat (first | assumption | exact List.Mem.head _ | apply List.Mem.tail)); done) | (apply Yl.ldI (hh := hw) (hn := na_3) (hx := rfl); (focus ((repeat (first | assumption | exact List.Mem.head _ | apply List.Mem.tail)); done)); exact (by omega); done) | (apply Yl.ldR (hn := na_3) (hx := rfl); (focus (first | (apply hw.bytes; (repeat (first | assumption | exact List.Mem.head _ | apply List.Mem.tail)); done) | (apply hw.ints; (repeat (first | assumption | exact List.Mem.head _ | apply List.Mem.tail)); done) | (apply hw.sl; (repeat (first | assumption | exact List.Mem.head _ | apply List.Mem.tail)); done) | (apply hw.row; (repeat (first | assumption | exact List.Mem.head _ | apply List.Mem.tail)); done))); assumption; done))) rfl rfl ?_
                    refine T.o (OpW.call en_29 rfl (block64_ct)) rfl rfl (fun ⟨B, b⟩ _ => ?_)
                    dsimp only
                    refine T.o (OpW.call en_39 rfl (appendAny_ct (k := 2) hF (by omega) rfl (by omega) (by (repeat (first | assumption | exact List.Mem.head _ | apply List.Mem.tail))) (bk_length _ _))) rfl rfl (fun ⟨D2, x2, e2⟩ ⟨hF2, hs2, hr⟩ => ?_)
                    dsimp only
                    dsimp only at hF2 hs2 hr ⊢
                    have hzl : D2.zones.length = 8 := by
                      rcases hr with ⟨_, _, _, r4⟩ | ⟨_, _, _, r4⟩
                      · rw [len_of_zones r4]; exact hz8
                      · rw [r4]; exact hz8
                    refine T.nil ?_
                    refine J.sel (.cons 0 rfl (.cons 1 rfl (.cons 5 rfl (.cons 8 rfl (.cons 9 rfl (.cons 10 rfl .nil)))))) ?_
                    refine X.nm_blk ?_
                    refine X.then_ ?_
                    -- region 17 (law.go:268)
                    refine T.region ?_
                    refine T.y (fun w hw => Yl.move rfl) rfl rfl ?_
                    refine T.y (fun w hw => Yl.add rfl rfl (by omega)) rfl rfl ?_
                    refine T.y (fun w hw => Yl.assign rfl) rfl rfl ?_
                    refine T.nil ?_
                    refine J.sel (.cons 0 rfl (.cons 1 rfl (.cons 5 rfl (.cons 8 rfl (.cons 9 rfl (.cons 10 rfl .nil)))))) ?_
                    refine X.go (hz4 (j + 1, n + 1, D2) ⟨by omega, hF2, by dsimp only; omega, by omega, by dsimp only; omega⟩ (by dsimp only; omega)) (.num 10 rfl (by omega) (.cons 0 rfl (.cons 1 rfl (.cons 5 rfl (.cons 8 rfl (.cons 9 rfl .nil)))))) (fun w hw => ?_)
                    (refine hw.fin ?_ ?_; (focus ((repeat (first | exact Picks.refl | exact Picks.nil | (apply Picks.cons; (focus ((repeat (first | exact Pick.head | apply Pick.tail)); done))) | apply Picks.drop)); done)); (focus ((repeat (first | exact Ks.refl | exact Ks.nil | (apply Ks.cons; (focus ((repeat (first | assumption | exact List.Mem.head _ | apply List.Mem.tail)); done))) | apply Ks.drop)); done)))
                · skip
                  refine T.exit ?_
                  refine X.exit_then ?_
                  refine X.exit_then ?_
                  refine X.exit_blk ?_
                  refine X.then_ ?_
                  refine T.seq ?_
                  -- region 21 (law.go:275)
                  refine T.region ?_
                  refine T.y (fun w hw => Yl.move rfl) rfl rfl ?_
                  refine T.o (OpW.call en_59 rfl (cut_ct hF.ok)) rfl rfl (fun _ _ => ?_)
                  refine T.nil ?_
                  refine J.sel (.cons 0 rfl (.cons 8 rfl (.cons 9 rfl .nil))) ?_
                  refine X.then_ ?_
                  refine T.seq ?_
                  -- region 22 (law.go:276)
                  refine T.region ?_
                  refine T.y (fun w hw => Yl.move rfl) rfl rfl ?_
                  refine J.pick (p := devH x D1) (by (repeat (first | exact Pick.head | apply Pick.tail))) ?_
                  refine T.o (OpW.call en_40 rfl (pointerF_ct (k := 2) hF1.ok rfl (by omega))) rfl rfl (fun _ _ => ?_)
                  rw [hB1]
                  refine T.y (fun w hw => Yl.move rfl) rfl rfl ?_
                  refine T.y (fun w hw => Yl.extract rfl rfl) rfl rfl ?_
                  refine T.y (fun w hw => Yl.extract rfl rfl) rfl rfl ?_
                  refine T.y (fun w hw => Yl.assign rfl) rfl rfl ?_
                  refine T.y (fun w hw => Yl.assign rfl) rfl rfl ?_
                  refine T.nil ?_
                  refine J.sel (.cons 0 rfl (.cons 8 rfl (.cons 9 rfl (.cons 11 rfl (.cons 12 rfl .nil))))) ?_
                  refine X.then_ ?_
                  refine T.seq ?_
                  -- region 23 (law.go:277)
                  refine T.region ?_
                  refine T.y (fun w hw => Yl.move rfl) rfl rfl ?_
                  refine J.pick (p := devH y (D1.crash [5] [1])) (by (repeat (first | exact Pick.head | apply Pick.tail))) ?_
                  refine T.o (OpW.call en_40 rfl (pointerF_ct (k := 2) (crash_ok hF1.ok _ _) rfl (by rw [crash_len]; omega))) rfl rfl (fun _ _ => ?_)
                  rw [hB2]
                  dsimp only
                  rw [bks_length]
                  refine T.y (fun w hw => Yl.move rfl) rfl rfl ?_
                  refine T.y (fun w hw => Yl.extract rfl rfl) rfl rfl ?_
                  refine T.y (fun w hw => Yl.extract rfl rfl) rfl rfl ?_
                  refine T.y (fun w hw => Yl.assign rfl) rfl rfl ?_
                  refine T.y (fun w hw => Yl.assign rfl) rfl rfl ?_
                  refine T.nil ?_
                  refine J.sel (.cons 0 rfl (.cons 8 rfl (.cons 9 rfl (.cons 11 rfl (.cons 12 rfl (.cons 13 rfl (.cons 14 rfl .nil))))))) ?_
                  refine X.then_ ?_
                  refine T.seq ?_
                  refine T.seq ?_
                  -- region 24 (law.go:278)
                  refine T.region ?_
                  refine T.y (fun w hw => Yl.move rfl) rfl rfl ?_
                  refine T.y (fun w hw => Yl.neq rfl rfl) rfl rfl ?_
                  refine T.y (fun w hw => Yl.move rfl) rfl rfl ?_
                  refine T.splitD 115 rfl (fun h115 => ?_) (fun h115 => ?_)
                  · exfalso; (first | omega | exact absurd rfl (by assumption))
                  · skip
                    refine T.y (fun w hw => Yl.move rfl) rfl rfl ?_
                    refine T.y (fun w hw => Yl.neq rfl rfl) rfl rfl ?_
                    refine T.y (fun w hw => Yl.pickF rfl rfl) rfl rfl ?_
                    refine T.y (fun w hw => Yl.move rfl) rfl rfl ?_
                    refine T.splitD 119 rfl (fun h119 => ?_) (fun h119 => ?_)
                    · exfalso; (first | omega | exact absurd rfl (by assumption))
                    · skip
                      refine T.y (fun w hw => Yl.move rfl) rfl rfl ?_
                      refine T.y (fun w hw => Yl.move rfl) rfl rfl ?_
                      refine T.y (fun w hw => Yl.neq rfl rfl) rfl rfl ?_
                      refine T.y (fun w hw => Yl.pickF rfl rfl) rfl rfl ?_
                      refine T.y (fun w hw => Yl.move rfl) rfl rfl ?_
                      refine T.splitD 124 rfl (fun h124 => ?_) (fun h124 => ?_)
                      · exfalso; (first | omega | exact absurd rfl (by assumption))
                      · skip
                        refine T.y (fun w hw => Yl.move rfl) rfl rfl ?_
                        refine T.y (fun w hw => Yl.move rfl) rfl rfl ?_
                        refine T.y (fun w hw => Yl.neq rfl rfl) rfl rfl ?_
                        refine T.y (fun w hw => Yl.pickF rfl rfl) rfl rfl ?_
                        refine T.y (fun w hw => Yl.move rfl) rfl rfl ?_
                        refine T.splitD 129 rfl (fun h129 => ?_) (fun h129 => ?_)
                        · exfalso; (first | omega | exact absurd rfl (by assumption))
                        · skip
                          refine T.y (fun w hw => Yl.move rfl) rfl rfl ?_
                          refine J.pick (p := devH x D1) (by (repeat (first | exact Pick.head | apply Pick.tail))) ?_
                          refine T.o (OpW.call en_62 rfl (offF_ct hF1)) rfl rfl (fun _ _ => ?_)
                          refine T.y (fun w hw => Yl.pickF rfl rfl) rfl rfl ?_
                          refine T.y (fun w hw => Yl.move rfl) rfl rfl ?_
                          refine T.y (fun w hw => Yl.move rfl) rfl rfl ?_
                          refine J.pick (p := devH y (D1.crash [5] [1])) (by (repeat (first | exact Pick.head | apply Pick.tail))) ?_
                          refine T.o (OpW.call en_62 rfl (offF_ct (crash_fine hF1.ok _ _))) rfl rfl (fun _ _ => ?_)
                          refine T.y (fun w hw => Yl.pickF rfl rfl) rfl rfl ?_
                          refine T.nil ?_
                          refine J.sel (.cons 0 rfl (.cons 8 rfl (.cons 9 rfl (.cons 136 rfl .nil)))) ?_
                          refine X.then_ ?_
                          refine T.condF rfl ?_
                          refine T.skip ?_
                          refine X.then_ ?_
                          refine T.seq ?_
                          refine T.seq ?_
                          -- region 26 (law.go:281)
                          refine T.region ?_
                          refine T.y (fun w hw => Yl.assign rfl) rfl rfl ?_
                          refine T.nil ?_
                          refine J.sel (.cons 0 rfl (.cons 8 rfl (.cons 9 rfl (.cons 15 rfl .nil)))) ?_
                          refine X.then_ ?_
                          refine T.block ?_
                          refine T.loop (α := Nat) (fun i => i ≤ P) (fun i => [(15, .int .i64 (i : Int)), (0, .int .i64 (P : Int)), (8, ptr x 0), (9, ptr y 0)]) (fun i => devH x D1 :: devH y (D1.crash [5] [1]) :: M) (fun i => K) (fun i => P - i) 0 (Nat.zero_le _) (.num 15 rfl rfl (.cons 0 rfl (.cons 8 rfl (.cons 9 rfl .nil)))) (fun w hw => hw.fin (by (repeat (first | exact Picks.refl | exact Picks.nil | (apply Picks.cons; (focus ((repeat (first | exact Pick.head | apply Pick.tail)); done))) | apply Picks.drop))) (by (repeat (first | exact Ks.refl | exact Ks.nil | (apply Ks.cons; (focus ((repeat (first | assumption | exact List.Mem.head _ | apply List.Mem.tail)); done))) | apply Ks.drop)))) ?_
                          intro i hi Zk hz5
                          refine T.seq ?_
                          refine T.seq ?_
                          -- region 27 (law.go:281)
                          refine T.region ?_
                          refine T.y (fun w hw => Yl.move rfl) rfl rfl ?_
                          refine T.y (fun w hw => Yl.move rfl) rfl rfl ?_
                          refine T.y (fun w hw => Yl.lss rfl rfl) rfl rfl ?_
                          refine T.nil ?_
                          refine J.sel (.cons 0 rfl (.cons 8 rfl (.cons 9 rfl (.cons 15 rfl (.cons 139 rfl .nil))))) ?_
                          refine X.then_ ?_
                          refine T.condD rfl (fun h139 => ?_) (fun h139 => ?_)
                          · skip
                            refine T.skip ?_
                            refine X.then_ ?_
                            refine T.seq ?_
                            refine T.block ?_
                            refine T.seq ?_
                            -- region 29 (law.go:282)
                            refine T.region ?_
                            refine T.y (fun w hw => Yl.move rfl) rfl rfl ?_
                            refine T.y (fun w hw => Yl.move rfl) rfl rfl ?_
                            refine J.pick (p := devH x D1) (by (repeat (first | exact Pick.head | apply Pick.tail))) ?_
                            refine T.o (OpW.call en_42 rfl (readF_ct (k := 2) (m := i) hF1.ok rfl (by omega) rfl (by rw [hB1]; exact bks_at (by omega)))) rfl rfl (fun ⟨B, b⟩ _ => ?_)
                            dsimp only
                            refine T.y (fun w hw => Yl.move rfl) rfl rfl ?_
                            refine T.y (fun w hw => Yl.extract rfl rfl) rfl rfl ?_
                            refine T.y (fun w hw => Yl.extract rfl rfl) rfl rfl ?_
                            refine T.y (fun w hw => Yl.assign rfl) rfl rfl ?_
                            refine T.y (fun w hw => Yl.assign rfl) rfl rfl ?_
                            refine T.nil ?_
                            refine J.sel (.cons 0 rfl (.cons 8 rfl (.cons 9 rfl (.cons 15 rfl (.cons 16 rfl (.cons 17 rfl .nil)))))) ?_
                            refine X.then_ ?_
                            refine T.seq ?_
                            -- region 30 (law.go:283)
                            refine T.region ?_
                            refine T.y (fun w hw => Yl.move rfl) rfl rfl ?_
                            refine T.y (fun w hw => Yl.move rfl) rfl rfl ?_
                            refine J.pick (p := devH y (D1.crash [5] [1])) (by (repeat (first | exact Pick.head | apply Pick.tail))) ?_
                            refine T.o (OpW.call en_42 rfl (readF_ct (k := 2) (m := i) (crash_ok hF1.ok _ _) rfl (by rw [crash_len]; omega) rfl (by rw [hB2]; exact bks_at (by omega)))) rfl rfl (fun ⟨B3, b3⟩ _ => ?_)
                            dsimp only
                            refine T.y (fun w hw => Yl.move rfl) rfl rfl ?_
                            refine T.y (fun w hw => Yl.extract rfl rfl) rfl rfl ?_
                            refine T.y (fun w hw => Yl.extract rfl rfl) rfl rfl ?_
                            refine T.y (fun w hw => Yl.assign rfl) rfl rfl ?_
                            refine T.y (fun w hw => Yl.assign rfl) rfl rfl ?_
                            refine T.nil ?_
                            refine J.sel (.cons 0 rfl (.cons 8 rfl (.cons 9 rfl (.cons 15 rfl (.cons 16 rfl (.cons 17 rfl (.cons 18 rfl (.cons 19 rfl .nil)))))))) ?_
                            refine X.then_ ?_
                            refine T.seq ?_
                            -- region 31 (law.go:284)
                            refine T.region ?_
                            refine T.y (fun w hw => Yl.move rfl) rfl rfl ?_
                            refine T.y (fun w hw => Yl.neq rfl rfl) rfl rfl ?_
                            refine T.y (fun w hw => Yl.move rfl) rfl rfl ?_
                            refine T.splitD 156 rfl (fun h156 => ?_) (fun h156 => ?_)
                            · exfalso; (first | omega | exact absurd rfl (by assumption))
                            · skip
                              refine T.y (fun w hw => Yl.move rfl) rfl rfl ?_
                              refine T.y (fun w hw => Yl.neq rfl rfl) rfl rfl ?_
                              refine T.y (fun w hw => Yl.pickF rfl rfl) rfl rfl ?_
                              refine T.y (fun w hw => Yl.move rfl) rfl rfl ?_
                              refine T.splitD 160 rfl (fun h160 => ?_) (fun h160 => ?_)
                              · exfalso; (first | omega | exact absurd rfl (by assumption))
                              · skip
                                refine T.y (fun w hw => Yl.move rfl) rfl rfl ?_
                                refine T.y (fun w hw => Yl.move rfl) rfl rfl ?_
                                refine T.o (OpW.call en_29 rfl (block64_ct)) rfl rfl (fun ⟨B, b⟩ _ => ?_)
                                dsimp only
                                refine T.o (OpW.call en_31 rfl (bytes_ct (by (repeat (first | assumption | exact List.Mem.head _ | apply List.Mem.tail))) (by (repeat (first | assumption | exact List.Mem.head _ | apply List.Mem.tail))))) rfl rfl (fun x hx => ?_)
                                refine T.y (fun w hw => Yl.notD rfl) rfl rfl ?_
                                refine T.y (fun w hw => Yl.pickF rfl rfl) rfl rfl ?_
                                refine T.y (fun w hw => Yl.move rfl) rfl rfl ?_
                                refine T.splitD 167 rfl (fun h167 => ?_) (fun h167 => ?_)
                                · exfalso; (first | omega | exact absurd rfl (by assumption))
                                · skip
                                  refine T.y (fun w hw => Yl.move rfl) rfl rfl ?_
                                  refine T.y (fun w hw => Yl.move rfl) rfl rfl ?_
                                  refine T.o (OpW.call en_31 rfl (bytes_ct (by (repeat (first | assumption | exact List.Mem.head _ | apply List.Mem.tail))) (by (repeat (first | assumption | exact List.Mem.head _ | apply List.Mem.tail))))) rfl rfl (fun x hx => ?_)
                                  refine T.y (fun w hw => Yl.notD rfl) rfl rfl ?_
                                  refine T.y (fun w hw => Yl.pickF rfl rfl) rfl rfl ?_
                                  refine T.nil ?_
                                  refine J.sel (.cons 0 rfl (.cons 8 rfl (.cons 9 rfl (.cons 15 rfl (.cons 172 rfl .nil))))) ?_
                                  refine X.then_ ?_
                                  refine T.condD rfl (fun h172 => ?_) (fun h172 => ?_)
                                  · exfalso; (first | omega | exact absurd rfl (by assumption))
                                  · skip
                                    refine T.skip ?_
                                    refine X.nm_blk ?_
                                    refine X.then_ ?_
                                    -- region 28 (law.go:281)
                                    refine T.region ?_
                                    refine T.y (fun w hw => Yl.move rfl) rfl rfl ?_
                                    refine T.y (fun w hw => Yl.add rfl rfl (by omega)) rfl rfl ?_
                                    refine T.y (fun w hw => Yl.assign rfl) rfl rfl ?_
                                    refine T.nil ?_
                                    refine J.sel (.cons 0 rfl (.cons 8 rfl (.cons 9 rfl (.cons 15 rfl .nil)))) ?_
                                    refine X.go (hz5 (i + 1) (by omega) (by omega)) (.num 15 rfl (by omega) (.cons 0 rfl (.cons 8 rfl (.cons 9 rfl .nil)))) (fun w hw => ?_)
                                    (refine hw.fin ?_ ?_; (focus ((repeat (first | exact Picks.refl | exact Picks.nil | (apply Picks.cons; (focus ((repeat (first | exact Pick.head | apply Pick.tail)); done))) | apply Picks.drop)); done)); (focus ((repeat (first | exact Ks.refl | exact Ks.nil | (apply Ks.cons; (focus ((repeat (first | assumption | exact List.Mem.head _ | apply List.Mem.tail)); done))) | apply Ks.drop)); done)))
                          · skip
                            refine T.exit ?_
                            refine X.exit_then ?_
                            refine X.exit_then ?_
                            refine X.exit_blk ?_
                            refine X.then_ ?_
                            refine T.seq ?_
                            -- region 33 (law.go:288)
                            refine T.region ?_
                            refine T.y (fun w hw => Yl.move rfl) rfl rfl ?_
                            refine T.o (OpW.call en_29 rfl (block64_ct)) rfl rfl (fun ⟨B, b⟩ _ => ?_)
                            dsimp only
                            refine J.pick (p := devH x D1) (by (repeat (first | exact Pick.head | apply Pick.tail))) ?_
                            refine T.o (OpW.call en_39 rfl (appendF_ct (k := 2) hF1 (by omega) rfl (by omega) (by (repeat (first | assumption | exact List.Mem.head _ | apply List.Mem.tail))) (bk_length _ _) (by rw [hB1]; dsimp only; rw [bks_length]; omega))) rfl rfl (fun D3 ⟨hF3, hzz3, hs3⟩ => ?_)
                            refine T.y (fun w hw => Yl.move rfl) rfl rfl ?_
                            refine T.y (fun w hw => Yl.extract rfl rfl) rfl rfl ?_
                            refine T.y (fun w hw => Yl.extract rfl rfl) rfl rfl ?_
                            refine T.y (fun w hw => Yl.assign rfl) rfl rfl ?_
                            refine T.y (fun w hw => Yl.assign rfl) rfl rfl ?_
                            refine T.nil ?_
                            refine J.sel (.cons 21 rfl .nil) ?_
                            refine X.then_ ?_
                            refine T.seq ?_
                            -- region 34 (law.go:289)
                            refine T.region ?_
                            refine T.y (fun w hw => Yl.move rfl) rfl rfl ?_
                            refine T.y (fun w hw => Yl.eql rfl rfl) rfl rfl ?_
                            refine T.y (fun w hw => Yl.move rfl) rfl rfl ?_
                            refine T.o (OpW.call en_34 rfl (awake_ct)) rfl rfl (fun x hx => ?_)
                            refine T.y (fun w hw => Yl.pickT rfl rfl) rfl rfl ?_
                            refine T.y (fun w hw => Yl.assign rfl) rfl rfl ?_
                            refine T.nil ?_
                            refine J.sel (.cons 4 rfl .nil) ?_
                            refine X.then_ ?_
                            refine T.ret ?_
                            refine X.ret1 Try.results15 rfl (fun w hw => ?_)
                            exact ⟨(), trivial, rfl, hw.fin (by (repeat (first | exact Picks.refl | exact Picks.nil | (apply Picks.cons; (focus ((repeat (first | exact Pick.head | apply Pick.tail)); done))) | apply Picks.drop))) (by (repeat (first | exact Ks.refl | exact Ks.nil | (apply Ks.cons; (focus ((repeat (first | assumption | exact List.Mem.head _ | apply List.Mem.tail)); done))) | apply Ks.drop)))⟩

theorem zdevApart_walk {w : World} (p : Int) (v : Value) (o : List Int) (hx : Ints (fun k => k < w.heap.size) w v o) (hI : IsI o) : Calls Try.prog 15 #[.int .i64 p, v] w fun e w' => e = .returned (.bool true) ∧ Below w.heap.size w w' := by
  obtain ⟨A, c, rfl, hk⟩ := ints_open hx
  exact law_of (vs := [.int .i64 p, .slice A o.length c]) (K := [intsK A c o]) (apart_ct (.tail _ (.head _))) (fun k hk' => by rw [List.mem_singleton.1 hk']; exact hk)
end Go.Proofs.Ytfpnodboebpemaa
