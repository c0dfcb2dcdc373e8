/- least and awake of scarplaw9. -/
import Derived.Test.YtfpnodboebpemaaFine
namespace Go.Proofs.Ytfpnodboebpemaa
open Go.RowKit Go.Proofs.YtfpnodboebpemaaW.PrintWords
set_option linter.unusedVariables false
set_option linter.unusedSimpArgs false
attribute [local irreducible] pt rowH slK bytesK intsK rowsK rowsH cellK rowsV oldK star exH pureH knowH starL emp devH zoneH zonesH zrest

set_option maxHeartbeats 2000000 in
theorem least_ct {M : List HP} {K : List KP} : Fn 36 [] M K (fun _ : Unit => True) (fun _ => .agg #[.int .i64 8, .int .i64 96]) (fun _ => M) (fun _ => K) := by
  refine Fn.of (n := 2) Try.func36 rfl Try.ntmps36 rfl ?_
  refine T.seq ?_
  -- region 0 (law.go:33)
  refine T.region ?_
  refine T.o (OpW.alloc zr_42) rfl rfl (fun b0 _ => ?_)
  refine T.nil ?_
  refine X.then_ ?_
  refine T.seq ?_
  -- region 1 (law.go:33)
  refine T.region ?_
  refine T.y (fun w hw => Yl.build rfl (bld_42_0_1 _)) rfl rfl ?_
  refine T.o0 (OpW.stA sz_42 rfl rfl rfl rfl (by repeat (first | exact Swap.head | apply Swap.tail)) (by repeat (first | exact UpdL.nil | exact Upd1.here | apply Upd1.there | apply UpdL.cons))) rfl (fun _ _ => ?_)
  refine T.nil ?_
  refine J.sel (.cons 0 rfl .nil) ?_
  refine X.then_ ?_
  refine T.ret ?_
  refine X.retC Try.results36 ag_42 rfl (by (repeat (first | assumption | exact List.Mem.head _ | apply List.Mem.tail))) (by repeat (first | exact Sub.nil | (apply Sub.cons; (focus exact rfl)))) (fun w hw => ?_)
  exact ⟨(), trivial, rfl, hw.fin (by (repeat (first | exact Picks.refl | exact Picks.nil | (apply Picks.cons; (focus ((repeat (first | exact Pick.head | apply Pick.tail)); done))) | apply Picks.drop))) (by (repeat (first | exact Ks.refl | exact Ks.nil | (apply Ks.cons; (focus ((repeat (first | assumption | exact List.Mem.head _ | apply List.Mem.tail)); done))) | apply Ks.drop)))⟩

set_option maxHeartbeats 2000000 in
theorem awake_ct {M : List HP} {K : List KP} : Fn 34 [] M K (fun _ : Unit => True) (fun _ => .bool true) (fun _ => M) (fun _ => K) := by
  refine Fn.of (n := 48) Try.func34 rfl Try.ntmps34 rfl ?_
  refine T.seq ?_
  -- region 0 (law.go:66)
  refine T.region ?_
  refine T.y (fun w hw => Yl.assign rfl) rfl rfl ?_
  refine T.nil ?_
  refine J.sel .nil ?_
  refine X.then_ ?_
  refine T.seq ?_
  -- region 1 (law.go:67)
  refine T.region ?_
  refine T.o (OpW.call en_36 rfl (least_ct)) rfl rfl (fun x hx => ?_)
  refine T.o (OpW.call en_35 rfl (new_ct (Z := 8) (S := 96) (by omega) (by omega))) rfl rfl (fun d _ => ?_)
  refine T.y (fun w hw => Yl.move rfl) rfl rfl ?_
  refine T.y (fun w hw => Yl.extract rfl rfl) rfl rfl ?_
  refine T.y (fun w hw => Yl.extract rfl rfl) rfl rfl ?_
  refine T.y (fun w hw => Yl.assign rfl) rfl rfl ?_
  refine T.y (fun w hw => Yl.assign rfl) rfl rfl ?_
  refine T.nil ?_
  refine J.sel (.cons 1 rfl (.cons 2 rfl .nil)) ?_
  refine X.then_ ?_
  refine T.seq ?_
  refine T.seq ?_
  -- region 2 (law.go:68)
  refine T.region ?_
  refine T.y (fun w hw => Yl.move rfl) rfl rfl ?_
  refine T.y (fun w hw => Yl.neq rfl rfl) rfl rfl ?_
  refine T.y (fun w hw => Yl.move rfl) rfl rfl ?_
  refine T.splitD 15 rfl (fun h15 => ?_) (fun h15 => ?_)
  · exfalso; (first | omega | simp at *)
  · skip
    refine T.y (fun w hw => Yl.move rfl) rfl rfl ?_
    refine T.y (fun w hw => Yl.eqP Try.underlying38 rfl rfl) rfl rfl ?_
    refine T.y (fun w hw => Yl.pickF rfl rfl) rfl rfl ?_
    refine T.nil ?_
    refine J.sel (.cons 1 rfl (.cons 18 rfl .nil)) ?_
    refine X.then_ ?_
    refine T.condF rfl ?_
    refine T.skip ?_
    refine X.then_ ?_
    refine T.seq ?_
    -- region 4 (law.go:71)
    refine T.region ?_
    refine T.y (fun w hw => Yl.move rfl) rfl rfl ?_
    refine T.o (OpW.call en_29 rfl (block64_ct)) rfl rfl (fun ⟨A, c⟩ _ => ?_)
    dsimp only
    refine T.o (OpW.call en_39 rfl (appendF_ct (k := 0) (newDev_fine (by omega) (by omega)) (by omega) rfl (by simp [newDev]) (by (repeat (first | assumption | exact List.Mem.head _ | apply List.Mem.tail))) (bk_length _ _) (by rw [newDev_at]; simp [newDev]))) rfl rfl (fun D1 ⟨hF, hz, hs⟩ => ?_)
    rw [newDev_at]
    refine T.y (fun w hw => Yl.move rfl) rfl rfl ?_
    refine T.y (fun w hw => Yl.extract rfl rfl) rfl rfl ?_
    refine T.y (fun w hw => Yl.extract rfl rfl) rfl rfl ?_
    refine T.y (fun w hw => Yl.assign rfl) rfl rfl ?_
    refine T.y (fun w hw => Yl.assign rfl) rfl rfl ?_
    refine T.nil ?_
    refine J.sel (.cons 1 rfl (.cons 3 rfl (.cons 4 rfl .nil))) ?_
    refine X.then_ ?_
    refine T.seq ?_
    have hB : D1.at 0 = ⟨[bk 64 1], 0⟩ := by rw [at_of_zones (by simp [newDev]) hz, newDev_at]; rfl
    have hl : D1.zones.length = 8 := by rw [len_of_zones hz]; simp [newDev]
    refine J.ent (fun w hw => (Hold.intsK_nil hw)) ?_
    -- region 5 (law.go:72)
    refine T.region ?_
    refine T.y (fun w hw => Yl.move rfl) rfl rfl ?_
    refine T.o (OpW.call en_56 rfl (crash_ct (picks := []) (torn := []) hF.ok (by (repeat (first | assumption | exact List.Mem.head _ | apply List.Mem.tail))) (by (repeat (first | assumption | exact List.Mem.head _ | apply List.Mem.tail))) (by simp) (by simp))) rfl rfl (fun x _ => ?_)
    refine T.y (fun w hw => Yl.assign rfl) rfl rfl ?_
    refine T.nil ?_
    refine J.sel (.cons 3 rfl (.cons 4 rfl (.cons 5 rfl .nil))) ?_
    refine X.then_ ?_
    refine T.seq ?_
    refine T.seq ?_
    -- region 6 (law.go:73)
    refine T.region ?_
    refine T.y (fun w hw => Yl.move rfl) rfl rfl ?_
    refine T.y (fun w hw => Yl.neq rfl rfl) rfl rfl ?_
    refine T.y (fun w hw => Yl.move rfl) rfl rfl ?_
    refine T.splitD 29 rfl (fun h29 => ?_) (fun h29 => ?_)
    · exfalso; (first | omega | simp at *)
    · skip
      refine T.y (fun w hw => Yl.move rfl) rfl rfl ?_
      refine T.y (fun w hw => Yl.neq rfl rfl) rfl rfl ?_
      refine T.y (fun w hw => Yl.pickF rfl rfl) rfl rfl ?_
      refine T.y (fun w hw => Yl.move rfl) rfl rfl ?_
      refine T.splitD 33 rfl (fun h33 => ?_) (fun h33 => ?_)
      · exfalso; (first | omega | simp at *)
      · skip
        refine T.y (fun w hw => Yl.move rfl) rfl rfl ?_
        refine T.y (fun w hw => Yl.eqP Try.underlying38 rfl rfl) rfl rfl ?_
        refine T.y (fun w hw => Yl.pickF rfl rfl) rfl rfl ?_
        refine T.nil ?_
        refine J.sel (.cons 5 rfl (.cons 36 rfl .nil)) ?_
        refine X.then_ ?_
        refine T.condF rfl ?_
        refine T.skip ?_
        refine X.then_ ?_
        refine T.seq ?_
        -- region 8 (law.go:76)
        refine T.region ?_
        refine T.y (fun w hw => Yl.move rfl) rfl rfl ?_
        refine T.o (OpW.call en_40 rfl (pointerF_ct (k := 0) (crash_ok hF.ok [] []) rfl (by rw [crash_len, hl]; omega))) rfl rfl (fun _ _ => ?_)
        rw [at_crash (by omega), hB]
        refine T.y (fun w hw => Yl.move rfl) rfl rfl ?_
        refine T.y (fun w hw => Yl.extract rfl rfl) rfl rfl ?_
        refine T.y (fun w hw => Yl.extract rfl rfl) rfl rfl ?_
        refine T.y (fun w hw => Yl.assign rfl) rfl rfl ?_
        refine T.y (fun w hw => Yl.assign rfl) rfl rfl ?_
        refine T.nil ?_
        refine J.sel (.cons 6 rfl (.cons 7 rfl .nil)) ?_
        refine X.then_ ?_
        refine T.seq ?_
        -- region 9 (law.go:77)
        refine T.region ?_
        refine T.y (fun w hw => Yl.move rfl) rfl rfl ?_
        refine T.y (fun w hw => Yl.eql rfl rfl) rfl rfl ?_
        refine T.y (fun w hw => Yl.move rfl) rfl rfl ?_
        refine T.splitD 44 rfl (fun h44 => ?_) (fun h44 => ?_)
        · skip
          refine T.y (fun w hw => Yl.move rfl) rfl rfl ?_
          refine T.y (fun w hw => Yl.eql rfl rfl) rfl rfl ?_
          refine T.y (fun w hw => Yl.pickT rfl rfl) rfl rfl ?_
          refine T.y (fun w hw => Yl.assign rfl) rfl rfl ?_
          refine T.nil ?_
          refine J.sel (.cons 0 rfl .nil) ?_
          refine X.then_ ?_
          refine T.ret ?_
          refine X.ret1 Try.results34 rfl (fun w hw => ?_)
          exact ⟨(), trivial, by simp [crashZ, Zn.crash, Zn.cutAt, pickL], by (refine hw.fin ?_ ?_; (focus ((repeat (first | exact Picks.refl | exact Picks.nil | (apply Picks.cons; (focus ((repeat (first | exact Pick.head | apply Pick.tail)); done))) | apply Picks.drop)); done)); (focus ((repeat (first | exact Ks.refl | exact Ks.nil | (apply Ks.cons; (focus ((repeat (first | assumption | exact List.Mem.head _ | apply List.Mem.tail)); done))) | apply Ks.drop)); done)))⟩
        · exfalso; (first | omega | simp at *)

set_option maxHeartbeats 2000000 in
theorem zones_ct {M : List HP} {K : List KP} {A : Option Addr} {c : Nat} {p : List Int} {o : Int} (hp : intsK A c p ∈ K) (hI : IsI p) : Fn 5 [.slice A p.length c, .int .i64 o] M K (fun _ : Unit => True) (fun _ => .bool true) (fun _ => M) (fun _ => K) := by
  refine Fn.of (n := 98) Try.func5 rfl Try.ntmps5 rfl ?_
  obtain ⟨k, hk, hk8⟩ : ∃ k : Nat, o % 8 = k ∧ k < 8 := ⟨(o % 8).toNat, by omega, by omega⟩
  refine T.seq ?_
  -- region 0 (law.go:184)
  refine T.region ?_
  refine T.y (fun w hw => Yl.assign rfl) rfl rfl ?_
  refine T.nil ?_
  refine J.sel (.cons 0 rfl (.cons 1 rfl .nil)) ?_
  refine X.then_ ?_
  refine T.seq ?_
  refine T.seq ?_
  -- region 1 (law.go:185)
  refine T.region ?_
  refine T.y (fun w hw => Yl.move rfl) rfl rfl ?_
  refine T.y (fun w hw => Yl.len Try.underlying37 rfl) rfl rfl ?_
  refine T.y (fun w hw => Yl.gtr rfl rfl) rfl rfl ?_
  refine T.nil ?_
  refine J.sel (.cons 0 rfl (.cons 1 rfl (.cons 15 rfl .nil))) ?_
  refine X.then_ ?_
  refine T.condD rfl (fun h15 => ?_) (fun h15 => ?_)
  · skip
    refine T.seq ?_
    -- region 2 (law.go:186)
    refine T.region ?_
    refine T.o (OpW.call en_34 rfl (awake_ct)) rfl rfl (fun x hx => ?_)
    refine T.y (fun w hw => Yl.assign rfl) rfl rfl ?_
    refine T.nil ?_
    refine J.sel (.cons 4 rfl .nil) ?_
    refine X.then_ ?_
    refine T.ret ?_
    refine X.ret_then ?_
    refine X.ret1 Try.results5 rfl (fun w hw => ?_)
    exact ⟨(), trivial, rfl, hw.fin (by (repeat (first | exact Picks.refl | exact Picks.nil | (apply Picks.cons; (focus ((repeat (first | exact Pick.head | apply Pick.tail)); done))) | apply Picks.drop))) (by (repeat (first | exact Ks.refl | exact Ks.nil | (apply Ks.cons; (focus ((repeat (first | assumption | exact List.Mem.head _ | apply List.Mem.tail)); done))) | apply Ks.drop)))⟩
  · skip
    refine T.skip ?_
    refine X.then_ ?_
    refine T.seq ?_
    -- region 3 (law.go:188)
    refine T.region ?_
    refine T.o (OpW.call en_36 rfl (least_ct)) rfl rfl (fun x hx => ?_)
    refine T.o (OpW.call en_35 rfl (new_ct (Z := 8) (S := 96) (by omega) (by omega))) rfl rfl (fun d _ => ?_)
    refine T.y (fun w hw => Yl.move rfl) rfl rfl ?_
    refine T.y (fun w hw => Yl.extract rfl rfl) rfl rfl ?_
    refine T.y (fun w hw => Yl.extract rfl rfl) rfl rfl ?_
    refine T.y (fun w hw => Yl.assign rfl) rfl rfl ?_
    refine T.y (fun w hw => Yl.assign rfl) rfl rfl ?_
    refine T.nil ?_
    refine J.sel (.cons 0 rfl (.cons 1 rfl (.cons 5 rfl (.cons 6 rfl .nil)))) ?_
    refine X.then_ ?_
    refine T.seq ?_
    refine T.seq ?_
    -- region 4 (law.go:189)
    refine T.region ?_
    refine T.y (fun w hw => Yl.move rfl) rfl rfl ?_
    refine T.y (fun w hw => Yl.neq rfl rfl) rfl rfl ?_
    refine T.y (fun w hw => Yl.move rfl) rfl rfl ?_
    refine T.splitD 24 rfl (fun h24 => ?_) (fun h24 => ?_)
    · exfalso; (omega)
    · skip
      refine T.y (fun w hw => Yl.move rfl) rfl rfl ?_
      refine T.y (fun w hw => Yl.eqP Try.underlying38 rfl rfl) rfl rfl ?_
      refine T.y (fun w hw => Yl.pickF rfl rfl) rfl rfl ?_
      refine T.nil ?_
      refine J.sel (.cons 0 rfl (.cons 1 rfl (.cons 5 rfl (.cons 27 rfl .nil)))) ?_
      refine X.then_ ?_
      refine T.condF rfl ?_
      refine T.skip ?_
      refine X.then_ ?_
      refine T.seq ?_
      -- region 6 (law.go:192)
      refine T.region ?_
      refine T.y (fun w hw => Yl.move rfl) rfl rfl ?_
      refine T.o (OpW.call en_37 rfl (round_ct (by omega) (by omega))) rfl rfl (fun x hx => ?_)
      rw [hk]
      refine T.y (fun w hw => Yl.assign rfl) rfl rfl ?_
      refine T.nil ?_
      refine J.sel (.cons 0 rfl (.cons 1 rfl (.cons 5 rfl .nil))) ?_
      refine X.then_ ?_
      refine T.seq ?_
      -- region 7 (law.go:193)
      refine T.region ?_
      refine T.y (fun w hw => Yl.assign rfl) rfl rfl ?_
      refine T.nil ?_
      refine X.then_ ?_
      refine T.seq ?_
      refine T.seq ?_
      -- region 8 (law.go:194)
      refine T.region ?_
      refine T.y (fun w hw => Yl.assign rfl) rfl rfl ?_
      refine T.nil ?_
      refine X.then_ ?_
      refine T.block ?_
      refine T.loop (α := Nat × Dev) (fun u => u.1 ≤ p.length ∧ u.2.fine u.1 ∧ u.2.zones.length = 8 ∧ u.2.size = 96) (fun u => [(7, .int .i64 (((u.2.at k).blocks.length : Nat) : Int)), (8, .int .i64 (u.1 : Int)), (0, .slice A p.length c), (1, .int .i64 (k : Int)), (5, ptr d 0)]) (fun u => devH d u.2 :: M) (fun u => K) (fun u => p.length - u.1) (0, newDev 8 96) ⟨Nat.zero_le _, newDev_fine (by omega) (by omega), by simp [newDev], rfl⟩ (.num 7 rfl (by rw [newDev_at]; rfl) (.num 8 rfl rfl (.cons 0 rfl (.cons 1 rfl (.cons 5 rfl .nil))))) (fun w hw => hw.fin (by (repeat (first | exact Picks.refl | exact Picks.nil | (apply Picks.cons; (focus ((repeat (first | exact Pick.head | apply Pick.tail)); done))) | apply Picks.drop))) (by (repeat (first | exact Ks.refl | exact Ks.nil | (apply Ks.cons; (focus ((repeat (first | assumption | exact List.Mem.head _ | apply List.Mem.tail)); done))) | apply Ks.drop)))) ?_
      intro ⟨j, D⟩ ⟨hj, hF, hz8, hs⟩ Zk hz2
      dsimp only at hj hF hz8 hs hz2 ⊢
      refine T.seq ?_
      refine T.seq ?_
      -- region 9 (law.go:194)
      refine T.region ?_
      refine T.y (fun w hw => Yl.move rfl) rfl rfl ?_
      refine T.y (fun w hw => Yl.move rfl) rfl rfl ?_
      refine T.y (fun w hw => Yl.len Try.underlying37 rfl) rfl rfl ?_
      refine T.y (fun w hw => Yl.lss rfl rfl) rfl rfl ?_
      refine T.nil ?_
      refine J.sel (.cons 0 rfl (.cons 1 rfl (.cons 5 rfl (.cons 7 rfl (.cons 8 rfl (.cons 33 rfl .nil)))))) ?_
      refine X.then_ ?_
      refine T.condD rfl (fun h33 => ?_) (fun h33 => ?_)
      · skip
        refine T.skip ?_
        refine X.then_ ?_
        refine T.seq ?_
        refine T.block ?_
        refine T.seq ?_
        obtain ⟨z, hz, hz0⟩ : ∃ z : Nat, rd p j % 8 = z ∧ z < 8 := ⟨(rd p j % 8).toNat, by omega, by omega⟩
        have hv := rd_i p j (by omega) hI
        have hle := at_le hF.ok k
        -- region 11 (law.go:195)
        refine T.region ?_
        refine T.y (fun w hw => Yl.move rfl) rfl rfl ?_
        refine T.y (fun w hw => Yl.move rfl) rfl rfl ?_
        refine T.y (fun w hw => Yl.ia1 (by first | (apply hw.bytes; (repeat (first | assumption | exact List.Mem.head _ | apply List.Mem.tail)); done) | (apply hw.ints; (repeat (first | assumption | exact List.Mem.head _ | apply List.Mem.tail)); done) | (apply hw.sl; (repeat (first | assumption | exact List.Mem.head _ | apply List.Mem.tail)); done) | (apply hw.row; (repeat (first | assumption | exact List.Mem.head _ | apply List.Mem.tail)); done)) Try.underlying37 isz_3 rfl rfl rfl (by omega)) rfl rfl ?_
        refine T.y (fun w hw => (by first | (apply Yl.ldC (hh := hw) (hn := na_3) (hx := rfl); (repeat (first | assumption | exact List.Mem.head _ | apply List.Mem.tail)); done) | (apply Yl.ldI (hh := hw) (hn := na_3) (hx := rfl); (focus ((repeat (first | assumption | exact List.Mem.head _ | apply List.Mem.tail)); done)); exact (by omega); done) | (apply Yl.ldR (hn := na_3) (hx := rfl); (focus (first | (apply hw.bytes; (repeat (first | assumption | exact List.Mem.head _ | apply List.Mem.tail)); done) | (apply hw.ints; (repeat (first | assumption | exact List.Mem.head _ | apply List.Mem.tail)); done) | (apply hw.sl; (repeat (first | assumption | exact List.Mem.head _ | apply List.Mem.tail)); done) | (apply hw.row; (repeat (first | assumption | exact List.Mem.head _ | apply List.Mem.tail)); done))); assumption; done))) rfl rfl ?_
        refine T.o (OpW.call en_37 rfl (round_ct (by omega) (by omega))) rfl rfl (fun x hx => ?_)
        rw [hz]
        refine T.y (fun w hw => Yl.assign rfl) rfl rfl ?_
        refine T.nil ?_
        refine J.sel (.cons 0 rfl (.cons 1 rfl (.cons 5 rfl (.cons 7 rfl (.cons 8 rfl (.cons 9 rfl .nil)))))) ?_
        refine X.then_ ?_
        refine T.seq ?_
        -- region 12 (law.go:196)
        refine T.region ?_
        refine T.y (fun w hw => Yl.assign rfl) rfl rfl ?_
        refine T.nil ?_
        refine J.sel (.cons 0 rfl (.cons 1 rfl (.cons 5 rfl (.cons 7 rfl (.cons 8 rfl (.cons 9 rfl .nil)))))) ?_
        refine X.then_ ?_
        refine T.cut (α := Dev × Int) (φ := fun u => u.1.fine (j + 1) ∧ u.1.zones.length = 8 ∧ u.1.size = 96 ∧ (u.2 = 0 ∨ u.2 = 9)) (Ec := fun u => [(7, .int .i64 (((u.1.at k).blocks.length : Nat) : Int)), (10, .int .i64 u.2), (0, .slice A p.length c), (1, .int .i64 (k : Int)), (5, ptr d 0), (8, .int .i64 (j : Int))]) (Mc := fun u => devH d u.1 :: M) (Kc := fun u => K) ?_ ?_
        · intro Zk hz2
          refine T.seq ?_
          -- region 13 (law.go:197)
          refine T.region ?_
          refine T.y (fun w hw => Yl.move rfl) rfl rfl ?_
          refine T.y (fun w hw => Yl.move rfl) rfl rfl ?_
          refine T.y (fun w hw => Yl.ia1 (by first | (apply hw.bytes; (repeat (first | assumption | exact List.Mem.head _ | apply List.Mem.tail)); done) | (apply hw.ints; (repeat (first | assumption | exact List.Mem.head _ | apply List.Mem.tail)); done) | (apply hw.sl; (repeat (first | assumption | exact List.Mem.head _ | apply List.Mem.tail)); done) | (apply hw.row; (repeat (first | assumption | exact List.Mem.head _ | apply List.Mem.tail)); done)) Try.underlying37 isz_3 rfl rfl rfl (by omega)) rfl rfl ?_
          refine T.y (fun w hw => (by first | (apply Yl.ldC (hh := hw) (hn := na_3) (hx := rfl); (repeat (first | assumption | exact List.Mem.head _ | apply List.Mem.tail)); done) | (apply Yl.ldI (hh := hw) (hn := na_3) (hx := rfl); (focus ((repeat (first | assumption | exact List.Mem.head _ | apply List.Mem.tail)); done)); exact (by omega); done) | (apply Yl.ldR (hn := na_3) (hx := rfl); (focus (first | (apply hw.bytes; (repeat (first | assumption | exact List.Mem.head _ | apply List.Mem.tail)); done) | (apply hw.ints; (repeat (first | assumption | exact List.Mem.head _ | apply List.Mem.tail)); done) | (apply hw.sl; (repeat (first | assumption | exact List.Mem.head _ | apply List.Mem.tail)); done) | (apply hw.row; (repeat (first | assumption | exact List.Mem.head _ | apply List.Mem.tail)); done))); assumption; done))) rfl rfl ?_
          refine T.y (fun w hw => Yl.quoT rfl rfl (by have := tdiv_i (rd p j) 8 (by omega) hv; omega)) rfl rfl ?_
          refine T.o (OpW.call en_37 rfl (round_ct (by omega) (by omega))) rfl rfl (fun x hx => ?_)
          refine T.y (fun w hw => Yl.eql rfl rfl) rfl rfl ?_
          refine T.nil ?_
          refine J.sel (.cons 0 rfl (.cons 1 rfl (.cons 5 rfl (.cons 7 rfl (.cons 8 rfl (.cons 9 rfl (.cons 47 rfl .nil))))))) ?_
          refine X.then_ ?_
          refine T.condD rfl (fun h47 => ?_) (fun h47 => ?_)
          · skip
            refine T.seq ?_
            -- region 14 (law.go:198)
            refine T.region ?_
            refine T.y (fun w hw => Yl.move rfl) rfl rfl ?_
            refine T.y (fun w hw => Yl.move rfl) rfl rfl ?_
            refine T.o (OpW.call en_38 rfl (resetF_ct (k := z) hF (by omega) rfl (by omega))) rfl rfl (fun D1 ⟨hF1, hzz, hs1⟩ => ?_)
            refine T.y (fun w hw => Yl.assign rfl) rfl rfl ?_
            refine T.nil ?_
            refine J.sel (.cons 0 rfl (.cons 1 rfl (.cons 5 rfl (.cons 7 rfl (.cons 8 rfl (.cons 9 rfl (.cons 10 rfl .nil))))))) ?_
            refine X.then_ ?_
            refine T.seq ?_
            -- region 15 (law.go:199)
            refine T.region ?_
            refine T.y (fun w hw => Yl.move rfl) rfl rfl ?_
            refine T.y (fun w hw => Yl.move rfl) rfl rfl ?_
            refine T.y (fun w hw => Yl.eql rfl rfl) rfl rfl ?_
            refine T.nil ?_
            refine J.sel (.cons 0 rfl (.cons 1 rfl (.cons 5 rfl (.cons 7 rfl (.cons 8 rfl (.cons 10 rfl (.cons 53 rfl .nil))))))) ?_
            refine X.then_ ?_
            refine T.condD rfl (fun h53 => ?_) (fun h53 => ?_)
            · skip
              -- region 16 (law.go:200)
              refine T.region ?_
              refine T.y (fun w hw => Yl.assign rfl) rfl rfl ?_
              refine T.nil ?_
              refine J.sel (.cons 0 rfl (.cons 1 rfl (.cons 5 rfl (.cons 7 rfl (.cons 8 rfl (.cons 10 rfl .nil)))))) ?_
              have hn : (0 : Int) = (((D1.at k).blocks.length : Nat) : Int) := by rw [at_of_zones (by omega) hzz, if_pos (by omega)]; rfl
              refine X.go (hz2 (D1, 0) ⟨hF1, by rw [len_of_zones hzz]; exact hz8, by dsimp only; omega, .inl rfl⟩) (.num 7 rfl hn (.cons 10 rfl (.cons 0 rfl (.cons 1 rfl (.cons 5 rfl (.cons 8 rfl .nil)))))) (fun w hw => ?_)
              (refine hw.fin ?_ ?_; (focus ((repeat (first | exact Picks.refl | exact Picks.nil | (apply Picks.cons; (focus ((repeat (first | exact Pick.head | apply Pick.tail)); done))) | apply Picks.drop)); done)); (focus ((repeat (first | exact Ks.refl | exact Ks.nil | (apply Ks.cons; (focus ((repeat (first | assumption | exact List.Mem.head _ | apply List.Mem.tail)); done))) | apply Ks.drop)); done)))
            · skip
              refine T.skip ?_
              have hn : (((D.at k).blocks.length : Nat) : Int) = (((D1.at k).blocks.length : Nat) : Int) := by rw [at_of_zones (by omega) hzz, if_neg (by omega)]
              refine X.go (hz2 (D1, 0) ⟨hF1, by rw [len_of_zones hzz]; exact hz8, by dsimp only; omega, .inl rfl⟩) (.num 7 rfl hn (.cons 10 rfl (.cons 0 rfl (.cons 1 rfl (.cons 5 rfl (.cons 8 rfl .nil)))))) (fun w hw => ?_)
              (refine hw.fin ?_ ?_; (focus ((repeat (first | exact Picks.refl | exact Picks.nil | (apply Picks.cons; (focus ((repeat (first | exact Pick.head | apply Pick.tail)); done))) | apply Picks.drop)); done)); (focus ((repeat (first | exact Ks.refl | exact Ks.nil | (apply Ks.cons; (focus ((repeat (first | assumption | exact List.Mem.head _ | apply List.Mem.tail)); done))) | apply Ks.drop)); done)))
          · skip
            refine T.seq ?_
            -- region 17 (law.go:203)
            refine T.region ?_
            refine T.y (fun w hw => Yl.move rfl) rfl rfl ?_
            refine T.y (fun w hw => Yl.move rfl) rfl rfl ?_
            refine T.y (fun w hw => Yl.move rfl) rfl rfl ?_
            refine T.o (OpW.call en_29 rfl (block64_ct)) rfl rfl (fun ⟨B, b⟩ _ => ?_)
            dsimp only
            refine T.o (OpW.call en_39 rfl (appendAny_ct (k := z) hF (by omega) rfl (by omega) (by (repeat (first | assumption | exact List.Mem.head _ | apply List.Mem.tail))) (bk_length _ _))) rfl rfl (fun ⟨D1, x, e⟩ ⟨hF1, hs1, hr⟩ => ?_)
            dsimp only
            dsimp only at hF1 hs1 hr ⊢
            refine T.y (fun w hw => Yl.move rfl) rfl rfl ?_
            refine T.y (fun w hw => Yl.extract rfl rfl) rfl rfl ?_
            refine T.y (fun w hw => Yl.extract rfl rfl) rfl rfl ?_
            refine T.y (fun w hw => Yl.assign rfl) rfl rfl ?_
            refine T.nil ?_
            refine J.sel (.cons 0 rfl (.cons 1 rfl (.cons 5 rfl (.cons 7 rfl (.cons 8 rfl (.cons 9 rfl (.cons 10 rfl .nil))))))) ?_
            refine X.then_ ?_
            refine T.seq ?_
            -- region 18 (law.go:204)
            refine T.region ?_
            refine T.y (fun w hw => Yl.move rfl) rfl rfl ?_
            refine T.y (fun w hw => Yl.move rfl) rfl rfl ?_
            refine T.y (fun w hw => Yl.eql rfl rfl) rfl rfl ?_
            refine T.y (fun w hw => Yl.move rfl) rfl rfl ?_
            refine T.splitD 65 rfl (fun h65 => ?_) (fun h65 => ?_)
            · skip
              refine T.y (fun w hw => Yl.move rfl) rfl rfl ?_
              refine T.y (fun w hw => Yl.eql rfl rfl) rfl rfl ?_
              refine T.y (fun w hw => Yl.pickT rfl rfl) rfl rfl ?_
              refine T.nil ?_
              refine J.sel (.cons 0 rfl (.cons 1 rfl (.cons 5 rfl (.cons 7 rfl (.cons 8 rfl (.cons 10 rfl (.cons 68 rfl .nil))))))) ?_
              refine X.then_ ?_
              refine T.condD rfl (fun h68 => ?_) (fun h68 => ?_)
              · skip
                -- region 19 (law.go:205)
                refine T.region ?_
                refine T.y (fun w hw => Yl.move rfl) rfl rfl ?_
                refine T.y (fun w hw => Yl.add rfl rfl (by omega)) rfl rfl ?_
                refine T.y (fun w hw => Yl.assign rfl) rfl rfl ?_
                refine T.nil ?_
                refine J.sel (.cons 0 rfl (.cons 1 rfl (.cons 5 rfl (.cons 7 rfl (.cons 8 rfl (.cons 10 rfl .nil)))))) ?_
                have hn : (((D.at k).blocks.length : Nat) : Int) + 1 = (((D1.at k).blocks.length : Nat) : Int) := by
                  rcases hr with ⟨r1, r2, r3, r4⟩ | ⟨r1, _⟩
                  · rw [at_of_zones (by omega) r4, if_pos (by omega), show z = k by omega]; simp
                  · omega
                have hzl : D1.zones.length = 8 := by
                  rcases hr with ⟨_, _, _, r4⟩ | ⟨_, _, _, r4⟩
                  · rw [len_of_zones r4]; exact hz8
                  · rw [r4]; exact hz8
                refine X.go (hz2 (D1, e) ⟨hF1, hzl, by dsimp only; omega, by dsimp only; omega⟩) (.num 7 rfl hn (.cons 10 rfl (.cons 0 rfl (.cons 1 rfl (.cons 5 rfl (.cons 8 rfl .nil)))))) (fun w hw => ?_)
                (refine hw.fin ?_ ?_; (focus ((repeat (first | exact Picks.refl | exact Picks.nil | (apply Picks.cons; (focus ((repeat (first | exact Pick.head | apply Pick.tail)); done))) | apply Picks.drop)); done)); (focus ((repeat (first | exact Ks.refl | exact Ks.nil | (apply Ks.cons; (focus ((repeat (first | assumption | exact List.Mem.head _ | apply List.Mem.tail)); done))) | apply Ks.drop)); done)))
              · skip
                refine T.skip ?_
                have hn : (((D.at k).blocks.length : Nat) : Int) = (((D1.at k).blocks.length : Nat) : Int) := by
                  rcases hr with ⟨r1, r2, r3, r4⟩ | ⟨r1, _, _, r4⟩
                  · rw [at_of_zones (by omega) r4, if_neg (by omega)]
                  · rw [at_same r4]
                have hzl : D1.zones.length = 8 := by
                  rcases hr with ⟨_, _, _, r4⟩ | ⟨_, _, _, r4⟩
                  · rw [len_of_zones r4]; exact hz8
                  · rw [r4]; exact hz8
                refine X.go (hz2 (D1, e) ⟨hF1, hzl, by dsimp only; omega, by dsimp only; omega⟩) (.num 7 rfl hn (.cons 10 rfl (.cons 0 rfl (.cons 1 rfl (.cons 5 rfl (.cons 8 rfl .nil)))))) (fun w hw => ?_)
                (refine hw.fin ?_ ?_; (focus ((repeat (first | exact Picks.refl | exact Picks.nil | (apply Picks.cons; (focus ((repeat (first | exact Pick.head | apply Pick.tail)); done))) | apply Picks.drop)); done)); (focus ((repeat (first | exact Ks.refl | exact Ks.nil | (apply Ks.cons; (focus ((repeat (first | assumption | exact List.Mem.head _ | apply List.Mem.tail)); done))) | apply Ks.drop)); done)))
            · skip
              refine T.off rfl rfl rfl ?_
              refine T.off rfl rfl rfl ?_
              refine T.y (fun w hw => Yl.pickF rfl rfl) rfl rfl ?_
              refine T.nil ?_
              refine J.sel (.cons 0 rfl (.cons 1 rfl (.cons 5 rfl (.cons 7 rfl (.cons 8 rfl (.cons 10 rfl (.cons 68 rfl .nil))))))) ?_
              refine X.then_ ?_
              refine T.condF rfl ?_
              refine T.skip ?_
              have hn : (((D.at k).blocks.length : Nat) : Int) = (((D1.at k).blocks.length : Nat) : Int) := by
                rcases hr with ⟨r1, r2, r3, r4⟩ | ⟨r1, _, _, r4⟩
                · rw [at_of_zones (by omega) r4, if_neg (by omega)]
                · rw [at_same r4]
              have hzl : D1.zones.length = 8 := by
                rcases hr with ⟨_, _, _, r4⟩ | ⟨_, _, _, r4⟩
                · rw [len_of_zones r4]; exact hz8
                · rw [r4]; exact hz8
              refine X.go (hz2 (D1, e) ⟨hF1, hzl, by dsimp only; omega, by dsimp only; omega⟩) (.num 7 rfl hn (.cons 10 rfl (.cons 0 rfl (.cons 1 rfl (.cons 5 rfl (.cons 8 rfl .nil)))))) (fun w hw => ?_)
              (refine hw.fin ?_ ?_; (focus ((repeat (first | exact Picks.refl | exact Picks.nil | (apply Picks.cons; (focus ((repeat (first | exact Pick.head | apply Pick.tail)); done))) | apply Picks.drop)); done)); (focus ((repeat (first | exact Ks.refl | exact Ks.nil | (apply Ks.cons; (focus ((repeat (first | assumption | exact List.Mem.head _ | apply List.Mem.tail)); done))) | apply Ks.drop)); done)))
        · intro ⟨D2, e⟩ ⟨hF2, hz82, hs2, he⟩
          dsimp only at hF2 hz82 hs2 he ⊢
          refine T.seq ?_
          refine T.seq ?_
          -- region 20 (law.go:208)
          refine T.region ?_
          refine T.y (fun w hw => Yl.move rfl) rfl rfl ?_
          refine T.y (fun w hw => Yl.neq rfl rfl) rfl rfl ?_
          refine T.y (fun w hw => Yl.move rfl) rfl rfl ?_
          refine T.splitD 73 rfl (fun h73 => ?_) (fun h73 => ?_)
          · skip
            refine T.y (fun w hw => Yl.move rfl) rfl rfl ?_
            refine T.y (fun w hw => Yl.neq rfl rfl) rfl rfl ?_
            refine T.y (fun w hw => Yl.pickT rfl rfl) rfl rfl ?_
            refine T.nil ?_
            refine J.sel (.cons 0 rfl (.cons 1 rfl (.cons 5 rfl (.cons 7 rfl (.cons 8 rfl (.cons 76 rfl .nil)))))) ?_
            refine X.then_ ?_
            refine T.condD rfl (fun h76 => ?_) (fun h76 => ?_)
            · exfalso; (omega)
            · skip
              refine T.skip ?_
              refine X.then_ ?_
              refine T.seq ?_
              -- region 22 (law.go:211)
              refine T.region ?_
              refine T.y (fun w hw => Yl.move rfl) rfl rfl ?_
              refine T.y (fun w hw => Yl.move rfl) rfl rfl ?_
              refine T.o (OpW.call en_40 rfl (pointerF_ct hF2.ok rfl (by omega))) rfl rfl (fun _ _ => ?_)
              refine T.y (fun w hw => Yl.move rfl) rfl rfl ?_
              refine T.y (fun w hw => Yl.extract rfl rfl) rfl rfl ?_
              refine T.y (fun w hw => Yl.extract rfl rfl) rfl rfl ?_
              refine T.y (fun w hw => Yl.assign rfl) rfl rfl ?_
              refine T.y (fun w hw => Yl.assign rfl) rfl rfl ?_
              refine T.nil ?_
              refine J.sel (.cons 0 rfl (.cons 1 rfl (.cons 5 rfl (.cons 7 rfl (.cons 8 rfl (.cons 11 rfl (.cons 12 rfl .nil))))))) ?_
              refine X.then_ ?_
              refine T.seq ?_
              -- region 23 (law.go:212)
              refine T.region ?_
              refine T.y (fun w hw => Yl.move rfl) rfl rfl ?_
              refine T.y (fun w hw => Yl.neq rfl rfl) rfl rfl ?_
              refine T.y (fun w hw => Yl.move rfl) rfl rfl ?_
              refine T.splitD 85 rfl (fun h85 => ?_) (fun h85 => ?_)
              · exfalso; (omega)
              · skip
                refine T.y (fun w hw => Yl.move rfl) rfl rfl ?_
                refine T.y (fun w hw => Yl.move rfl) rfl rfl ?_
                refine T.y (fun w hw => Yl.neq rfl rfl) rfl rfl ?_
                refine T.y (fun w hw => Yl.pickF rfl rfl) rfl rfl ?_
                refine T.nil ?_
                refine J.sel (.cons 0 rfl (.cons 1 rfl (.cons 5 rfl (.cons 7 rfl (.cons 8 rfl (.cons 89 rfl .nil)))))) ?_
                refine X.then_ ?_
                refine T.condD rfl (fun h89 => ?_) (fun h89 => ?_)
                · exfalso; (omega)
                · skip
                  refine T.skip ?_
                  refine X.nm_blk ?_
                  refine X.then_ ?_
                  -- region 10 (law.go:194)
                  refine T.region ?_
                  refine T.y (fun w hw => Yl.move rfl) rfl rfl ?_
                  refine T.y (fun w hw => Yl.add rfl rfl (by omega)) rfl rfl ?_
                  refine T.y (fun w hw => Yl.assign rfl) rfl rfl ?_
                  refine T.nil ?_
                  refine J.sel (.cons 0 rfl (.cons 1 rfl (.cons 5 rfl (.cons 7 rfl (.cons 8 rfl .nil))))) ?_
                  refine X.go (hz2 (j + 1, D2) ⟨by omega, hF2, hz82, hs2⟩ (by dsimp only; omega)) (.cons 7 rfl (.num 8 rfl (by omega) (.cons 0 rfl (.cons 1 rfl (.cons 5 rfl .nil))))) (fun w hw => ?_)
                  (refine hw.fin ?_ ?_; (focus ((repeat (first | exact Picks.refl | exact Picks.nil | (apply Picks.cons; (focus ((repeat (first | exact Pick.head | apply Pick.tail)); done))) | apply Picks.drop)); done)); (focus ((repeat (first | exact Ks.refl | exact Ks.nil | (apply Ks.cons; (focus ((repeat (first | assumption | exact List.Mem.head _ | apply List.Mem.tail)); done))) | apply Ks.drop)); done)))
          · skip
            refine T.off rfl rfl rfl ?_
            refine T.off rfl rfl rfl ?_
            refine T.y (fun w hw => Yl.pickF rfl rfl) rfl rfl ?_
            refine T.nil ?_
            refine J.sel (.cons 0 rfl (.cons 1 rfl (.cons 5 rfl (.cons 7 rfl (.cons 8 rfl (.cons 76 rfl .nil)))))) ?_
            refine X.then_ ?_
            refine T.condF rfl ?_
            refine T.skip ?_
            refine X.then_ ?_
            refine T.seq ?_
            -- region 22 (law.go:211)
            refine T.region ?_
            refine T.y (fun w hw => Yl.move rfl) rfl rfl ?_
            refine T.y (fun w hw => Yl.move rfl) rfl rfl ?_
            refine T.o (OpW.call en_40 rfl (pointerF_ct hF2.ok rfl (by omega))) rfl rfl (fun _ _ => ?_)
            refine T.y (fun w hw => Yl.move rfl) rfl rfl ?_
            refine T.y (fun w hw => Yl.extract rfl rfl) rfl rfl ?_
            refine T.y (fun w hw => Yl.extract rfl rfl) rfl rfl ?_
            refine T.y (fun w hw => Yl.assign rfl) rfl rfl ?_
            refine T.y (fun w hw => Yl.assign rfl) rfl rfl ?_
            refine T.nil ?_
            refine J.sel (.cons 0 rfl (.cons 1 rfl (.cons 5 rfl (.cons 7 rfl (.cons 8 rfl (.cons 11 rfl (.cons 12 rfl .nil))))))) ?_
            refine X.then_ ?_
            refine T.seq ?_
            -- region 23 (law.go:212)
            refine T.region ?_
            refine T.y (fun w hw => Yl.move rfl) rfl rfl ?_
            refine T.y (fun w hw => Yl.neq rfl rfl) rfl rfl ?_
            refine T.y (fun w hw => Yl.move rfl) rfl rfl ?_
            refine T.splitD 85 rfl (fun h85 => ?_) (fun h85 => ?_)
            · exfalso; (omega)
            · skip
              refine T.y (fun w hw => Yl.move rfl) rfl rfl ?_
              refine T.y (fun w hw => Yl.move rfl) rfl rfl ?_
              refine T.y (fun w hw => Yl.neq rfl rfl) rfl rfl ?_
              refine T.y (fun w hw => Yl.pickF rfl rfl) rfl rfl ?_
              refine T.nil ?_
              refine J.sel (.cons 0 rfl (.cons 1 rfl (.cons 5 rfl (.cons 7 rfl (.cons 8 rfl (.cons 89 rfl .nil)))))) ?_
              refine X.then_ ?_
              refine T.condD rfl (fun h89 => ?_) (fun h89 => ?_)
              · exfalso; (omega)
              · skip
                refine T.skip ?_
                refine X.nm_blk ?_
                refine X.then_ ?_
                -- region 10 (law.go:194)
                refine T.region ?_
                refine T.y (fun w hw => Yl.move rfl) rfl rfl ?_
                refine T.y (fun w hw => Yl.add rfl rfl (by omega)) rfl rfl ?_
                refine T.y (fun w hw => Yl.assign rfl) rfl rfl ?_
                refine T.nil ?_
                refine J.sel (.cons 0 rfl (.cons 1 rfl (.cons 5 rfl (.cons 7 rfl (.cons 8 rfl .nil))))) ?_
                refine X.go (hz2 (j + 1, D2) ⟨by omega, hF2, hz82, hs2⟩ (by dsimp only; omega)) (.cons 7 rfl (.num 8 rfl (by omega) (.cons 0 rfl (.cons 1 rfl (.cons 5 rfl .nil))))) (fun w hw => ?_)
                (refine hw.fin ?_ ?_; (focus ((repeat (first | exact Picks.refl | exact Picks.nil | (apply Picks.cons; (focus ((repeat (first | exact Pick.head | apply Pick.tail)); done))) | apply Picks.drop)); done)); (focus ((repeat (first | exact Ks.refl | exact Ks.nil | (apply Ks.cons; (focus ((repeat (first | assumption | exact List.Mem.head _ | apply List.Mem.tail)); done))) | apply Ks.drop)); done)))
      · skip
        refine T.exit ?_
        refine X.exit_then ?_
        refine X.exit_then ?_
        refine X.exit_blk ?_
        refine X.then_ ?_
        refine T.seq ?_
        -- region 25 (law.go:216)
        refine T.region ?_
        refine T.y (fun w hw => Yl.move rfl) rfl rfl ?_
        refine T.o (OpW.call en_41 rfl (opsF_ct hF)) rfl rfl (fun _ _ => ?_)
        refine T.y (fun w hw => Yl.move rfl) rfl rfl ?_
        refine T.y (fun w hw => Yl.len Try.underlying37 rfl) rfl rfl ?_
        refine T.y (fun w hw => Yl.eql rfl rfl) rfl rfl ?_
        refine T.y (fun w hw => Yl.move rfl) rfl rfl ?_
        refine T.splitD 95 rfl (fun h95 => ?_) (fun h95 => ?_)
        · skip
          refine T.o (OpW.call en_34 rfl (awake_ct)) rfl rfl (fun x hx => ?_)
          refine T.y (fun w hw => Yl.pickT rfl rfl) rfl rfl ?_
          refine T.y (fun w hw => Yl.assign rfl) rfl rfl ?_
          refine T.nil ?_
          refine J.sel (.cons 4 rfl .nil) ?_
          refine X.then_ ?_
          refine T.ret ?_
          refine X.ret1 Try.results5 rfl (fun w hw => ?_)
          exact ⟨(), trivial, rfl, hw.fin (by (repeat (first | exact Picks.refl | exact Picks.nil | (apply Picks.cons; (focus ((repeat (first | exact Pick.head | apply Pick.tail)); done))) | apply Picks.drop))) (by (repeat (first | exact Ks.refl | exact Ks.nil | (apply Ks.cons; (focus ((repeat (first | assumption | exact List.Mem.head _ | apply List.Mem.tail)); done))) | apply Ks.drop)))⟩
        · exfalso; (omega)

theorem zdevZones_walk {w : World} (v : Value) (p : List Int) (hx : Ints (fun k => k < w.heap.size) w v p) (hI : IsI p) (o : Int) : Calls Try.prog 5 #[v, .int .i64 o] w fun e w' => e = .returned (.bool true) ∧ Below w.heap.size w w' := by
  obtain ⟨A, c, rfl, hk⟩ := ints_open hx
  exact law_of (vs := [.slice A p.length c, .int .i64 o]) (K := [intsK A c p]) (zones_ct (.tail _ (.head _)) hI) (fun k hk' => by rw [List.mem_singleton.1 hk']; exact hk)

set_option maxHeartbeats 2000000 in
theorem full_ct {M : List HP} {K : List KP} {p o n : Int} : Fn 6 [.int .i64 p, .int .i64 o, .int .i64 n] M K (fun _ : Unit => True) (fun _ => .bool true) (fun _ => M) (fun _ => K) := by
  refine Fn.of (n := 127) Try.func6 rfl Try.ntmps6 rfl ?_
  refine T.seq ?_
  -- region 0 (law.go:293)
  refine T.region ?_
  refine T.y (fun w hw => Yl.assign rfl) rfl rfl ?_
  refine T.nil ?_
  refine J.sel (.cons 0 rfl (.cons 1 rfl (.cons 2 rfl .nil))) ?_
  refine X.then_ ?_
  refine T.seq ?_
  refine T.seq ?_
  -- region 1 (law.go:294)
  refine T.region ?_
  refine T.y (fun w hw => Yl.move rfl) rfl rfl ?_
  refine T.y (fun w hw => Yl.lss rfl rfl) rfl rfl ?_
  refine T.y (fun w hw => Yl.move rfl) rfl rfl ?_
  refine T.splitD 21 rfl (fun h21 => ?_) (fun h21 => ?_)
  · skip
    refine T.off rfl rfl rfl ?_
    refine T.off rfl rfl rfl ?_
    refine T.y (fun w hw => Yl.pickT rfl rfl) rfl rfl ?_
    refine T.y (fun w hw => Yl.move rfl) rfl rfl ?_
    refine T.off rfl rfl rfl ?_
    refine T.off rfl rfl rfl ?_
    refine T.y (fun w hw => Yl.pickT rfl rfl) rfl rfl ?_
    refine T.y (fun w hw => Yl.move rfl) rfl rfl ?_
    refine T.off rfl rfl rfl ?_
    refine T.off rfl rfl rfl ?_
    refine T.y (fun w hw => Yl.pickT rfl rfl) rfl rfl ?_
    refine T.y (fun w hw => Yl.move rfl) rfl rfl ?_
    refine T.off rfl rfl rfl ?_
    refine T.off rfl rfl rfl ?_
    refine T.y (fun w hw => Yl.pickT rfl rfl) rfl rfl ?_
    refine T.y (fun w hw => Yl.move rfl) rfl rfl ?_
    refine T.off rfl rfl rfl ?_
    refine T.off rfl rfl rfl ?_
    refine T.y (fun w hw => Yl.pickT rfl rfl) rfl rfl ?_
    refine T.nil ?_
    refine J.sel (.cons 0 rfl (.cons 1 rfl (.cons 2 rfl (.cons 40 rfl .nil)))) ?_
    refine X.then_ ?_
    refine T.condT rfl ?_
    refine T.seq ?_
    -- region 2 (law.go:295)
    refine T.region ?_
    refine T.o (OpW.call en_34 rfl (awake_ct)) rfl rfl (fun x hx => ?_)
    refine T.y (fun w hw => Yl.assign rfl) rfl rfl ?_
    refine T.nil ?_
    refine J.sel (.cons 6 rfl .nil) ?_
    refine X.then_ ?_
    refine T.ret ?_
    refine X.ret_then ?_
    refine X.ret1 Try.results6 rfl (fun w hw => ?_)
    exact ⟨(), trivial, rfl, hw.fin (by (repeat (first | exact Picks.refl | exact Picks.nil | (apply Picks.cons; (focus ((repeat (first | exact Pick.head | apply Pick.tail)); done))) | apply Picks.drop))) (by (repeat (first | exact Ks.refl | exact Ks.nil | (apply Ks.cons; (focus ((repeat (first | assumption | exact List.Mem.head _ | apply List.Mem.tail)); done))) | apply Ks.drop)))⟩
  · skip
    refine T.y (fun w hw => Yl.move rfl) rfl rfl ?_
    refine T.y (fun w hw => Yl.gtr rfl rfl) rfl rfl ?_
    refine T.y (fun w hw => Yl.pickF rfl rfl) rfl rfl ?_
    refine T.y (fun w hw => Yl.move rfl) rfl rfl ?_
    refine T.splitD 25 rfl (fun h25 => ?_) (fun h25 => ?_)
    · skip
      refine T.off rfl rfl rfl ?_
      refine T.off rfl rfl rfl ?_
      refine T.y (fun w hw => Yl.pickT rfl rfl) rfl rfl ?_
      refine T.y (fun w hw => Yl.move rfl) rfl rfl ?_
      refine T.off rfl rfl rfl ?_
      refine T.off rfl rfl rfl ?_
      refine T.y (fun w hw => Yl.pickT rfl rfl) rfl rfl ?_
      refine T.y (fun w hw => Yl.move rfl) rfl rfl ?_
      refine T.off rfl rfl rfl ?_
      refine T.off rfl rfl rfl ?_
      refine T.y (fun w hw => Yl.pickT rfl rfl) rfl rfl ?_
      refine T.y (fun w hw => Yl.move rfl) rfl rfl ?_
      refine T.off rfl rfl rfl ?_
      refine T.off rfl rfl rfl ?_
      refine T.y (fun w hw => Yl.pickT rfl rfl) rfl rfl ?_
      refine T.nil ?_
      refine J.sel (.cons 0 rfl (.cons 1 rfl (.cons 2 rfl (.cons 40 rfl .nil)))) ?_
      refine X.then_ ?_
      refine T.condT rfl ?_
      refine T.seq ?_
      -- region 2 (law.go:295)
      refine T.region ?_
      refine T.o (OpW.call en_34 rfl (awake_ct)) rfl rfl (fun x hx => ?_)
      refine T.y (fun w hw => Yl.assign rfl) rfl rfl ?_
      refine T.nil ?_
      refine J.sel (.cons 6 rfl .nil) ?_
      refine X.then_ ?_
      refine T.ret ?_
      refine X.ret_then ?_
      refine X.ret1 Try.results6 rfl (fun w hw => ?_)
      exact ⟨(), trivial, rfl, hw.fin (by (repeat (first | exact Picks.refl | exact Picks.nil | (apply Picks.cons; (focus ((repeat (first | exact Pick.head | apply Pick.tail)); done))) | apply Picks.drop))) (by (repeat (first | exact Ks.refl | exact Ks.nil | (apply Ks.cons; (focus ((repeat (first | assumption | exact List.Mem.head _ | apply List.Mem.tail)); done))) | apply Ks.drop)))⟩
    · skip
      refine T.y (fun w hw => Yl.move rfl) rfl rfl ?_
      refine T.y (fun w hw => Yl.lss rfl rfl) rfl rfl ?_
      refine T.y (fun w hw => Yl.pickF rfl rfl) rfl rfl ?_
      refine T.y (fun w hw => Yl.move rfl) rfl rfl ?_
      refine T.splitD 29 rfl (fun h29 => ?_) (fun h29 => ?_)
      · skip
        refine T.off rfl rfl rfl ?_
        refine T.off rfl rfl rfl ?_
        refine T.y (fun w hw => Yl.pickT rfl rfl) rfl rfl ?_
        refine T.y (fun w hw => Yl.move rfl) rfl rfl ?_
        refine T.off rfl rfl rfl ?_
        refine T.off rfl rfl rfl ?_
        refine T.y (fun w hw => Yl.pickT rfl rfl) rfl rfl ?_
        refine T.y (fun w hw => Yl.move rfl) rfl rfl ?_
        refine T.off rfl rfl rfl ?_
        refine T.off rfl rfl rfl ?_
        refine T.y (fun w hw => Yl.pickT rfl rfl) rfl rfl ?_
        refine T.nil ?_
        refine J.sel (.cons 0 rfl (.cons 1 rfl (.cons 2 rfl (.cons 40 rfl .nil)))) ?_
        refine X.then_ ?_
        refine T.condT rfl ?_
        refine T.seq ?_
        -- region 2 (law.go:295)
        refine T.region ?_
        refine T.o (OpW.call en_34 rfl (awake_ct)) rfl rfl (fun x hx => ?_)
        refine T.y (fun w hw => Yl.assign rfl) rfl rfl ?_
        refine T.nil ?_
        refine J.sel (.cons 6 rfl .nil) ?_
        refine X.then_ ?_
        refine T.ret ?_
        refine X.ret_then ?_
        refine X.ret1 Try.results6 rfl (fun w hw => ?_)
        exact ⟨(), trivial, rfl, hw.fin (by (repeat (first | exact Picks.refl | exact Picks.nil | (apply Picks.cons; (focus ((repeat (first | exact Pick.head | apply Pick.tail)); done))) | apply Picks.drop))) (by (repeat (first | exact Ks.refl | exact Ks.nil | (apply Ks.cons; (focus ((repeat (first | assumption | exact List.Mem.head _ | apply List.Mem.tail)); done))) | apply Ks.drop)))⟩
      · skip
        refine T.y (fun w hw => Yl.move rfl) rfl rfl ?_
        refine T.y (fun w hw => Yl.geq rfl rfl) rfl rfl ?_
        refine T.y (fun w hw => Yl.pickF rfl rfl) rfl rfl ?_
        refine T.y (fun w hw => Yl.move rfl) rfl rfl ?_
        refine T.splitD 33 rfl (fun h33 => ?_) (fun h33 => ?_)
        · skip
          refine T.off rfl rfl rfl ?_
          refine T.off rfl rfl rfl ?_
          refine T.y (fun w hw => Yl.pickT rfl rfl) rfl rfl ?_
          refine T.y (fun w hw => Yl.move rfl) rfl rfl ?_
          refine T.off rfl rfl rfl ?_
          refine T.off rfl rfl rfl ?_
          refine T.y (fun w hw => Yl.pickT rfl rfl) rfl rfl ?_
          refine T.nil ?_
          refine J.sel (.cons 0 rfl (.cons 1 rfl (.cons 2 rfl (.cons 40 rfl .nil)))) ?_
          refine X.then_ ?_
          refine T.condT rfl ?_
          refine T.seq ?_
          -- region 2 (law.go:295)
          refine T.region ?_
          refine T.o (OpW.call en_34 rfl (awake_ct)) rfl rfl (fun x hx => ?_)
          refine T.y (fun w hw => Yl.assign rfl) rfl rfl ?_
          refine T.nil ?_
          refine J.sel (.cons 6 rfl .nil) ?_
          refine X.then_ ?_
          refine T.ret ?_
          refine X.ret_then ?_
          refine X.ret1 Try.results6 rfl (fun w hw => ?_)
          exact ⟨(), trivial, rfl, hw.fin (by (repeat (first | exact Picks.refl | exact Picks.nil | (apply Picks.cons; (focus ((repeat (first | exact Pick.head | apply Pick.tail)); done))) | apply Picks.drop))) (by (repeat (first | exact Ks.refl | exact Ks.nil | (apply Ks.cons; (focus ((repeat (first | assumption | exact List.Mem.head _ | apply List.Mem.tail)); done))) | apply Ks.drop)))⟩
        · skip
          refine T.y (fun w hw => Yl.move rfl) rfl rfl ?_
          refine T.y (fun w hw => Yl.lss rfl rfl) rfl rfl ?_
          refine T.y (fun w hw => Yl.pickF rfl rfl) rfl rfl ?_
          refine T.y (fun w hw => Yl.move rfl) rfl rfl ?_
          refine T.splitD 37 rfl (fun h37 => ?_) (fun h37 => ?_)
          · skip
            refine T.off rfl rfl rfl ?_
            refine T.off rfl rfl rfl ?_
            refine T.y (fun w hw => Yl.pickT rfl rfl) rfl rfl ?_
            refine T.nil ?_
            refine J.sel (.cons 0 rfl (.cons 1 rfl (.cons 2 rfl (.cons 40 rfl .nil)))) ?_
            refine X.then_ ?_
            refine T.condT rfl ?_
            refine T.seq ?_
            -- region 2 (law.go:295)
            refine T.region ?_
            refine T.o (OpW.call en_34 rfl (awake_ct)) rfl rfl (fun x hx => ?_)
            refine T.y (fun w hw => Yl.assign rfl) rfl rfl ?_
            refine T.nil ?_
            refine J.sel (.cons 6 rfl .nil) ?_
            refine X.then_ ?_
            refine T.ret ?_
            refine X.ret_then ?_
            refine X.ret1 Try.results6 rfl (fun w hw => ?_)
            exact ⟨(), trivial, rfl, hw.fin (by (repeat (first | exact Picks.refl | exact Picks.nil | (apply Picks.cons; (focus ((repeat (first | exact Pick.head | apply Pick.tail)); done))) | apply Picks.drop))) (by (repeat (first | exact Ks.refl | exact Ks.nil | (apply Ks.cons; (focus ((repeat (first | assumption | exact List.Mem.head _ | apply List.Mem.tail)); done))) | apply Ks.drop)))⟩
          · skip
            refine T.y (fun w hw => Yl.move rfl) rfl rfl ?_
            refine T.y (fun w hw => Yl.gtr rfl rfl) rfl rfl ?_
            refine T.y (fun w hw => Yl.pickF rfl rfl) rfl rfl ?_
            refine T.nil ?_
            refine J.sel (.cons 0 rfl (.cons 1 rfl (.cons 2 rfl (.cons 40 rfl .nil)))) ?_
            refine X.then_ ?_
            refine T.condD rfl (fun h40 => ?_) (fun h40 => ?_)
            · skip
              refine T.seq ?_
              -- region 2 (law.go:295)
              refine T.region ?_
              refine T.o (OpW.call en_34 rfl (awake_ct)) rfl rfl (fun x hx => ?_)
              refine T.y (fun w hw => Yl.assign rfl) rfl rfl ?_
              refine T.nil ?_
              refine J.sel (.cons 6 rfl .nil) ?_
              refine X.then_ ?_
              refine T.ret ?_
              refine X.ret_then ?_
              refine X.ret1 Try.results6 rfl (fun w hw => ?_)
              exact ⟨(), trivial, rfl, hw.fin (by (repeat (first | exact Picks.refl | exact Picks.nil | (apply Picks.cons; (focus ((repeat (first | exact Pick.head | apply Pick.tail)); done))) | apply Picks.drop))) (by (repeat (first | exact Ks.refl | exact Ks.nil | (apply Ks.cons; (focus ((repeat (first | assumption | exact List.Mem.head _ | apply List.Mem.tail)); done))) | apply Ks.drop)))⟩
            · skip
              refine T.skip ?_
              refine X.then_ ?_
              refine T.seq ?_
              obtain ⟨S, rfl⟩ : ∃ S : Nat, p = S := ⟨p.toNat, by omega⟩
              obtain ⟨k, rfl⟩ : ∃ k : Nat, o = k := ⟨o.toNat, by omega⟩
              obtain ⟨N, rfl⟩ : ∃ N : Nat, n = N := ⟨n.toNat, by omega⟩
              have hb2 : N * (S + 2) ≤ 4 * 194 := Nat.mul_le_mul (by omega) (by omega)
              have hb : (N : Int) * ((S : Int) + 2) = ((N * (S + 2) : Nat) : Int) := by push_cast; rfl
              -- region 3 (law.go:297)
              refine T.region ?_
              refine T.y (fun w hw => Yl.move rfl) rfl rfl ?_
              refine T.y (fun w hw => Yl.build rfl (bld_42_0_1 _)) rfl rfl ?_
              refine T.o (OpW.call en_35 rfl (new_ct (Z := 8) (S := S) (by omega) (by omega))) rfl rfl (fun d _ => ?_)
              refine T.y (fun w hw => Yl.move rfl) rfl rfl ?_
              refine T.y (fun w hw => Yl.extract rfl rfl) rfl rfl ?_
              refine T.y (fun w hw => Yl.extract rfl rfl) rfl rfl ?_
              refine T.y (fun w hw => Yl.assign rfl) rfl rfl ?_
              refine T.y (fun w hw => Yl.assign rfl) rfl rfl ?_
              refine T.nil ?_
              refine J.sel (.cons 0 rfl (.cons 1 rfl (.cons 2 rfl (.cons 7 rfl (.cons 8 rfl .nil))))) ?_
              refine X.then_ ?_
              refine T.seq ?_
              refine T.seq ?_
              -- region 4 (law.go:298)
              refine T.region ?_
              refine T.y (fun w hw => Yl.move rfl) rfl rfl ?_
              refine T.y (fun w hw => Yl.neq rfl rfl) rfl rfl ?_
              refine T.y (fun w hw => Yl.move rfl) rfl rfl ?_
              refine T.splitD 50 rfl (fun h50 => ?_) (fun h50 => ?_)
              · exfalso; (first | omega | (simp at *; done))
              · skip
                refine T.y (fun w hw => Yl.move rfl) rfl rfl ?_
                refine T.y (fun w hw => Yl.eqP Try.underlying38 rfl rfl) rfl rfl ?_
                refine T.y (fun w hw => Yl.pickF rfl rfl) rfl rfl ?_
                refine T.nil ?_
                refine J.sel (.cons 0 rfl (.cons 1 rfl (.cons 2 rfl (.cons 7 rfl (.cons 53 rfl .nil))))) ?_
                refine X.then_ ?_
                refine T.condF rfl ?_
                refine T.skip ?_
                refine X.then_ ?_
                refine T.seq ?_
                refine T.seq ?_
                -- region 6 (law.go:301)
                refine T.region ?_
                refine T.y (fun w hw => Yl.assign rfl) rfl rfl ?_
                refine T.nil ?_
                refine J.sel (.cons 0 rfl (.cons 1 rfl (.cons 2 rfl (.cons 7 rfl (.cons 9 rfl .nil))))) ?_
                refine X.then_ ?_
                refine T.block ?_
                refine T.loop (α := Nat × Nat × Dev) (fun u => u.1 ≤ N ∧ u.2.2.fine u.2.1 ∧ u.2.1 = u.1 * (S + 2) ∧ u.2.1 ≤ 4 * 194 ∧ u.2.2.zones.length = 8 ∧ u.2.2.size = S ∧ (u.2.2.at k).blocks = []) (fun u => [(9, .int .i64 (u.1 : Int)), (0, .int .i64 (S : Int)), (1, .int .i64 (k : Int)), (2, .int .i64 (N : Int)), (7, ptr d 0)]) (fun u => devH d u.2.2 :: M) (fun u => K) (fun u => N - u.1) (0, 0, newDev 8 S) ⟨Nat.zero_le _, newDev_fine (by omega) (by omega), by simp, Nat.zero_le _, by simp [newDev], rfl, by rw [newDev_at]⟩ (.num 9 rfl rfl (.cons 0 rfl (.cons 1 rfl (.cons 2 rfl (.cons 7 rfl .nil))))) (fun w hw => hw.fin (by (repeat (first | exact Picks.refl | exact Picks.nil | (apply Picks.cons; (focus ((repeat (first | exact Pick.head | apply Pick.tail)); done))) | apply Picks.drop))) (by (repeat (first | exact Ks.refl | exact Ks.nil | (apply Ks.cons; (focus ((repeat (first | assumption | exact List.Mem.head _ | apply List.Mem.tail)); done))) | apply Ks.drop)))) ?_
                intro ⟨j, m, D⟩ ⟨hj, hF, hm, hm2, hz8, hs, hB⟩ Zk hzo
                dsimp only at hj hF hm hm2 hz8 hs hB hzo ⊢
                refine T.seq ?_
                refine T.seq ?_
                -- region 7 (law.go:301)
                refine T.region ?_
                refine T.y (fun w hw => Yl.move rfl) rfl rfl ?_
                refine T.y (fun w hw => Yl.move rfl) rfl rfl ?_
                refine T.y (fun w hw => Yl.lss rfl rfl) rfl rfl ?_
                refine T.nil ?_
                refine J.sel (.cons 0 rfl (.cons 1 rfl (.cons 2 rfl (.cons 7 rfl (.cons 9 rfl (.cons 56 rfl .nil)))))) ?_
                refine X.then_ ?_
                refine T.condD rfl (fun h56 => ?_) (fun h56 => ?_)
                · skip
                  refine T.skip ?_
                  refine X.then_ ?_
                  refine T.seq ?_
                  refine T.block ?_
                  refine T.seq ?_
                  refine T.seq ?_
                  -- region 9 (law.go:302)
                  refine T.region ?_
                  refine T.y (fun w hw => Yl.assign rfl) rfl rfl ?_
                  refine T.nil ?_
                  refine J.sel (.cons 0 rfl (.cons 1 rfl (.cons 2 rfl (.cons 7 rfl (.cons 9 rfl (.cons 10 rfl .nil)))))) ?_
                  refine X.then_ ?_
                  refine T.block ?_
                  refine T.loop (α := Nat × Dev) (fun u => u.1 ≤ S ∧ u.2.fine (m + u.1) ∧ u.2.zones.length = 8 ∧ u.2.size = S ∧ (u.2.at k).blocks.length = u.1) (fun u => [(10, .int .i64 (u.1 : Int)), (0, .int .i64 (S : Int)), (1, .int .i64 (k : Int)), (2, .int .i64 (N : Int)), (7, ptr d 0), (9, .int .i64 (j : Int))]) (fun u => devH d u.2 :: M) (fun u => K) (fun u => S - u.1) (0, D) ⟨Nat.zero_le _, hF, hz8, hs, by rw [hB]; rfl⟩ (.num 10 rfl rfl (.cons 0 rfl (.cons 1 rfl (.cons 2 rfl (.cons 7 rfl (.cons 9 rfl .nil)))))) (fun w hw => hw.fin (by (repeat (first | exact Picks.refl | exact Picks.nil | (apply Picks.cons; (focus ((repeat (first | exact Pick.head | apply Pick.tail)); done))) | apply Picks.drop))) (by (repeat (first | exact Ks.refl | exact Ks.nil | (apply Ks.cons; (focus ((repeat (first | assumption | exact List.Mem.head _ | apply List.Mem.tail)); done))) | apply Ks.drop)))) ?_
                  intro ⟨i, D1⟩ ⟨hi, hF1, hz81, hs1, hB1⟩ Zk hz2
                  dsimp only at hi hF1 hz81 hs1 hB1 hz2 ⊢
                  refine T.seq ?_
                  refine T.seq ?_
                  -- region 10 (law.go:302)
                  refine T.region ?_
                  refine T.y (fun w hw => Yl.move rfl) rfl rfl ?_
                  refine T.y (fun w hw => Yl.move rfl) rfl rfl ?_
                  refine T.y (fun w hw => Yl.lss rfl rfl) rfl rfl ?_
                  refine T.nil ?_
                  refine J.sel (.cons 0 rfl (.cons 1 rfl (.cons 2 rfl (.cons 7 rfl (.cons 9 rfl (.cons 10 rfl (.cons 61 rfl .nil))))))) ?_
                  refine X.then_ ?_
                  refine T.condD rfl (fun h61 => ?_) (fun h61 => ?_)
                  · skip
                    refine T.skip ?_
                    refine X.then_ ?_
                    refine T.seq ?_
                    refine T.block ?_
                    refine T.seq ?_
                    -- region 12 (law.go:303)
                    refine T.region ?_
                    refine T.y (fun w hw => Yl.move rfl) rfl rfl ?_
                    refine T.y (fun w hw => Yl.move rfl) rfl rfl ?_
                    refine T.y (fun w hw => Yl.move rfl) rfl rfl ?_
                    refine T.o (OpW.call en_29 rfl (block64_ct)) rfl rfl (fun ⟨B, b⟩ _ => ?_)
                    dsimp only
                    refine T.o (OpW.call en_39 rfl (appendF_ct (k := k) hF1 (by omega) rfl (by omega) (by (repeat (first | assumption | exact List.Mem.head _ | apply List.Mem.tail))) (bk_length _ _) (by omega))) rfl rfl (fun D2 ⟨hF2, hzz, hs2⟩ => ?_)
                    refine T.y (fun w hw => Yl.move rfl) rfl rfl ?_
                    refine T.y (fun w hw => Yl.extract rfl rfl) rfl rfl ?_
                    refine T.y (fun w hw => Yl.extract rfl rfl) rfl rfl ?_
                    refine T.y (fun w hw => Yl.assign rfl) rfl rfl ?_
                    refine T.y (fun w hw => Yl.assign rfl) rfl rfl ?_
                    refine T.nil ?_
                    refine J.sel (.cons 0 rfl (.cons 1 rfl (.cons 2 rfl (.cons 7 rfl (.cons 9 rfl (.cons 10 rfl (.cons 11 rfl (.cons 12 rfl .nil)))))))) ?_
                    refine X.then_ ?_
                    refine T.seq ?_
                    -- region 13 (law.go:304)
                    refine T.region ?_
                    refine T.y (fun w hw => Yl.move rfl) rfl rfl ?_
                    refine T.y (fun w hw => Yl.neq rfl rfl) rfl rfl ?_
                    refine T.y (fun w hw => Yl.move rfl) rfl rfl ?_
                    refine T.splitD 74 rfl (fun h74 => ?_) (fun h74 => ?_)
                    · exfalso; (first | omega | (simp at *; done))
                    · skip
                      refine T.y (fun w hw => Yl.move rfl) rfl rfl ?_
                      refine T.y (fun w hw => Yl.move rfl) rfl rfl ?_
                      refine T.y (fun w hw => Yl.neq rfl rfl) rfl rfl ?_
                      refine T.y (fun w hw => Yl.pickF rfl rfl) rfl rfl ?_
                      refine T.nil ?_
                      refine J.sel (.cons 0 rfl (.cons 1 rfl (.cons 2 rfl (.cons 7 rfl (.cons 9 rfl (.cons 10 rfl (.cons 78 rfl .nil))))))) ?_
                      refine X.then_ ?_
                      refine T.condD rfl (fun h78 => ?_) (fun h78 => ?_)
                      · exfalso; (first | omega | (simp at *; done))
                      · skip
                        refine T.skip ?_
                        refine X.nm_blk ?_
                        refine X.then_ ?_
                        -- region 11 (law.go:302)
                        refine T.region ?_
                        refine T.y (fun w hw => Yl.move rfl) rfl rfl ?_
                        refine T.y (fun w hw => Yl.add rfl rfl (by omega)) rfl rfl ?_
                        refine T.y (fun w hw => Yl.assign rfl) rfl rfl ?_
                        refine T.nil ?_
                        refine J.sel (.cons 0 rfl (.cons 1 rfl (.cons 2 rfl (.cons 7 rfl (.cons 9 rfl (.cons 10 rfl .nil)))))) ?_
                        refine X.go (hz2 (i + 1, D2) ⟨by omega, hF2, by rw [len_of_zones hzz]; exact hz81, by dsimp only; omega, by rw [at_of_zones (by omega) hzz, if_pos rfl]; simp; omega⟩ (by dsimp only; omega)) (.num 10 rfl (by omega) (.cons 0 rfl (.cons 1 rfl (.cons 2 rfl (.cons 7 rfl (.cons 9 rfl .nil)))))) (fun w hw => ?_)
                        (refine hw.fin ?_ ?_; (focus ((repeat (first | exact Picks.refl | exact Picks.nil | (apply Picks.cons; (focus ((repeat (first | exact Pick.head | apply Pick.tail)); done))) | apply Picks.drop)); done)); (focus ((repeat (first | exact Ks.refl | exact Ks.nil | (apply Ks.cons; (focus ((repeat (first | assumption | exact List.Mem.head _ | apply List.Mem.tail)); done))) | apply Ks.drop)); done)))
                  · skip
                    refine T.exit ?_
                    refine X.exit_then ?_
                    refine X.exit_then ?_
                    refine X.exit_blk ?_
                    refine X.then_ ?_
                    refine T.seq ?_
                    have hie : S = i := by omega
                    subst hie
                    -- region 15 (law.go:308)
                    refine T.region ?_
                    refine T.y (fun w hw => Yl.move rfl) rfl rfl ?_
                    refine T.y (fun w hw => Yl.move rfl) rfl rfl ?_
                    refine T.o (OpW.call en_29 rfl (block64_ct)) rfl rfl (fun ⟨B, b⟩ _ => ?_)
                    dsimp only
                    refine T.o (OpW.call en_39 rfl (appendFull_ct (k := k) hF1 (by omega) rfl (by omega) (by (repeat (first | assumption | exact List.Mem.head _ | apply List.Mem.tail))) (bk_length _ _) (by omega))) rfl rfl (fun D2 ⟨hF2, hzz, hs2⟩ => ?_)
                    refine T.y (fun w hw => Yl.move rfl) rfl rfl ?_
                    refine T.y (fun w hw => Yl.extract rfl rfl) rfl rfl ?_
                    refine T.y (fun w hw => Yl.extract rfl rfl) rfl rfl ?_
                    refine T.y (fun w hw => Yl.assign rfl) rfl rfl ?_
                    refine T.y (fun w hw => Yl.assign rfl) rfl rfl ?_
                    refine T.nil ?_
                    refine J.sel (.cons 0 rfl (.cons 1 rfl (.cons 2 rfl (.cons 7 rfl (.cons 9 rfl (.cons 14 rfl .nil)))))) ?_
                    refine X.then_ ?_
                    refine T.seq ?_
                    -- region 16 (law.go:309)
                    refine T.region ?_
                    refine T.y (fun w hw => Yl.move rfl) rfl rfl ?_
                    refine T.y (fun w hw => Yl.move rfl) rfl rfl ?_
                    refine T.y (fun w hw => Yl.move rfl) rfl rfl ?_
                    refine T.o (OpW.call en_42 rfl (readOut_ct hF2.ok rfl (by rw [hzz]; omega) (by rw [at_same hzz]; omega))) rfl rfl (fun ⟨B2, b2⟩ _ => ?_)
                    dsimp only
                    refine T.y (fun w hw => Yl.move rfl) rfl rfl ?_
                    refine T.y (fun w hw => Yl.extract rfl rfl) rfl rfl ?_
                    refine T.y (fun w hw => Yl.extract rfl rfl) rfl rfl ?_
                    refine T.y (fun w hw => Yl.assign rfl) rfl rfl ?_
                    refine T.y (fun w hw => Yl.assign rfl) rfl rfl ?_
                    refine T.nil ?_
                    refine J.sel (.cons 0 rfl (.cons 1 rfl (.cons 2 rfl (.cons 7 rfl (.cons 9 rfl (.cons 14 rfl (.cons 16 rfl .nil))))))) ?_
                    refine X.then_ ?_
                    refine T.seq ?_
                    refine T.seq ?_
                    -- region 17 (law.go:310)
                    refine T.region ?_
                    refine T.y (fun w hw => Yl.move rfl) rfl rfl ?_
                    refine T.y (fun w hw => Yl.neq rfl rfl) rfl rfl ?_
                    refine T.y (fun w hw => Yl.move rfl) rfl rfl ?_
                    refine T.splitD 95 rfl (fun h95 => ?_) (fun h95 => ?_)
                    · exfalso; (first | omega | (simp at *; done))
                    · skip
                      refine T.y (fun w hw => Yl.move rfl) rfl rfl ?_
                      refine T.y (fun w hw => Yl.neq rfl rfl) rfl rfl ?_
                      refine T.y (fun w hw => Yl.pickF rfl rfl) rfl rfl ?_
                      refine T.y (fun w hw => Yl.move rfl) rfl rfl ?_
                      refine T.splitD 99 rfl (fun h99 => ?_) (fun h99 => ?_)
                      · exfalso; (first | omega | (simp at *; done))
                      · skip
                        refine T.y (fun w hw => Yl.move rfl) rfl rfl ?_
                        refine T.y (fun w hw => Yl.move rfl) rfl rfl ?_
                        refine T.o (OpW.call en_38 rfl (resetF_ct (k := k) hF2 (by omega) rfl (by rw [hzz]; omega))) rfl rfl (fun D3 ⟨hF3, hzz3, hs3⟩ => ?_)
                        have hz83 : D3.zones.length = 8 := by rw [len_of_zones hzz3, hzz]; exact hz81
                        have hB3 : (D3.at k).blocks = [] := by rw [at_of_zones (by rw [hzz]; omega) hzz3, if_pos rfl]
                        refine T.y (fun w hw => Yl.neq rfl rfl) rfl rfl ?_
                        refine T.y (fun w hw => Yl.pickF rfl rfl) rfl rfl ?_
                        refine T.nil ?_
                        refine J.sel (.cons 0 rfl (.cons 1 rfl (.cons 2 rfl (.cons 7 rfl (.cons 9 rfl (.cons 104 rfl .nil)))))) ?_
                        refine X.then_ ?_
                        refine T.condD rfl (fun h104 => ?_) (fun h104 => ?_)
                        · exfalso; (first | omega | (simp at *; done))
                        · skip
                          refine T.skip ?_
                          refine X.then_ ?_
                          refine T.seq ?_
                          -- region 19 (law.go:313)
                          refine T.region ?_
                          refine T.y (fun w hw => Yl.move rfl) rfl rfl ?_
                          refine T.y (fun w hw => Yl.move rfl) rfl rfl ?_
                          refine T.o (OpW.call en_40 rfl (pointerF_ct hF3.ok rfl (by omega))) rfl rfl (fun _ _ => ?_)
                          rw [hB3]
                          refine T.y (fun w hw => Yl.move rfl) rfl rfl ?_
                          refine T.y (fun w hw => Yl.extract rfl rfl) rfl rfl ?_
                          refine T.y (fun w hw => Yl.extract rfl rfl) rfl rfl ?_
                          refine T.y (fun w hw => Yl.assign rfl) rfl rfl ?_
                          refine T.y (fun w hw => Yl.assign rfl) rfl rfl ?_
                          refine T.nil ?_
                          refine J.sel (.cons 0 rfl (.cons 1 rfl (.cons 2 rfl (.cons 7 rfl (.cons 9 rfl (.cons 17 rfl (.cons 18 rfl .nil))))))) ?_
                          refine X.then_ ?_
                          refine T.seq ?_
                          -- region 20 (law.go:314)
                          refine T.region ?_
                          refine T.y (fun w hw => Yl.move rfl) rfl rfl ?_
                          refine T.y (fun w hw => Yl.neq rfl rfl) rfl rfl ?_
                          refine T.y (fun w hw => Yl.move rfl) rfl rfl ?_
                          refine T.splitD 113 rfl (fun h113 => ?_) (fun h113 => ?_)
                          · exfalso; (first | omega | (simp at *; done))
                          · skip
                            refine T.y (fun w hw => Yl.move rfl) rfl rfl ?_
                            refine T.y (fun w hw => Yl.neq rfl rfl) rfl rfl ?_
                            refine T.y (fun w hw => Yl.pickF rfl rfl) rfl rfl ?_
                            refine T.nil ?_
                            refine J.sel (.cons 0 rfl (.cons 1 rfl (.cons 2 rfl (.cons 7 rfl (.cons 9 rfl (.cons 116 rfl .nil)))))) ?_
                            refine X.then_ ?_
                            refine T.condD rfl (fun h116 => ?_) (fun h116 => ?_)
                            · exfalso; (first | omega | (simp at *; done))
                            · skip
                              refine T.skip ?_
                              refine X.nm_blk ?_
                              refine X.then_ ?_
                              -- region 8 (law.go:301)
                              refine T.region ?_
                              refine T.y (fun w hw => Yl.move rfl) rfl rfl ?_
                              refine T.y (fun w hw => Yl.add rfl rfl (by omega)) rfl rfl ?_
                              refine T.y (fun w hw => Yl.assign rfl) rfl rfl ?_
                              refine T.nil ?_
                              refine J.sel (.cons 0 rfl (.cons 1 rfl (.cons 2 rfl (.cons 7 rfl (.cons 9 rfl .nil))))) ?_
                              have hj1 : m + S + 1 + 1 = (j + 1) * (S + 2) := by rw [Nat.succ_mul]; omega
                              have hj2 : (j + 1) * (S + 2) ≤ 4 * 194 := Nat.mul_le_mul (by omega) (by omega)
                              refine X.go (hzo (j + 1, m + S + 1 + 1, D3) ⟨by omega, hF3, hj1, by dsimp only; omega, hz83, by dsimp only; omega, hB3⟩ (by dsimp only; omega)) (.num 9 rfl (by omega) (.cons 0 rfl (.cons 1 rfl (.cons 2 rfl (.cons 7 rfl .nil))))) (fun w hw => ?_)
                              (refine hw.fin ?_ ?_; (focus ((repeat (first | exact Picks.refl | exact Picks.nil | (apply Picks.cons; (focus ((repeat (first | exact Pick.head | apply Pick.tail)); done))) | apply Picks.drop)); done)); (focus ((repeat (first | exact Ks.refl | exact Ks.nil | (apply Ks.cons; (focus ((repeat (first | assumption | exact List.Mem.head _ | apply List.Mem.tail)); done))) | apply Ks.drop)); done)))
                · skip
                  refine T.exit ?_
                  refine X.exit_then ?_
                  refine X.exit_then ?_
                  refine X.exit_blk ?_
                  refine X.then_ ?_
                  refine T.seq ?_
                  have hje : j = N := by omega
                  subst hje
                  -- region 22 (law.go:318)
                  refine T.region ?_
                  refine T.y (fun w hw => Yl.move rfl) rfl rfl ?_
                  refine T.o (OpW.call en_41 rfl (opsF_ct hF)) rfl rfl (fun _ _ => ?_)
                  refine T.y (fun w hw => Yl.move rfl) rfl rfl ?_
                  refine T.y (fun w hw => Yl.move rfl) rfl rfl ?_
                  refine T.y (fun w hw => Yl.add rfl rfl (by omega)) rfl rfl ?_
                  refine T.y (fun w hw => Yl.mul rfl rfl (by omega)) rfl rfl ?_
                  refine T.y (fun w hw => Yl.eql rfl rfl) rfl rfl ?_
                  refine T.y (fun w hw => Yl.move rfl) rfl rfl ?_
                  refine T.splitD 124 rfl (fun h124 => ?_) (fun h124 => ?_)
                  · skip
                    refine T.o (OpW.call en_34 rfl (awake_ct)) rfl rfl (fun x hx => ?_)
                    refine T.y (fun w hw => Yl.pickT rfl rfl) rfl rfl ?_
                    refine T.y (fun w hw => Yl.assign rfl) rfl rfl ?_
                    refine T.nil ?_
                    refine J.sel (.cons 6 rfl .nil) ?_
                    refine X.then_ ?_
                    refine T.ret ?_
                    refine X.ret1 Try.results6 rfl (fun w hw => ?_)
                    exact ⟨(), trivial, rfl, hw.fin (by (repeat (first | exact Picks.refl | exact Picks.nil | (apply Picks.cons; (focus ((repeat (first | exact Pick.head | apply Pick.tail)); done))) | apply Picks.drop))) (by (repeat (first | exact Ks.refl | exact Ks.nil | (apply Ks.cons; (focus ((repeat (first | assumption | exact List.Mem.head _ | apply List.Mem.tail)); done))) | apply Ks.drop)))⟩
                  · exfalso; (first | omega | (simp at *; done))

theorem zdevFull_walk {w : World} (p o n : Int) : Calls Try.prog 6 #[.int .i64 p, .int .i64 o, .int .i64 n] w fun e w' => e = .returned (.bool true) ∧ Below w.heap.size w w' :=
  law_of (vs := [.int .i64 p, .int .i64 o, .int .i64 n]) (K := []) (K' := []) full_ct (fun k hk' => by cases hk')

end Go.Proofs.Ytfpnodboebpemaa
