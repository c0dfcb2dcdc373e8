/- The contract of slot.Open. -/
import Derived.Test.YtfpnodboebpemaaSltE
namespace Go.Proofs.Ytfpnodboebpemaa
open Go.RowKit Go.Proofs.YtfpnodboebpemaaW.PrintWords
set_option linter.unusedVariables false
set_option linter.unusedSimpArgs false
def openV (r : Option Slt) (p : Nat) : Value := match r with | some _ => ptr p 0 | none => .pointer none
def openM (r : Option Slt) (p d S : Nat) (M : List HP) : List HP := match r with | some s => slotH p d S s :: M | none => M
attribute [local irreducible] pt rowH slK bytesK intsK rowsK rowsH cellK rowsV oldK star exH pureH knowH starL emp devH zoneH zonesH zrest cellsK viewV viewK viewH blkE slotH

set_option maxHeartbeats 2000000 in
theorem open_ct {M : List HP} {K : List KP} {d lo mid hi : Nat} {D : Dev} (hD : D.ok) (h1 : lo < mid) (h2 : mid < hi) (h3 : hi ≤ D.zones.length) : Fn 75 [ptr d 0, .int .i64 lo, .int .i64 mid, .int .i64 hi] (devH d D :: M) K (fun _ : Nat => True) (fun p => .tuple [openV (slotOpen D lo mid hi).1 p, .int .i64 (slotOpen D lo mid hi).2.2].toArray) (fun p => openM (slotOpen D lo mid hi).1 p d D.size (devH d (slotOpen D lo mid hi).2.1 :: M)) (fun _ => K) := by
 refine Fn.of (n := 89) Try.func75 rfl Try.ntmps75 rfl ?_
 have hz64 := hD.zones
 have hs192 := hD.size
 refine T.seq ?_
 -- region 0 (slot.go:30)
 refine T.region ?_
 refine T.y (fun w hw => Yl.assign rfl) rfl rfl ?_
 refine T.y (fun w hw => Yl.assign rfl) rfl rfl ?_
 refine T.nil ?_
 refine J.sel (.cons 0 rfl (.cons 1 rfl (.cons 2 rfl (.cons 3 rfl .nil)))) ?_
 refine X.then_ ?_
 refine T.seq ?_
 -- region 1 (slot.go:31)
 refine T.region ?_
 refine T.y (fun w hw => Yl.move rfl) rfl rfl ?_
 refine T.o (OpW.call en_64 rfl (geometry_ct hD)) rfl rfl (fun _ _ => ?_)
 refine T.o (OpW.alloc zr_42) rfl rfl (fun b10 _ => ?_)
 refine T.o0 (OpW.stA sz_42 rfl rfl rfl rfl sW uL) rfl (fun _ _ => ?_)
 refine T.nil ?_
 refine J.sel (.cons 0 rfl (.cons 1 rfl (.cons 2 rfl (.cons 3 rfl (.cons 10 rfl .nil))))) ?_
 refine X.then_ ?_
 refine T.seq ?_
 refine T.seq ?_
 -- region 2 (slot.go:32)
 refine T.region ?_
 refine T.y (fun w hw => Yl.fa fa_42_0 rfl) rfl rfl ?_
 refine T.y (fun w hw => Yl.ldP hw na_3 rfl mM rfl) rfl rfl ?_
 refine T.y (fun w hw => Yl.eql rfl rfl) rfl rfl ?_
 refine T.y (fun w hw => Yl.move rfl) rfl rfl ?_
 refine T.splitD 22 rfl (fun h22 => ?_) (fun h22 => ?_)
 · exfalso; (first | omega | (simp at *; done) | (simp at *; omega))
 ·skip
  refine T.y (fun w hw => Yl.move rfl) rfl rfl ?_
  refine T.y (fun w hw => Yl.lss rfl rfl) rfl rfl ?_
  refine T.y (fun w hw => Yl.pickF rfl rfl) rfl rfl ?_
  refine T.y (fun w hw => Yl.move rfl) rfl rfl ?_
  refine T.splitD 26 rfl (fun h26 => ?_) (fun h26 => ?_)
  · exfalso; (first | omega | (simp at *; done) | (simp at *; omega))
  ·skip
   refine T.y (fun w hw => Yl.move rfl) rfl rfl ?_
   refine T.y (fun w hw => Yl.move rfl) rfl rfl ?_
   refine T.y (fun w hw => Yl.leq rfl rfl) rfl rfl ?_
   refine T.y (fun w hw => Yl.pickF rfl rfl) rfl rfl ?_
   refine T.y (fun w hw => Yl.move rfl) rfl rfl ?_
   refine T.splitD 31 rfl (fun h31 => ?_) (fun h31 => ?_)
   · exfalso; (first | omega | (simp at *; done) | (simp at *; omega))
   ·skip
    refine T.y (fun w hw => Yl.move rfl) rfl rfl ?_
    refine T.y (fun w hw => Yl.move rfl) rfl rfl ?_
    refine T.y (fun w hw => Yl.leq rfl rfl) rfl rfl ?_
    refine T.y (fun w hw => Yl.pickF rfl rfl) rfl rfl ?_
    refine T.y (fun w hw => Yl.move rfl) rfl rfl ?_
    refine T.splitD 36 rfl (fun h36 => ?_) (fun h36 => ?_)
    · exfalso; (first | omega | (simp at *; done) | (simp at *; omega))
    ·skip
     refine T.y (fun w hw => Yl.move rfl) rfl rfl ?_
     refine T.y (fun w hw => Yl.fa fa_42_0 rfl) rfl rfl ?_
     refine T.y (fun w hw => Yl.ldP hw na_3 rfl mM rfl) rfl rfl ?_
     refine T.y (fun w hw => Yl.gtr rfl rfl) rfl rfl ?_
     refine T.y (fun w hw => Yl.pickF rfl rfl) rfl rfl ?_
     refine T.nil ?_
     refine J.sel (.cons 0 rfl (.cons 1 rfl (.cons 2 rfl (.cons 3 rfl (.cons 10 rfl (.cons 41 rfl .nil)))))) ?_
     refine X.then_ ?_
     refine T.condD rfl (fun h41 => ?_) (fun h41 => ?_)
     · exfalso; (first | omega | (simp at *; done) | (simp at *; omega))
     ·skip
      refine T.skip ?_
      refine X.then_ ?_
      refine T.seq ?_
      -- region 4 (slot.go:35)
      refine T.region ?_
      refine T.y (fun w hw => Yl.move rfl) rfl rfl ?_
      refine T.y (fun w hw => Yl.move rfl) rfl rfl ?_
      refine T.y (fun w hw => Yl.move rfl) rfl rfl ?_
      refine T.y (fun w hw => Yl.move rfl) rfl rfl ?_
      refine T.y (fun w hw => Yl.build rfl (bld_173_0_1_2 _)) rfl rfl ?_
      refine T.y (fun w hw => Yl.fa fa_42_1 rfl) rfl rfl ?_
      refine T.y (fun w hw => Yl.ldP hw na_3 rfl mM rfl) rfl rfl ?_
      refine T.y (fun w hw => Yl.build rfl (bld_175_0_1_2_3 _)) rfl rfl ?_
      refine T.o (OpW.box rfl) rfl rfl (fun b50 _ => ?_)
      refine T.y (fun w hw => Yl.assign rfl) rfl rfl ?_
      refine T.nil ?_
      have hpn := fun k (hk : k ≤ 2) => pick_inn (D := D) (lo := lo) (mid := mid) (hi := hi) k hk
      have hpl := fun k => pick_len hD (lo := lo) (mid := mid) (hi := hi) k
      refine J.ent (fun w hw => hw.bytesK_nil) ?_
      refine J.sel (.cons 0 rfl (.cons 11 rfl .nil)) ?_
      refine X.then_ ?_
      refine T.seq ?_
      refine T.seq ?_
      -- region 5 (slot.go:36)
      refine T.region ?_
      refine T.y (fun w hw => Yl.move rfl) rfl rfl ?_
      refine T.nil ?_
      refine X.then_ ?_
      refine T.block ?_
      refine T.loop (α := Nat × Option Addr × Nat) (fun u => u.1 ≤ 2 ∧ ∀ j, j < u.1 → (blkI D lo mid hi j).any (odd 3) = false) (fun u => [(51, .int .i64 (u.1 : Int)), (0, ptr d 0), (11, ptr b50 0)]) (fun u => pt b50 175 [ptr d 0, .int .i64 lo, .int .i64 mid, .int .i64 hi, .int .i64 D.size, .int .i64 (((pickTo D lo mid hi u.1)).1 : Int), .slice u.2.1 ((pickTo D lo mid hi u.1)).2.1.length u.2.2, .int .i64 ((pickTo D lo mid hi u.1)).2.2, .bool false] :: devH d D :: M) (fun u => bytesK u.2.1 u.2.2 (pickTo D lo mid hi u.1).2.1 :: K) (fun u => 2 - u.1) (0, none, 0) ⟨Nat.zero_le _, fun j hj => absurd hj (by omega)⟩ (.num 51 rfl rfl (.cons 0 rfl (.cons 11 rfl .nil))) (fun w hw => hw.f) ?_
      intro ⟨k, A, c⟩ ⟨hk, hno⟩ Zk hz2
      dsimp only at hk hno hz2 ⊢
      refine T.seq ?_
      -- region 6 (slot.go:36)
      refine T.region ?_
      refine T.y (fun w hw => Yl.lss rfl rfl) rfl rfl ?_
      refine T.nil ?_
      refine X.then_ ?_
      refine T.seq ?_
      refine T.condD rfl (fun h52 => ?_) (fun h52 => ?_)
      ·skip
       refine T.skip ?_
       refine X.then_ ?_
       refine T.seq ?_
       refine T.block ?_
       refine T.seq ?_
       -- region 7 (slot.go:36)
       refine T.region ?_
       refine T.y (fun w hw => Yl.move rfl) rfl rfl ?_
       refine T.y (fun w hw => Yl.assign rfl) rfl rfl ?_
       refine T.nil ?_
       refine J.sel (.cons 0 rfl (.cons 11 rfl (.cons 12 rfl (.cons 51 rfl .nil)))) ?_
       refine X.then_ ?_
       refine T.seq ?_
       have hkn := hpn k hk
       -- region 8 (slot.go:37)
       refine T.region ?_
       refine T.y (fun w hw => Yl.move rfl) rfl rfl ?_
       refine T.y (fun w hw => Yl.move rfl) rfl rfl ?_
       refine T.o (OpW.call en_124 rfl (blocksI_ct (i := k) hD (by omega) (by omega) h3 rfl (by omega))) rfl rfl (fun ⟨R, r⟩ _ => ?_)
       dsimp only
       refine T.y (fun w hw => Yl.assign rfl) rfl rfl ?_
       refine T.nil ?_
       refine J.sel (.cons 0 rfl (.cons 11 rfl (.cons 12 rfl (.cons 13 rfl (.cons 51 rfl .nil))))) ?_
       refine X.then_ ?_
       refine T.seq ?_
       refine T.seq ?_
       -- region 9 (slot.go:38)
       refine T.region ?_
       refine T.y (fun w hw => Yl.move rfl) rfl rfl ?_
       refine T.o (OpW.call en_108 rfl (anyR_ct (P := odd 3) en_125 (fun M K A c p hp hk => odd3_ct (blkI_64 hD hp) hk) mM)) rfl rfl (fun _ _ => ?_)
       refine T.nil ?_
       refine J.sel (.cons 0 rfl (.cons 11 rfl (.cons 12 rfl (.cons 13 rfl (.cons 51 rfl (.cons 58 rfl .nil)))))) ?_
       refine X.then_ ?_
       refine T.cond rfl (fun h58 => ?_) (fun h58 => ?_)
       ·skip
        refine T.seq ?_
        -- region 10 (slot.go:39)
        refine T.region ?_
        refine T.y (fun w hw => Yl.assign rfl) rfl rfl ?_
        refine T.y (fun w hw => Yl.assign rfl) rfl rfl ?_
        refine T.nil ?_
        refine J.sel (.cons 8 rfl (.cons 9 rfl .nil)) ?_
        refine X.then_ ?_
        refine T.ret ?_
        refine X.ret_then ?_
        refine X.ret_blk ?_
        refine X.ret_then ?_
        refine X.ret_then ?_
        refine X.ret_blk ?_
        refine X.ret_then ?_
        refine X.ret2 Try.results75 rfl rfl (fun w hw => ?_)
        rw [open_odd (by omega) h58]
        exact ⟨b50, trivial, rfl, hw.f⟩
       ·skip
        refine T.skip ?_
        refine X.then_ ?_
        refine T.seq ?_
        have hno2 : ∀ j, j < k + 1 → (blkI D lo mid hi j).any (odd 3) = false := fun j hj => by
          rcases Nat.lt_succ_iff_lt_or_eq.1 hj with hj | rfl
          · exact hno j hj
          · exact h58
        -- region 11 (slot.go:41)
        refine T.region ?_
        refine T.y (fun w hw => Yl.move rfl) rfl rfl ?_
        refine T.o (OpW.call en_126 rfl (sread_ct (l := blkI D lo mid hi k) mM (by have := blkI_len hD lo mid hi k; omega))) rfl rfl (fun ⟨A62, c62⟩ _ => ?_)
        dsimp only
        refine T.y (fun w hw => Yl.move rfl) rfl rfl ?_
        refine T.y (fun w hw => Yl.extract rfl rfl) rfl rfl ?_
        refine T.y (fun w hw => Yl.extract rfl rfl) rfl rfl ?_
        refine T.y (fun w hw => Yl.assign rfl) rfl rfl ?_
        refine T.y (fun w hw => Yl.assign rfl) rfl rfl ?_
        refine T.nil ?_
        refine J.sel (.cons 0 rfl (.cons 11 rfl (.cons 12 rfl (.cons 14 rfl (.cons 15 rfl (.cons 51 rfl .nil)))))) ?_
        refine X.then_ ?_
        refine T.seq ?_
        -- region 12 (slot.go:41)
        refine T.region ?_
        refine T.y (fun w hw => Yl.move rfl) rfl rfl ?_
        refine T.y (fun w hw => Yl.move rfl) rfl rfl ?_
        refine T.y (fun w hw => Yl.nilck rfl) rfl rfl ?_
        refine T.y (fun w hw => Yl.fa fa_175_5 rfl) rfl rfl ?_
        refine T.y (fun w hw => Yl.ldP hw na_3 rfl mM rfl) rfl rfl ?_
        refine T.y (fun w hw => Yl.gtr rfl rfl) rfl rfl ?_
        refine T.nil ?_
        refine J.sel (.cons 0 rfl (.cons 11 rfl (.cons 12 rfl (.cons 14 rfl (.cons 15 rfl (.cons 51 rfl (.cons 69 rfl .nil))))))) ?_
        refine X.then_ ?_
        refine T.condD rfl (fun h69 => ?_) (fun h69 => ?_)
        ·skip
         -- region 13 (slot.go:42)
         refine T.region ?_
         refine T.y (fun w hw => Yl.move rfl) rfl rfl ?_
         refine T.y (fun w hw => Yl.move rfl) rfl rfl ?_
         refine T.y (fun w hw => Yl.move rfl) rfl rfl ?_
         refine T.y (fun w hw => Yl.move rfl) rfl rfl ?_
         refine T.y (fun w hw => Yl.move rfl) rfl rfl ?_
         refine T.y (fun w hw => Yl.move rfl) rfl rfl ?_
         refine T.y (fun w hw => Yl.nilck rfl) rfl rfl ?_
         refine T.y (fun w hw => Yl.fa fa_175_3 rfl) rfl rfl ?_
         refine T.o0 (OpW.st1 sz_3 rfl rfl rfl rfl sW uP) rfl (fun _ _ => ?_)
         refine T.y (fun w hw => Yl.nilck rfl) rfl rfl ?_
         refine T.y (fun w hw => Yl.fa fa_175_4 rfl) rfl rfl ?_
         refine T.o0 (OpW.st1 sz_23 rfl rfl rfl rfl sW uP) rfl (fun _ _ => ?_)
         refine T.y (fun w hw => Yl.nilck rfl) rfl rfl ?_
         refine T.y (fun w hw => Yl.fa fa_175_5 rfl) rfl rfl ?_
         refine T.o0 (OpW.st1 sz_3 rfl rfl rfl rfl sW uP) rfl (fun _ _ => ?_)
         refine T.nil ?_
         refine J.sel (.cons 0 rfl (.cons 11 rfl (.cons 51 rfl .nil))) ?_
         refine X.nm_blk ?_
         refine X.then_ ?_
         -- region 14 (slot.go:36)
         refine T.region ?_
         refine T.y (fun w hw => Yl.add rfl rfl (by omega)) rfl rfl ?_
         refine T.y (fun w hw => Yl.move rfl) rfl rfl ?_
         refine T.nil ?_
         refine J.sel (.cons 0 rfl (.cons 11 rfl (.cons 51 rfl .nil))) ?_
         first
           | (refine X.go (hz2 (k + 1, A62, c62) ⟨by dsimp only; omega, hno2⟩ (by dsimp only; omega)) (.num 51 rfl (by omega) (.cons 0 rfl (.cons 11 rfl .nil))) (fun w hw => ?_)
              rw [pick_yes (by assumption)]
              exact hw.f)
           | (refine X.go (hz2 (k + 1, A, c) ⟨by dsimp only; omega, hno2⟩ (by dsimp only; omega)) (.num 51 rfl (by omega) (.cons 0 rfl (.cons 11 rfl .nil))) (fun w hw => ?_)
              rw [pick_no (by assumption)]
              exact hw.f)
        ·skip
         refine T.skip ?_
         refine X.nm_blk ?_
         refine X.then_ ?_
         -- region 14 (slot.go:36)
         refine T.region ?_
         refine T.y (fun w hw => Yl.add rfl rfl (by omega)) rfl rfl ?_
         refine T.y (fun w hw => Yl.move rfl) rfl rfl ?_
         refine T.nil ?_
         refine J.sel (.cons 0 rfl (.cons 11 rfl (.cons 51 rfl .nil))) ?_
         first
           | (refine X.go (hz2 (k + 1, A62, c62) ⟨by dsimp only; omega, hno2⟩ (by dsimp only; omega)) (.num 51 rfl (by omega) (.cons 0 rfl (.cons 11 rfl .nil))) (fun w hw => ?_)
              rw [pick_yes (by assumption)]
              exact hw.f)
           | (refine X.go (hz2 (k + 1, A, c) ⟨by dsimp only; omega, hno2⟩ (by dsimp only; omega)) (.num 51 rfl (by omega) (.cons 0 rfl (.cons 11 rfl .nil))) (fun w hw => ?_)
              rw [pick_no (by assumption)]
              exact hw.f)
      ·skip
       refine T.exit ?_
       refine X.exit_then ?_
       refine X.exit_then ?_
       refine X.exit_blk ?_
       refine X.then_ ?_
       refine T.seq ?_
       refine T.seq ?_
       have hk2 : k = 2 := by omega
       subst hk2
       have hfin := hpn 2 (by omega)
       -- region 15 (slot.go:45)
       refine T.region ?_
       refine T.y (fun w hw => Yl.move rfl) rfl rfl ?_
       refine J.pick (p := devH d D) pK ?_
       refine T.o (OpW.call en_67 rfl (flush_ct hD)) rfl rfl (fun _ _ => ?_)
       refine T.y (fun w hw => Yl.assign rfl) rfl rfl ?_
       refine T.nil ?_
       refine J.sel (.cons 11 rfl (.cons 16 rfl .nil)) ?_
       refine X.then_ ?_
       refine T.seq ?_
       -- region 16 (slot.go:45)
       refine T.region ?_
       refine T.y (fun w hw => Yl.move rfl) rfl rfl ?_
       refine T.y (fun w hw => Yl.neq rfl rfl) rfl rfl ?_
       refine T.nil ?_
       refine J.sel (.cons 11 rfl (.cons 16 rfl (.cons 86 rfl .nil))) ?_
       refine X.then_ ?_
       refine T.condD rfl (fun h86 => ?_) (fun h86 => ?_)
       ·skip
        refine T.seq ?_
        -- region 17 (slot.go:46)
        refine T.region ?_
        refine T.y (fun w hw => Yl.move rfl) rfl rfl ?_
        refine T.y (fun w hw => Yl.assign rfl) rfl rfl ?_
        refine T.y (fun w hw => Yl.assign rfl) rfl rfl ?_
        refine T.nil ?_
        refine J.sel (.cons 8 rfl (.cons 9 rfl .nil)) ?_
        refine X.then_ ?_
        refine T.ret ?_
        refine X.ret_then ?_
        refine X.ret2 Try.results75 rfl rfl (fun w hw => ?_)
        rw [open_off hno h86]
        exact ⟨b50, trivial, rfl, hw.f⟩
       ·skip
        refine T.skip ?_
        refine X.then_ ?_
        refine T.seq ?_
        -- region 18 (slot.go:48)
        refine T.region ?_
        refine T.y (fun w hw => Yl.move rfl) rfl rfl ?_
        refine T.y (fun w hw => Yl.assign rfl) rfl rfl ?_
        refine T.y (fun w hw => Yl.assign rfl) rfl rfl ?_
        refine T.nil ?_
        refine J.sel (.cons 8 rfl (.cons 9 rfl .nil)) ?_
        refine X.then_ ?_
        refine T.ret ?_
        refine X.ret2 Try.results75 rfl rfl (fun w hw => ?_)
        rw [open_yes hno h86]
        refine ⟨b50, trivial, rfl, ?_⟩
        have hcn : (((pickTo D lo mid hi 2).2.2.toNat : Nat) : Int) = (pickTo D lo mid hi 2).2.2 := by omega
        have hw2 : Hold w (pt b50 175 (sltCells (slotOf D lo mid hi) d D.size A c) :: devH d D.flush.1 :: M) (bytesK A c (pickTo D lo mid hi 2).2.1 :: K) := by
          unfold sltCells slotOf
          dsimp only
          rw [hcn]
          exact hw.f
        have hw := Hold.slotC (s := slotOf D lo mid hi) hw2 (List.mem_cons_self)
        exact hw.f

end Go.Proofs.Ytfpnodboebpemaa
