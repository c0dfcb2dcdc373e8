/- SlotPlays. -/
import Derived.Test.YtfpnodboebpemaaSltX
namespace Go.Proofs.Ytfpnodboebpemaa
open Go.RowKit Go.Proofs.YtfpnodboebpemaaW.PrintWords
set_option linter.unusedVariables false
set_option linter.unusedSimpArgs false
theorem saveAnyW_ct {M : List HP} {K : List KP} {p d c lo mid hi inn n R : Nat} {A : Option Addr} {D : Dev} {t t' : List Int} (hF : Fit D) (h : Inv D lo mid hi inn t n) (hg : lo < mid ∧ mid < hi ∧ hi ≤ 8) (ht : t.length ≤ 1000000) (hn : n < 1000000) (hp : bytesK A c t' ∈ K) (hB : IsB t') (ht' : t'.length ≤ 1000000) (hR : R = 40 * (min (mid - lo) (hi - mid) * 96 - 2)) :
    Fn 77 [ptr p 0, .slice A t'.length c] (slotH p d 96 (slt lo mid hi inn t n) :: devH d D :: M) K (fun x : Nat × List Int × Nat × Dev × Int => Fit x.2.2.2.1 ∧ Inv x.2.2.2.1 lo mid hi x.1 x.2.1 x.2.2.1 ∧ ((R < t'.length ∧ x.1 = inn ∧ x.2.1 = t ∧ x.2.2.1 = n ∧ x.2.2.2.1 = D ∧ x.2.2.2.2 = 7) ∨ (t'.length ≤ R ∧ x.2.1 = t' ∧ x.2.2.1 = n + 1 ∧ x.2.2.2.2 = 0))) (fun x => .int .i64 x.2.2.2.2) (fun x => slotH p d 96 (slt lo mid hi x.1 x.2.1 x.2.2.1) :: devH d x.2.2.2.1 :: M) (fun _ => K) := by
  by_cases hb : R < t'.length
  · exact (saveBigW_ct hF h.has.inn hg ht (by omega) ht' hp (by omega)).pure fun x _ => ⟨(inn, t, n, D, 7), ⟨hF, h, .inl ⟨hb, rfl, rfl, rfl, rfl, rfl⟩⟩, rfl, rfl, rfl⟩
  · exact (saveW_ct hF h hg ht hn hp hB (by omega)).pure fun D' hx => ⟨(1 - inn, t', n + 1, D', 0), ⟨hx.1, hx.2.1, .inr ⟨by omega, rfl, rfl, rfl⟩⟩, rfl, rfl, rfl⟩
attribute [local irreducible] pt rowH slK bytesK intsK rowsK rowsH cellK rowsV oldK star exH pureH knowH starL emp devH zoneH zonesH zrest cellsK viewV viewK viewH blkE slotH

set_option maxHeartbeats 2000000 in
theorem slotPlays_ct {M : List HP} {K : List KP} {S : Option Addr} {sc : Nat} {xs : List Int} {p o : Int} (hs : intsK S sc xs ∈ K) : Fn 19 [.int .i64 p, .int .i64 o, .slice S xs.length sc] M K (fun _ : Unit => True) (fun _ => .bool true) (fun _ => M) (fun _ => K) := by
 refine Fn.of (n := 157) Try.func19 rfl Try.ntmps19 rfl ?_
 refine T.seq ?_
 -- region 0 (law.go:36)
 refine T.region ?_
 refine T.y (fun w hw => Yl.assign rfl) rfl rfl ?_
 refine T.nil ?_
 refine J.sel (.cons 0 rfl (.cons 1 rfl (.cons 2 rfl .nil))) ?_
 refine X.then_ ?_
 refine T.seq ?_
 refine T.seq ?_
 -- region 1 (law.go:37)
 refine T.region ?_
 refine T.y (fun w hw => Yl.move rfl) rfl rfl ?_
 refine T.y (fun w hw => Yl.len Try.underlying37 rfl) rfl rfl ?_
 refine T.y (fun w hw => Yl.gtr rfl rfl) rfl rfl ?_
 refine T.y (fun w hw => Yl.move rfl) rfl rfl ?_
 refine T.splitD 27 rfl (fun h27 => ?_) (fun h27 => ?_)
 ·skip
  refine T.off rfl rfl rfl ?_
  refine T.off rfl rfl rfl ?_
  refine T.y (fun w hw => Yl.pickT rfl rfl) rfl rfl ?_
  refine T.y (fun w hw => Yl.move rfl) rfl rfl ?_
  refine T.off rfl rfl rfl ?_
  refine T.off rfl rfl rfl ?_
  refine T.off rfl rfl rfl ?_
  refine T.y (fun w hw => Yl.pickT rfl rfl) rfl rfl ?_
  refine T.y (fun w hw => Yl.move rfl) rfl rfl ?_
  refine T.off rfl rfl rfl ?_
  refine T.off rfl rfl rfl ?_
  refine T.y (fun w hw => Yl.pickT rfl rfl) rfl rfl ?_
  refine T.nil ?_
  refine J.sel (.cons 0 rfl (.cons 1 rfl (.cons 2 rfl (.cons 39 rfl .nil)))) ?_
  refine X.then_ ?_
  refine T.condT rfl ?_
  refine T.seq ?_
  -- region 2 (law.go:38)
  refine T.region ?_
  refine T.o (OpW.call en_73 rfl (awake19_ct)) rfl rfl (fun x hx => ?_)
  refine T.y (fun w hw => Yl.assign rfl) rfl rfl ?_
  refine T.nil ?_
  refine J.sel (.cons 6 rfl .nil) ?_
  refine X.then_ ?_
  refine T.ret ?_
  refine X.ret_then ?_
  refine X.ret1 Try.results19 rfl (fun w hw => ?_)
  exact ⟨(), trivial, by simp, hw.f⟩
 ·skip
  refine T.y (fun w hw => Yl.move rfl) rfl rfl ?_
  refine T.y (fun w hw => Yl.lss rfl rfl) rfl rfl ?_
  refine T.y (fun w hw => Yl.pickF rfl rfl) rfl rfl ?_
  refine T.y (fun w hw => Yl.move rfl) rfl rfl ?_
  refine T.splitD 31 rfl (fun h31 => ?_) (fun h31 => ?_)
  ·skip
   refine T.off rfl rfl rfl ?_
   refine T.off rfl rfl rfl ?_
   refine T.off rfl rfl rfl ?_
   refine T.y (fun w hw => Yl.pickT rfl rfl) rfl rfl ?_
   refine T.y (fun w hw => Yl.move rfl) rfl rfl ?_
   refine T.off rfl rfl rfl ?_
   refine T.off rfl rfl rfl ?_
   refine T.y (fun w hw => Yl.pickT rfl rfl) rfl rfl ?_
   refine T.nil ?_
   refine J.sel (.cons 0 rfl (.cons 1 rfl (.cons 2 rfl (.cons 39 rfl .nil)))) ?_
   refine X.then_ ?_
   refine T.condT rfl ?_
   refine T.seq ?_
   -- region 2 (law.go:38)
   refine T.region ?_
   refine T.o (OpW.call en_73 rfl (awake19_ct)) rfl rfl (fun x hx => ?_)
   refine T.y (fun w hw => Yl.assign rfl) rfl rfl ?_
   refine T.nil ?_
   refine J.sel (.cons 6 rfl .nil) ?_
   refine X.then_ ?_
   refine T.ret ?_
   refine X.ret_then ?_
   refine X.ret1 Try.results19 rfl (fun w hw => ?_)
   exact ⟨(), trivial, by simp, hw.f⟩
  ·skip
   refine T.y (fun w hw => Yl.move rfl) rfl rfl ?_
   refine T.y (fun w hw => Yl.move rfl) rfl rfl ?_
   refine T.y (fun w hw => Yl.geq rfl rfl) rfl rfl ?_
   refine T.y (fun w hw => Yl.pickF rfl rfl) rfl rfl ?_
   refine T.y (fun w hw => Yl.move rfl) rfl rfl ?_
   refine T.splitD 36 rfl (fun h36 => ?_) (fun h36 => ?_)
   ·skip
    refine T.off rfl rfl rfl ?_
    refine T.off rfl rfl rfl ?_
    refine T.y (fun w hw => Yl.pickT rfl rfl) rfl rfl ?_
    refine T.nil ?_
    refine J.sel (.cons 0 rfl (.cons 1 rfl (.cons 2 rfl (.cons 39 rfl .nil)))) ?_
    refine X.then_ ?_
    refine T.condT rfl ?_
    refine T.seq ?_
    -- region 2 (law.go:38)
    refine T.region ?_
    refine T.o (OpW.call en_73 rfl (awake19_ct)) rfl rfl (fun x hx => ?_)
    refine T.y (fun w hw => Yl.assign rfl) rfl rfl ?_
    refine T.nil ?_
    refine J.sel (.cons 6 rfl .nil) ?_
    refine X.then_ ?_
    refine T.ret ?_
    refine X.ret_then ?_
    refine X.ret1 Try.results19 rfl (fun w hw => ?_)
    exact ⟨(), trivial, by simp, hw.f⟩
   ·skip
    refine T.y (fun w hw => Yl.move rfl) rfl rfl ?_
    refine T.y (fun w hw => Yl.gtr rfl rfl) rfl rfl ?_
    refine T.y (fun w hw => Yl.pickF rfl rfl) rfl rfl ?_
    refine T.nil ?_
    refine J.sel (.cons 0 rfl (.cons 1 rfl (.cons 2 rfl (.cons 39 rfl .nil)))) ?_
    refine X.then_ ?_
    refine T.condD rfl (fun h39 => ?_) (fun h39 => ?_)
    ·skip
     refine T.seq ?_
     -- region 2 (law.go:38)
     refine T.region ?_
     refine T.o (OpW.call en_73 rfl (awake19_ct)) rfl rfl (fun x hx => ?_)
     refine T.y (fun w hw => Yl.assign rfl) rfl rfl ?_
     refine T.nil ?_
     refine J.sel (.cons 6 rfl .nil) ?_
     refine X.then_ ?_
     refine T.ret ?_
     refine X.ret_then ?_
     refine X.ret1 Try.results19 rfl (fun w hw => ?_)
     exact ⟨(), trivial, by simp, hw.f⟩
    ·skip
     refine T.skip ?_
     refine X.then_ ?_
     refine T.seq ?_
     obtain ⟨mid, rfl⟩ : ∃ m : Nat, p = m := ⟨p.toNat, by omega⟩
     obtain ⟨hi, rfl⟩ : ∃ m : Nat, o = m := ⟨o.toNat, by omega⟩
     obtain ⟨R, hR⟩ : ∃ R, R = 40 * (min (mid - 0) (hi - mid) * 96 - 2) := ⟨_, rfl⟩
     have hg : 0 < mid ∧ mid < hi ∧ hi ≤ 8 := by omega
     -- region 3 (law.go:40)
     refine T.region ?_
     refine T.o (OpW.call en_74 rfl (dev_ct)) rfl rfl (fun d _ => ?_)
     refine T.y (fun w hw => Yl.move rfl) rfl rfl ?_
     refine T.y (fun w hw => Yl.extract rfl rfl) rfl rfl ?_
     refine T.y (fun w hw => Yl.extract rfl rfl) rfl rfl ?_
     refine T.y (fun w hw => Yl.assign rfl) rfl rfl ?_
     refine T.y (fun w hw => Yl.assign rfl) rfl rfl ?_
     refine T.nil ?_
     refine J.sel (.cons 0 rfl (.cons 1 rfl (.cons 2 rfl (.cons 7 rfl (.cons 8 rfl .nil))))) ?_
     refine X.then_ ?_
     refine T.seq ?_
     refine T.seq ?_
     -- region 4 (law.go:41)
     refine T.region ?_
     refine T.y (fun w hw => Yl.move rfl) rfl rfl ?_
     refine T.y (fun w hw => Yl.not rfl) rfl rfl ?_
     refine T.nil ?_
     refine J.sel (.cons 0 rfl (.cons 1 rfl (.cons 2 rfl (.cons 7 rfl (.cons 46 rfl .nil))))) ?_
     refine X.then_ ?_
     refine T.condF rfl ?_
     refine T.skip ?_
     refine X.then_ ?_
     refine T.seq ?_
     -- region 6 (law.go:44)
     refine T.region ?_
     refine T.y (fun w hw => Yl.move rfl) rfl rfl ?_
     refine T.y (fun w hw => Yl.move rfl) rfl rfl ?_
     refine T.y (fun w hw => Yl.move rfl) rfl rfl ?_
     refine T.o (OpW.call en_75 rfl (openW_ct (lo := 0) (mid := mid) (hi := hi) Fit.new (new_inv 0 mid hi) hg rfl rfl rfl)) rfl rfl (fun ⟨q0, D0⟩ ⟨hF0, hI0, _⟩ => ?_)
     dsimp only
     dsimp only at hF0 hI0
     refine T.y (fun w hw => Yl.move rfl) rfl rfl ?_
     refine T.y (fun w hw => Yl.extract rfl rfl) rfl rfl ?_
     refine T.y (fun w hw => Yl.extract rfl rfl) rfl rfl ?_
     refine T.y (fun w hw => Yl.assign rfl) rfl rfl ?_
     refine T.y (fun w hw => Yl.assign rfl) rfl rfl ?_
     refine T.nil ?_
     refine J.sel (.cons 0 rfl (.cons 1 rfl (.cons 2 rfl (.cons 7 rfl (.cons 9 rfl (.cons 10 rfl .nil)))))) ?_
     refine X.then_ ?_
     refine T.seq ?_
     refine T.seq ?_
     -- region 7 (law.go:45)
     refine T.region ?_
     refine T.y (fun w hw => Yl.move rfl) rfl rfl ?_
     refine T.y (fun w hw => Yl.neq rfl rfl) rfl rfl ?_
     refine T.y (fun w hw => Yl.move rfl) rfl rfl ?_
     refine T.y (fun w hw => Yl.move rfl) rfl rfl ?_
     refine T.y (fun w hw => Yl.eqP Try.underlying112 rfl rfl) rfl rfl ?_
     refine T.y (fun w hw => Yl.pickF rfl rfl) rfl rfl ?_
     refine T.nil ?_
     refine J.sel (.cons 0 rfl (.cons 1 rfl (.cons 2 rfl (.cons 7 rfl (.cons 9 rfl (.cons 59 rfl .nil)))))) ?_
     refine X.then_ ?_
     refine T.condF rfl ?_
     refine T.skip ?_
     refine X.then_ ?_
     refine T.seq ?_
     -- region 9 (law.go:48)
     refine T.region ?_
     refine T.y (fun w hw => Yl.move rfl) rfl rfl ?_
     refine T.y (fun w hw => Yl.move rfl) rfl rfl ?_
     refine T.y (fun w hw => Yl.move rfl) rfl rfl ?_
     refine T.y (fun w hw => Yl.sub rfl rfl (by omega)) rfl rfl ?_
     refine T.y (fun w hw => Yl.min rfl rfl) rfl rfl ?_
     refine T.y (fun w hw => Yl.mul rfl rfl (by omega)) rfl rfl ?_
     refine T.y (fun w hw => Yl.sub rfl rfl (by omega)) rfl rfl ?_
     refine T.y (fun w hw => Yl.mul rfl rfl (by omega)) rfl rfl ?_
     refine T.y (fun w hw => Yl.assign rfl) rfl rfl ?_
     refine T.nil ?_
     refine J.sel (.cons 0 rfl (.cons 1 rfl (.cons 2 rfl (.cons 7 rfl (.cons 9 rfl (.cons 11 rfl .nil)))))) ?_
     refine X.then_ ?_
     refine T.seq ?_
     refine T.seq ?_
     rw [show (40 * ((if (hi : Int) - (mid : Int) < (mid : Int) then (hi : Int) - (mid : Int) else (mid : Int)) * 96 - 2)) = (R : Int) from by split <;> omega]
     -- region 10 (law.go:49)
     refine T.region ?_
     refine T.y (fun w hw => Yl.move rfl) rfl rfl ?_
     refine T.o (OpW.call en_76 rfl (roomW_ct (lo := 0) (mid := mid) (hi := hi) hF0 hg (by omega) (by simp) (by omega))) rfl rfl (fun _ _ => ?_)
     rw [← hR]
     refine T.y (fun w hw => Yl.move rfl) rfl rfl ?_
     refine T.y (fun w hw => Yl.neq rfl rfl) rfl rfl ?_
     refine T.nil ?_
     refine J.sel (.cons 0 rfl (.cons 1 rfl (.cons 2 rfl (.cons 7 rfl (.cons 9 rfl (.cons 11 rfl (.cons 71 rfl .nil))))))) ?_
     refine X.then_ ?_
     refine T.condD rfl (fun h71 => ?_) (fun h71 => ?_)
     · exfalso; (first | omega | contradiction | (rcases hc1 with ⟨g1, g2⟩ | ⟨g1, g2, g3, g4⟩ <;> simp_all <;> omega) | simp_all)
     ·skip
      refine T.skip ?_
      refine X.then_ ?_
      refine T.seq ?_
      -- region 12 (law.go:52)
      refine T.region ?_
      refine T.y (fun w hw => Yl.assign rfl) rfl rfl ?_
      refine T.nil ?_
      refine J.sel (.cons 0 rfl (.cons 1 rfl (.cons 2 rfl (.cons 7 rfl (.cons 9 rfl (.cons 11 rfl (.cons 12 rfl .nil))))))) ?_
      refine X.then_ ?_
      refine T.seq ?_
      -- region 13 (law.go:53)
      refine T.region ?_
      refine T.y (fun w hw => Yl.assign rfl) rfl rfl ?_
      refine T.nil ?_
      refine X.then_ ?_
      refine T.seq ?_
      refine T.seq ?_
      refine J.ent (fun w hw => hw.bytesK_nil) ?_
      -- region 14 (law.go:54)
      refine T.region ?_
      refine T.y (fun w hw => Yl.assign rfl) rfl rfl ?_
      refine T.nil ?_
      refine X.then_ ?_
      refine T.block ?_
      refine T.loop (α := Nat × Nat × Nat × List Int × Dev × Nat × Option Addr × Nat) (fun u => u.1 ≤ xs.length ∧ Fit u.2.2.2.2.1 ∧ Inv u.2.2.2.2.1 0 mid hi u.2.2.1 u.2.2.2.1 u.2.1 ∧ u.2.2.2.1.length ≤ R ∧ u.2.1 ≤ u.1) (fun u => [(9, ptr u.2.2.2.2.2.1 0), (12, .slice u.2.2.2.2.2.2.1 u.2.2.2.1.length u.2.2.2.2.2.2.2), (13, .int .i64 (u.2.1 : Int)), (14, .int .i64 (u.1 : Int)), (0, .int .i64 (mid : Int)), (1, .int .i64 (hi : Int)), (2, .slice S xs.length sc), (7, ptr d 0), (11, .int .i64 (R : Int))]) (fun u => slotH u.2.2.2.2.2.1 d 96 (slt 0 mid hi u.2.2.1 u.2.2.2.1 u.2.1) :: devH d u.2.2.2.2.1 :: M) (fun u => bytesK u.2.2.2.2.2.2.1 u.2.2.2.2.2.2.2 u.2.2.2.1 :: K) (fun u => xs.length - u.1) (0, 0, 1, [], D0, q0, none, 0) ⟨Nat.zero_le _, hF0, hI0, Nat.zero_le _, Nat.le_refl _⟩ (.cons 9 rfl (.cons 12 rfl (.num 13 rfl rfl (.num 14 rfl rfl (.cons 0 rfl (.cons 1 rfl (.cons 2 rfl (.cons 7 rfl (.cons 11 rfl .nil))))))))) (fun w hw => hw.f) ?_
      intro ⟨i, n, inn, want, D, q, A, c⟩ ⟨hi1, hF, hI, hw1, hn1⟩ Zk hzo
      dsimp only at hi1 hF hI hw1 hn1 hzo ⊢
      refine T.seq ?_
      refine T.seq ?_
      -- region 15 (law.go:54)
      refine T.region ?_
      refine T.y (fun w hw => Yl.move rfl) rfl rfl ?_
      refine T.y (fun w hw => Yl.move rfl) rfl rfl ?_
      refine T.y (fun w hw => Yl.len Try.underlying37 rfl) rfl rfl ?_
      refine T.y (fun w hw => Yl.lss rfl rfl) rfl rfl ?_
      refine T.nil ?_
      refine J.sel (.cons 0 rfl (.cons 1 rfl (.cons 2 rfl (.cons 7 rfl (.cons 9 rfl (.cons 11 rfl (.cons 12 rfl (.cons 13 rfl (.cons 14 rfl (.cons 75 rfl .nil)))))))))) ?_
      refine X.then_ ?_
      refine T.condD rfl (fun h75 => ?_) (fun h75 => ?_)
      ·skip
       refine T.skip ?_
       refine X.then_ ?_
       refine T.seq ?_
       refine T.block ?_
       refine T.seq ?_
       -- region 17 (law.go:55)
       refine T.region ?_
       refine T.y (fun w hw => Yl.move rfl) rfl rfl ?_
       refine T.y (fun w hw => Yl.move rfl) rfl rfl ?_
       refine T.y (fun w hw => Yl.ia1 (i := i) sC Try.underlying37 isz_3 rfl rfl rfl (by omega)) rfl rfl ?_
       refine T.y (fun w hw => (by first | exact Yl.ldC hw na_3 rfl mM | exact Yl.ldI hw mM na_3 rfl (by omega) | exact Yl.ldR sC na_3 rfl (by assumption) | exact Yl.ldV hw na_3 rfl mM rfl)) rfl rfl ?_
       refine T.o (OpW.call en_37 rfl (round_ct (by omega) (by omega))) rfl rfl (fun x hx => ?_)
       refine T.y (fun w hw => Yl.assign rfl) rfl rfl ?_
       refine T.nil ?_
       refine J.sel (.cons 0 rfl (.cons 1 rfl (.cons 2 rfl (.cons 7 rfl (.cons 9 rfl (.cons 11 rfl (.cons 12 rfl (.cons 13 rfl (.cons 14 rfl (.cons 15 rfl .nil)))))))))) ?_
       refine X.then_ ?_
       refine T.cut (α := Nat) (φ := fun u => u ≤ 100000) (Ec := fun u => [(15, .int .i64 (u : Int)), (0, .int .i64 (mid : Int)), (1, .int .i64 (hi : Int)), (2, .slice S xs.length sc), (7, ptr d 0), (9, ptr q 0), (11, .int .i64 (R : Int)), (12, .slice A want.length c), (13, .int .i64 (n : Int)), (14, .int .i64 (i : Int))]) (Mc := fun u => slotH q d 96 (slt 0 mid hi inn want n) :: devH d D :: M) (Kc := fun u => bytesK A c want :: K) ?_ ?_
       ·intro Zk hz3
        refine T.seq ?_
        -- region 18 (law.go:56)
        refine T.region ?_
        refine T.y (fun w hw => Yl.move rfl) rfl rfl ?_
        refine T.y (fun w hw => Yl.rem rfl rfl (by omega)) rfl rfl ?_
        refine T.y (fun w hw => Yl.eql rfl rfl) rfl rfl ?_
        refine T.nil ?_
        refine J.sel (.cons 0 rfl (.cons 1 rfl (.cons 2 rfl (.cons 7 rfl (.cons 9 rfl (.cons 11 rfl (.cons 12 rfl (.cons 13 rfl (.cons 14 rfl (.cons 15 rfl (.cons 85 rfl .nil))))))))))) ?_
        refine X.then_ ?_
        refine T.condD rfl (fun h85 => ?_) (fun h85 => ?_)
        ·skip
         -- region 19 (law.go:57)
         refine T.region ?_
         refine T.y (fun w hw => Yl.move rfl) rfl rfl ?_
         refine T.y (fun w hw => Yl.move rfl) rfl rfl ?_
         refine T.y (fun w hw => Yl.move rfl) rfl rfl ?_
         refine T.y (fun w hw => Yl.ia1 (i := i) sC Try.underlying37 isz_3 rfl rfl rfl (by omega)) rfl rfl ?_
         refine T.y (fun w hw => (by first | exact Yl.ldC hw na_3 rfl mM | exact Yl.ldI hw mM na_3 rfl (by omega) | exact Yl.ldR sC na_3 rfl (by assumption) | exact Yl.ldV hw na_3 rfl mM rfl)) rfl rfl ?_
         refine T.o (OpW.call en_37 rfl (round_ct (by omega) (by omega))) rfl rfl (fun x hx => ?_)
         refine T.y (fun w hw => Yl.add rfl rfl (by omega)) rfl rfl ?_
         refine T.y (fun w hw => Yl.sub rfl rfl (by omega)) rfl rfl ?_
         refine T.y (fun w hw => Yl.assign rfl) rfl rfl ?_
         refine T.nil ?_
         refine J.sel (.cons 0 rfl (.cons 1 rfl (.cons 2 rfl (.cons 7 rfl (.cons 9 rfl (.cons 11 rfl (.cons 12 rfl (.cons 13 rfl (.cons 14 rfl (.cons 15 rfl .nil)))))))))) ?_
         refine X.go (hz3 ((R : Int) + rd xs i % 3 - 1).toNat (by omega)) (.num 15 rfl (by omega) (.cons 0 rfl (.cons 1 rfl (.cons 2 rfl (.cons 7 rfl (.cons 9 rfl (.cons 11 rfl (.cons 12 rfl (.cons 13 rfl (.cons 14 rfl .nil)))))))))) (fun w hw => ?_)
         exact hw.f
        ·skip
         refine T.skip ?_
         refine X.go (hz3 (rd xs i % 4000).toNat (by omega)) (.num 15 rfl (by omega) (.cons 0 rfl (.cons 1 rfl (.cons 2 rfl (.cons 7 rfl (.cons 9 rfl (.cons 11 rfl (.cons 12 rfl (.cons 13 rfl (.cons 14 rfl .nil)))))))))) (fun w hw => ?_)
         exact hw.f
       ·intro k hk
        refine T.seq ?_
        -- region 20 (law.go:59)
        refine T.region ?_
        refine T.y (fun w hw => Yl.move rfl) rfl rfl ?_
        refine T.y (fun w hw => Yl.move rfl) rfl rfl ?_
        refine T.o (OpW.call en_29 rfl (block_ct k rfl (by omega))) rfl rfl (fun ⟨B, b⟩ _ => ?_)
        dsimp only
        refine T.y (fun w hw => Yl.assign rfl) rfl rfl ?_
        refine T.nil ?_
        refine J.sel (.cons 0 rfl (.cons 1 rfl (.cons 2 rfl (.cons 7 rfl (.cons 9 rfl (.cons 11 rfl (.cons 12 rfl (.cons 13 rfl (.cons 14 rfl (.cons 15 rfl (.cons 16 rfl .nil))))))))))) ?_
        refine X.then_ ?_
        refine T.seq ?_
        have hbl := bk_length k (i : Int)
        -- region 21 (law.go:60)
        refine T.region ?_
        refine T.y (fun w hw => Yl.move rfl) rfl rfl ?_
        refine T.y (fun w hw => Yl.move rfl) rfl rfl ?_
        refine T.o (OpW.call en_77 rfl (saveAnyW_ct (lo := 0) (mid := mid) (hi := hi) hF hI hg (by omega) (by omega) mM (bk_b _ _) (by omega) hR)) rfl rfl (fun ⟨inn1, t1, n1, D1, e⟩ ⟨hF1, hI1, hc1⟩ => ?_)
        dsimp only
        dsimp only at hF1 hI1 hc1 ⊢
        refine T.y (fun w hw => Yl.assign rfl) rfl rfl ?_
        refine T.nil ?_
        refine J.sel (.cons 0 rfl (.cons 1 rfl (.cons 2 rfl (.cons 7 rfl (.cons 9 rfl (.cons 11 rfl (.cons 12 rfl (.cons 13 rfl (.cons 14 rfl (.cons 15 rfl (.cons 16 rfl (.cons 17 rfl .nil)))))))))))) ?_
        refine X.then_ ?_
        refine T.cut (α := Nat × Nat × List Int × Dev × Option Addr × Nat) (φ := fun u => Fit u.2.2.2.1 ∧ Inv u.2.2.2.1 0 mid hi u.2.1 u.2.2.1 u.1 ∧ u.2.2.1.length ≤ R ∧ u.1 ≤ i + 1) (Ec := fun u => [(12, .slice u.2.2.2.2.1 u.2.2.1.length u.2.2.2.2.2), (13, .int .i64 (u.1 : Int)), (0, .int .i64 (mid : Int)), (1, .int .i64 (hi : Int)), (2, .slice S xs.length sc), (7, ptr d 0), (9, ptr q 0), (11, .int .i64 (R : Int)), (14, .int .i64 (i : Int))]) (Mc := fun u => slotH q d 96 (slt 0 mid hi u.2.1 u.2.2.1 u.1) :: devH d u.2.2.2.1 :: M) (Kc := fun u => bytesK u.2.2.2.2.1 u.2.2.2.2.2 u.2.2.1 :: K) ?_ ?_
        ·intro Zk hz4
         refine T.seq ?_
         -- region 22 (law.go:61)
         refine T.region ?_
         refine T.y (fun w hw => Yl.move rfl) rfl rfl ?_
         refine T.y (fun w hw => Yl.move rfl) rfl rfl ?_
         refine T.y (fun w hw => Yl.gtr rfl rfl) rfl rfl ?_
         refine T.nil ?_
         refine J.sel (.cons 0 rfl (.cons 1 rfl (.cons 2 rfl (.cons 7 rfl (.cons 9 rfl (.cons 11 rfl (.cons 12 rfl (.cons 13 rfl (.cons 14 rfl (.cons 16 rfl (.cons 17 rfl (.cons 102 rfl .nil)))))))))))) ?_
         refine X.then_ ?_
         refine T.condD rfl (fun h102 => ?_) (fun h102 => ?_)
         ·skip
          refine T.seq ?_
          -- region 23 (law.go:62)
          refine T.region ?_
          refine T.y (fun w hw => Yl.move rfl) rfl rfl ?_
          refine T.y (fun w hw => Yl.neq rfl rfl) rfl rfl ?_
          refine T.nil ?_
          refine J.sel (.cons 0 rfl (.cons 1 rfl (.cons 2 rfl (.cons 7 rfl (.cons 9 rfl (.cons 11 rfl (.cons 12 rfl (.cons 13 rfl (.cons 14 rfl (.cons 104 rfl .nil)))))))))) ?_
          refine X.then_ ?_
          refine T.condD rfl (fun h104 => ?_) (fun h104 => ?_)
          · exfalso; (first | omega | contradiction | (rcases hc1 with ⟨g1, g2⟩ | ⟨g1, g2, g3, g4⟩ <;> simp_all <;> omega) | simp_all)
          ·skip
           refine T.skip ?_
           obtain ⟨g1, g2⟩ | ⟨g1, g2, g3, g4⟩ := hc1
           · obtain ⟨rfl, rfl, rfl, rfl, rfl⟩ := g2
             refine X.go (hz4 (n1, inn1, t1, D1, A, c) ⟨hF1, hI1, hw1, by dsimp only; omega⟩) (.cons 12 rfl (.num 13 rfl (by omega) (.cons 0 rfl (.cons 1 rfl (.cons 2 rfl (.cons 7 rfl (.cons 9 rfl (.cons 11 rfl (.cons 14 rfl .nil))))))))) (fun w hw => ?_)
             exact hw.f
           · exfalso; omega
         ·skip
          refine T.seq ?_
          refine T.seq ?_
          -- region 25 (law.go:66)
          refine T.region ?_
          refine T.y (fun w hw => Yl.move rfl) rfl rfl ?_
          refine T.y (fun w hw => Yl.neq rfl rfl) rfl rfl ?_
          refine T.nil ?_
          refine J.sel (.cons 0 rfl (.cons 1 rfl (.cons 2 rfl (.cons 7 rfl (.cons 9 rfl (.cons 11 rfl (.cons 13 rfl (.cons 14 rfl (.cons 16 rfl (.cons 106 rfl .nil)))))))))) ?_
          refine X.then_ ?_
          refine T.condD rfl (fun h106 => ?_) (fun h106 => ?_)
          · exfalso; (first | omega | contradiction | (rcases hc1 with ⟨g1, g2⟩ | ⟨g1, g2, g3, g4⟩ <;> simp_all <;> omega) | simp_all)
          ·skip
           refine T.skip ?_
           refine X.then_ ?_
           refine T.seq ?_
           -- region 27 (law.go:69)
           refine T.region ?_
           refine T.y (fun w hw => Yl.move rfl) rfl rfl ?_
           refine T.y (fun w hw => Yl.assign rfl) rfl rfl ?_
           refine T.nil ?_
           refine J.sel (.cons 0 rfl (.cons 1 rfl (.cons 2 rfl (.cons 7 rfl (.cons 9 rfl (.cons 11 rfl (.cons 12 rfl (.cons 13 rfl (.cons 14 rfl .nil))))))))) ?_
           refine X.then_ ?_
           -- region 28 (law.go:70)
           refine T.region ?_
           refine T.y (fun w hw => Yl.move rfl) rfl rfl ?_
           refine T.y (fun w hw => Yl.add rfl rfl (by omega)) rfl rfl ?_
           refine T.y (fun w hw => Yl.assign rfl) rfl rfl ?_
           refine T.nil ?_
           refine J.sel (.cons 0 rfl (.cons 1 rfl (.cons 2 rfl (.cons 7 rfl (.cons 9 rfl (.cons 11 rfl (.cons 12 rfl (.cons 13 rfl (.cons 14 rfl .nil))))))))) ?_
           obtain ⟨g1, g2⟩ | ⟨g1, g2, g3, g4⟩ := hc1
           · exfalso; omega
           · subst g2 g3
             refine X.go (hz4 (n + 1, inn1, bk k i, D1, B, b) ⟨hF1, hI1, by dsimp only; omega, by dsimp only; omega⟩) (.cons 12 rfl (.num 13 rfl (by omega) (.cons 0 rfl (.cons 1 rfl (.cons 2 rfl (.cons 7 rfl (.cons 9 rfl (.cons 11 rfl (.cons 14 rfl .nil))))))))) (fun w hw => ?_)
             exact hw.f
        ·intro ⟨n1, inn1, want1, D2, A1, c1⟩ ⟨hF2, hI2, hw2, hn2⟩
         dsimp only at hF2 hI2 hw2 hn2 ⊢
         refine T.seq ?_
         -- region 29 (law.go:72)
         refine T.region ?_
         refine T.y (fun w hw => Yl.move rfl) rfl rfl ?_
         refine T.o (OpW.call en_78 rfl (loadW_ct (by omega))) rfl rfl (fun ⟨A9, c9⟩ _ => ?_)
         dsimp only
         refine T.y (fun w hw => Yl.move rfl) rfl rfl ?_
         refine T.y (fun w hw => Yl.extract rfl rfl) rfl rfl ?_
         refine T.y (fun w hw => Yl.extract rfl rfl) rfl rfl ?_
         refine T.y (fun w hw => Yl.assign rfl) rfl rfl ?_
         refine T.y (fun w hw => Yl.assign rfl) rfl rfl ?_
         refine T.nil ?_
         refine J.sel (.cons 0 rfl (.cons 1 rfl (.cons 2 rfl (.cons 7 rfl (.cons 9 rfl (.cons 11 rfl (.cons 12 rfl (.cons 13 rfl (.cons 14 rfl (.cons 18 rfl (.cons 19 rfl .nil))))))))))) ?_
         refine X.then_ ?_
         refine T.seq ?_
         refine T.seq ?_
         -- region 30 (law.go:73)
         refine T.region ?_
         refine T.y (fun w hw => Yl.move rfl) rfl rfl ?_
         refine T.y (fun w hw => Yl.move rfl) rfl rfl ?_
         refine T.o (OpW.call en_31 rfl (bytes_ct mM mM)) rfl rfl (fun _ _ => ?_)
         rw [show decide (want1 = want1) = true from decide_eq_true rfl]
         refine T.y (fun w hw => Yl.not rfl) rfl rfl ?_
         refine T.y (fun w hw => Yl.move rfl) rfl rfl ?_
         refine T.y (fun w hw => Yl.move rfl) rfl rfl ?_
         refine T.y (fun w hw => Yl.move rfl) rfl rfl ?_
         refine T.y (fun w hw => Yl.neq rfl rfl) rfl rfl ?_
         refine T.y (fun w hw => Yl.pickF rfl rfl) rfl rfl ?_
         refine T.nil ?_
         refine J.sel (.cons 0 rfl (.cons 1 rfl (.cons 2 rfl (.cons 7 rfl (.cons 9 rfl (.cons 11 rfl (.cons 12 rfl (.cons 13 rfl (.cons 14 rfl (.cons 123 rfl .nil)))))))))) ?_
         refine X.then_ ?_
         refine T.condD rfl (fun h123 => ?_) (fun h123 => ?_)
         · exfalso; (first | omega | contradiction | (rcases hc1 with ⟨g1, g2⟩ | ⟨g1, g2, g3, g4⟩ <;> simp_all <;> omega) | simp_all)
         ·skip
          refine T.skip ?_
          refine X.then_ ?_
          refine T.seq ?_
          -- region 32 (law.go:76)
          refine T.region ?_
          refine T.y (fun w hw => Yl.move rfl) rfl rfl ?_
          refine T.y (fun w hw => Yl.rem rfl rfl (by omega)) rfl rfl ?_
          refine T.y (fun w hw => Yl.eql rfl rfl) rfl rfl ?_
          refine T.nil ?_
          refine J.sel (.cons 0 rfl (.cons 1 rfl (.cons 2 rfl (.cons 7 rfl (.cons 9 rfl (.cons 11 rfl (.cons 12 rfl (.cons 13 rfl (.cons 14 rfl (.cons 126 rfl .nil)))))))))) ?_
          refine X.then_ ?_
          refine T.condD rfl (fun h126 => ?_) (fun h126 => ?_)
          ·skip
           refine T.seq ?_
           -- region 33 (law.go:77)
           refine T.region ?_
           refine T.y (fun w hw => Yl.move rfl) rfl rfl ?_
           refine T.y (fun w hw => Yl.move rfl) rfl rfl ?_
           refine T.y (fun w hw => Yl.move rfl) rfl rfl ?_
           refine J.pick (p := devH d D2) pK ?_
           refine T.o (OpW.call en_75 rfl (openW_ct (lo := 0) (mid := mid) (hi := hi) hF2 hI2 hg rfl rfl rfl)) rfl rfl (fun ⟨q2, D4⟩ ⟨hF4, hI4, _⟩ => ?_)
           dsimp only
           dsimp only at hF4 hI4
           refine T.y (fun w hw => Yl.move rfl) rfl rfl ?_
           refine T.y (fun w hw => Yl.extract rfl rfl) rfl rfl ?_
           refine T.y (fun w hw => Yl.extract rfl rfl) rfl rfl ?_
           refine T.y (fun w hw => Yl.assign rfl) rfl rfl ?_
           refine T.y (fun w hw => Yl.assign rfl) rfl rfl ?_
           refine T.nil ?_
           refine J.sel (.cons 0 rfl (.cons 1 rfl (.cons 2 rfl (.cons 7 rfl (.cons 11 rfl (.cons 12 rfl (.cons 13 rfl (.cons 14 rfl (.cons 20 rfl (.cons 21 rfl .nil)))))))))) ?_
           refine X.then_ ?_
           refine T.seq ?_
           refine T.seq ?_
           -- region 34 (law.go:78)
           refine T.region ?_
           refine T.y (fun w hw => Yl.move rfl) rfl rfl ?_
           refine T.y (fun w hw => Yl.neq rfl rfl) rfl rfl ?_
           refine T.y (fun w hw => Yl.move rfl) rfl rfl ?_
           refine T.y (fun w hw => Yl.move rfl) rfl rfl ?_
           refine T.y (fun w hw => Yl.eqP Try.underlying112 rfl rfl) rfl rfl ?_
           refine T.y (fun w hw => Yl.pickF rfl rfl) rfl rfl ?_
           refine T.nil ?_
           refine J.sel (.cons 0 rfl (.cons 1 rfl (.cons 2 rfl (.cons 7 rfl (.cons 11 rfl (.cons 12 rfl (.cons 13 rfl (.cons 14 rfl (.cons 20 rfl (.cons 139 rfl .nil)))))))))) ?_
           refine X.then_ ?_
           refine T.condF rfl ?_
           refine T.skip ?_
           refine X.then_ ?_
           -- region 36 (law.go:81)
           refine T.region ?_
           refine T.y (fun w hw => Yl.move rfl) rfl rfl ?_
           refine T.y (fun w hw => Yl.assign rfl) rfl rfl ?_
           refine T.nil ?_
           refine J.sel (.cons 0 rfl (.cons 1 rfl (.cons 2 rfl (.cons 7 rfl (.cons 9 rfl (.cons 11 rfl (.cons 12 rfl (.cons 13 rfl (.cons 14 rfl .nil))))))))) ?_
           refine X.nm_blk ?_
           refine X.then_ ?_
           -- region 16 (law.go:54)
           refine T.region ?_
           refine T.y (fun w hw => Yl.move rfl) rfl rfl ?_
           refine T.y (fun w hw => Yl.add rfl rfl (by omega)) rfl rfl ?_
           refine T.y (fun w hw => Yl.assign rfl) rfl rfl ?_
           refine T.nil ?_
           refine J.sel (.cons 0 rfl (.cons 1 rfl (.cons 2 rfl (.cons 7 rfl (.cons 9 rfl (.cons 11 rfl (.cons 12 rfl (.cons 13 rfl (.cons 14 rfl .nil))))))))) ?_
           first
             | (refine X.go (hzo (i + 1, n1, inn1, want1, D4, q2, A1, c1) ⟨by dsimp only; omega, hF4, hI4, hw2, by dsimp only; omega⟩ (by dsimp only; omega)) (.cons 9 rfl (.cons 12 rfl (.cons 13 rfl (.num 14 rfl (by omega) (.cons 0 rfl (.cons 1 rfl (.cons 2 rfl (.cons 7 rfl (.cons 11 rfl .nil))))))))) (fun w hw => ?_)
                exact hw.f)
             | (refine X.go (hzo (i + 1, n1, inn1, want1, D2, q, A1, c1) ⟨by dsimp only; omega, hF2, hI2, hw2, by dsimp only; omega⟩ (by dsimp only; omega)) (.cons 9 rfl (.cons 12 rfl (.cons 13 rfl (.num 14 rfl (by omega) (.cons 0 rfl (.cons 1 rfl (.cons 2 rfl (.cons 7 rfl (.cons 11 rfl .nil))))))))) (fun w hw => ?_)
                exact hw.f)
          ·skip
           refine T.skip ?_
           refine X.nm_blk ?_
           refine X.then_ ?_
           -- region 16 (law.go:54)
           refine T.region ?_
           refine T.y (fun w hw => Yl.move rfl) rfl rfl ?_
           refine T.y (fun w hw => Yl.add rfl rfl (by omega)) rfl rfl ?_
           refine T.y (fun w hw => Yl.assign rfl) rfl rfl ?_
           refine T.nil ?_
           refine J.sel (.cons 0 rfl (.cons 1 rfl (.cons 2 rfl (.cons 7 rfl (.cons 9 rfl (.cons 11 rfl (.cons 12 rfl (.cons 13 rfl (.cons 14 rfl .nil))))))))) ?_
           first
             | (refine X.go (hzo (i + 1, n1, inn1, want1, D4, q2, A1, c1) ⟨by dsimp only; omega, hF4, hI4, hw2, by dsimp only; omega⟩ (by dsimp only; omega)) (.cons 9 rfl (.cons 12 rfl (.cons 13 rfl (.num 14 rfl (by omega) (.cons 0 rfl (.cons 1 rfl (.cons 2 rfl (.cons 7 rfl (.cons 11 rfl .nil))))))))) (fun w hw => ?_)
                exact hw.f)
             | (refine X.go (hzo (i + 1, n1, inn1, want1, D2, q, A1, c1) ⟨by dsimp only; omega, hF2, hI2, hw2, by dsimp only; omega⟩ (by dsimp only; omega)) (.cons 9 rfl (.cons 12 rfl (.cons 13 rfl (.num 14 rfl (by omega) (.cons 0 rfl (.cons 1 rfl (.cons 2 rfl (.cons 7 rfl (.cons 11 rfl .nil))))))))) (fun w hw => ?_)
                exact hw.f)
      ·skip
       refine T.exit ?_
       refine X.exit_then ?_
       refine X.exit_then ?_
       refine X.exit_blk ?_
       refine X.then_ ?_
       refine T.seq ?_
       -- region 37 (law.go:84)
       refine T.region ?_
       refine T.y (fun w hw => Yl.move rfl) rfl rfl ?_
       refine T.o (OpW.call en_78 rfl (loadW_ct (by omega))) rfl rfl (fun ⟨A9, c9⟩ _ => ?_)
       dsimp only
       refine T.y (fun w hw => Yl.move rfl) rfl rfl ?_
       refine T.y (fun w hw => Yl.extract rfl rfl) rfl rfl ?_
       refine T.y (fun w hw => Yl.extract rfl rfl) rfl rfl ?_
       refine T.y (fun w hw => Yl.assign rfl) rfl rfl ?_
       refine T.y (fun w hw => Yl.assign rfl) rfl rfl ?_
       refine T.nil ?_
       refine J.sel (.cons 12 rfl (.cons 13 rfl (.cons 22 rfl (.cons 23 rfl .nil)))) ?_
       refine X.then_ ?_
       refine T.seq ?_
       -- region 38 (law.go:85)
       refine T.region ?_
       refine T.y (fun w hw => Yl.move rfl) rfl rfl ?_
       refine T.y (fun w hw => Yl.move rfl) rfl rfl ?_
       refine T.o (OpW.call en_31 rfl (bytes_ct mM mM)) rfl rfl (fun _ _ => ?_)
       rw [show decide (want = want) = true from decide_eq_true rfl]
       refine T.y (fun w hw => Yl.move rfl) rfl rfl ?_
       refine T.y (fun w hw => Yl.move rfl) rfl rfl ?_
       refine T.y (fun w hw => Yl.move rfl) rfl rfl ?_
       refine T.y (fun w hw => Yl.eql rfl rfl) rfl rfl ?_
       refine T.y (fun w hw => Yl.pickT rfl rfl) rfl rfl ?_
       refine T.y (fun w hw => Yl.move rfl) rfl rfl ?_
       refine T.splitD 154 rfl (fun h154 => ?_) (fun h154 => ?_)
       ·skip
        refine T.o (OpW.call en_73 rfl (awake19_ct)) rfl rfl (fun x hx => ?_)
        refine T.y (fun w hw => Yl.pickT rfl rfl) rfl rfl ?_
        refine T.y (fun w hw => Yl.assign rfl) rfl rfl ?_
        refine T.nil ?_
        refine J.sel (.cons 6 rfl .nil) ?_
        refine X.then_ ?_
        refine T.ret ?_
        refine X.ret1 Try.results19 rfl (fun w hw => ?_)
        exact ⟨(), trivial, by simp, hw.f⟩
       · exfalso; (first | omega | contradiction | (rcases hc1 with ⟨g1, g2⟩ | ⟨g1, g2, g3, g4⟩ <;> simp_all <;> omega) | simp_all)

theorem slotPlays_walk {w : World} (p o : Int) (v : Value) (xs : List Int) (hx : Ints (fun k => k < w.heap.size) w v xs) (hI : IsI xs) : Calls Try.prog 19 #[.int .i64 p, .int .i64 o, v] w fun e w' => e = .returned (.bool true) ∧ Below w.heap.size w w' := by
  obtain ⟨A, c, rfl, hk⟩ := ints_open hx
  exact law_of (vs := [.int .i64 p, .int .i64 o, .slice A xs.length c]) (K := [intsK A c xs]) (slotPlays_ct (.tail _ (.head _))) (fun k hk' => by rw [List.mem_singleton.1 hk']; exact hk)

end Go.Proofs.Ytfpnodboebpemaa
