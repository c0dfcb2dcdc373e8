/- The contracts of package zdev: New, pick, rest, own, tear. -/
import Derived.Test.YtfpnodboebpemaaCrsh
import Derived.Test.YtfpnodboebpemaaDevA
namespace Go.Proofs.Ytfpnodboebpemaa
open Go.RowKit Go.Proofs.YtfpnodboebpemaaW.PrintWords
set_option linter.unusedVariables false
set_option linter.unusedSimpArgs false
attribute [local irreducible] pt rowH slK bytesK intsK rowsK rowsH cellK rowsV oldK star exH pureH knowH starL emp devH zoneH zonesH zrest

set_option maxHeartbeats 2000000 in
theorem new_ct {Z S : Nat} {M : List HP} {K : List KP} (hZ : 8 ≤ Z ∧ Z ≤ 64) (hS : 96 ≤ S ∧ S ≤ 192) : Fn 35 [.agg #[.int .i64 (Z : Int), .int .i64 (S : Int)]] M K (fun _ : Nat => True) (fun d => .tuple #[ptr d 0, .int .i64 0]) (fun d => devH d (newDev Z S) :: M) (fun _ => K) := by
 refine Fn.of (n := 43) Try.func35 rfl Try.ntmps35 rfl ?_
 refine T.seq ?_
 -- region 0 (zdev.go:33)
 refine T.region ?_
 refine T.o (OpW.box rfl) rfl rfl (fun b1 _ => ?_)
 refine T.y (fun w hw => Yl.assign rfl) rfl rfl ?_
 refine T.y (fun w hw => Yl.assign rfl) rfl rfl ?_
 refine T.nil ?_
 refine J.sel (.cons 1 rfl .nil) ?_
 refine X.then_ ?_
 refine T.seq ?_
 refine T.seq ?_
 -- region 1 (zdev.go:34)
 refine T.region ?_
 refine T.y (fun w hw => Yl.fa fa_42_0 rfl) rfl rfl ?_
 refine T.y (fun w hw => Yl.ldP hw na_3 rfl mM rfl) rfl rfl ?_
 refine T.y (fun w hw => Yl.lss rfl rfl) rfl rfl ?_
 refine T.y (fun w hw => Yl.move rfl) rfl rfl ?_
 refine T.splitD 8 rfl (fun h8 => ?_) (fun h8 => ?_)
 · exfalso; (omega)
 ·skip
  refine T.y (fun w hw => Yl.fa fa_42_0 rfl) rfl rfl ?_
  refine T.y (fun w hw => Yl.ldP hw na_3 rfl mM rfl) rfl rfl ?_
  refine T.y (fun w hw => Yl.gtr rfl rfl) rfl rfl ?_
  refine T.y (fun w hw => Yl.pickF rfl rfl) rfl rfl ?_
  refine T.y (fun w hw => Yl.move rfl) rfl rfl ?_
  refine T.splitD 13 rfl (fun h13 => ?_) (fun h13 => ?_)
  · exfalso; (omega)
  ·skip
   refine T.y (fun w hw => Yl.fa fa_42_1 rfl) rfl rfl ?_
   refine T.y (fun w hw => Yl.ldP hw na_3 rfl mM rfl) rfl rfl ?_
   refine T.y (fun w hw => Yl.lss rfl rfl) rfl rfl ?_
   refine T.y (fun w hw => Yl.pickF rfl rfl) rfl rfl ?_
   refine T.y (fun w hw => Yl.move rfl) rfl rfl ?_
   refine T.splitD 18 rfl (fun h18 => ?_) (fun h18 => ?_)
   · exfalso; (omega)
   ·skip
    refine T.y (fun w hw => Yl.fa fa_42_1 rfl) rfl rfl ?_
    refine T.y (fun w hw => Yl.ldP hw na_3 rfl mM rfl) rfl rfl ?_
    refine T.y (fun w hw => Yl.gtr rfl rfl) rfl rfl ?_
    refine T.y (fun w hw => Yl.pickF rfl rfl) rfl rfl ?_
    refine T.nil ?_
    refine J.sel (.cons 1 rfl (.cons 22 rfl .nil)) ?_
    refine X.then_ ?_
    refine T.condD rfl (fun h22 => ?_) (fun h22 => ?_)
    · exfalso; (omega)
    ·skip
     refine T.skip ?_
     refine X.then_ ?_
     refine T.seq ?_
     -- region 3 (zdev.go:37)
     refine T.region ?_
     refine T.y (fun w hw => Yl.ldaP hw ag_42 rfl mM sU) rfl rfl ?_
     refine T.y (fun w hw => Yl.build rfl (bld_133_0 _)) rfl rfl ?_
     refine T.o (OpW.box rfl) rfl rfl (fun b25 _ => ?_)
     refine T.y (fun w hw => Yl.assign rfl) rfl rfl ?_
     refine T.nil ?_
     refine J.sel (.cons 1 rfl (.cons 4 rfl .nil)) ?_
     refine X.then_ ?_
     refine T.seq ?_
     refine T.seq ?_
     refine J.row_nil 134 1 ?_
     refine J.ent (fun w hw => hw.zones_nil) ?_
     -- region 4 (zdev.go:38)
     refine T.region ?_
     refine T.y (fun w hw => Yl.fa fa_42_0 rfl) rfl rfl ?_
     refine T.y (fun w hw => Yl.ldP hw na_3 rfl mM rfl) rfl rfl ?_
     refine T.y (fun w hw => Yl.move rfl) rfl rfl ?_
     refine T.nil ?_
     refine J.sel (.cons 4 rfl (.cons 27 rfl (.cons 28 rfl .nil))) ?_
     refine X.then_ ?_
     refine T.block ?_
     refine T.loop (α := Nat × Option Addr × Nat × List Nat) (fun u => u.1 ≤ Z ∧ u.2.2.2.length = u.1) (fun u => [(28, .int .i64 (u.1 : Int)), (4, ptr b25 0), (27, .int .i64 (Z : Int))]) (fun u => pt b25 133 [.int .i64 (Z : Int), .int .i64 (S : Int), .slice u.2.1 u.1 u.2.2.1, .int .i64 0, .int .i64 0, .bool false, .int .i64 0, .bool false] :: rowH 134 1 u.2.1 u.2.2.1 u.1 (u.2.2.2.map fun z => ptr z 0) :: zonesH u.2.2.2 (List.replicate u.1 ⟨[], 0⟩) :: M) (fun u => K) (fun u => Z - u.1) (0, none, 0, []) ⟨Nat.zero_le _, rfl⟩ (.num 28 rfl rfl (.cons 4 rfl (.cons 27 rfl .nil))) (fun w hw => hw.f) ?_
     intro ⟨j, A, c, zs⟩ ⟨hj, hzs⟩ Zk hz2
     dsimp only at hj hzs hz2 ⊢
     refine T.seq ?_
     -- region 5 (zdev.go:38)
     refine T.region ?_
     refine T.y (fun w hw => Yl.lss rfl rfl) rfl rfl ?_
     refine T.nil ?_
     refine X.then_ ?_
     refine T.seq ?_
     refine T.condD rfl (fun h29 => ?_) (fun h29 => ?_)
     ·skip
      refine T.skip ?_
      refine X.then_ ?_
      refine T.seq ?_
      refine T.block ?_
      -- region 6 (zdev.go:39)
      refine T.region ?_
      refine T.y (fun w hw => Yl.move rfl) rfl rfl ?_
      refine T.y (fun w hw => Yl.move rfl) rfl rfl ?_
      refine T.y (fun w hw => Yl.nilck rfl) rfl rfl ?_
      refine T.y (fun w hw => Yl.fa fa_133_1 rfl) rfl rfl ?_
      refine T.y (fun w hw => Yl.ldP hw na_131 rfl mM rfl) rfl rfl ?_
      refine T.y (fun w hw => Yl.build rfl (bld_136_z _)) rfl rfl ?_
      refine T.o (OpW.box rfl) rfl rfl (fun b36 _ => ?_)
      refine T.o (OpW.bsl (sz := 1) rfl bsl_131_1 rfl rfl) rfl rfl (fun b37 _ => ?_)
      refine T.o (OpW.app Try.underlying131 inf_134 rfl rfl rfl rfl pK (fun w hw => hw.row mM) oN (by constructor <;> omega)) rfl rfl (fun ⟨A38, c38⟩ _ => ?_)
      dsimp only
      refine T.y (fun w hw => Yl.nilck rfl) rfl rfl ?_
      refine T.y (fun w hw => Yl.fa fa_133_1 rfl) rfl rfl ?_
      refine T.o0 (OpW.st1 sz_131 rfl rfl rfl rfl sW uP) rfl (fun _ _ => ?_)
      refine T.nil ?_
      refine J.sel (.cons 4 rfl (.cons 27 rfl (.cons 28 rfl .nil))) ?_
      refine X.nm_blk ?_
      refine X.then_ ?_
      -- region 7 (zdev.go:38)
      refine T.region ?_
      refine T.y (fun w hw => Yl.add rfl rfl (by omega)) rfl rfl ?_
      refine T.y (fun w hw => Yl.move rfl) rfl rfl ?_
      refine T.nil ?_
      refine J.sel (.cons 4 rfl (.cons 27 rfl (.cons 28 rfl .nil))) ?_
      refine X.go (hz2 (j + 1, A38, c38, zs ++ [b36]) ⟨by omega, by simp [hzs]⟩ (by omega)) (.num 28 rfl (by omega) (.cons 4 rfl (.cons 27 rfl .nil))) (fun w hw => ?_)
      have hw := hw.pick (p := pt b36 136 [.slice none 0 0, .int .i64 0]) pK
      have hw := Hold.zshut (bs := []) (g := 0) ((Hold.rows_nil hw).pick (.tail .head))
      have hw : Hold w (zoneH b36 ⟨[], 0⟩ :: zonesH zs (List.replicate j ⟨[], 0⟩) :: pt b25 133 [.int .i64 (Z : Int), .int .i64 (S : Int), .slice A38 (j + 1) c38, .int .i64 0, .int .i64 0, .bool false, .int .i64 0, .bool false] :: rowH 134 1 A38 c38 (j + 1) ((zs.map fun z => ptr z 0) ++ [ptr b36 0]) :: M) K := Hold.mono pS (fun _ h => h) hw
      have hw := hw.zones_snoc (by simp [hzs])
      rw [show ((zs.map fun z => ptr z 0) ++ [ptr b36 0]) = (zs ++ [b36]).map fun z => ptr z 0 by simp, show List.replicate j (⟨[], 0⟩ : Zn) ++ [⟨[], 0⟩] = List.replicate (j + 1) ⟨[], 0⟩ by rw [List.replicate_succ']] at hw
      exact hw.f
     ·skip
      refine T.exit ?_
      refine X.exit_then ?_
      refine X.exit_then ?_
      refine X.exit_blk ?_
      refine X.then_ ?_
      refine T.seq ?_
      have hje : j = Z := by omega
      subst hje
      -- region 8 (zdev.go:41)
      refine T.region ?_
      refine T.y (fun w hw => Yl.move rfl) rfl rfl ?_
      refine T.y (fun w hw => Yl.assign rfl) rfl rfl ?_
      refine T.y (fun w hw => Yl.assign rfl) rfl rfl ?_
      refine T.nil ?_
      refine J.sel (.cons 2 rfl (.cons 3 rfl .nil)) ?_
      refine X.then_ ?_
      refine T.ret ?_
      refine X.ret2 Try.results35 rfl rfl (fun w hw => ?_)
      refine ⟨b25, trivial, rfl, Hold.dev' (D := newDev j S) (zs := zs) (A := A) (c := c) (r := 0) (by simp [newDev, hzs]) (by decide) ?_⟩
      unfold devCells newDev
      simp only [List.length_replicate]
      exact hw.f

set_option maxHeartbeats 2000000 in
theorem pick_ct {A : Option Addr} {c k : Nat} {l : List Int} {M : List HP} {K : List KP} (hp : intsK A c l ∈ K) (hl : l.length ≤ 1000000) : Fn 113 [.slice A l.length c, .int .i64 (k : Int)] M K (fun _ : Unit => True) (fun _ => .tuple #[.int .i64 ((pickL l k).getD 0), .bool (pickL l k).isSome]) (fun _ => M) (fun _ => K) := by
 refine Fn.of (n := 16) Try.func113 rfl Try.ntmps113 rfl ?_
 refine T.seq ?_
 -- region 0 (zdev.go:168)
 refine T.region ?_
 refine T.y (fun w hw => Yl.assign rfl) rfl rfl ?_
 refine T.y (fun w hw => Yl.assign rfl) rfl rfl ?_
 refine T.nil ?_
 refine J.sel (.cons 0 rfl (.cons 1 rfl .nil)) ?_
 refine X.then_ ?_
 refine T.seq ?_
 refine T.seq ?_
 -- region 1 (zdev.go:169)
 refine T.region ?_
 refine T.y (fun w hw => Yl.move rfl) rfl rfl ?_
 refine T.y (fun w hw => Yl.len Try.underlying37 rfl) rfl rfl ?_
 refine T.y (fun w hw => Yl.eql rfl rfl) rfl rfl ?_
 refine T.nil ?_
 refine J.sel (.cons 0 rfl (.cons 1 rfl (.cons 8 rfl .nil))) ?_
 refine X.then_ ?_
 refine T.condD rfl (fun h8 => ?_) (fun h8 => ?_)
 ·skip
  refine T.seq ?_
  -- region 2 (zdev.go:170)
  refine T.region ?_
  refine T.y (fun w hw => Yl.assign rfl) rfl rfl ?_
  refine T.y (fun w hw => Yl.assign rfl) rfl rfl ?_
  refine T.nil ?_
  refine J.sel (.cons 4 rfl (.cons 5 rfl .nil)) ?_
  refine X.then_ ?_
  refine T.ret ?_
  refine X.ret_then ?_
  refine X.ret2 Try.results113 rfl rfl (fun w hw => ?_)
  rw [show pickL l k = none from by unfold pickL; rw [if_pos (List.eq_nil_of_length_eq_zero (by omega))]]
  exact ⟨(), trivial, rfl, hw⟩
 ·skip
  refine T.skip ?_
  refine X.then_ ?_
  refine T.seq ?_
  -- region 3 (zdev.go:172)
  refine T.region ?_
  refine T.y (fun w hw => Yl.move rfl) rfl rfl ?_
  refine T.y (fun w hw => Yl.move rfl) rfl rfl ?_
  refine T.y (fun w hw => Yl.move rfl) rfl rfl ?_
  refine T.y (fun w hw => Yl.len Try.underlying37 rfl) rfl rfl ?_
  refine T.y (fun w hw => Yl.rem rfl rfl (by omega)) rfl rfl ?_
  refine T.y (fun w hw => Yl.ia1 (i := k % l.length) sC Try.underlying37 isz_3 rfl rfl (by simp) (Nat.mod_lt _ (by omega))) rfl rfl ?_
  refine T.y (fun w hw => (by first | exact Yl.ldC hw na_3 rfl mM | exact Yl.ldI hw mM na_3 rfl (Nat.mod_lt _ (by omega)) | exact Yl.ldR sC na_3 rfl (by assumption) | fail)) rfl rfl ?_
  refine T.y (fun w hw => Yl.assign rfl) rfl rfl ?_
  refine T.y (fun w hw => Yl.assign rfl) rfl rfl ?_
  refine T.nil ?_
  refine J.sel (.cons 4 rfl (.cons 5 rfl .nil)) ?_
  refine X.then_ ?_
  refine T.ret ?_
  refine X.ret2 Try.results113 rfl rfl (fun w hw => ?_)
  rw [show pickL l k = some (rd l ((k % l.length : Nat) : Int)) from by unfold pickL; rw [if_neg (by rintro rfl; simp at h8)]]
  exact ⟨(), trivial, rfl, hw⟩

set_option maxHeartbeats 2000000 in
theorem rest_ct {n b : Int} {M : List HP} {K : List KP} (h : 0 < b) (hb : b ≤ 1000000) : Fn 114 [.int .i64 n, .int .i64 b] M K (fun _ : Unit => True) (fun _ => .int .i64 (n % b)) (fun _ => M) (fun _ => K) := by
 refine Fn.of (n := 14) Try.func114 rfl Try.ntmps114 rfl ?_
 have b1 := Int.tmod_lt_of_pos n h
 have b2 := Int.tmod_lt_of_pos (-n) h
 rw [Int.neg_tmod] at b2
 refine T.seq ?_
 -- region 0 (zdev.go:176)
 refine T.region ?_
 refine T.y (fun w hw => Yl.assign rfl) rfl rfl ?_
 refine T.nil ?_
 refine J.sel (.cons 0 rfl (.cons 1 rfl .nil)) ?_
 refine X.then_ ?_
 refine T.seq ?_
 refine T.seq ?_
 -- region 1 (zdev.go:177)
 refine T.region ?_
 refine T.y (fun w hw => Yl.move rfl) rfl rfl ?_
 refine T.y (fun w hw => Yl.move rfl) rfl rfl ?_
 refine T.y (fun w hw => Yl.remT rfl rfl (by omega)) rfl rfl ?_
 refine T.y (fun w hw => Yl.assign rfl) rfl rfl ?_
 refine T.nil ?_
 refine J.sel (.cons 0 rfl (.cons 1 rfl .nil)) ?_
 refine X.then_ ?_
 refine T.seq ?_
 -- region 2 (zdev.go:177)
 refine T.region ?_
 refine T.y (fun w hw => Yl.move rfl) rfl rfl ?_
 refine T.y (fun w hw => Yl.lss rfl rfl) rfl rfl ?_
 refine T.nil ?_
 refine J.sel (.cons 0 rfl (.cons 1 rfl (.cons 9 rfl .nil))) ?_
 refine X.then_ ?_
 refine T.condD rfl (fun h9 => ?_) (fun h9 => ?_)
 ·skip
  -- region 3 (zdev.go:178)
  refine T.region ?_
  refine T.y (fun w hw => Yl.move rfl) rfl rfl ?_
  refine T.y (fun w hw => Yl.move rfl) rfl rfl ?_
  refine T.y (fun w hw => Yl.add rfl rfl (by omega)) rfl rfl ?_
  refine T.y (fun w hw => Yl.assign rfl) rfl rfl ?_
  refine T.nil ?_
  refine J.sel (.cons 0 rfl .nil) ?_
  refine X.then_ ?_
  refine T.seq ?_
  -- region 4 (zdev.go:180)
  refine T.region ?_
  refine T.y (fun w hw => Yl.move rfl) rfl rfl ?_
  refine T.y (fun w hw => Yl.assign rfl) rfl rfl ?_
  refine T.nil ?_
  refine J.sel (.cons 4 rfl .nil) ?_
  refine X.then_ ?_
  refine T.ret ?_
  refine X.ret1 Try.results114 rfl (fun w hw => ?_)
  refine ⟨(), trivial, ?_, hw⟩
  first
    | rw [tmod_neg h ‹_›]
    | rw [tmod_pos h ‹_›]
 ·skip
  refine T.skip ?_
  refine X.then_ ?_
  refine T.seq ?_
  -- region 4 (zdev.go:180)
  refine T.region ?_
  refine T.y (fun w hw => Yl.move rfl) rfl rfl ?_
  refine T.y (fun w hw => Yl.assign rfl) rfl rfl ?_
  refine T.nil ?_
  refine J.sel (.cons 4 rfl .nil) ?_
  refine X.then_ ?_
  refine T.ret ?_
  refine X.ret1 Try.results114 rfl (fun w hw => ?_)
  refine ⟨(), trivial, ?_, hw⟩
  first
    | rw [tmod_neg h ‹_›]
    | rw [tmod_pos h ‹_›]

set_option maxHeartbeats 2000000 in
theorem own_ct {A : Option Addr} {c k m : Nat} {rows : List (List Int)} {vs : List Value} {M : List HP} {K : List KP} (hv : rowsV vs rows ∈ K) (hvl : vs.length = rows.length) (hm : rows.length = m) (hk : k ≤ m) (hl : m ≤ 1000) (hB : ∀ r ∈ rows, r.length ≤ 1000000) : Fn 115 [.slice A k c] (rowH 23 1 A c m vs :: M) K (fun _ : Option Addr × Nat => True) (fun r => .slice r.1 (rows.take k).length r.2) (fun r => rowsH r.1 r.2 (rows.take k) :: rowH 23 1 A c m vs :: M) (fun _ => K) := by
 refine Fn.of (n := 18) Try.func115 rfl Try.ntmps115 rfl ?_
 refine T.seq ?_
 -- region 0 (zdev.go:213)
 refine T.region ?_
 refine T.y (fun w hw => Yl.assign rfl) rfl rfl ?_
 refine T.nil ?_
 refine X.then_ ?_
 refine T.seq ?_
 refine T.seq ?_
 refine J.ent (fun w hw => hw.rows_nil) ?_
 have hcv := fun (w : World) (Mx : List HP) (Kx : List KP) (hw : Hold w Mx Kx) (hm : rowH 23 1 A c m vs ∈ Mx) => SlC.pre (hw.row hm) hk
 -- region 1 (zdev.go:214)
 refine T.region ?_
 refine T.y (fun w hw => Yl.move rfl) rfl rfl ?_
 refine T.y (fun w hw => Yl.len Try.underlying62 rfl) rfl rfl ?_
 refine T.y (fun w hw => Yl.move rfl) rfl rfl ?_
 refine T.nil ?_
 refine J.sel (.cons 2 rfl (.cons 5 rfl (.cons 6 rfl (.cons 7 rfl .nil)))) ?_
 refine X.then_ ?_
 refine T.block ?_
 refine T.loop (α := Nat × Option Addr × Nat) (fun u => u.1 ≤ k) (fun u => [(2, .slice u.2.1 (rows.take u.1).length u.2.2), (7, .int .i64 (u.1 : Int)), (5, .slice A k c), (6, .int .i64 (k : Int))]) (fun u => rowsH u.2.1 u.2.2 (rows.take u.1) :: rowH 23 1 A c m vs :: M) (fun u => K) (fun u => k - u.1) (0, none, 0) (Nat.zero_le _) (.eqv 2 rfl rfl (.num 7 rfl rfl (.cons 5 rfl (.cons 6 rfl .nil)))) (fun w hw => hw.f) ?_
 intro ⟨j, B, b⟩ hj Zk hz2
 dsimp only at hj hz2 ⊢
 refine T.seq ?_
 -- region 2 (zdev.go:214)
 refine T.region ?_
 refine T.y (fun w hw => Yl.lss rfl rfl) rfl rfl ?_
 refine T.nil ?_
 refine X.then_ ?_
 refine T.seq ?_
 refine T.condD rfl (fun h8 => ?_) (fun h8 => ?_)
 ·skip
  refine T.skip ?_
  refine X.then_ ?_
  refine T.seq ?_
  refine T.block ?_
  refine T.seq ?_
  have hjr : j < rows.length := by omega
  have hrj : rows[j]? = some (rows[j]'hjr) := List.getElem?_eq_getElem hjr
  have htk : rows.take j ++ [rows[j]'hjr] = rows.take (j + 1) := (List.take_succ_eq_append_getElem hjr).symm
  refine J.open_ (fun w hw => hw.rowsV_at hv hrj) ?_
  rintro ⟨U, u⟩ huv
  dsimp only at huv ⊢
  have huv : (vs.take (k * 1))[j]? = some (.slice U (rows[j]'hjr).length u) := by rw [List.getElem?_take, if_pos (by omega)]; exact huv
  -- region 3 (zdev.go:214)
  refine T.region ?_
  refine T.y (fun w hw => Yl.ia1 (hcv w _ _ hw mM) Try.underlying62 isz_23 rfl rfl rfl (by omega)) rfl rfl ?_
  refine T.y (fun w hw => Yl.ldR (hcv w _ _ hw mM) na_23 rfl huv) rfl rfl ?_
  refine T.y (fun w hw => Yl.assign rfl) rfl rfl ?_
  refine T.nil ?_
  refine J.sel (.cons 2 rfl (.cons 4 rfl (.cons 5 rfl (.cons 6 rfl (.cons 7 rfl .nil))))) ?_
  refine X.then_ ?_
  -- region 4 (zdev.go:215)
  refine T.region ?_
  refine T.y (fun w hw => Yl.move rfl) rfl rfl ?_
  refine T.y (fun w hw => Yl.move rfl) rfl rfl ?_
  refine T.o (OpW.call en_91 rfl (clone_ct (List.mem_cons_self) (hB _ (List.mem_of_getElem? hrj)))) rfl rfl (fun ⟨A13, c13⟩ _ => ?_)
  dsimp only
  refine T.o (OpW.bsl (sz := 1) rfl bsl_62_1 rfl rfl) rfl rfl (fun b14 _ => ?_)
  refine T.o (OpW.appR inf_23 Try.underlying62 rfl rfl mM mM pK (by rw [List.length_take]; omega)) rfl rfl (fun ⟨A15, c15⟩ _ => ?_)
  dsimp only
  refine T.y (fun w hw => Yl.assign rfl) rfl rfl ?_
  refine T.nil ?_
  refine J.sel (.cons 2 rfl (.cons 5 rfl (.cons 6 rfl (.cons 7 rfl .nil)))) ?_
  refine X.nm_blk ?_
  refine X.then_ ?_
  -- region 5 (zdev.go:214)
  refine T.region ?_
  refine T.y (fun w hw => Yl.add rfl rfl (by omega)) rfl rfl ?_
  refine T.y (fun w hw => Yl.move rfl) rfl rfl ?_
  refine T.nil ?_
  refine J.sel (.cons 2 rfl (.cons 5 rfl (.cons 6 rfl (.cons 7 rfl .nil)))) ?_
  refine X.go (hz2 (j + 1, A15, c15) (by omega) (by omega)) (.eqv 2 rfl (by rw [htk]) (.num 7 rfl (by omega) (.cons 5 rfl (.cons 6 rfl .nil)))) (fun w hw => ?_)
  dsimp only
  rw [← htk]
  exact hw.f
 ·skip
  refine T.exit ?_
  refine X.exit_then ?_
  refine X.exit_then ?_
  refine X.exit_blk ?_
  refine X.then_ ?_
  refine T.seq ?_
  have hje : j = k := by omega
  subst hje
  -- region 6 (zdev.go:217)
  refine T.region ?_
  refine T.y (fun w hw => Yl.move rfl) rfl rfl ?_
  refine T.y (fun w hw => Yl.assign rfl) rfl rfl ?_
  refine T.nil ?_
  refine J.sel (.cons 2 rfl .nil) ?_
  refine X.then_ ?_
  refine T.ret ?_
  refine X.ret1 Try.results115 rfl (fun w hw => ?_)
  exact ⟨(B, b), trivial, rfl, by exact hw.f⟩

set_option maxHeartbeats 2000000 in
theorem tear_ct {A : Option Addr} {c : Nat} {p : List Int} {M : List HP} {K : List KP} (hp : bytesK A c p ∈ K) (hB : IsB p) (hl : p.length = 64) : Fn 116 [.slice A p.length c] M K (fun _ : Option Addr × Nat => True) (fun r => .slice r.1 (tornL p).length r.2) (fun _ => M) (fun r => bytesK r.1 r.2 (tornL p) :: K) := by
 refine Fn.of (n := 20) Try.func116 rfl Try.ntmps116 rfl ?_
 refine T.seq ?_
 -- region 0 (zdev.go:184)
 refine T.region ?_
 refine T.y (fun w hw => Yl.assign rfl) rfl rfl ?_
 refine T.nil ?_
 refine J.sel (.cons 0 rfl .nil) ?_
 refine X.then_ ?_
 refine T.seq ?_
 -- region 1 (zdev.go:185)
 refine T.region ?_
 refine T.y (fun w hw => Yl.move rfl) rfl rfl ?_
 refine T.o (OpW.call en_91 rfl (cloneH_ct hp (by omega))) rfl rfl (fun ⟨B, b⟩ _ => ?_)
 dsimp only
 refine T.y (fun w hw => Yl.assign rfl) rfl rfl ?_
 refine T.nil ?_
 refine J.sel (.cons 3 rfl .nil) ?_
 refine X.then_ ?_
 refine T.seq ?_
 refine T.seq ?_
 -- region 2 (zdev.go:186)
 refine T.region ?_
 refine T.y (fun w hw => Yl.assign rfl) rfl rfl ?_
 refine T.nil ?_
 refine X.then_ ?_
 refine T.block ?_
 refine T.loop (α := Nat) (fun j => 32 ≤ j ∧ j ≤ 64) (fun j => [(4, .int .i64 (j : Int)), (3, .slice B p.length b)]) (fun j => rowH 5 1 B b p.length (nums .u8 (tornTo p j)) :: M) (fun j => K) (fun j => 64 - j) 32 ⟨Nat.le_refl _, by omega⟩ (.num 4 rfl rfl (.cons 3 rfl .nil)) (fun w hw => by rw [show tornTo p 32 = p from by simp [tornTo]]; exact hw.f) ?_
 intro j hj Zk hz2
 refine T.seq ?_
 refine T.seq ?_
 -- region 3 (zdev.go:186)
 refine T.region ?_
 refine T.y (fun w hw => Yl.move rfl) rfl rfl ?_
 refine T.y (fun w hw => Yl.move rfl) rfl rfl ?_
 refine T.y (fun w hw => Yl.len Try.underlying23 rfl) rfl rfl ?_
 refine T.y (fun w hw => Yl.lss rfl rfl) rfl rfl ?_
 refine T.nil ?_
 refine J.sel (.cons 3 rfl (.cons 4 rfl (.cons 10 rfl .nil))) ?_
 refine X.then_ ?_
 refine T.condD rfl (fun h10 => ?_) (fun h10 => ?_)
 ·skip
  refine T.skip ?_
  refine X.then_ ?_
  refine T.seq ?_
  refine T.block ?_
  have htl := tornTo_length p j hl hj.1 hj.2
  have hrd := tornTo_rd p j hl hj.1 (by omega)
  have hrb := rd_b p j (by omega) hB
  have hcv : (nums .u8 (tornTo p j))[j]? = some (.int .u8 (rd p j)) := by rw [nums_at (by omega), hrd]
  have hnl : (nums .u8 (tornTo p j)).length = 64 := by simp [nums, htl]
  -- region 5 (zdev.go:187)
  refine T.region ?_
  refine T.y (fun w hw => Yl.move rfl) rfl rfl ?_
  refine T.y (fun w hw => Yl.move rfl) rfl rfl ?_
  refine T.y (fun w hw => Yl.ia1 sC Try.underlying23 isz_5 rfl rfl rfl (by omega)) rfl rfl ?_
  refine T.y (fun w hw => (by first | exact Yl.ldB hw mM na_5 rfl (by omega) | exact Yl.ldC hw na_5 rfl mM | exact Yl.ldR sC na_5 rfl (by assumption) | fail)) rfl rfl ?_
  refine T.y (fun w hw => Yl.xor8 rfl rfl hrb (by decide)) rfl rfl ?_
  refine T.y (fun w hw => Yl.ia1 sC Try.underlying23 isz_5 rfl rfl rfl (by omega)) rfl rfl ?_
  refine T.o0 (OpW.stR sz_5 rfl rfl rfl rfl sW (by omega) (by omega)) rfl (fun _ _ => ?_)
  refine T.nil ?_
  refine J.sel (.cons 3 rfl (.cons 4 rfl .nil)) ?_
  refine X.nm_blk ?_
  refine X.then_ ?_
  -- region 4 (zdev.go:186)
  refine T.region ?_
  refine T.y (fun w hw => Yl.move rfl) rfl rfl ?_
  refine T.y (fun w hw => Yl.add rfl rfl (by omega)) rfl rfl ?_
  refine T.y (fun w hw => Yl.assign rfl) rfl rfl ?_
  refine T.nil ?_
  refine J.sel (.cons 3 rfl (.cons 4 rfl .nil)) ?_
  refine X.go (hz2 (j + 1) (by omega) (by omega)) (.num 4 rfl (by omega) (.cons 3 rfl .nil)) (fun w hw => ?_)
  have hw : Hold w (rowH 5 1 B b p.length (nums .u8 (tornTo p (j + 1))) :: M) K := by rw [← tornTo_step p j hl hj.1 (by omega), ← nums_set]; exact hw
  exact hw.f
 ·skip
  refine T.exit ?_
  refine X.exit_then ?_
  refine X.exit_then ?_
  refine X.exit_blk ?_
  refine X.then_ ?_
  refine T.seq ?_
  have hje : j = 64 := by omega
  subst hje
  rw [tornTo_end p hl]
  -- region 6 (zdev.go:189)
  refine T.region ?_
  refine T.y (fun w hw => Yl.move rfl) rfl rfl ?_
  refine T.y (fun w hw => Yl.assign rfl) rfl rfl ?_
  refine T.nil ?_
  refine J.sel (.cons 2 rfl .nil) ?_
  refine X.then_ ?_
  refine T.ret ?_
  refine X.ret1 Try.results116 rfl (fun w hw => ?_)
  have htl := torn_length p hl
  refine ⟨(B, b), trivial, by rw [htl, hl], ?_⟩
  rw [show p.length = (tornL p).length by rw [htl, hl]] at hw
  exact hw.row_bytes (torn_b hB)

end Go.Proofs.Ytfpnodboebpemaa
