/- The contracts of package slot: blocks, what is odd. -/
import Derived.Test.YtfpnodboebpemaaSltD
namespace Go.Proofs.Ytfpnodboebpemaa
open Go.RowKit Go.Proofs.YtfpnodboebpemaaW.PrintWords
set_option linter.unusedVariables false
set_option linter.unusedSimpArgs false
attribute [local irreducible] pt rowH slK bytesK intsK rowsK rowsH cellK rowsV oldK star exH pureH knowH starL emp devH zoneH zonesH zrest cellsK viewV viewK viewH blkE slotH

set_option maxHeartbeats 2000000 in
theorem indexR_ct {M : List HP} {K : List KP} {A : Option Addr} {c : Nat} {rows : List (List Int)} {fn : FuncId} (he : Enters fn) {P : List Int → Bool} (hf : ∀ (M : List HP) (K : List KP) (A : Option Addr) (c : Nat) (p : List Int), p ∈ rows → bytesK A c p ∈ K → Fn fn [.slice A p.length c] M K (fun _ : Unit => True) (fun _ => .bool (P p)) (fun _ => M) (fun _ => K)) (hr : rowsK A c rows ∈ K) : Fn 140 [.slice A rows.length c, .func (.func fn) #[] #[]] M K (fun r : Int => (r = -1 ∧ ∀ p ∈ rows, P p = false) ∨ (0 ≤ r ∧ ∃ p ∈ rows, P p = true)) (fun r => .int .i64 r) (fun _ => M) (fun _ => K) := by
 refine Fn.of (n := 19) Try.func140 rfl Try.ntmps140 rfl ?_
 refine J.fact (fun w hw => hw.rows_max (A := A) (c := c) (rows := rows) mM) ?_
 intro hrm
 have hmm : maxLen = 9223372036854775807 := by decide
 refine T.seq ?_
 -- region 0 (slices.go:107)
 refine T.region ?_
 refine T.y (fun w hw => Yl.assign rfl) rfl rfl ?_
 refine T.nil ?_
 refine J.sel (.cons 0 rfl (.cons 1 rfl .nil)) ?_
 refine X.then_ ?_
 refine T.seq ?_
 refine T.seq ?_
 -- region 1 (slices.go:108)
 refine T.region ?_
 refine T.y (fun w hw => Yl.move rfl) rfl rfl ?_
 refine T.y (fun w hw => Yl.len Try.underlying62 rfl) rfl rfl ?_
 refine T.y (fun w hw => Yl.move rfl) rfl rfl ?_
 refine T.nil ?_
 refine J.sel (.cons 0 rfl (.cons 1 rfl (.cons 7 rfl (.cons 8 rfl .nil)))) ?_
 refine X.then_ ?_
 refine T.block ?_
 refine T.loop (α := Nat) (fun i => i ≤ rows.length ∧ ∀ j p, j < i → rows[j]? = some p → P p = false) (fun i => [(8, .int .i64 (i : Int)), (0, .slice A rows.length c), (1, .func (.func fn) #[] #[]), (7, .int .i64 (rows.length : Int))]) (fun i => M) (fun i => K) (fun i => rows.length - i) 0 ⟨Nat.zero_le _, fun j p hj => by omega⟩ (.num 8 rfl rfl (.cons 0 rfl (.cons 1 rfl (.cons 7 rfl .nil)))) (fun w hw => hw.f) ?_
 intro i hi Zk hz2
 obtain ⟨hi, hall⟩ := hi
 refine T.seq ?_
 -- region 2 (slices.go:108)
 refine T.region ?_
 refine T.y (fun w hw => Yl.lss rfl rfl) rfl rfl ?_
 refine T.nil ?_
 refine X.then_ ?_
 refine T.seq ?_
 refine T.condD rfl (fun h9 => ?_) (fun h9 => ?_)
 ·skip
  refine T.skip ?_
  refine X.then_ ?_
  refine T.seq ?_
  refine T.block ?_
  refine T.seq ?_
  obtain ⟨p, hp⟩ : ∃ p, rows[i]? = some p := ⟨_, List.getElem?_eq_getElem (by omega)⟩
  refine J.open_ (fun w hw => hw.rows_at (A := A) (c := c) (rows := rows) mM hp) ?_
  rintro ⟨Ap, cp⟩ -
  dsimp only
  -- region 3 (slices.go:108)
  refine T.region ?_
  refine T.y (fun w hw => Yl.move rfl) rfl rfl ?_
  refine T.y (fun w hw => Yl.assign rfl) rfl rfl ?_
  refine T.nil ?_
  refine J.sel (.cons 0 rfl (.cons 1 rfl (.cons 5 rfl (.cons 7 rfl (.cons 8 rfl .nil))))) ?_
  refine X.then_ ?_
  refine T.seq ?_
  -- region 4 (slices.go:109)
  refine T.region ?_
  refine T.y (fun w hw => Yl.move rfl) rfl rfl ?_
  refine T.y (fun w hw => Yl.move rfl) rfl rfl ?_
  refine T.y (fun w hw => Yl.move rfl) rfl rfl ?_
  refine T.y (fun w hw => (by first | exact Yl.iaK (i := i) hw mM Try.underlying62 isz_23 rfl rfl rfl (by omega) | exact Yl.ia1 (i := i) sC Try.underlying62 isz_23 rfl rfl rfl (by omega))) rfl rfl ?_
  refine T.y (fun w hw => (by first | exact Yl.ldC hw na_23 rfl mM | exact Yl.ldR sC na_23 rfl (by assumption) | exact Yl.ldV hw na_23 rfl mM rfl)) rfl rfl ?_
  refine T.o (OpW.callV (cap := []) he rfl rfl (hf _ _ _ _ p (List.mem_of_getElem? hp) mM)) rfl rfl (fun _ _ => ?_)
  refine T.nil ?_
  refine J.sel (.cons 0 rfl (.cons 1 rfl (.cons 5 rfl (.cons 7 rfl (.cons 8 rfl (.cons 16 rfl .nil)))))) ?_
  refine X.then_ ?_
  refine T.cond rfl (fun h16 => ?_) (fun h16 => ?_)
  ·skip
   refine T.seq ?_
   -- region 5 (slices.go:110)
   refine T.region ?_
   refine T.y (fun w hw => Yl.move rfl) rfl rfl ?_
   refine T.y (fun w hw => Yl.assign rfl) rfl rfl ?_
   refine T.nil ?_
   refine J.sel (.cons 4 rfl .nil) ?_
   refine X.then_ ?_
   refine T.ret ?_
   refine X.ret_blk ?_
   refine X.ret_then ?_
   refine X.ret_then ?_
   refine X.ret_blk ?_
   refine X.ret_then ?_
   refine X.ret1 Try.results140 rfl (fun w hw => ?_)
   exact ⟨i, .inr ⟨by omega, p, List.mem_of_getElem? hp, h16⟩, rfl, hw.f⟩
  ·skip
   refine T.skip ?_
   refine X.nm_blk ?_
   refine X.then_ ?_
   -- region 6 (slices.go:108)
   refine T.region ?_
   refine T.y (fun w hw => Yl.add rfl rfl (by omega)) rfl rfl ?_
   refine T.y (fun w hw => Yl.move rfl) rfl rfl ?_
   refine T.nil ?_
   refine J.sel (.cons 0 rfl (.cons 1 rfl (.cons 7 rfl (.cons 8 rfl .nil)))) ?_
   refine X.go (hz2 (i + 1) ⟨by omega, fun j q hj hq => ?_⟩ (by omega)) (.num 8 rfl (by omega) (.cons 0 rfl (.cons 1 rfl (.cons 7 rfl .nil)))) (fun w hw => ?_)
   · rcases Nat.lt_succ_iff_lt_or_eq.1 hj with hj | rfl
     · exact hall j q hj hq
     · rw [hp] at hq; injection hq with hq; subst hq; simpa using h16
   · exact hw.f
 ·skip
  refine T.exit ?_
  refine X.exit_then ?_
  refine X.exit_then ?_
  refine X.exit_blk ?_
  refine X.then_ ?_
  refine T.seq ?_
  -- region 7 (slices.go:113)
  refine T.region ?_
  refine T.y (fun w hw => Yl.assign rfl) rfl rfl ?_
  refine T.nil ?_
  refine J.sel (.cons 4 rfl .nil) ?_
  refine X.then_ ?_
  refine T.ret ?_
  refine X.ret1 Try.results140 rfl (fun w hw => ?_)
  exact ⟨-1, .inl ⟨rfl, fun p hp => by
    obtain ⟨j, hj, rfl⟩ := List.getElem_of_mem hp
    exact hall j _ (by omega) (List.getElem?_eq_getElem hj)⟩, rfl, hw.f⟩

set_option maxHeartbeats 2000000 in
theorem anyR_ct {M : List HP} {K : List KP} {A : Option Addr} {c : Nat} {rows : List (List Int)} {fn : FuncId} (he : Enters fn) {P : List Int → Bool} (hf : ∀ (M : List HP) (K : List KP) (A : Option Addr) (c : Nat) (p : List Int), p ∈ rows → bytesK A c p ∈ K → Fn fn [.slice A p.length c] M K (fun _ : Unit => True) (fun _ => .bool (P p)) (fun _ => M) (fun _ => K)) (hr : rowsK A c rows ∈ K) : Fn 108 [.slice A rows.length c, .func (.func fn) #[] #[]] M K (fun _ : Unit => True) (fun _ => .bool (rows.any P)) (fun _ => M) (fun _ => K) := by
 refine Fn.of (n := 9) Try.func108 rfl Try.ntmps108 rfl ?_
 refine T.seq ?_
 -- region 0 (slices.go:124)
 refine T.region ?_
 refine T.y (fun w hw => Yl.assign rfl) rfl rfl ?_
 refine T.nil ?_
 refine J.sel (.cons 0 rfl (.cons 1 rfl .nil)) ?_
 refine X.then_ ?_
 refine T.seq ?_
 -- region 1 (slices.go:125)
 refine T.region ?_
 refine T.y (fun w hw => Yl.move rfl) rfl rfl ?_
 refine T.y (fun w hw => Yl.move rfl) rfl rfl ?_
 refine T.o (OpW.call en_140 rfl (indexR_ct he hf mM)) rfl rfl (fun r hr => ?_)
 refine T.y (fun w hw => Yl.geq rfl rfl) rfl rfl ?_
 refine T.y (fun w hw => Yl.assign rfl) rfl rfl ?_
 refine T.nil ?_
 refine J.sel (.cons 4 rfl .nil) ?_
 refine X.then_ ?_
 refine T.ret ?_
 refine X.ret1 Try.results108 rfl (fun w hw => ?_)
 refine ⟨(), trivial, ?_, hw.f⟩
 congr 1
 rw [Bool.eq_iff_iff, decide_eq_true_iff, List.any_eq_true]
 rcases hr with ⟨h1, h2⟩ | ⟨h1, h2⟩
 · constructor
   · omega
   · rintro ⟨p, hp, hP⟩; rw [h2 p hp] at hP; cases hP
 · exact ⟨fun _ => h2, fun _ => h1⟩

set_option maxHeartbeats 2000000 in
theorem odd3_ct {M : List HP} {K : List KP} {A : Option Addr} {c : Nat} {p : List Int} (hl : p.length = 64) (hp : bytesK A c p ∈ K) : Fn 125 [.slice A p.length c] M K (fun _ : Unit => True) (fun _ => .bool (odd 3 p)) (fun _ => M) (fun _ => K) := by
 refine Fn.of (n := 13) Try.func125 rfl Try.ntmps125 rfl ?_
 refine T.seq ?_
 -- region 0 (slot.go:38)
 refine T.region ?_
 refine T.y (fun w hw => Yl.assign rfl) rfl rfl ?_
 refine T.nil ?_
 refine J.sel (.cons 0 rfl .nil) ?_
 refine X.then_ ?_
 refine T.seq ?_
 -- region 1 (slot.go:38)
 refine T.region ?_
 refine T.y (fun w hw => Yl.move rfl) rfl rfl ?_
 refine T.y (fun w hw => Yl.ia1 (i := 0) sC Try.underlying23 isz_5 rfl rfl rfl (by omega)) rfl rfl ?_
 refine T.y (fun w hw => (by first | exact Yl.ldB hw mM na_5 rfl (by omega) | exact Yl.ldC hw na_5 rfl mM | exact Yl.ldR sC na_5 rfl (by assumption) | exact Yl.ldV hw na_5 rfl mM rfl)) rfl rfl ?_
 refine T.y (fun w hw => Yl.lss rfl rfl) rfl rfl ?_
 refine T.y (fun w hw => Yl.move rfl) rfl rfl ?_
 refine T.splitD 7 rfl (fun h7 => ?_) (fun h7 => ?_)
 ·skip
  refine T.off rfl rfl rfl ?_
  refine T.off rfl rfl rfl ?_
  refine T.off rfl rfl rfl ?_
  refine T.off rfl rfl rfl ?_
  refine T.y (fun w hw => Yl.pickT rfl rfl) rfl rfl ?_
  refine T.y (fun w hw => Yl.assign rfl) rfl rfl ?_
  refine T.nil ?_
  refine J.sel (.cons 2 rfl .nil) ?_
  refine X.then_ ?_
  refine T.ret ?_
  refine X.ret1 Try.results125 rfl (fun w hw => ?_)
  refine ⟨(), trivial, ?_, hw.f⟩
  congr 1
  unfold odd
  first
    | exact (decide_eq_true (by simp at *; omega)).symm
    | exact decide_eq_decide.2 (by simp at *; omega)
 ·skip
  refine T.y (fun w hw => Yl.move rfl) rfl rfl ?_
  refine T.y (fun w hw => Yl.ia1 (i := 0) sC Try.underlying23 isz_5 rfl rfl rfl (by omega)) rfl rfl ?_
  refine T.y (fun w hw => (by first | exact Yl.ldB hw mM na_5 rfl (by omega) | exact Yl.ldC hw na_5 rfl mM | exact Yl.ldR sC na_5 rfl (by assumption) | exact Yl.ldV hw na_5 rfl mM rfl)) rfl rfl ?_
  refine T.y (fun w hw => Yl.gtr rfl rfl) rfl rfl ?_
  refine T.y (fun w hw => Yl.pickF rfl rfl) rfl rfl ?_
  refine T.y (fun w hw => Yl.assign rfl) rfl rfl ?_
  refine T.nil ?_
  refine J.sel (.cons 2 rfl .nil) ?_
  refine X.then_ ?_
  refine T.ret ?_
  refine X.ret1 Try.results125 rfl (fun w hw => ?_)
  refine ⟨(), trivial, ?_, hw.f⟩
  congr 1
  unfold odd
  first
    | exact (decide_eq_true (by simp at *; omega)).symm
    | exact decide_eq_decide.2 (by simp at *; omega)

set_option maxHeartbeats 2000000 in
theorem blocks0_ct {M : List HP} {K : List KP} {p d lo mid hi : Nat} {D : Dev} {e f g h : Value} (hD : D.ok) (h1 : lo ≤ mid) (h2 : mid ≤ D.zones.length) : Fn 124 [ptr p 0, .int .i64 0] (pt p 175 [ptr d 0, .int .i64 lo, .int .i64 mid, .int .i64 hi, .int .i64 D.size, e, f, g, h] :: devH d D :: M) K (fun _ : Option Addr × Nat => True) (fun r => .slice r.1 (zb D.size (D.reg lo (mid - lo))).length r.2) (fun _ => pt p 175 [ptr d 0, .int .i64 lo, .int .i64 mid, .int .i64 hi, .int .i64 D.size, e, f, g, h] :: devH d D :: M) (fun r => rowsK r.1 r.2 (zb D.size (D.reg lo (mid - lo))) :: K) := by
 refine Fn.of (n := 63) Try.func124 rfl Try.ntmps124 rfl ?_
 have hz64 := hD.zones
 have hs192 := hD.size
 refine J.ent (fun w hw => hw.rows_nil) ?_
 refine T.seq ?_
 -- region 0 (slot.go:52)
 refine T.region ?_
 refine T.y (fun w hw => Yl.assign rfl) rfl rfl ?_
 refine T.nil ?_
 refine X.then_ ?_
 refine T.seq ?_
 refine T.seq ?_
 -- region 1 (slot.go:53)
 refine T.region ?_
 refine T.y (fun w hw => Yl.move rfl) rfl rfl ?_
 refine T.y (fun w hw => Yl.move rfl) rfl rfl ?_
 refine T.y (fun w hw => Yl.nilck rfl) rfl rfl ?_
 refine T.y (fun w hw => Yl.fa fa_175_1 rfl) rfl rfl ?_
 refine T.y (fun w hw => Yl.iaA (i := 0) Try.underlying173 sz_3 rfl rfl rfl (by decide)) rfl rfl ?_
 refine T.y (fun w hw => Yl.ldP hw na_3 rfl mM rfl) rfl rfl ?_
 refine T.y (fun w hw => Yl.assign rfl) rfl rfl ?_
 refine T.nil ?_
 refine J.sel (.cons 0 rfl (.cons 1 rfl (.cons 4 rfl (.cons 5 rfl .nil)))) ?_
 refine X.then_ ?_
 refine T.block ?_
 refine T.loop (α := Nat × Option Addr × Nat × List (List Int)) (fun u => lo ≤ u.1 ∧ u.1 ≤ mid ∧ zb D.size (D.reg lo (mid - lo)) = u.2.2.2 ++ zb D.size (D.reg u.1 (mid - u.1)) ∧ u.2.2.2.length ≤ u.1 * 192) (fun u => [(4, .slice u.2.1 u.2.2.2.length u.2.2.1), (5, .int .i64 (u.1 : Int)), (0, ptr p 0), (1, .int .i64 0)]) (fun u => rowsH u.2.1 u.2.2.1 u.2.2.2 :: pt p 175 [ptr d 0, .int .i64 lo, .int .i64 mid, .int .i64 hi, .int .i64 D.size, e, f, g, h] :: devH d D :: M) (fun u => K) (fun u => mid - u.1) (lo, none, 0, []) ⟨Nat.le_refl _, h1, rfl, Nat.zero_le _⟩ (.cons 4 rfl (.num 5 rfl rfl (.cons 0 rfl (.cons 1 rfl .nil)))) (fun w hw => hw.f) ?_
 intro ⟨z, A, c, acc⟩ ⟨hz1, hz2, hzb, hal⟩ Zk hzo
 dsimp only at hz1 hz2 hzb hal hzo ⊢
 refine T.seq ?_
 refine T.seq ?_
 -- region 2 (slot.go:53)
 refine T.region ?_
 refine T.y (fun w hw => Yl.move rfl) rfl rfl ?_
 refine T.y (fun w hw => Yl.move rfl) rfl rfl ?_
 refine T.y (fun w hw => Yl.move rfl) rfl rfl ?_
 refine T.y (fun w hw => Yl.add rfl rfl (by decide)) rfl rfl ?_
 refine T.y (fun w hw => Yl.nilck rfl) rfl rfl ?_
 refine T.y (fun w hw => Yl.fa fa_175_1 rfl) rfl rfl ?_
 refine T.y (fun w hw => Yl.iaA (i := 1) Try.underlying173 sz_3 rfl rfl (by decide) (by decide)) rfl rfl ?_
 refine T.y (fun w hw => Yl.ldP hw na_3 rfl mM rfl) rfl rfl ?_
 refine T.y (fun w hw => Yl.lss rfl rfl) rfl rfl ?_
 refine T.nil ?_
 refine J.sel (.cons 0 rfl (.cons 1 rfl (.cons 4 rfl (.cons 5 rfl (.cons 25 rfl .nil))))) ?_
 refine X.then_ ?_
 refine T.condD rfl (fun h25 => ?_) (fun h25 => ?_)
 ·skip
  refine T.skip ?_
  refine X.then_ ?_
  refine T.seq ?_
  refine T.block ?_
  refine T.seq ?_
  have hle := at_le hD z
  -- region 4 (slot.go:54)
  refine T.region ?_
  refine T.y (fun w hw => Yl.move rfl) rfl rfl ?_
  refine T.y (fun w hw => Yl.nilck rfl) rfl rfl ?_
  refine T.y (fun w hw => Yl.fa fa_175_0 rfl) rfl rfl ?_
  refine T.y (fun w hw => Yl.ldP hw na_38 rfl mM rfl) rfl rfl ?_
  refine T.y (fun w hw => Yl.move rfl) rfl rfl ?_
  refine J.pick (p := devH d D) pK ?_
  refine T.o (OpW.call en_40 rfl (pointerF_ct (k := z) hD rfl (by omega))) rfl rfl (fun _ _ => ?_)
  refine T.y (fun w hw => Yl.move rfl) rfl rfl ?_
  refine T.y (fun w hw => Yl.extract rfl rfl) rfl rfl ?_
  refine T.y (fun w hw => Yl.extract rfl rfl) rfl rfl ?_
  refine T.y (fun w hw => Yl.assign rfl) rfl rfl ?_
  refine T.y (fun w hw => Yl.assign rfl) rfl rfl ?_
  refine T.nil ?_
  refine J.sel (.cons 0 rfl (.cons 1 rfl (.cons 4 rfl (.cons 5 rfl (.cons 6 rfl .nil))))) ?_
  refine X.then_ ?_
  refine T.seq ?_
  refine T.seq ?_
  -- region 5 (slot.go:55)
  refine T.region ?_
  refine T.y (fun w hw => Yl.move rfl) rfl rfl ?_
  refine T.y (fun w hw => Yl.move rfl) rfl rfl ?_
  refine T.nil ?_
  refine X.then_ ?_
  refine T.block ?_
  refine T.loop (α := Nat × Option Addr × Nat) (fun u => u.1 ≤ (D.at z).blocks.length) (fun u => [(4, .slice u.2.1 (acc ++ (D.at z).blocks.take u.1).length u.2.2), (38, .int .i64 (u.1 : Int)), (0, ptr p 0), (1, .int .i64 0), (5, .int .i64 (z : Int)), (6, .int .i64 (((D.at z).blocks.length : Nat) : Int)), (37, .int .i64 (((D.at z).blocks.length : Nat) : Int))]) (fun u => rowsH u.2.1 u.2.2 (acc ++ (D.at z).blocks.take u.1) :: pt p 175 [ptr d 0, .int .i64 lo, .int .i64 mid, .int .i64 hi, .int .i64 D.size, e, f, g, h] :: devH d D :: M) (fun u => K) (fun u => (D.at z).blocks.length - u.1) (0, A, c) (Nat.zero_le _) (.eqv 4 rfl (by rw [List.take_zero, List.append_nil]) (.num 38 rfl rfl (.cons 0 rfl (.cons 1 rfl (.cons 5 rfl (.cons 6 rfl (.cons 37 rfl .nil))))))) (fun w hw => by dsimp only; rw [List.take_zero, List.append_nil]; exact hw.f) ?_
  intro ⟨k, A2, c2⟩ hk Zk hzi
  dsimp only at hk hzi ⊢
  refine T.seq ?_
  -- region 6 (slot.go:55)
  refine T.region ?_
  refine T.y (fun w hw => Yl.lss rfl rfl) rfl rfl ?_
  refine T.nil ?_
  refine X.then_ ?_
  refine T.seq ?_
  refine T.condD rfl (fun h39 => ?_) (fun h39 => ?_)
  ·skip
   refine T.skip ?_
   refine X.then_ ?_
   refine T.seq ?_
   refine T.block ?_
   refine T.seq ?_
   -- region 7 (slot.go:55)
   refine T.region ?_
   refine T.y (fun w hw => Yl.move rfl) rfl rfl ?_
   refine T.y (fun w hw => Yl.assign rfl) rfl rfl ?_
   refine T.nil ?_
   refine J.sel (.cons 0 rfl (.cons 1 rfl (.cons 4 rfl (.cons 5 rfl (.cons 6 rfl (.cons 8 rfl (.cons 37 rfl (.cons 38 rfl .nil)))))))) ?_
   refine X.then_ ?_
   refine T.seq ?_
   obtain ⟨q, hq⟩ : ∃ q, (D.at z).blocks[k]? = some q := ⟨_, List.getElem?_eq_getElem (by omega)⟩
   have htk2 : acc ++ (D.at z).blocks.take k ++ [q] = acc ++ (D.at z).blocks.take (k + 1) := by
     obtain ⟨hlt, rfl⟩ := List.getElem?_eq_some_iff.1 hq
     rw [List.take_succ_eq_append_getElem hlt, List.append_assoc]
   -- region 8 (slot.go:56)
   refine T.region ?_
   refine T.y (fun w hw => Yl.move rfl) rfl rfl ?_
   refine T.y (fun w hw => Yl.nilck rfl) rfl rfl ?_
   refine T.y (fun w hw => Yl.fa fa_175_0 rfl) rfl rfl ?_
   refine T.y (fun w hw => Yl.ldP hw na_38 rfl mM rfl) rfl rfl ?_
   refine T.y (fun w hw => Yl.move rfl) rfl rfl ?_
   refine T.y (fun w hw => Yl.move rfl) rfl rfl ?_
   refine J.pick (p := devH d D) pK ?_
   refine T.o (OpW.call en_42 rfl (readF_ct (k := z) (m := k) hD rfl (by omega) rfl hq)) rfl rfl (fun ⟨B, b⟩ _ => ?_)
   dsimp only
   refine T.y (fun w hw => Yl.move rfl) rfl rfl ?_
   refine T.y (fun w hw => Yl.extract rfl rfl) rfl rfl ?_
   refine T.y (fun w hw => Yl.extract rfl rfl) rfl rfl ?_
   refine T.y (fun w hw => Yl.assign rfl) rfl rfl ?_
   refine T.y (fun w hw => Yl.assign rfl) rfl rfl ?_
   refine T.nil ?_
   refine J.sel (.cons 0 rfl (.cons 1 rfl (.cons 4 rfl (.cons 5 rfl (.cons 6 rfl (.cons 9 rfl (.cons 37 rfl (.cons 38 rfl .nil)))))))) ?_
   refine X.then_ ?_
   -- region 9 (slot.go:57)
   refine T.region ?_
   refine T.y (fun w hw => Yl.move rfl) rfl rfl ?_
   refine T.y (fun w hw => Yl.move rfl) rfl rfl ?_
   refine T.o (OpW.bsl (sz := 1) rfl bsl_62_1 rfl rfl) rfl rfl (fun b53 _ => ?_)
   refine T.o (OpW.appR inf_23 Try.underlying62 rfl rfl mM mM pK (by rw [List.length_append, List.length_take]; omega)) rfl rfl (fun ⟨A54, c54⟩ _ => ?_)
   dsimp only
   refine T.y (fun w hw => Yl.assign rfl) rfl rfl ?_
   refine T.nil ?_
   refine J.sel (.cons 0 rfl (.cons 1 rfl (.cons 4 rfl (.cons 5 rfl (.cons 6 rfl (.cons 37 rfl (.cons 38 rfl .nil))))))) ?_
   refine X.nm_blk ?_
   refine X.then_ ?_
   -- region 10 (slot.go:55)
   refine T.region ?_
   refine T.y (fun w hw => Yl.add rfl rfl (by omega)) rfl rfl ?_
   refine T.y (fun w hw => Yl.move rfl) rfl rfl ?_
   refine T.nil ?_
   refine J.sel (.cons 0 rfl (.cons 1 rfl (.cons 4 rfl (.cons 5 rfl (.cons 6 rfl (.cons 37 rfl (.cons 38 rfl .nil))))))) ?_
   refine X.go (hzi (k + 1, A54, c54) (by dsimp only; omega) (by dsimp only; omega)) (.eqv 4 rfl (by rw [← htk2]) (.num 38 rfl (by omega) (.cons 0 rfl (.cons 1 rfl (.cons 5 rfl (.cons 6 rfl (.cons 37 rfl .nil))))))) (fun w hw => ?_)
   dsimp only
   rw [← htk2]
   exact hw.f
  ·skip
   refine T.exit ?_
   refine X.exit_then ?_
   refine X.exit_then ?_
   refine X.exit_blk ?_
   refine X.then_ ?_
   refine T.seq ?_
   -- region 11 (slot.go:59)
   refine T.region ?_
   refine T.y (fun w hw => Yl.move rfl) rfl rfl ?_
   refine T.y (fun w hw => Yl.move rfl) rfl rfl ?_
   refine T.y (fun w hw => Yl.nilck rfl) rfl rfl ?_
   refine T.y (fun w hw => Yl.fa fa_175_2 rfl) rfl rfl ?_
   refine T.y (fun w hw => Yl.ldP hw na_3 rfl mM rfl) rfl rfl ?_
   refine T.y (fun w hw => Yl.lss rfl rfl) rfl rfl ?_
   refine T.nil ?_
   refine J.sel (.cons 0 rfl (.cons 1 rfl (.cons 4 rfl (.cons 5 rfl (.cons 61 rfl .nil))))) ?_
   refine X.then_ ?_
   refine T.condD rfl (fun h61 => ?_) (fun h61 => ?_)
   ·skip
    refine T.exit ?_
    refine X.exit_blk_ne rfl ?_
    refine X.exit_then ?_
    refine X.exit_then ?_
    refine X.exit_blk ?_
    refine X.then_ ?_
    refine T.seq ?_
    -- region 12 (slot.go:63)
    refine T.region ?_
    refine T.y (fun w hw => Yl.move rfl) rfl rfl ?_
    refine T.y (fun w hw => Yl.assign rfl) rfl rfl ?_
    refine T.nil ?_
    refine J.sel (.cons 4 rfl .nil) ?_
    refine X.then_ ?_
    refine T.ret ?_
    refine X.ret1 Try.results124 rfl (fun w hw => ?_)
    first
      | (have hzf : zb D.size (D.reg lo (mid - lo)) = acc := by rw [hzb, reg_none (by omega)]; simp [zb]
         rw [hzf]
         exact ⟨(A, c), trivial, rfl, by have hw := Hold.rows_freeze (hw.pick (p := rowsH A c acc) pK); exact hw.f⟩)
      | (have hkn : k = (D.at z).blocks.length := by omega
         have htk : (D.at z).blocks.take k = (D.at z).blocks := by rw [hkn, List.take_length]
         have hzf : zb D.size (D.reg lo (mid - lo)) = acc ++ (D.at z).blocks.take k := by rw [hzb, reg_cons (by omega) h2, zb_cons_short (by omega), htk]
         rw [hzf]
         exact ⟨(A2, c2), trivial, rfl, by have hw := Hold.rows_freeze (hw.pick (p := rowsH A2 c2 (acc ++ (D.at z).blocks.take k)) pK); exact hw.f⟩)
   ·skip
    refine T.skip ?_
    refine X.nm_blk ?_
    refine X.then_ ?_
    -- region 3 (slot.go:53)
    refine T.region ?_
    refine T.y (fun w hw => Yl.move rfl) rfl rfl ?_
    refine T.y (fun w hw => Yl.add rfl rfl (by omega)) rfl rfl ?_
    refine T.y (fun w hw => Yl.assign rfl) rfl rfl ?_
    refine T.nil ?_
    refine J.sel (.cons 0 rfl (.cons 1 rfl (.cons 4 rfl (.cons 5 rfl .nil)))) ?_
    have hkn : k = (D.at z).blocks.length := by omega
    have htk : (D.at z).blocks.take k = (D.at z).blocks := by rw [hkn, List.take_length]
    refine X.go (hzo (z + 1, A2, c2, acc ++ (D.at z).blocks.take k) ⟨by omega, by omega, ?_, ?_⟩ (by dsimp only; omega)) (.cons 4 rfl (.num 5 rfl (by omega) (.cons 0 rfl (.cons 1 rfl .nil)))) (fun w hw => ?_)
    · dsimp only
      rw [hzb, reg_cons (by omega) h2, zb_cons_full (by omega), htk, List.append_assoc]
    · dsimp only
      rw [List.length_append, htk]; omega
    · exact hw.f
 ·skip
  refine T.exit ?_
  refine X.exit_then ?_
  refine X.exit_then ?_
  refine X.exit_blk ?_
  refine X.then_ ?_
  refine T.seq ?_
  -- region 12 (slot.go:63)
  refine T.region ?_
  refine T.y (fun w hw => Yl.move rfl) rfl rfl ?_
  refine T.y (fun w hw => Yl.assign rfl) rfl rfl ?_
  refine T.nil ?_
  refine J.sel (.cons 4 rfl .nil) ?_
  refine X.then_ ?_
  refine T.ret ?_
  refine X.ret1 Try.results124 rfl (fun w hw => ?_)
  first
    | (have hzf : zb D.size (D.reg lo (mid - lo)) = acc := by rw [hzb, reg_none (by omega)]; simp [zb]
       rw [hzf]
       exact ⟨(A, c), trivial, rfl, by have hw := Hold.rows_freeze (hw.pick (p := rowsH A c acc) pK); exact hw.f⟩)
    | (have hkn : k = (D.at z).blocks.length := by omega
       have htk : (D.at z).blocks.take k = (D.at z).blocks := by rw [hkn, List.take_length]
       have hzf : zb D.size (D.reg lo (mid - lo)) = acc ++ (D.at z).blocks.take k := by rw [hzb, reg_cons (by omega) h2, zb_cons_short (by omega), htk]
       rw [hzf]
       exact ⟨(A2, c2), trivial, rfl, by have hw := Hold.rows_freeze (hw.pick (p := rowsH A2 c2 (acc ++ (D.at z).blocks.take k)) pK); exact hw.f⟩)

set_option maxHeartbeats 2000000 in
theorem blocks1_ct {M : List HP} {K : List KP} {p d lo mid hi : Nat} {D : Dev} {e f g h : Value} (hD : D.ok) (h1 : mid ≤ hi) (h2 : hi ≤ D.zones.length) : Fn 124 [ptr p 0, .int .i64 1] (pt p 175 [ptr d 0, .int .i64 lo, .int .i64 mid, .int .i64 hi, .int .i64 D.size, e, f, g, h] :: devH d D :: M) K (fun _ : Option Addr × Nat => True) (fun r => .slice r.1 (zb D.size (D.reg mid (hi - mid))).length r.2) (fun _ => pt p 175 [ptr d 0, .int .i64 lo, .int .i64 mid, .int .i64 hi, .int .i64 D.size, e, f, g, h] :: devH d D :: M) (fun r => rowsK r.1 r.2 (zb D.size (D.reg mid (hi - mid))) :: K) := by
 refine Fn.of (n := 63) Try.func124 rfl Try.ntmps124 rfl ?_
 have hz64 := hD.zones
 have hs192 := hD.size
 refine J.ent (fun w hw => hw.rows_nil) ?_
 refine T.seq ?_
 -- region 0 (slot.go:52)
 refine T.region ?_
 refine T.y (fun w hw => Yl.assign rfl) rfl rfl ?_
 refine T.nil ?_
 refine X.then_ ?_
 refine T.seq ?_
 refine T.seq ?_
 -- region 1 (slot.go:53)
 refine T.region ?_
 refine T.y (fun w hw => Yl.move rfl) rfl rfl ?_
 refine T.y (fun w hw => Yl.move rfl) rfl rfl ?_
 refine T.y (fun w hw => Yl.nilck rfl) rfl rfl ?_
 refine T.y (fun w hw => Yl.fa fa_175_1 rfl) rfl rfl ?_
 refine T.y (fun w hw => Yl.iaA (i := 1) Try.underlying173 sz_3 rfl rfl rfl (by decide)) rfl rfl ?_
 refine T.y (fun w hw => Yl.ldP hw na_3 rfl mM rfl) rfl rfl ?_
 refine T.y (fun w hw => Yl.assign rfl) rfl rfl ?_
 refine T.nil ?_
 refine J.sel (.cons 0 rfl (.cons 1 rfl (.cons 4 rfl (.cons 5 rfl .nil)))) ?_
 refine X.then_ ?_
 refine T.block ?_
 refine T.loop (α := Nat × Option Addr × Nat × List (List Int)) (fun u => mid ≤ u.1 ∧ u.1 ≤ hi ∧ zb D.size (D.reg mid (hi - mid)) = u.2.2.2 ++ zb D.size (D.reg u.1 (hi - u.1)) ∧ u.2.2.2.length ≤ u.1 * 192) (fun u => [(4, .slice u.2.1 u.2.2.2.length u.2.2.1), (5, .int .i64 (u.1 : Int)), (0, ptr p 0), (1, .int .i64 1)]) (fun u => rowsH u.2.1 u.2.2.1 u.2.2.2 :: pt p 175 [ptr d 0, .int .i64 lo, .int .i64 mid, .int .i64 hi, .int .i64 D.size, e, f, g, h] :: devH d D :: M) (fun u => K) (fun u => hi - u.1) (mid, none, 0, []) ⟨Nat.le_refl _, h1, rfl, Nat.zero_le _⟩ (.cons 4 rfl (.num 5 rfl rfl (.cons 0 rfl (.cons 1 rfl .nil)))) (fun w hw => hw.f) ?_
 intro ⟨z, A, c, acc⟩ ⟨hz1, hz2, hzb, hal⟩ Zk hzo
 dsimp only at hz1 hz2 hzb hal hzo ⊢
 refine T.seq ?_
 refine T.seq ?_
 -- region 2 (slot.go:53)
 refine T.region ?_
 refine T.y (fun w hw => Yl.move rfl) rfl rfl ?_
 refine T.y (fun w hw => Yl.move rfl) rfl rfl ?_
 refine T.y (fun w hw => Yl.move rfl) rfl rfl ?_
 refine T.y (fun w hw => Yl.add rfl rfl (by decide)) rfl rfl ?_
 refine T.y (fun w hw => Yl.nilck rfl) rfl rfl ?_
 refine T.y (fun w hw => Yl.fa fa_175_1 rfl) rfl rfl ?_
 refine T.y (fun w hw => Yl.iaA (i := 2) Try.underlying173 sz_3 rfl rfl (by decide) (by decide)) rfl rfl ?_
 refine T.y (fun w hw => Yl.ldP hw na_3 rfl mM rfl) rfl rfl ?_
 refine T.y (fun w hw => Yl.lss rfl rfl) rfl rfl ?_
 refine T.nil ?_
 refine J.sel (.cons 0 rfl (.cons 1 rfl (.cons 4 rfl (.cons 5 rfl (.cons 25 rfl .nil))))) ?_
 refine X.then_ ?_
 refine T.condD rfl (fun h25 => ?_) (fun h25 => ?_)
 ·skip
  refine T.skip ?_
  refine X.then_ ?_
  refine T.seq ?_
  refine T.block ?_
  refine T.seq ?_
  have hle := at_le hD z
  -- region 4 (slot.go:54)
  refine T.region ?_
  refine T.y (fun w hw => Yl.move rfl) rfl rfl ?_
  refine T.y (fun w hw => Yl.nilck rfl) rfl rfl ?_
  refine T.y (fun w hw => Yl.fa fa_175_0 rfl) rfl rfl ?_
  refine T.y (fun w hw => Yl.ldP hw na_38 rfl mM rfl) rfl rfl ?_
  refine T.y (fun w hw => Yl.move rfl) rfl rfl ?_
  refine J.pick (p := devH d D) pK ?_
  refine T.o (OpW.call en_40 rfl (pointerF_ct (k := z) hD rfl (by omega))) rfl rfl (fun _ _ => ?_)
  refine T.y (fun w hw => Yl.move rfl) rfl rfl ?_
  refine T.y (fun w hw => Yl.extract rfl rfl) rfl rfl ?_
  refine T.y (fun w hw => Yl.extract rfl rfl) rfl rfl ?_
  refine T.y (fun w hw => Yl.assign rfl) rfl rfl ?_
  refine T.y (fun w hw => Yl.assign rfl) rfl rfl ?_
  refine T.nil ?_
  refine J.sel (.cons 0 rfl (.cons 1 rfl (.cons 4 rfl (.cons 5 rfl (.cons 6 rfl .nil))))) ?_
  refine X.then_ ?_
  refine T.seq ?_
  refine T.seq ?_
  -- region 5 (slot.go:55)
  refine T.region ?_
  refine T.y (fun w hw => Yl.move rfl) rfl rfl ?_
  refine T.y (fun w hw => Yl.move rfl) rfl rfl ?_
  refine T.nil ?_
  refine X.then_ ?_
  refine T.block ?_
  refine T.loop (α := Nat × Option Addr × Nat) (fun u => u.1 ≤ (D.at z).blocks.length) (fun u => [(4, .slice u.2.1 (acc ++ (D.at z).blocks.take u.1).length u.2.2), (38, .int .i64 (u.1 : Int)), (0, ptr p 0), (1, .int .i64 1), (5, .int .i64 (z : Int)), (6, .int .i64 (((D.at z).blocks.length : Nat) : Int)), (37, .int .i64 (((D.at z).blocks.length : Nat) : Int))]) (fun u => rowsH u.2.1 u.2.2 (acc ++ (D.at z).blocks.take u.1) :: pt p 175 [ptr d 0, .int .i64 lo, .int .i64 mid, .int .i64 hi, .int .i64 D.size, e, f, g, h] :: devH d D :: M) (fun u => K) (fun u => (D.at z).blocks.length - u.1) (0, A, c) (Nat.zero_le _) (.eqv 4 rfl (by rw [List.take_zero, List.append_nil]) (.num 38 rfl rfl (.cons 0 rfl (.cons 1 rfl (.cons 5 rfl (.cons 6 rfl (.cons 37 rfl .nil))))))) (fun w hw => by dsimp only; rw [List.take_zero, List.append_nil]; exact hw.f) ?_
  intro ⟨k, A2, c2⟩ hk Zk hzi
  dsimp only at hk hzi ⊢
  refine T.seq ?_
  -- region 6 (slot.go:55)
  refine T.region ?_
  refine T.y (fun w hw => Yl.lss rfl rfl) rfl rfl ?_
  refine T.nil ?_
  refine X.then_ ?_
  refine T.seq ?_
  refine T.condD rfl (fun h39 => ?_) (fun h39 => ?_)
  ·skip
   refine T.skip ?_
   refine X.then_ ?_
   refine T.seq ?_
   refine T.block ?_
   refine T.seq ?_
   -- region 7 (slot.go:55)
   refine T.region ?_
   refine T.y (fun w hw => Yl.move rfl) rfl rfl ?_
   refine T.y (fun w hw => Yl.assign rfl) rfl rfl ?_
   refine T.nil ?_
   refine J.sel (.cons 0 rfl (.cons 1 rfl (.cons 4 rfl (.cons 5 rfl (.cons 6 rfl (.cons 8 rfl (.cons 37 rfl (.cons 38 rfl .nil)))))))) ?_
   refine X.then_ ?_
   refine T.seq ?_
   obtain ⟨q, hq⟩ : ∃ q, (D.at z).blocks[k]? = some q := ⟨_, List.getElem?_eq_getElem (by omega)⟩
   have htk2 : acc ++ (D.at z).blocks.take k ++ [q] = acc ++ (D.at z).blocks.take (k + 1) := by
     obtain ⟨hlt, rfl⟩ := List.getElem?_eq_some_iff.1 hq
     rw [List.take_succ_eq_append_getElem hlt, List.append_assoc]
   -- region 8 (slot.go:56)
   refine T.region ?_
   refine T.y (fun w hw => Yl.move rfl) rfl rfl ?_
   refine T.y (fun w hw => Yl.nilck rfl) rfl rfl ?_
   refine T.y (fun w hw => Yl.fa fa_175_0 rfl) rfl rfl ?_
   refine T.y (fun w hw => Yl.ldP hw na_38 rfl mM rfl) rfl rfl ?_
   refine T.y (fun w hw => Yl.move rfl) rfl rfl ?_
   refine T.y (fun w hw => Yl.move rfl) rfl rfl ?_
   refine J.pick (p := devH d D) pK ?_
   refine T.o (OpW.call en_42 rfl (readF_ct (k := z) (m := k) hD rfl (by omega) rfl hq)) rfl rfl (fun ⟨B, b⟩ _ => ?_)
   dsimp only
   refine T.y (fun w hw => Yl.move rfl) rfl rfl ?_
   refine T.y (fun w hw => Yl.extract rfl rfl) rfl rfl ?_
   refine T.y (fun w hw => Yl.extract rfl rfl) rfl rfl ?_
   refine T.y (fun w hw => Yl.assign rfl) rfl rfl ?_
   refine T.y (fun w hw => Yl.assign rfl) rfl rfl ?_
   refine T.nil ?_
   refine J.sel (.cons 0 rfl (.cons 1 rfl (.cons 4 rfl (.cons 5 rfl (.cons 6 rfl (.cons 9 rfl (.cons 37 rfl (.cons 38 rfl .nil)))))))) ?_
   refine X.then_ ?_
   -- region 9 (slot.go:57)
   refine T.region ?_
   refine T.y (fun w hw => Yl.move rfl) rfl rfl ?_
   refine T.y (fun w hw => Yl.move rfl) rfl rfl ?_
   refine T.o (OpW.bsl (sz := 1) rfl bsl_62_1 rfl rfl) rfl rfl (fun b53 _ => ?_)
   refine T.o (OpW.appR inf_23 Try.underlying62 rfl rfl mM mM pK (by rw [List.length_append, List.length_take]; omega)) rfl rfl (fun ⟨A54, c54⟩ _ => ?_)
   dsimp only
   refine T.y (fun w hw => Yl.assign rfl) rfl rfl ?_
   refine T.nil ?_
   refine J.sel (.cons 0 rfl (.cons 1 rfl (.cons 4 rfl (.cons 5 rfl (.cons 6 rfl (.cons 37 rfl (.cons 38 rfl .nil))))))) ?_
   refine X.nm_blk ?_
   refine X.then_ ?_
   -- region 10 (slot.go:55)
   refine T.region ?_
   refine T.y (fun w hw => Yl.add rfl rfl (by omega)) rfl rfl ?_
   refine T.y (fun w hw => Yl.move rfl) rfl rfl ?_
   refine T.nil ?_
   refine J.sel (.cons 0 rfl (.cons 1 rfl (.cons 4 rfl (.cons 5 rfl (.cons 6 rfl (.cons 37 rfl (.cons 38 rfl .nil))))))) ?_
   refine X.go (hzi (k + 1, A54, c54) (by dsimp only; omega) (by dsimp only; omega)) (.eqv 4 rfl (by rw [← htk2]) (.num 38 rfl (by omega) (.cons 0 rfl (.cons 1 rfl (.cons 5 rfl (.cons 6 rfl (.cons 37 rfl .nil))))))) (fun w hw => ?_)
   dsimp only
   rw [← htk2]
   exact hw.f
  ·skip
   refine T.exit ?_
   refine X.exit_then ?_
   refine X.exit_then ?_
   refine X.exit_blk ?_
   refine X.then_ ?_
   refine T.seq ?_
   -- region 11 (slot.go:59)
   refine T.region ?_
   refine T.y (fun w hw => Yl.move rfl) rfl rfl ?_
   refine T.y (fun w hw => Yl.move rfl) rfl rfl ?_
   refine T.y (fun w hw => Yl.nilck rfl) rfl rfl ?_
   refine T.y (fun w hw => Yl.fa fa_175_2 rfl) rfl rfl ?_
   refine T.y (fun w hw => Yl.ldP hw na_3 rfl mM rfl) rfl rfl ?_
   refine T.y (fun w hw => Yl.lss rfl rfl) rfl rfl ?_
   refine T.nil ?_
   refine J.sel (.cons 0 rfl (.cons 1 rfl (.cons 4 rfl (.cons 5 rfl (.cons 61 rfl .nil))))) ?_
   refine X.then_ ?_
   refine T.condD rfl (fun h61 => ?_) (fun h61 => ?_)
   ·skip
    refine T.exit ?_
    refine X.exit_blk_ne rfl ?_
    refine X.exit_then ?_
    refine X.exit_then ?_
    refine X.exit_blk ?_
    refine X.then_ ?_
    refine T.seq ?_
    -- region 12 (slot.go:63)
    refine T.region ?_
    refine T.y (fun w hw => Yl.move rfl) rfl rfl ?_
    refine T.y (fun w hw => Yl.assign rfl) rfl rfl ?_
    refine T.nil ?_
    refine J.sel (.cons 4 rfl .nil) ?_
    refine X.then_ ?_
    refine T.ret ?_
    refine X.ret1 Try.results124 rfl (fun w hw => ?_)
    first
      | (have hzf : zb D.size (D.reg mid (hi - mid)) = acc := by rw [hzb, reg_none (by omega)]; simp [zb]
         rw [hzf]
         exact ⟨(A, c), trivial, rfl, by have hw := Hold.rows_freeze (hw.pick (p := rowsH A c acc) pK); exact hw.f⟩)
      | (have hkn : k = (D.at z).blocks.length := by omega
         have htk : (D.at z).blocks.take k = (D.at z).blocks := by rw [hkn, List.take_length]
         have hzf : zb D.size (D.reg mid (hi - mid)) = acc ++ (D.at z).blocks.take k := by rw [hzb, reg_cons (by omega) h2, zb_cons_short (by omega), htk]
         rw [hzf]
         exact ⟨(A2, c2), trivial, rfl, by have hw := Hold.rows_freeze (hw.pick (p := rowsH A2 c2 (acc ++ (D.at z).blocks.take k)) pK); exact hw.f⟩)
   ·skip
    refine T.skip ?_
    refine X.nm_blk ?_
    refine X.then_ ?_
    -- region 3 (slot.go:53)
    refine T.region ?_
    refine T.y (fun w hw => Yl.move rfl) rfl rfl ?_
    refine T.y (fun w hw => Yl.add rfl rfl (by omega)) rfl rfl ?_
    refine T.y (fun w hw => Yl.assign rfl) rfl rfl ?_
    refine T.nil ?_
    refine J.sel (.cons 0 rfl (.cons 1 rfl (.cons 4 rfl (.cons 5 rfl .nil)))) ?_
    have hkn : k = (D.at z).blocks.length := by omega
    have htk : (D.at z).blocks.take k = (D.at z).blocks := by rw [hkn, List.take_length]
    refine X.go (hzo (z + 1, A2, c2, acc ++ (D.at z).blocks.take k) ⟨by omega, by omega, ?_, ?_⟩ (by dsimp only; omega)) (.cons 4 rfl (.num 5 rfl (by omega) (.cons 0 rfl (.cons 1 rfl .nil)))) (fun w hw => ?_)
    · dsimp only
      rw [hzb, reg_cons (by omega) h2, zb_cons_full (by omega), htk, List.append_assoc]
    · dsimp only
      rw [List.length_append, htk]; omega
    · exact hw.f
 ·skip
  refine T.exit ?_
  refine X.exit_then ?_
  refine X.exit_then ?_
  refine X.exit_blk ?_
  refine X.then_ ?_
  refine T.seq ?_
  -- region 12 (slot.go:63)
  refine T.region ?_
  refine T.y (fun w hw => Yl.move rfl) rfl rfl ?_
  refine T.y (fun w hw => Yl.assign rfl) rfl rfl ?_
  refine T.nil ?_
  refine J.sel (.cons 4 rfl .nil) ?_
  refine X.then_ ?_
  refine T.ret ?_
  refine X.ret1 Try.results124 rfl (fun w hw => ?_)
  first
    | (have hzf : zb D.size (D.reg mid (hi - mid)) = acc := by rw [hzb, reg_none (by omega)]; simp [zb]
       rw [hzf]
       exact ⟨(A, c), trivial, rfl, by have hw := Hold.rows_freeze (hw.pick (p := rowsH A c acc) pK); exact hw.f⟩)
    | (have hkn : k = (D.at z).blocks.length := by omega
       have htk : (D.at z).blocks.take k = (D.at z).blocks := by rw [hkn, List.take_length]
       have hzf : zb D.size (D.reg mid (hi - mid)) = acc ++ (D.at z).blocks.take k := by rw [hzb, reg_cons (by omega) h2, zb_cons_short (by omega), htk]
       rw [hzf]
       exact ⟨(A2, c2), trivial, rfl, by have hw := Hold.rows_freeze (hw.pick (p := rowsH A2 c2 (acc ++ (D.at z).blocks.take k)) pK); exact hw.f⟩)

end Go.Proofs.Ytfpnodboebpemaa
