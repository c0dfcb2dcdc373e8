/- scarpalike's sums, scarpref11's comparisons, scarplaw17's small. -/
import Derived.Test.YtfpnodboebpemaaBat4
namespace Go.Proofs.Ytfpnodboebpemaa
open Go.RowKit Go.Proofs.YtfpnodboebpemaaW.PrintWords
set_option linter.unusedVariables false
set_option linter.unusedSimpArgs false
def awB : BatL := ⟨1, [⟨5, [⟨3, bk 40 1⟩]⟩]⟩
theorem aw_can : awB.can 7 := by
  refine ⟨⟨⟨by decide, by decide, by decide, by decide, fun i hi => ?_, by decide⟩, fun i hi => ?_⟩, by decide, by decide⟩
  · obtain rfl : i = 0 := by simp [awB] at hi; omega
    refine ⟨by decide, by decide, by decide, fun k hk => ?_⟩
    have : k + 1 < 1 := hk
    omega
  · obtain rfl : i = 0 := by simp [awB] at hi; omega
    refine ⟨fun h => by omega, by decide, fun p hp => ?_⟩
    have hp : p ∈ [(⟨3, bk 40 1⟩ : PutL)] := hp
    rw [List.mem_singleton.1 hp]
    exact ⟨by decide, by decide, bk_length _ _⟩
attribute [local irreducible] pt rowH slK bytesK intsK rowsK rowsH cellK rowsV oldK star exH pureH knowH starL emp devH zoneH zonesH zrest cellsK viewV viewK viewH putE txE batE
open Classical in
noncomputable def eqv {α : Type} (a b : α) : Bool := decide (a = b)
theorem eqv_iff {α : Type} {a b : α} : eqv a b = true ↔ a = b := by unfold eqv; exact @decide_eq_true_iff _ (Classical.propDecidable _)
theorem eqv_yes {α : Type} {a b : α} (h : a = b) : eqv a b = true := eqv_iff.2 h
theorem eqv_no {α : Type} {a b : α} (h : ¬ a = b) : eqv a b = false := by
  cases hb : eqv a b with
  | false => rfl
  | true => exact absurd (eqv_iff.1 hb) h
theorem ext_of {α : Type} {a b : List α} (hl : a.length = b.length) (h : ∀ j, j < a.length → a[j]? = b[j]?) : a = b := List.ext_getElem? fun j => by
  rcases Nat.lt_or_ge j a.length with hj | hj
  · exact h j hj
  · rw [List.getElem?_eq_none hj, List.getElem?_eq_none (by omega)]

set_option maxHeartbeats 2000000 in
theorem sum1_ct {M : List HP} {K : List KP} {A : Option Addr} {c : Nat} {n v : Int} (hn : 0 ≤ n ∧ n ≤ 1099511627776) (hv : 0 ≤ v ∧ v ≤ 9223372036854775807) : Fn 117 [.int .i64 n, .slice A 1 c] (rowH 3 1 A c 1 [.int .i64 v] :: M) K (fun r : Int => 0 ≤ r ∧ r ≤ 1099511627776) (fun r => .int .i64 r) (fun _ => M) (fun _ => K) := by
 refine Fn.of (n := 30) Try.func117 rfl Try.ntmps117 rfl ?_
 refine T.seq ?_
 -- region 0 (alike.go:12)
 refine T.region ?_
 refine T.y (fun w hw => Yl.assign rfl) rfl rfl ?_
 refine T.nil ?_
 refine J.sel (.cons 0 rfl (.cons 1 rfl .nil)) ?_
 refine X.then_ ?_
 refine T.seq ?_
 refine T.seq ?_
 -- region 1 (alike.go:13)
 refine T.region ?_
 refine T.y (fun w hw => Yl.assign rfl) rfl rfl ?_
 refine T.nil ?_
 refine X.then_ ?_
 refine T.block ?_
 refine T.loop (α := Nat × Int) (fun u => u.1 ≤ 1 ∧ 0 ≤ u.2 ∧ u.2 ≤ 1099511627776) (fun u => [(0, .int .i64 u.2), (5, .int .i64 (u.1 : Int)), (1, .slice A 1 c)]) (fun u => rowH 3 1 A c 1 [.int .i64 v] :: M) (fun u => K) (fun u => 1 - u.1) (0, n) ⟨by omega, hn⟩ (.num 0 rfl rfl (.num 5 rfl rfl (.cons 1 rfl .nil))) (fun w hw => hw.f) ?_
 intro ⟨i, m⟩ ⟨hi, hm⟩ Zk hz2
 dsimp only at hi hm hz2 ⊢
 refine T.seq ?_
 refine T.seq ?_
 -- region 2 (alike.go:13)
 refine T.region ?_
 refine T.y (fun w hw => Yl.move rfl) rfl rfl ?_
 refine T.y (fun w hw => Yl.move rfl) rfl rfl ?_
 refine T.y (fun w hw => Yl.len Try.underlying37 rfl) rfl rfl ?_
 refine T.y (fun w hw => Yl.lss rfl rfl) rfl rfl ?_
 refine T.nil ?_
 refine J.sel (.cons 0 rfl (.cons 1 rfl (.cons 5 rfl (.cons 9 rfl .nil)))) ?_
 refine X.then_ ?_
 refine T.condD rfl (fun h9 => ?_) (fun h9 => ?_)
 ·skip
  refine T.skip ?_
  refine X.then_ ?_
  refine T.seq ?_
  refine T.block ?_
  refine T.seq ?_
  refine T.seq ?_
  obtain rfl : i = 0 := by omega
  -- region 4 (alike.go:14)
  refine T.region ?_
  refine T.y (fun w hw => Yl.move rfl) rfl rfl ?_
  refine T.y (fun w hw => Yl.gtr rfl rfl) rfl rfl ?_
  refine T.y (fun w hw => Yl.move rfl) rfl rfl ?_
  refine T.splitD 14 rfl (fun h14 => ?_) (fun h14 => ?_)
  ·skip
   refine T.off rfl rfl rfl ?_
   refine T.off rfl rfl rfl ?_
   refine T.off rfl rfl rfl ?_
   refine T.off rfl rfl rfl ?_
   refine T.off rfl rfl rfl ?_
   refine T.off rfl rfl rfl ?_
   refine T.off rfl rfl rfl ?_
   refine T.y (fun w hw => Yl.pickT rfl rfl) rfl rfl ?_
   refine T.nil ?_
   refine J.sel (.cons 0 rfl (.cons 1 rfl (.cons 5 rfl (.cons 22 rfl .nil)))) ?_
   refine X.then_ ?_
   refine T.condT rfl ?_
   refine T.seq ?_
   -- region 5 (alike.go:15)
   refine T.region ?_
   refine T.y (fun w hw => Yl.assign rfl) rfl rfl ?_
   refine T.nil ?_
   refine J.sel (.cons 4 rfl .nil) ?_
   refine X.then_ ?_
   refine T.ret ?_
   refine X.ret_then ?_
   refine X.ret_blk ?_
   refine X.ret_then ?_
   refine X.ret_then ?_
   refine X.ret_blk ?_
   refine X.ret_then ?_
   refine X.ret1 Try.results117 rfl (fun w hw => ?_)
   exact ⟨1099511627776, by omega, rfl, hw.f⟩
  ·skip
   refine T.y (fun w hw => Yl.move rfl) rfl rfl ?_
   refine T.y (fun w hw => Yl.move rfl) rfl rfl ?_
   refine T.y (fun w hw => Yl.ia1 (i := 0) sC Try.underlying37 isz_3 rfl rfl rfl (by omega)) rfl rfl ?_
   refine T.y (fun w hw => Yl.ldR (v := .int .i64 v) (j := 0) (xs := [.int .i64 v]) (hw.row (c := c) mM) na_3 rfl rfl) rfl rfl ?_
   refine T.y (fun w hw => Yl.move rfl) rfl rfl ?_
   refine T.y (fun w hw => Yl.sub rfl rfl (by omega)) rfl rfl ?_
   refine T.y (fun w hw => Yl.gtr rfl rfl) rfl rfl ?_
   refine T.y (fun w hw => Yl.pickF rfl rfl) rfl rfl ?_
   refine T.nil ?_
   refine J.sel (.cons 0 rfl (.cons 1 rfl (.cons 5 rfl (.cons 22 rfl .nil)))) ?_
   refine X.then_ ?_
   refine T.condD rfl (fun h22 => ?_) (fun h22 => ?_)
   ·skip
    refine T.seq ?_
    -- region 5 (alike.go:15)
    refine T.region ?_
    refine T.y (fun w hw => Yl.assign rfl) rfl rfl ?_
    refine T.nil ?_
    refine J.sel (.cons 4 rfl .nil) ?_
    refine X.then_ ?_
    refine T.ret ?_
    refine X.ret_then ?_
    refine X.ret_blk ?_
    refine X.ret_then ?_
    refine X.ret_then ?_
    refine X.ret_blk ?_
    refine X.ret_then ?_
    refine X.ret1 Try.results117 rfl (fun w hw => ?_)
    exact ⟨1099511627776, by omega, rfl, hw.f⟩
   ·skip
    refine T.skip ?_
    refine X.then_ ?_
    -- region 6 (alike.go:17)
    refine T.region ?_
    refine T.y (fun w hw => Yl.move rfl) rfl rfl ?_
    refine T.y (fun w hw => Yl.move rfl) rfl rfl ?_
    refine T.y (fun w hw => Yl.move rfl) rfl rfl ?_
    refine T.y (fun w hw => Yl.ia1 (i := 0) sC Try.underlying37 isz_3 rfl rfl rfl (by omega)) rfl rfl ?_
    refine T.y (fun w hw => Yl.ldR (v := .int .i64 v) (j := 0) (xs := [.int .i64 v]) (hw.row (c := c) mM) na_3 rfl rfl) rfl rfl ?_
    refine T.y (fun w hw => Yl.add rfl rfl (by omega)) rfl rfl ?_
    refine T.y (fun w hw => Yl.assign rfl) rfl rfl ?_
    refine T.nil ?_
    refine J.sel (.cons 0 rfl (.cons 1 rfl (.cons 5 rfl .nil))) ?_
    refine X.nm_blk ?_
    refine X.then_ ?_
    -- region 3 (alike.go:13)
    refine T.region ?_
    refine T.y (fun w hw => Yl.move rfl) rfl rfl ?_
    refine T.y (fun w hw => Yl.add rfl rfl (by omega)) rfl rfl ?_
    refine T.y (fun w hw => Yl.assign rfl) rfl rfl ?_
    refine T.nil ?_
    refine J.sel (.cons 0 rfl (.cons 1 rfl (.cons 5 rfl .nil))) ?_
    refine X.go (hz2 (1, m + v) ⟨by dsimp only; omega, by dsimp only; omega⟩ (by dsimp only; omega)) (.num 0 rfl rfl (.num 5 rfl (by omega) (.cons 1 rfl .nil))) (fun w hw => ?_)
    exact hw.f
 ·skip
  refine T.exit ?_
  refine X.exit_then ?_
  refine X.exit_then ?_
  refine X.exit_blk ?_
  refine X.then_ ?_
  refine T.seq ?_
  -- region 7 (alike.go:19)
  refine T.region ?_
  refine T.y (fun w hw => Yl.move rfl) rfl rfl ?_
  refine T.y (fun w hw => Yl.assign rfl) rfl rfl ?_
  refine T.nil ?_
  refine J.sel (.cons 4 rfl .nil) ?_
  refine X.then_ ?_
  refine T.ret ?_
  refine X.ret1 Try.results117 rfl (fun w hw => ?_)
  exact ⟨m, hm, rfl, hw.f⟩

set_option maxHeartbeats 2000000 in
theorem puts_ct {M : List HP} {K : List KP} {A : Option Addr} {c : Nat} {top : Int} {ps : List PutL} (hps : viewK 2 putE A c ps ∈ K) : Fn 146 [.slice A ps.length c, .int .i64 top] M K (fun r : Int => 0 ≤ r ∧ r ≤ 1099511627776) (fun r => .int .i64 r) (fun _ => M) (fun _ => K) := by
 refine Fn.of (n := 32) Try.func146 rfl Try.ntmps146 rfl ?_
 refine J.fact (fun w hw => hw.view_max9 (xs := ps) (A := A) (c := c) (sz := 2) (el := putE) mM) ?_
 intro hmx
 refine T.seq ?_
 -- region 0 (alike.go:88)
 refine T.region ?_
 refine T.y (fun w hw => Yl.assign rfl) rfl rfl ?_
 refine T.nil ?_
 refine J.sel (.cons 0 rfl (.cons 1 rfl .nil)) ?_
 refine X.then_ ?_
 refine T.seq ?_
 -- region 1 (alike.go:89)
 refine T.region ?_
 refine T.y (fun w hw => Yl.move rfl) rfl rfl ?_
 refine T.y (fun w hw => Yl.len Try.underlying56 rfl) rfl rfl ?_
 refine T.o (OpW.bsl (sz := 1) rfl bsl_37_1 rfl rfl) rfl rfl (fun b9 _ => ?_)
 refine J.pick (p := rowH 3 1 (some ⟨b9, 0, none⟩) 1 1 [.int .i64 (ps.length : Int)]) pK ?_
 refine T.o (OpW.call en_117 rfl (sum1_ct (by omega) (by omega))) rfl rfl (fun r ⟨hr0, hr1⟩ => ?_)
 refine T.y (fun w hw => Yl.assign rfl) rfl rfl ?_
 refine T.nil ?_
 refine J.sel (.cons 0 rfl (.cons 1 rfl (.cons 5 rfl .nil))) ?_
 refine X.then_ ?_
 refine T.seq ?_
 refine T.seq ?_
 -- region 2 (alike.go:90)
 refine T.region ?_
 refine T.y (fun w hw => Yl.assign rfl) rfl rfl ?_
 refine T.nil ?_
 refine X.then_ ?_
 refine T.block ?_
 refine T.loop (α := Nat × Int) (fun u => u.1 ≤ ps.length ∧ 0 ≤ u.2 ∧ u.2 ≤ 1099511627776) (fun u => [(5, .int .i64 u.2), (6, .int .i64 (u.1 : Int)), (0, .slice A ps.length c), (1, .int .i64 top)]) (fun u => M) (fun u => K) (fun u => ps.length - u.1) (0, r) ⟨Nat.zero_le _, hr0, hr1⟩ (.num 5 rfl rfl (.num 6 rfl rfl (.cons 0 rfl (.cons 1 rfl .nil)))) (fun w hw => hw.f) ?_
 intro ⟨i, m⟩ ⟨hi, hm0, hm1⟩ Zk hz2
 dsimp only at hi hm0 hm1 hz2 ⊢
 refine T.seq ?_
 refine T.seq ?_
 -- region 3 (alike.go:90)
 refine T.region ?_
 refine T.y (fun w hw => Yl.move rfl) rfl rfl ?_
 refine T.y (fun w hw => Yl.move rfl) rfl rfl ?_
 refine T.y (fun w hw => Yl.len Try.underlying56 rfl) rfl rfl ?_
 refine T.y (fun w hw => Yl.lss rfl rfl) rfl rfl ?_
 refine T.y (fun w hw => Yl.move rfl) rfl rfl ?_
 refine T.splitD 15 rfl (fun h15 => ?_) (fun h15 => ?_)
 ·skip
  refine T.y (fun w hw => Yl.move rfl) rfl rfl ?_
  refine T.y (fun w hw => Yl.move rfl) rfl rfl ?_
  refine T.y (fun w hw => Yl.leq rfl rfl) rfl rfl ?_
  refine T.y (fun w hw => Yl.pickT rfl rfl) rfl rfl ?_
  refine T.nil ?_
  refine J.sel (.cons 0 rfl (.cons 1 rfl (.cons 5 rfl (.cons 6 rfl (.cons 19 rfl .nil))))) ?_
  refine X.then_ ?_
  refine T.condD rfl (fun h19 => ?_) (fun h19 => ?_)
  ·skip
   refine T.skip ?_
   refine X.then_ ?_
   refine T.seq ?_
   refine T.block ?_
   obtain ⟨p, htp⟩ : ∃ p, ps[i]? = some p := ⟨_, List.getElem?_eq_getElem (by omega)⟩
   refine J.open_ (fun w hw => hw.put_at mM htp) ?_
   rintro ⟨Ap, cp⟩ -
   dsimp only
   refine J.fact (fun w hw => hw.bytes_max (A := Ap) (c := cp) (xs := p.data) mM) ?_
   intro hdm
   have hmm : maxLen = 9223372036854775807 := by decide
   -- region 5 (alike.go:91)
   refine T.region ?_
   refine T.y (fun w hw => Yl.move rfl) rfl rfl ?_
   refine T.y (fun w hw => Yl.move rfl) rfl rfl ?_
   refine T.y (fun w hw => Yl.move rfl) rfl rfl ?_
   refine T.y (fun w hw => (by first | exact Yl.iaV hw mM Try.underlying56 isz_61 rfl rfl rfl (by omega) | exact Yl.ia Try.underlying56 isz_61 rfl rfl rfl (by omega) sC)) rfl rfl ?_
   refine T.y (fun w hw => Yl.fae fa_61_1 rfl) rfl rfl ?_
   refine T.y (fun w hw => (by first | exact Yl.ldC hw na_23 rfl mM | exact Yl.ldR sC na_23 rfl (by assumption) | exact Yl.ldV hw na_23 rfl mM rfl)) rfl rfl ?_
   refine T.y (fun w hw => Yl.len Try.underlying23 rfl) rfl rfl ?_
   refine T.o (OpW.bsl (sz := 1) rfl bsl_37_1 rfl rfl) rfl rfl (fun b29 _ => ?_)
   refine J.pick (p := rowH 3 1 (some ⟨b29, 0, none⟩) 1 1 [.int .i64 (p.data.length : Int)]) pK ?_
   refine T.o (OpW.call en_117 rfl (sum1_ct (by omega) (by omega))) rfl rfl (fun r' ⟨hr0', hr1'⟩ => ?_)
   refine T.y (fun w hw => Yl.assign rfl) rfl rfl ?_
   refine T.nil ?_
   refine J.sel (.cons 0 rfl (.cons 1 rfl (.cons 5 rfl (.cons 6 rfl .nil)))) ?_
   refine X.nm_blk ?_
   refine X.then_ ?_
   -- region 4 (alike.go:90)
   refine T.region ?_
   refine T.y (fun w hw => Yl.move rfl) rfl rfl ?_
   refine T.y (fun w hw => Yl.add rfl rfl (by omega)) rfl rfl ?_
   refine T.y (fun w hw => Yl.assign rfl) rfl rfl ?_
   refine T.nil ?_
   refine J.sel (.cons 0 rfl (.cons 1 rfl (.cons 5 rfl (.cons 6 rfl .nil)))) ?_
   refine X.go (hz2 (i + 1, r') ⟨by dsimp only; omega, hr0', hr1'⟩ (by dsimp only; omega)) (.num 5 rfl rfl (.num 6 rfl (by omega) (.cons 0 rfl (.cons 1 rfl .nil)))) (fun w hw => ?_)
   exact hw.f
  ·skip
   refine T.exit ?_
   refine X.exit_then ?_
   refine X.exit_then ?_
   refine X.exit_blk ?_
   refine X.then_ ?_
   refine T.seq ?_
   -- region 6 (alike.go:93)
   refine T.region ?_
   refine T.y (fun w hw => Yl.move rfl) rfl rfl ?_
   refine T.y (fun w hw => Yl.assign rfl) rfl rfl ?_
   refine T.nil ?_
   refine J.sel (.cons 4 rfl .nil) ?_
   refine X.then_ ?_
   refine T.ret ?_
   refine X.ret1 Try.results146 rfl (fun w hw => ?_)
   exact ⟨m, ⟨hm0, hm1⟩, rfl, hw.f⟩
 ·skip
  refine T.off rfl rfl rfl ?_
  refine T.off rfl rfl rfl ?_
  refine T.off rfl rfl rfl ?_
  refine T.y (fun w hw => Yl.pickF rfl rfl) rfl rfl ?_
  refine T.nil ?_
  refine J.sel (.cons 0 rfl (.cons 1 rfl (.cons 5 rfl (.cons 6 rfl (.cons 19 rfl .nil))))) ?_
  refine X.then_ ?_
  refine T.condF rfl ?_
  refine T.exit ?_
  refine X.exit_then ?_
  refine X.exit_then ?_
  refine X.exit_blk ?_
  refine X.then_ ?_
  refine T.seq ?_
  -- region 6 (alike.go:93)
  refine T.region ?_
  refine T.y (fun w hw => Yl.move rfl) rfl rfl ?_
  refine T.y (fun w hw => Yl.assign rfl) rfl rfl ?_
  refine T.nil ?_
  refine J.sel (.cons 4 rfl .nil) ?_
  refine X.then_ ?_
  refine T.ret ?_
  refine X.ret1 Try.results146 rfl (fun w hw => ?_)
  exact ⟨m, ⟨hm0, hm1⟩, rfl, hw.f⟩

set_option maxHeartbeats 2000000 in
theorem txs_ct {M : List HP} {K : List KP} {A : Option Addr} {c : Nat} {top : Int} {ts : List TxL} (hts : viewK 2 txE A c ts ∈ K) : Fn 123 [.slice A ts.length c, .int .i64 top] M K (fun r : Int => 0 ≤ r ∧ r ≤ 1099511627776) (fun r => .int .i64 r) (fun _ => M) (fun _ => K) := by
 refine Fn.of (n := 33) Try.func123 rfl Try.ntmps123 rfl ?_
 refine J.fact (fun w hw => hw.view_max9 (xs := ts) (A := A) (c := c) (sz := 2) (el := txE) mM) ?_
 intro hmx
 refine T.seq ?_
 -- region 0 (alike.go:97)
 refine T.region ?_
 refine T.y (fun w hw => Yl.assign rfl) rfl rfl ?_
 refine T.nil ?_
 refine J.sel (.cons 0 rfl (.cons 1 rfl .nil)) ?_
 refine X.then_ ?_
 refine T.seq ?_
 -- region 1 (alike.go:98)
 refine T.region ?_
 refine T.y (fun w hw => Yl.move rfl) rfl rfl ?_
 refine T.y (fun w hw => Yl.len Try.underlying53 rfl) rfl rfl ?_
 refine T.o (OpW.bsl (sz := 1) rfl bsl_37_1 rfl rfl) rfl rfl (fun b9 _ => ?_)
 refine J.pick (p := rowH 3 1 (some ⟨b9, 0, none⟩) 1 1 [.int .i64 (ts.length : Int)]) pK ?_
 refine T.o (OpW.call en_117 rfl (sum1_ct (by omega) (by omega))) rfl rfl (fun r ⟨hr0, hr1⟩ => ?_)
 refine T.y (fun w hw => Yl.assign rfl) rfl rfl ?_
 refine T.nil ?_
 refine J.sel (.cons 0 rfl (.cons 1 rfl (.cons 5 rfl .nil))) ?_
 refine X.then_ ?_
 refine T.seq ?_
 refine T.seq ?_
 -- region 2 (alike.go:99)
 refine T.region ?_
 refine T.y (fun w hw => Yl.assign rfl) rfl rfl ?_
 refine T.nil ?_
 refine X.then_ ?_
 refine T.block ?_
 refine T.loop (α := Nat × Int) (fun u => u.1 ≤ ts.length ∧ 0 ≤ u.2 ∧ u.2 ≤ 1099511627776) (fun u => [(5, .int .i64 u.2), (6, .int .i64 (u.1 : Int)), (0, .slice A ts.length c), (1, .int .i64 top)]) (fun u => M) (fun u => K) (fun u => ts.length - u.1) (0, r) ⟨Nat.zero_le _, hr0, hr1⟩ (.num 5 rfl rfl (.num 6 rfl rfl (.cons 0 rfl (.cons 1 rfl .nil)))) (fun w hw => hw.f) ?_
 intro ⟨i, m⟩ ⟨hi, hm0, hm1⟩ Zk hz2
 dsimp only at hi hm0 hm1 hz2 ⊢
 refine T.seq ?_
 refine T.seq ?_
 -- region 3 (alike.go:99)
 refine T.region ?_
 refine T.y (fun w hw => Yl.move rfl) rfl rfl ?_
 refine T.y (fun w hw => Yl.move rfl) rfl rfl ?_
 refine T.y (fun w hw => Yl.len Try.underlying53 rfl) rfl rfl ?_
 refine T.y (fun w hw => Yl.lss rfl rfl) rfl rfl ?_
 refine T.y (fun w hw => Yl.move rfl) rfl rfl ?_
 refine T.splitD 15 rfl (fun h15 => ?_) (fun h15 => ?_)
 ·skip
  refine T.y (fun w hw => Yl.move rfl) rfl rfl ?_
  refine T.y (fun w hw => Yl.move rfl) rfl rfl ?_
  refine T.y (fun w hw => Yl.leq rfl rfl) rfl rfl ?_
  refine T.y (fun w hw => Yl.pickT rfl rfl) rfl rfl ?_
  refine T.nil ?_
  refine J.sel (.cons 0 rfl (.cons 1 rfl (.cons 5 rfl (.cons 6 rfl (.cons 19 rfl .nil))))) ?_
  refine X.then_ ?_
  refine T.condD rfl (fun h19 => ?_) (fun h19 => ?_)
  ·skip
   refine T.skip ?_
   refine X.then_ ?_
   refine T.seq ?_
   refine T.block ?_
   obtain ⟨t, htt⟩ : ∃ t, ts[i]? = some t := ⟨_, List.getElem?_eq_getElem (by omega)⟩
   refine J.open_ (fun w hw => hw.tx_at mM htt) ?_
   rintro ⟨At, ct⟩ -
   dsimp only
   -- region 5 (alike.go:100)
   refine T.region ?_
   refine T.y (fun w hw => Yl.move rfl) rfl rfl ?_
   refine T.y (fun w hw => Yl.move rfl) rfl rfl ?_
   refine T.y (fun w hw => Yl.move rfl) rfl rfl ?_
   refine T.y (fun w hw => (by first | exact Yl.iaV hw mM Try.underlying53 isz_58 rfl rfl rfl (by omega) | exact Yl.ia Try.underlying53 isz_58 rfl rfl rfl (by omega) sC)) rfl rfl ?_
   refine T.y (fun w hw => Yl.fae fa_58_1 rfl) rfl rfl ?_
   refine T.y (fun w hw => (by first | exact Yl.ldC hw na_56 rfl mM | exact Yl.ldR sC na_56 rfl (by assumption) | exact Yl.ldV hw na_56 rfl mM rfl)) rfl rfl ?_
   refine T.y (fun w hw => Yl.move rfl) rfl rfl ?_
   refine T.o (OpW.call en_146 rfl (puts_ct (ps := t.puts) mM)) rfl rfl (fun s ⟨hs0, hs1⟩ => ?_)
   refine T.o (OpW.bsl (sz := 1) rfl bsl_37_1 rfl rfl) rfl rfl (fun b30 _ => ?_)
   refine J.pick (p := rowH 3 1 (some ⟨b30, 0, none⟩) 1 1 [.int .i64 s]) pK ?_
   refine T.o (OpW.call en_117 rfl (sum1_ct (by omega) (by omega))) rfl rfl (fun r' ⟨hr0', hr1'⟩ => ?_)
   refine T.y (fun w hw => Yl.assign rfl) rfl rfl ?_
   refine T.nil ?_
   refine J.sel (.cons 0 rfl (.cons 1 rfl (.cons 5 rfl (.cons 6 rfl .nil)))) ?_
   refine X.nm_blk ?_
   refine X.then_ ?_
   -- region 4 (alike.go:99)
   refine T.region ?_
   refine T.y (fun w hw => Yl.move rfl) rfl rfl ?_
   refine T.y (fun w hw => Yl.add rfl rfl (by omega)) rfl rfl ?_
   refine T.y (fun w hw => Yl.assign rfl) rfl rfl ?_
   refine T.nil ?_
   refine J.sel (.cons 0 rfl (.cons 1 rfl (.cons 5 rfl (.cons 6 rfl .nil)))) ?_
   refine X.go (hz2 (i + 1, r') ⟨by dsimp only; omega, hr0', hr1'⟩ (by dsimp only; omega)) (.num 5 rfl rfl (.num 6 rfl (by omega) (.cons 0 rfl (.cons 1 rfl .nil)))) (fun w hw => ?_)
   exact hw.f
  ·skip
   refine T.exit ?_
   refine X.exit_then ?_
   refine X.exit_then ?_
   refine X.exit_blk ?_
   refine X.then_ ?_
   refine T.seq ?_
   -- region 6 (alike.go:102)
   refine T.region ?_
   refine T.y (fun w hw => Yl.move rfl) rfl rfl ?_
   refine T.y (fun w hw => Yl.assign rfl) rfl rfl ?_
   refine T.nil ?_
   refine J.sel (.cons 4 rfl .nil) ?_
   refine X.then_ ?_
   refine T.ret ?_
   refine X.ret1 Try.results123 rfl (fun w hw => ?_)
   exact ⟨m, ⟨hm0, hm1⟩, rfl, hw.f⟩
 ·skip
  refine T.off rfl rfl rfl ?_
  refine T.off rfl rfl rfl ?_
  refine T.off rfl rfl rfl ?_
  refine T.y (fun w hw => Yl.pickF rfl rfl) rfl rfl ?_
  refine T.nil ?_
  refine J.sel (.cons 0 rfl (.cons 1 rfl (.cons 5 rfl (.cons 6 rfl (.cons 19 rfl .nil))))) ?_
  refine X.then_ ?_
  refine T.condF rfl ?_
  refine T.exit ?_
  refine X.exit_then ?_
  refine X.exit_then ?_
  refine X.exit_blk ?_
  refine X.then_ ?_
  refine T.seq ?_
  -- region 6 (alike.go:102)
  refine T.region ?_
  refine T.y (fun w hw => Yl.move rfl) rfl rfl ?_
  refine T.y (fun w hw => Yl.assign rfl) rfl rfl ?_
  refine T.nil ?_
  refine J.sel (.cons 4 rfl .nil) ?_
  refine X.then_ ?_
  refine T.ret ?_
  refine X.ret1 Try.results123 rfl (fun w hw => ?_)
  exact ⟨m, ⟨hm0, hm1⟩, rfl, hw.f⟩

set_option maxHeartbeats 2000000 in
theorem total_ct {M : List HP} {K : List KP} {A : Option Addr} {c : Nat} {top : Int} {rows : List (List Int)} (hrows : rowsK A c rows ∈ K) : Fn 68 [.slice A rows.length c, .int .i64 top] M K (fun r : Int => 0 ≤ r ∧ r ≤ 1099511627776) (fun r => .int .i64 r) (fun _ => M) (fun _ => K) := by
 refine Fn.of (n := 31) Try.func68 rfl Try.ntmps68 rfl ?_
 refine J.fact (fun w hw => hw.rows_max (A := A) (c := c) (rows := rows) mM) ?_
 intro hrm
 have hmm : maxLen = 9223372036854775807 := by decide
 refine T.seq ?_
 -- region 0 (alike.go:106)
 refine T.region ?_
 refine T.y (fun w hw => Yl.assign rfl) rfl rfl ?_
 refine T.nil ?_
 refine J.sel (.cons 0 rfl (.cons 1 rfl .nil)) ?_
 refine X.then_ ?_
 refine T.seq ?_
 -- region 1 (alike.go:107)
 refine T.region ?_
 refine T.y (fun w hw => Yl.move rfl) rfl rfl ?_
 refine T.y (fun w hw => Yl.len Try.underlying62 rfl) rfl rfl ?_
 refine T.o (OpW.bsl (sz := 1) rfl bsl_37_1 rfl rfl) rfl rfl (fun b9 _ => ?_)
 refine J.pick (p := rowH 3 1 (some ⟨b9, 0, none⟩) 1 1 [.int .i64 (rows.length : Int)]) pK ?_
 refine T.o (OpW.call en_117 rfl (sum1_ct (by omega) (by omega))) rfl rfl (fun r ⟨hr0, hr1⟩ => ?_)
 refine T.y (fun w hw => Yl.assign rfl) rfl rfl ?_
 refine T.nil ?_
 refine J.sel (.cons 0 rfl (.cons 1 rfl (.cons 5 rfl .nil))) ?_
 refine X.then_ ?_
 refine T.seq ?_
 refine T.seq ?_
 -- region 2 (alike.go:108)
 refine T.region ?_
 refine T.y (fun w hw => Yl.assign rfl) rfl rfl ?_
 refine T.nil ?_
 refine X.then_ ?_
 refine T.block ?_
 refine T.loop (α := Nat × Int) (fun u => u.1 ≤ rows.length ∧ 0 ≤ u.2 ∧ u.2 ≤ 1099511627776) (fun u => [(5, .int .i64 u.2), (6, .int .i64 (u.1 : Int)), (0, .slice A rows.length c), (1, .int .i64 top)]) (fun u => M) (fun u => K) (fun u => rows.length - u.1) (0, r) ⟨Nat.zero_le _, hr0, hr1⟩ (.num 5 rfl rfl (.num 6 rfl rfl (.cons 0 rfl (.cons 1 rfl .nil)))) (fun w hw => hw.f) ?_
 intro ⟨i, m⟩ ⟨hi, hm0, hm1⟩ Zk hz2
 dsimp only at hi hm0 hm1 hz2 ⊢
 refine T.seq ?_
 refine T.seq ?_
 -- region 3 (alike.go:108)
 refine T.region ?_
 refine T.y (fun w hw => Yl.move rfl) rfl rfl ?_
 refine T.y (fun w hw => Yl.move rfl) rfl rfl ?_
 refine T.y (fun w hw => Yl.len Try.underlying62 rfl) rfl rfl ?_
 refine T.y (fun w hw => Yl.lss rfl rfl) rfl rfl ?_
 refine T.y (fun w hw => Yl.move rfl) rfl rfl ?_
 refine T.splitD 15 rfl (fun h15 => ?_) (fun h15 => ?_)
 ·skip
  refine T.y (fun w hw => Yl.move rfl) rfl rfl ?_
  refine T.y (fun w hw => Yl.move rfl) rfl rfl ?_
  refine T.y (fun w hw => Yl.leq rfl rfl) rfl rfl ?_
  refine T.y (fun w hw => Yl.pickT rfl rfl) rfl rfl ?_
  refine T.nil ?_
  refine J.sel (.cons 0 rfl (.cons 1 rfl (.cons 5 rfl (.cons 6 rfl (.cons 19 rfl .nil))))) ?_
  refine X.then_ ?_
  refine T.condD rfl (fun h19 => ?_) (fun h19 => ?_)
  ·skip
   refine T.skip ?_
   refine X.then_ ?_
   refine T.seq ?_
   refine T.block ?_
   obtain ⟨p, hp⟩ : ∃ p, rows[i]? = some p := ⟨_, List.getElem?_eq_getElem (by omega)⟩
   refine J.open_ (fun w hw => hw.rows_at (A := A) (c := c) (rows := rows) mM hp) ?_
   rintro ⟨Ap, cp⟩ -
   dsimp only
   refine J.fact (fun w hw => hw.bytes_max (A := Ap) (c := cp) (xs := p) mM) ?_
   intro hdm
   -- region 5 (alike.go:109)
   refine T.region ?_
   refine T.y (fun w hw => Yl.move rfl) rfl rfl ?_
   refine T.y (fun w hw => Yl.move rfl) rfl rfl ?_
   refine T.y (fun w hw => Yl.move rfl) rfl rfl ?_
   refine T.y (fun w hw => (by first | exact Yl.iaK (i := i) hw mM Try.underlying62 isz_23 rfl rfl rfl (by omega) | exact Yl.ia1 (i := i) sC Try.underlying62 isz_23 rfl rfl rfl (by omega))) rfl rfl ?_
   refine T.y (fun w hw => (by first | exact Yl.ldC hw na_23 rfl mM | exact Yl.ldR sC na_23 rfl (by assumption) | exact Yl.ldV hw na_23 rfl mM rfl)) rfl rfl ?_
   refine T.y (fun w hw => Yl.len Try.underlying23 rfl) rfl rfl ?_
   refine T.o (OpW.bsl (sz := 1) rfl bsl_37_1 rfl rfl) rfl rfl (fun b28 _ => ?_)
   refine J.pick (p := rowH 3 1 (some ⟨b28, 0, none⟩) 1 1 [.int .i64 (p.length : Int)]) pK ?_
   refine T.o (OpW.call en_117 rfl (sum1_ct (by omega) (by omega))) rfl rfl (fun r' ⟨hr0', hr1'⟩ => ?_)
   refine T.y (fun w hw => Yl.assign rfl) rfl rfl ?_
   refine T.nil ?_
   refine J.sel (.cons 0 rfl (.cons 1 rfl (.cons 5 rfl (.cons 6 rfl .nil)))) ?_
   refine X.nm_blk ?_
   refine X.then_ ?_
   -- region 4 (alike.go:108)
   refine T.region ?_
   refine T.y (fun w hw => Yl.move rfl) rfl rfl ?_
   refine T.y (fun w hw => Yl.add rfl rfl (by omega)) rfl rfl ?_
   refine T.y (fun w hw => Yl.assign rfl) rfl rfl ?_
   refine T.nil ?_
   refine J.sel (.cons 0 rfl (.cons 1 rfl (.cons 5 rfl (.cons 6 rfl .nil)))) ?_
   refine X.go (hz2 (i + 1, r') ⟨by dsimp only; omega, hr0', hr1'⟩ (by dsimp only; omega)) (.num 5 rfl rfl (.num 6 rfl (by omega) (.cons 0 rfl (.cons 1 rfl .nil)))) (fun w hw => ?_)
   exact hw.f
  ·skip
   refine T.exit ?_
   refine X.exit_then ?_
   refine X.exit_then ?_
   refine X.exit_blk ?_
   refine X.then_ ?_
   refine T.seq ?_
   -- region 6 (alike.go:111)
   refine T.region ?_
   refine T.y (fun w hw => Yl.move rfl) rfl rfl ?_
   refine T.y (fun w hw => Yl.assign rfl) rfl rfl ?_
   refine T.nil ?_
   refine J.sel (.cons 4 rfl .nil) ?_
   refine X.then_ ?_
   refine T.ret ?_
   refine X.ret1 Try.results68 rfl (fun w hw => ?_)
   exact ⟨m, ⟨hm0, hm1⟩, rfl, hw.f⟩
 ·skip
  refine T.off rfl rfl rfl ?_
  refine T.off rfl rfl rfl ?_
  refine T.off rfl rfl rfl ?_
  refine T.y (fun w hw => Yl.pickF rfl rfl) rfl rfl ?_
  refine T.nil ?_
  refine J.sel (.cons 0 rfl (.cons 1 rfl (.cons 5 rfl (.cons 6 rfl (.cons 19 rfl .nil))))) ?_
  refine X.then_ ?_
  refine T.condF rfl ?_
  refine T.exit ?_
  refine X.exit_then ?_
  refine X.exit_then ?_
  refine X.exit_blk ?_
  refine X.then_ ?_
  refine T.seq ?_
  -- region 6 (alike.go:111)
  refine T.region ?_
  refine T.y (fun w hw => Yl.move rfl) rfl rfl ?_
  refine T.y (fun w hw => Yl.assign rfl) rfl rfl ?_
  refine T.nil ?_
  refine J.sel (.cons 4 rfl .nil) ?_
  refine X.then_ ?_
  refine T.ret ?_
  refine X.ret1 Try.results68 rfl (fun w hw => ?_)
  exact ⟨m, ⟨hm0, hm1⟩, rfl, hw.f⟩

set_option maxHeartbeats 2000000 in
theorem small_ct {M : List HP} {K : List KP} {A : Option Addr} {c : Nat} {ts : List TxL} (hts : viewK 2 txE A c ts ∈ K) : Fn 72 [.slice A ts.length c] M K (fun _ : Bool => True) (fun b => .bool b) (fun _ => M) (fun _ => K) := by
 refine Fn.of (n := 11) Try.func72 rfl Try.ntmps72 rfl ?_
 refine T.seq ?_
 -- region 0 (law.go:12)
 refine T.region ?_
 refine T.y (fun w hw => Yl.assign rfl) rfl rfl ?_
 refine T.nil ?_
 refine J.sel (.cons 0 rfl .nil) ?_
 refine X.then_ ?_
 refine T.seq ?_
 -- region 1 (law.go:12)
 refine T.region ?_
 refine T.y (fun w hw => Yl.move rfl) rfl rfl ?_
 refine T.o (OpW.call en_123 rfl (txs_ct (ts := ts) mM)) rfl rfl (fun s ⟨hs0, hs1⟩ => ?_)
 refine T.y (fun w hw => Yl.leq rfl rfl) rfl rfl ?_
 refine T.y (fun w hw => Yl.move rfl) rfl rfl ?_
 refine T.splitD 6 rfl (fun h6 => ?_) (fun h6 => ?_)
 ·skip
  refine T.y (fun w hw => Yl.move rfl) rfl rfl ?_
  refine T.y (fun w hw => Yl.len Try.underlying53 rfl) rfl rfl ?_
  refine T.y (fun w hw => Yl.leq rfl rfl) rfl rfl ?_
  refine T.y (fun w hw => Yl.pickT rfl rfl) rfl rfl ?_
  refine T.y (fun w hw => Yl.assign rfl) rfl rfl ?_
  refine T.nil ?_
  refine J.sel (.cons 2 rfl .nil) ?_
  refine X.then_ ?_
  refine T.ret ?_
  refine X.ret1 Try.results72 rfl (fun w hw => ?_)
  exact ⟨_, trivial, rfl, hw.f⟩
 ·skip
  refine T.off rfl rfl rfl ?_
  refine T.off rfl rfl rfl ?_
  refine T.off rfl rfl rfl ?_
  refine T.y (fun w hw => Yl.pickF rfl rfl) rfl rfl ?_
  refine T.y (fun w hw => Yl.assign rfl) rfl rfl ?_
  refine T.nil ?_
  refine J.sel (.cons 2 rfl .nil) ?_
  refine X.then_ ?_
  refine T.ret ?_
  refine X.ret1 Try.results72 rfl (fun w hw => ?_)
  exact ⟨_, trivial, rfl, hw.f⟩

set_option maxHeartbeats 2000000 in
theorem samePuts_ct {M : List HP} {K : List KP} {A B : Option Addr} {c k : Nat} {a b : List PutL} (ha : viewK 2 putE A c a ∈ K) (hb : viewK 2 putE B k b ∈ K) : Fn 122 [.slice A a.length c, .slice B b.length k] M K (fun _ : Unit => True) (fun _ => .bool (eqv a b)) (fun _ => M) (fun _ => K) := by
 refine Fn.of (n := 43) Try.func122 rfl Try.ntmps122 rfl ?_
 refine J.fact (fun w hw => hw.view_max9 (xs := a) (A := A) (c := c) (sz := 2) (el := putE) mM) ?_
 intro hmx
 refine T.seq ?_
 -- region 0 (txn.go:635)
 refine T.region ?_
 refine T.y (fun w hw => Yl.assign rfl) rfl rfl ?_
 refine T.nil ?_
 refine J.sel (.cons 0 rfl (.cons 1 rfl .nil)) ?_
 refine X.then_ ?_
 refine T.seq ?_
 refine T.seq ?_
 -- region 1 (txn.go:636)
 refine T.region ?_
 refine T.y (fun w hw => Yl.move rfl) rfl rfl ?_
 refine T.y (fun w hw => Yl.len Try.underlying56 rfl) rfl rfl ?_
 refine T.y (fun w hw => Yl.move rfl) rfl rfl ?_
 refine T.y (fun w hw => Yl.len Try.underlying56 rfl) rfl rfl ?_
 refine T.y (fun w hw => Yl.neq rfl rfl) rfl rfl ?_
 refine T.nil ?_
 refine J.sel (.cons 0 rfl (.cons 1 rfl (.cons 10 rfl .nil))) ?_
 refine X.then_ ?_
 refine T.condD rfl (fun h10 => ?_) (fun h10 => ?_)
 ·skip
  refine T.seq ?_
  -- region 2 (txn.go:637)
  refine T.region ?_
  refine T.y (fun w hw => Yl.assign rfl) rfl rfl ?_
  refine T.nil ?_
  refine J.sel (.cons 4 rfl .nil) ?_
  refine X.then_ ?_
  refine T.ret ?_
  refine X.ret_then ?_
  refine X.ret1 Try.results122 rfl (fun w hw => ?_)
  rw [eqv_no (fun h => by rw [h] at h10; omega)]
  exact ⟨(), trivial, rfl, hw.f⟩
 ·skip
  refine T.skip ?_
  refine X.then_ ?_
  refine T.seq ?_
  refine T.seq ?_
  -- region 3 (txn.go:639)
  refine T.region ?_
  refine T.y (fun w hw => Yl.assign rfl) rfl rfl ?_
  refine T.nil ?_
  refine J.sel (.cons 0 rfl (.cons 1 rfl (.cons 5 rfl .nil))) ?_
  refine X.then_ ?_
  refine T.block ?_
  refine T.loop (α := Nat) (fun i => i ≤ a.length ∧ ∀ j, j < i → a[j]? = b[j]?) (fun i => [(5, .int .i64 (i : Int)), (0, .slice A a.length c), (1, .slice B b.length k)]) (fun i => M) (fun i => K) (fun i => a.length - i) 0 ⟨Nat.zero_le _, fun j hj => by omega⟩ (.num 5 rfl rfl (.cons 0 rfl (.cons 1 rfl .nil))) (fun w hw => hw.f) ?_
  intro i hi Zk hz2
  obtain ⟨hi, hall⟩ := hi
  refine T.seq ?_
  refine T.seq ?_
  -- region 4 (txn.go:639)
  refine T.region ?_
  refine T.y (fun w hw => Yl.move rfl) rfl rfl ?_
  refine T.y (fun w hw => Yl.move rfl) rfl rfl ?_
  refine T.y (fun w hw => Yl.len Try.underlying56 rfl) rfl rfl ?_
  refine T.y (fun w hw => Yl.lss rfl rfl) rfl rfl ?_
  refine T.nil ?_
  refine J.sel (.cons 0 rfl (.cons 1 rfl (.cons 5 rfl (.cons 14 rfl .nil)))) ?_
  refine X.then_ ?_
  refine T.condD rfl (fun h14 => ?_) (fun h14 => ?_)
  ·skip
   refine T.skip ?_
   refine X.then_ ?_
   refine T.seq ?_
   refine T.block ?_
   refine T.seq ?_
   obtain ⟨p, htp⟩ : ∃ p, a[i]? = some p := ⟨_, List.getElem?_eq_getElem (by omega)⟩
   refine J.open_ (fun w hw => hw.put_at mM htp) ?_
   rintro ⟨Ap, cp⟩ -
   dsimp only
   obtain ⟨q, htq⟩ : ∃ q, b[i]? = some q := ⟨_, List.getElem?_eq_getElem (by omega)⟩
   refine J.open_ (fun w hw => hw.put_at mM htq) ?_
   rintro ⟨Aq, cq⟩ -
   dsimp only
   refine J.fact (fun w hw => hw.isB (A := Ap) (c := cp) (xs := p.data) mM) ?_
   intro hB1
   refine J.fact (fun w hw => hw.isB (A := Aq) (c := cq) (xs := q.data) mM) ?_
   intro hB2
   -- region 6 (txn.go:640)
   refine Dr.start0 [] ?_
   refine Dr.take 0 rfl (by kernel_rfl) bL sS (fun w hs => have hw := hs.h; Yl.move rfl) rfl rfl ?_
   refine Dr.take 1 rfl (by kernel_rfl) bL sS (fun w hs => have hw := hs.h; Yl.move rfl) rfl rfl ?_
   refine Dr.take 2 rfl (by kernel_rfl) bL sS (fun w hs => have hw := hs.h; (by first | exact Yl.iaV hw mM Try.underlying56 isz_61 rfl rfl rfl (by omega) | exact Yl.ia Try.underlying56 isz_61 rfl rfl rfl (by omega) sC)) rfl rfl ?_
   refine Dr.take 3 rfl (by kernel_rfl) bL sS (fun w hs => have hw := hs.h; Yl.fae fa_61_0 rfl) rfl rfl ?_
   refine Dr.take 4 rfl (by kernel_rfl) bL sS (fun w hs => have hw := hs.h; (by first | exact Yl.ldC hw na_3 rfl mM | exact Yl.ldI hw mM na_3 rfl (by omega) | exact Yl.ldR sC na_3 rfl (by assumption) | exact Yl.ldV hw na_3 rfl mM rfl)) rfl rfl ?_
   refine Dr.take 5 rfl (by kernel_rfl) bL sS (fun w hs => have hw := hs.h; Yl.move rfl) rfl rfl ?_
   refine Dr.take 6 rfl (by kernel_rfl) bL sS (fun w hs => have hw := hs.h; Yl.move rfl) rfl rfl ?_
   refine Dr.take 7 rfl (by kernel_rfl) bL sS (fun w hs => have hw := hs.h; (by first | exact Yl.iaV hw mM Try.underlying56 isz_61 rfl rfl rfl (by omega) | exact Yl.ia Try.underlying56 isz_61 rfl rfl rfl (by omega) sC)) rfl rfl ?_
   refine Dr.take 8 rfl (by kernel_rfl) bL sS (fun w hs => have hw := hs.h; Yl.fae fa_61_0 rfl) rfl rfl ?_
   refine Dr.take 9 rfl (by kernel_rfl) bL sS (fun w hs => have hw := hs.h; (by first | exact Yl.ldC hw na_3 rfl mM | exact Yl.ldI hw mM na_3 rfl (by omega) | exact Yl.ldR sC na_3 rfl (by assumption) | exact Yl.ldV hw na_3 rfl mM rfl)) rfl rfl ?_
   refine Dr.take 10 rfl (by kernel_rfl) bL sS (fun w hs => have hw := hs.h; Yl.neq rfl rfl) rfl rfl ?_
   refine Dr.take 11 rfl (by kernel_rfl) bL sS (fun w hs => have hw := hs.h; Yl.move rfl) rfl rfl ?_
   refine T.splitD 28 rfl (fun h28 => ?_) (fun h28 => ?_)
   ·skip
    refine Dr.off 12 rfl (by kernel_rfl) bL sS rfl rfl ?_
    refine Dr.off 13 rfl (by kernel_rfl) bL sS rfl rfl ?_
    refine Dr.off 14 rfl (by kernel_rfl) bL sS rfl rfl ?_
    refine Dr.off 15 rfl (by kernel_rfl) bL sS rfl rfl ?_
    refine Dr.off 16 rfl (by kernel_rfl) bL sS rfl rfl ?_
    refine Dr.off 17 rfl (by kernel_rfl) bL sS rfl rfl ?_
    refine Dr.off 18 rfl (by kernel_rfl) bL sS rfl rfl ?_
    refine Dr.off 19 rfl (by kernel_rfl) bL sS rfl rfl ?_
    refine Dr.off 20 rfl (by kernel_rfl) bL sS rfl rfl ?_
    refine Dr.off 21 rfl (by kernel_rfl) bL sS rfl rfl ?_
    refine Dr.off 22 rfl (by kernel_rfl) bL sS rfl rfl ?_
    refine Dr.off 23 rfl (by kernel_rfl) bL sS rfl rfl ?_
    refine Dr.off 24 rfl (by kernel_rfl) bL sS rfl rfl ?_
    refine Dr.take 25 rfl (by kernel_rfl) bL sS (fun w hs => have hw := hs.h; Yl.pickT rfl rfl) rfl rfl ?_
    refine Dr.done (by kernel_rfl) ?_
    refine J.sel (.cons 0 rfl (.cons 1 rfl (.cons 5 rfl (.cons 42 rfl .nil)))) ?_
    refine X.then_ ?_
    refine T.condT rfl ?_
    refine T.seq ?_
    -- region 7 (txn.go:641)
    refine T.region ?_
    refine T.y (fun w hw => Yl.assign rfl) rfl rfl ?_
    refine T.nil ?_
    refine J.sel (.cons 4 rfl .nil) ?_
    refine X.then_ ?_
    refine T.ret ?_
    refine X.ret_blk ?_
    refine X.ret_then ?_
    refine X.ret_then ?_
    refine X.ret_blk ?_
    refine X.ret_then ?_
    refine X.ret1 Try.results122 rfl (fun w hw => ?_)
    rw [eqv_no (fun h => by
      rw [h, htq] at htp
      injection htp with htp
      subst htp
      first
        | exact h28 rfl
        | exact h42 rfl)]
    exact ⟨(), trivial, rfl, hw.f⟩
   ·skip
    refine Dr.take 12 rfl (by kernel_rfl) bL sS (fun w hs => have hw := hs.h; Yl.move rfl) rfl rfl ?_
    refine Dr.take 13 rfl (by kernel_rfl) bL sS (fun w hs => have hw := hs.h; Yl.move rfl) rfl rfl ?_
    refine Dr.take 14 rfl (by kernel_rfl) bL sS (fun w hs => have hw := hs.h; (by first | exact Yl.iaV hw mM Try.underlying56 isz_61 rfl rfl rfl (by omega) | exact Yl.ia Try.underlying56 isz_61 rfl rfl rfl (by omega) sC)) rfl rfl ?_
    refine Dr.take 15 rfl (by kernel_rfl) bL sS (fun w hs => have hw := hs.h; Yl.fae fa_61_1 rfl) rfl rfl ?_
    refine Dr.take 16 rfl (by kernel_rfl) bL sS (fun w hs => have hw := hs.h; (by first | exact Yl.ldC hw na_23 rfl mM | exact Yl.ldR sC na_23 rfl (by assumption) | exact Yl.ldV hw na_23 rfl mM rfl)) rfl rfl ?_
    refine Dr.take 17 rfl (by kernel_rfl) bL sS (fun w hs => have hw := hs.h; Yl.convS (xs := p.data) (A := Ap) (c := cp) hw mM rfl) rfl rfl ?_
    refine Dr.take 18 rfl (by kernel_rfl) bL sS (fun w hs => have hw := hs.h; Yl.move rfl) rfl rfl ?_
    refine Dr.take 19 rfl (by kernel_rfl) bL sS (fun w hs => have hw := hs.h; Yl.move rfl) rfl rfl ?_
    refine Dr.take 20 rfl (by kernel_rfl) bL sS (fun w hs => have hw := hs.h; (by first | exact Yl.iaV hw mM Try.underlying56 isz_61 rfl rfl rfl (by omega) | exact Yl.ia Try.underlying56 isz_61 rfl rfl rfl (by omega) sC)) rfl rfl ?_
    refine Dr.take 21 rfl (by kernel_rfl) bL sS (fun w hs => have hw := hs.h; Yl.fae fa_61_1 rfl) rfl rfl ?_
    refine Dr.take 22 rfl (by kernel_rfl) bL sS (fun w hs => have hw := hs.h; (by first | exact Yl.ldC hw na_23 rfl mM | exact Yl.ldR sC na_23 rfl (by assumption) | exact Yl.ldV hw na_23 rfl mM rfl)) rfl rfl ?_
    refine Dr.take 23 rfl (by kernel_rfl) bL sS (fun w hs => have hw := hs.h; Yl.convS (xs := q.data) (A := Aq) (c := cq) hw mM rfl) rfl rfl ?_
    refine Dr.take 24 rfl (by kernel_rfl) bL sS (fun w hs => have hw := hs.h; Yl.neS rfl rfl) rfl rfl ?_
    refine Dr.take 25 rfl (by kernel_rfl) bL sS (fun w hs => have hw := hs.h; Yl.pickF rfl rfl) rfl rfl ?_
    refine Dr.done (by kernel_rfl) ?_
    refine J.sel (.cons 0 rfl (.cons 1 rfl (.cons 5 rfl (.cons 42 rfl .nil)))) ?_
    refine X.then_ ?_
    refine T.condD rfl (fun h42 => ?_) (fun h42 => ?_)
    ·skip
     refine T.seq ?_
     -- region 7 (txn.go:641)
     refine T.region ?_
     refine T.y (fun w hw => Yl.assign rfl) rfl rfl ?_
     refine T.nil ?_
     refine J.sel (.cons 4 rfl .nil) ?_
     refine X.then_ ?_
     refine T.ret ?_
     refine X.ret_blk ?_
     refine X.ret_then ?_
     refine X.ret_then ?_
     refine X.ret_blk ?_
     refine X.ret_then ?_
     refine X.ret1 Try.results122 rfl (fun w hw => ?_)
     rw [eqv_no (fun h => by
       rw [h, htq] at htp
       injection htp with htp
       subst htp
       first
         | exact h28 rfl
         | exact h42 rfl)]
     exact ⟨(), trivial, rfl, hw.f⟩
    ·skip
     refine T.skip ?_
     refine X.nm_blk ?_
     refine X.then_ ?_
     -- region 5 (txn.go:639)
     refine T.region ?_
     refine T.y (fun w hw => Yl.move rfl) rfl rfl ?_
     refine T.y (fun w hw => Yl.add rfl rfl (by omega)) rfl rfl ?_
     refine T.y (fun w hw => Yl.assign rfl) rfl rfl ?_
     refine T.nil ?_
     refine J.sel (.cons 0 rfl (.cons 1 rfl (.cons 5 rfl .nil))) ?_
     have hpq : p = q := by
       have e1 : p.lba = q.lba := Classical.not_not.1 h28
       have e2 : p.data = q.data := str_inj hB1 hB2 (Classical.not_not.1 h42)
       cases p; cases q; simp_all
     refine X.go (hz2 (i + 1) ⟨by omega, fun j hj => ?_⟩ (by omega)) (.num 5 rfl (by omega) (.cons 0 rfl (.cons 1 rfl .nil))) (fun w hw => ?_)
     · rcases Nat.lt_succ_iff_lt_or_eq.1 hj with hj | rfl
       · exact hall j hj
       · rw [htp, htq, hpq]
     · exact hw.f
  ·skip
   refine T.exit ?_
   refine X.exit_then ?_
   refine X.exit_then ?_
   refine X.exit_blk ?_
   refine X.then_ ?_
   refine T.seq ?_
   -- region 8 (txn.go:644)
   refine T.region ?_
   refine T.y (fun w hw => Yl.assign rfl) rfl rfl ?_
   refine T.nil ?_
   refine J.sel (.cons 4 rfl .nil) ?_
   refine X.then_ ?_
   refine T.ret ?_
   refine X.ret1 Try.results122 rfl (fun w hw => ?_)
   rw [eqv_yes (ext_of (by omega) (fun j hj => hall j (by omega)))]
   exact ⟨(), trivial, rfl, hw.f⟩

set_option maxHeartbeats 2000000 in
theorem sameBatch_ct {M : List HP} {K : List KP} {A B : Option Addr} {c k : Nat} {a b : BatL} (ha : viewK 2 txE A c a.txs ∈ K) (hb : viewK 2 txE B k b.txs ∈ K) : Fn 71 [.agg [.int .i64 a.num, .slice A a.txs.length c].toArray, .agg [.int .i64 b.num, .slice B b.txs.length k].toArray] M K (fun _ : Unit => True) (fun _ => .bool (eqv a b)) (fun _ => M) (fun _ => K) := by
 refine Fn.of (n := 56) Try.func71 rfl Try.ntmps71 rfl ?_
 refine J.fact (fun w hw => hw.view_max9 (xs := a.txs) (A := A) (c := c) (sz := 2) (el := txE) mM) ?_
 intro hmx
 refine T.seq ?_
 -- region 0 (txn.go:648)
 refine T.region ?_
 refine T.o (OpW.box rfl) rfl rfl (fun b2 _ => ?_)
 refine T.o (OpW.box rfl) rfl rfl (fun b3 _ => ?_)
 refine T.y (fun w hw => Yl.assign rfl) rfl rfl ?_
 refine T.nil ?_
 refine J.sel (.cons 2 rfl (.cons 3 rfl .nil)) ?_
 refine X.then_ ?_
 refine T.seq ?_
 refine T.seq ?_
 -- region 1 (txn.go:649)
 refine T.region ?_
 refine T.y (fun w hw => Yl.fa fa_55_0 rfl) rfl rfl ?_
 refine T.y (fun w hw => Yl.ldP hw na_3 rfl mM rfl) rfl rfl ?_
 refine T.y (fun w hw => Yl.fa fa_55_0 rfl) rfl rfl ?_
 refine T.y (fun w hw => Yl.ldP hw na_3 rfl mM rfl) rfl rfl ?_
 refine T.y (fun w hw => Yl.neq rfl rfl) rfl rfl ?_
 refine T.y (fun w hw => Yl.move rfl) rfl rfl ?_
 refine T.splitD 11 rfl (fun h11 => ?_) (fun h11 => ?_)
 ·skip
  refine T.off rfl rfl rfl ?_
  refine T.off rfl rfl rfl ?_
  refine T.off rfl rfl rfl ?_
  refine T.off rfl rfl rfl ?_
  refine T.off rfl rfl rfl ?_
  refine T.off rfl rfl rfl ?_
  refine T.off rfl rfl rfl ?_
  refine T.y (fun w hw => Yl.pickT rfl rfl) rfl rfl ?_
  refine T.nil ?_
  refine J.sel (.cons 2 rfl (.cons 3 rfl (.cons 19 rfl .nil))) ?_
  refine X.then_ ?_
  refine T.condT rfl ?_
  refine T.seq ?_
  -- region 2 (txn.go:650)
  refine T.region ?_
  refine T.y (fun w hw => Yl.assign rfl) rfl rfl ?_
  refine T.nil ?_
  refine J.sel (.cons 4 rfl .nil) ?_
  refine X.then_ ?_
  refine T.ret ?_
  refine X.ret_then ?_
  refine X.ret1 Try.results71 rfl (fun w hw => ?_)
  rw [eqv_no (fun h => by
    subst h
    first
      | exact h11 rfl
      | omega)]
  exact ⟨(), trivial, rfl, hw.f⟩
 ·skip
  refine T.y (fun w hw => Yl.fa fa_55_1 rfl) rfl rfl ?_
  refine T.y (fun w hw => Yl.ldP hw na_53 rfl mM rfl) rfl rfl ?_
  refine T.y (fun w hw => Yl.len Try.underlying53 rfl) rfl rfl ?_
  refine T.y (fun w hw => Yl.fa fa_55_1 rfl) rfl rfl ?_
  refine T.y (fun w hw => Yl.ldP hw na_53 rfl mM rfl) rfl rfl ?_
  refine T.y (fun w hw => Yl.len Try.underlying53 rfl) rfl rfl ?_
  refine T.y (fun w hw => Yl.neq rfl rfl) rfl rfl ?_
  refine T.y (fun w hw => Yl.pickF rfl rfl) rfl rfl ?_
  refine T.nil ?_
  refine J.sel (.cons 2 rfl (.cons 3 rfl (.cons 19 rfl .nil))) ?_
  refine X.then_ ?_
  refine T.condD rfl (fun h19 => ?_) (fun h19 => ?_)
  ·skip
   refine T.seq ?_
   -- region 2 (txn.go:650)
   refine T.region ?_
   refine T.y (fun w hw => Yl.assign rfl) rfl rfl ?_
   refine T.nil ?_
   refine J.sel (.cons 4 rfl .nil) ?_
   refine X.then_ ?_
   refine T.ret ?_
   refine X.ret_then ?_
   refine X.ret1 Try.results71 rfl (fun w hw => ?_)
   rw [eqv_no (fun h => by
     subst h
     first
       | exact h11 rfl
       | omega)]
   exact ⟨(), trivial, rfl, hw.f⟩
  ·skip
   refine T.skip ?_
   refine X.then_ ?_
   refine T.seq ?_
   refine T.seq ?_
   -- region 3 (txn.go:652)
   refine T.region ?_
   refine T.y (fun w hw => Yl.assign rfl) rfl rfl ?_
   refine T.nil ?_
   refine J.sel (.cons 2 rfl (.cons 3 rfl (.cons 5 rfl .nil))) ?_
   refine X.then_ ?_
   refine T.block ?_
   refine T.loop (α := Nat) (fun i => i ≤ a.txs.length ∧ ∀ j, j < i → a.txs[j]? = b.txs[j]?) (fun i => [(5, .int .i64 (i : Int)), (2, ptr b2 0), (3, ptr b3 0)]) (fun i => pt b3 55 [.int .i64 b.num, .slice B b.txs.length k] :: pt b2 55 [.int .i64 a.num, .slice A a.txs.length c] :: M) (fun i => K) (fun i => a.txs.length - i) 0 ⟨Nat.zero_le _, fun j hj => by omega⟩ (.num 5 rfl rfl (.cons 2 rfl (.cons 3 rfl .nil))) (fun w hw => hw.f) ?_
   intro i hi Zk hz2
   obtain ⟨hi, hall⟩ := hi
   refine T.seq ?_
   refine T.seq ?_
   -- region 4 (txn.go:652)
   refine T.region ?_
   refine T.y (fun w hw => Yl.move rfl) rfl rfl ?_
   refine T.y (fun w hw => Yl.fa fa_55_1 rfl) rfl rfl ?_
   refine T.y (fun w hw => Yl.ldP hw na_53 rfl mM rfl) rfl rfl ?_
   refine T.y (fun w hw => Yl.len Try.underlying53 rfl) rfl rfl ?_
   refine T.y (fun w hw => Yl.lss rfl rfl) rfl rfl ?_
   refine T.nil ?_
   refine J.sel (.cons 2 rfl (.cons 3 rfl (.cons 5 rfl (.cons 24 rfl .nil)))) ?_
   refine X.then_ ?_
   refine T.condD rfl (fun h24 => ?_) (fun h24 => ?_)
   ·skip
    refine T.skip ?_
    refine X.then_ ?_
    refine T.seq ?_
    refine T.block ?_
    refine T.seq ?_
    obtain ⟨t, htt⟩ : ∃ t, a.txs[i]? = some t := ⟨_, List.getElem?_eq_getElem (by omega)⟩
    refine J.open_ (fun w hw => hw.tx_at mM htt) ?_
    rintro ⟨At, ct⟩ -
    dsimp only
    obtain ⟨s, hts⟩ : ∃ s, b.txs[i]? = some s := ⟨_, List.getElem?_eq_getElem (by omega)⟩
    refine J.open_ (fun w hw => hw.tx_at mM hts) ?_
    rintro ⟨As, cs⟩ -
    dsimp only
    -- region 6 (txn.go:653)
    refine Dr.start0 [] ?_
    refine Dr.take 0 rfl (by kernel_rfl) bL sS (fun w hs => have hw := hs.h; Yl.fa fa_55_1 rfl) rfl rfl ?_
    refine Dr.take 1 rfl (by kernel_rfl) bL sS (fun w hs => have hw := hs.h; Yl.ldP hw na_53 rfl mM rfl) rfl rfl ?_
    refine Dr.take 2 rfl (by kernel_rfl) bL sS (fun w hs => have hw := hs.h; Yl.move rfl) rfl rfl ?_
    refine Dr.take 3 rfl (by kernel_rfl) bL sS (fun w hs => have hw := hs.h; (by first | exact Yl.iaV hw mM Try.underlying53 isz_58 rfl rfl rfl (by omega) | exact Yl.ia Try.underlying53 isz_58 rfl rfl rfl (by omega) sC)) rfl rfl ?_
    refine Dr.take 4 rfl (by kernel_rfl) bL sS (fun w hs => have hw := hs.h; Yl.fae fa_58_0 rfl) rfl rfl ?_
    refine Dr.take 5 rfl (by kernel_rfl) bL sS (fun w hs => have hw := hs.h; (by first | exact Yl.ldC hw na_3 rfl mM | exact Yl.ldI hw mM na_3 rfl (by omega) | exact Yl.ldR sC na_3 rfl (by assumption) | exact Yl.ldV hw na_3 rfl mM rfl)) rfl rfl ?_
    refine Dr.take 6 rfl (by kernel_rfl) bL sS (fun w hs => have hw := hs.h; Yl.fa fa_55_1 rfl) rfl rfl ?_
    refine Dr.take 7 rfl (by kernel_rfl) bL sS (fun w hs => have hw := hs.h; Yl.ldP hw na_53 rfl mM rfl) rfl rfl ?_
    refine Dr.take 8 rfl (by kernel_rfl) bL sS (fun w hs => have hw := hs.h; Yl.move rfl) rfl rfl ?_
    refine Dr.take 9 rfl (by kernel_rfl) bL sS (fun w hs => have hw := hs.h; (by first | exact Yl.iaV hw mM Try.underlying53 isz_58 rfl rfl rfl (by omega) | exact Yl.ia Try.underlying53 isz_58 rfl rfl rfl (by omega) sC)) rfl rfl ?_
    refine Dr.take 10 rfl (by kernel_rfl) bL sS (fun w hs => have hw := hs.h; Yl.fae fa_58_0 rfl) rfl rfl ?_
    refine Dr.take 11 rfl (by kernel_rfl) bL sS (fun w hs => have hw := hs.h; (by first | exact Yl.ldC hw na_3 rfl mM | exact Yl.ldI hw mM na_3 rfl (by omega) | exact Yl.ldR sC na_3 rfl (by assumption) | exact Yl.ldV hw na_3 rfl mM rfl)) rfl rfl ?_
    refine Dr.take 12 rfl (by kernel_rfl) bL sS (fun w hs => have hw := hs.h; Yl.neq rfl rfl) rfl rfl ?_
    refine Dr.take 13 rfl (by kernel_rfl) bL sS (fun w hs => have hw := hs.h; Yl.move rfl) rfl rfl ?_
    refine T.splitD 40 rfl (fun h40 => ?_) (fun h40 => ?_)
    ·skip
     refine Dr.off 14 rfl (by kernel_rfl) bL sS rfl rfl ?_
     refine Dr.off 15 rfl (by kernel_rfl) bL sS rfl rfl ?_
     refine Dr.off 16 rfl (by kernel_rfl) bL sS rfl rfl ?_
     refine Dr.off 17 rfl (by kernel_rfl) bL sS rfl rfl ?_
     refine Dr.off 18 rfl (by kernel_rfl) bL sS rfl rfl ?_
     refine Dr.off 19 rfl (by kernel_rfl) bL sS rfl rfl ?_
     refine Dr.off 20 rfl (by kernel_rfl) bL sS rfl rfl ?_
     refine Dr.off 21 rfl (by kernel_rfl) bL sS rfl rfl ?_
     refine Dr.off 22 rfl (by kernel_rfl) bL sS rfl rfl ?_
     refine Dr.off 23 rfl (by kernel_rfl) bL sS rfl rfl ?_
     refine Dr.off 24 rfl (by kernel_rfl) bL sS rfl rfl ?_
     refine Dr.off 25 rfl (by kernel_rfl) bL sS rfl rfl ?_
     refine Dr.off 26 rfl (by kernel_rfl) bL sS rfl rfl ?_
     refine Dr.off 27 rfl (by kernel_rfl) bL sS rfl rfl ?_
     refine Dr.take 28 rfl (by kernel_rfl) bL sS (fun w hs => have hw := hs.h; Yl.pickT rfl rfl) rfl rfl ?_
     refine Dr.done (by kernel_rfl) ?_
     refine J.sel (.cons 2 rfl (.cons 3 rfl (.cons 5 rfl (.cons 55 rfl .nil)))) ?_
     refine X.then_ ?_
     refine T.condT rfl ?_
     refine T.seq ?_
     -- region 7 (txn.go:654)
     refine T.region ?_
     refine T.y (fun w hw => Yl.assign rfl) rfl rfl ?_
     refine T.nil ?_
     refine J.sel (.cons 4 rfl .nil) ?_
     refine X.then_ ?_
     refine T.ret ?_
     refine X.ret_blk ?_
     refine X.ret_then ?_
     refine X.ret_then ?_
     refine X.ret_blk ?_
     refine X.ret_then ?_
     refine X.ret1 Try.results71 rfl (fun w hw => ?_)
     rw [eqv_no (fun h => by
       rw [h, hts] at htt
       injection htt with htt
       subst htt
       first
         | exact h40 rfl
         | (rw [eqv_yes rfl] at h55; cases h55))]
     exact ⟨(), trivial, rfl, hw.f⟩
    ·skip
     refine Dr.take 14 rfl (by kernel_rfl) bL sS (fun w hs => have hw := hs.h; Yl.fa fa_55_1 rfl) rfl rfl ?_
     refine Dr.take 15 rfl (by kernel_rfl) bL sS (fun w hs => have hw := hs.h; Yl.ldP hw na_53 rfl mM rfl) rfl rfl ?_
     refine Dr.take 16 rfl (by kernel_rfl) bL sS (fun w hs => have hw := hs.h; Yl.move rfl) rfl rfl ?_
     refine Dr.take 17 rfl (by kernel_rfl) bL sS (fun w hs => have hw := hs.h; (by first | exact Yl.iaV hw mM Try.underlying53 isz_58 rfl rfl rfl (by omega) | exact Yl.ia Try.underlying53 isz_58 rfl rfl rfl (by omega) sC)) rfl rfl ?_
     refine Dr.take 18 rfl (by kernel_rfl) bL sS (fun w hs => have hw := hs.h; Yl.fae fa_58_1 rfl) rfl rfl ?_
     refine Dr.take 19 rfl (by kernel_rfl) bL sS (fun w hs => have hw := hs.h; (by first | exact Yl.ldC hw na_56 rfl mM | exact Yl.ldR sC na_56 rfl (by assumption) | exact Yl.ldV hw na_56 rfl mM rfl)) rfl rfl ?_
     refine Dr.take 20 rfl (by kernel_rfl) bL sS (fun w hs => have hw := hs.h; Yl.fa fa_55_1 rfl) rfl rfl ?_
     refine Dr.take 21 rfl (by kernel_rfl) bL sS (fun w hs => have hw := hs.h; Yl.ldP hw na_53 rfl mM rfl) rfl rfl ?_
     refine Dr.take 22 rfl (by kernel_rfl) bL sS (fun w hs => have hw := hs.h; Yl.move rfl) rfl rfl ?_
     refine Dr.take 23 rfl (by kernel_rfl) bL sS (fun w hs => have hw := hs.h; (by first | exact Yl.iaV hw mM Try.underlying53 isz_58 rfl rfl rfl (by omega) | exact Yl.ia Try.underlying53 isz_58 rfl rfl rfl (by omega) sC)) rfl rfl ?_
     refine Dr.take 24 rfl (by kernel_rfl) bL sS (fun w hs => have hw := hs.h; Yl.fae fa_58_1 rfl) rfl rfl ?_
     refine Dr.take 25 rfl (by kernel_rfl) bL sS (fun w hs => have hw := hs.h; (by first | exact Yl.ldC hw na_56 rfl mM | exact Yl.ldR sC na_56 rfl (by assumption) | exact Yl.ldV hw na_56 rfl mM rfl)) rfl rfl ?_
     refine Dr.act 26 rfl (by kernel_rfl) rfl (OpW.call en_122 rfl (samePuts_ct (a := t.puts) (b := s.puts) mM mM)) rfl rfl (fun _ _ _ => sS) (fun _ _ => ?_)
     refine Dr.take 27 rfl (by kernel_rfl) bL sS (fun w hs => have hw := hs.h; Yl.not rfl) rfl rfl ?_
     refine Dr.take 28 rfl (by kernel_rfl) bL sS (fun w hs => have hw := hs.h; Yl.pickF rfl rfl) rfl rfl ?_
     refine Dr.done (by kernel_rfl) ?_
     refine J.sel (.cons 2 rfl (.cons 3 rfl (.cons 5 rfl (.cons 55 rfl .nil)))) ?_
     refine X.then_ ?_
     refine T.cond rfl (fun h55 => ?_) (fun h55 => ?_)
     ·skip
      refine T.seq ?_
      -- region 7 (txn.go:654)
      refine T.region ?_
      refine T.y (fun w hw => Yl.assign rfl) rfl rfl ?_
      refine T.nil ?_
      refine J.sel (.cons 4 rfl .nil) ?_
      refine X.then_ ?_
      refine T.ret ?_
      refine X.ret_blk ?_
      refine X.ret_then ?_
      refine X.ret_then ?_
      refine X.ret_blk ?_
      refine X.ret_then ?_
      refine X.ret1 Try.results71 rfl (fun w hw => ?_)
      rw [eqv_no (fun h => by
        rw [h, hts] at htt
        injection htt with htt
        subst htt
        first
          | exact h40 rfl
          | (rw [eqv_yes rfl] at h55; cases h55))]
      exact ⟨(), trivial, rfl, hw.f⟩
     ·skip
      refine T.skip ?_
      refine X.nm_blk ?_
      refine X.then_ ?_
      -- region 5 (txn.go:652)
      refine T.region ?_
      refine T.y (fun w hw => Yl.move rfl) rfl rfl ?_
      refine T.y (fun w hw => Yl.add rfl rfl (by omega)) rfl rfl ?_
      refine T.y (fun w hw => Yl.assign rfl) rfl rfl ?_
      refine T.nil ?_
      refine J.sel (.cons 2 rfl (.cons 3 rfl (.cons 5 rfl .nil))) ?_
      have hpq : t = s := by
        have e1 : t.time = s.time := Classical.not_not.1 h40
        have e2 : t.puts = s.puts := eqv_iff.1 (by simpa using h55)
        cases t; cases s; simp_all
      refine X.go (hz2 (i + 1) ⟨by omega, fun j hj => ?_⟩ (by omega)) (.num 5 rfl (by omega) (.cons 2 rfl (.cons 3 rfl .nil))) (fun w hw => ?_)
      · rcases Nat.lt_succ_iff_lt_or_eq.1 hj with hj | rfl
        · exact hall j hj
        · rw [htt, hts, hpq]
      · exact hw.f
   ·skip
    refine T.exit ?_
    refine X.exit_then ?_
    refine X.exit_then ?_
    refine X.exit_blk ?_
    refine X.then_ ?_
    refine T.seq ?_
    -- region 8 (txn.go:657)
    refine T.region ?_
    refine T.y (fun w hw => Yl.assign rfl) rfl rfl ?_
    refine T.nil ?_
    refine J.sel (.cons 4 rfl .nil) ?_
    refine X.then_ ?_
    refine T.ret ?_
    refine X.ret1 Try.results71 rfl (fun w hw => ?_)
    rw [eqv_yes (by
      have e1 : a.num = b.num := Classical.not_not.1 h11
      have e2 : a.txs = b.txs := ext_of (by omega) (fun j hj => hall j (by omega))
      cases a; cases b; simp_all)]
    exact ⟨(), trivial, rfl, hw.f⟩

set_option maxHeartbeats 2000000 in
theorem awake17_ct {M : List HP} {K : List KP} : Fn 43 [] M K (fun _ : Unit => True) (fun _ => .bool true) (fun _ => M) (fun _ => K) := by
 refine Fn.of (n := 42) Try.func43 rfl Try.ntmps43 rfl ?_
 refine T.seq ?_
 -- region 0 (law.go:15)
 refine T.region ?_
 refine T.y (fun w hw => Yl.assign rfl) rfl rfl ?_
 refine T.nil ?_
 refine J.sel .nil ?_
 refine X.then_ ?_
 refine T.seq ?_
 -- region 1 (law.go:16)
 refine T.region ?_
 refine T.o (OpW.call en_44 rfl (data_ct)) rfl rfl (fun ⟨A4, c4⟩ _ => ?_)
 dsimp only
 refine T.y (fun w hw => Yl.build rfl (bld_61_0_1 _)) rfl rfl ?_
 refine T.o (OpW.bsl (sz := 2) rfl bsl_56_1 rfl rfl) rfl rfl (fun b6 _ => ?_)
 refine T.y (fun w hw => Yl.build rfl (bld_58_0_1 _)) rfl rfl ?_
 refine T.o (OpW.bsl (sz := 2) rfl bsl_53_1 rfl rfl) rfl rfl (fun b8 _ => ?_)
 refine T.y (fun w hw => Yl.build rfl (bld_55_0_1 _)) rfl rfl ?_
 refine T.o (OpW.alloc zr_55) rfl rfl (fun b1 _ => ?_)
 refine T.o0 (OpW.stA sz_55 rfl rfl rfl rfl sW uL) rfl (fun _ _ => ?_)
 refine T.nil ?_
 refine J.sel (.cons 1 rfl .nil) ?_
 refine X.then_ ?_
 refine T.seq ?_
 refine J.ent (fun w hw => hw.putE' (A := A4) (c := c4) (p := ⟨3, bk 40 1⟩) mM rfl) ?_
 refine J.ent (fun w hw => Hold.view_lit (e := 61) (sz := 2) (el := putE) (x := ⟨3, bk 40 1⟩) (vs := [.int .i64 (⟨3, bk 40 1⟩ : PutL).lba, .slice A4 (⟨3, bk 40 1⟩ : PutL).data.length c4]) (A := some ⟨b6, 0, none⟩) (c := 1) (hw.pick pK) rfl mM) ?_
 refine J.ent (fun w hw => hw.txE' (A := (some ⟨b6, 0, none⟩)) (c := 1) (t := ⟨5, [⟨3, bk 40 1⟩]⟩) mM rfl) ?_
 refine J.ent (fun w hw => Hold.view_lit (e := 58) (sz := 2) (el := txE) (x := ⟨5, [⟨3, bk 40 1⟩]⟩) (vs := [.int .i64 (⟨5, [⟨3, bk 40 1⟩]⟩ : TxL).time, .slice (some ⟨b6, 0, none⟩) (⟨5, [⟨3, bk 40 1⟩]⟩ : TxL).puts.length 1]) (A := some ⟨b8, 0, none⟩) (c := 1) (hw.pick pK) rfl mM) ?_
 -- region 2 (law.go:17)
 refine T.region ?_
 refine T.y (fun w hw => Yl.ldaP hw ag_55 rfl mM sU) rfl rfl ?_
 refine T.o (OpW.call en_45 rfl (encode_b_ct (b := awB) mM)) rfl rfl (fun ⟨A12, c12⟩ _ => ?_)
 dsimp only
 rw [encR_yes aw_can, encE_yes aw_can]
 refine T.y (fun w hw => Yl.move rfl) rfl rfl ?_
 refine T.y (fun w hw => Yl.extract rfl rfl) rfl rfl ?_
 refine T.y (fun w hw => Yl.extract rfl rfl) rfl rfl ?_
 refine T.y (fun w hw => Yl.assign rfl) rfl rfl ?_
 refine T.y (fun w hw => Yl.assign rfl) rfl rfl ?_
 refine T.nil ?_
 refine J.sel (.cons 1 rfl (.cons 2 rfl (.cons 3 rfl .nil))) ?_
 refine X.then_ ?_
 refine T.seq ?_
 have hq : (encB awB 7)[1]? = some (lastRow awB 7).enc := rfl
 have hl2 : (encB awB 7).length = 2 := rfl
 refine J.open_ (fun w hw => hw.rows_at (A := A12) (c := c12) (rows := encB awB 7) mM hq) ?_
 rintro ⟨Aq, cq⟩ -
 dsimp only
 have hq64 := enc_length (lastRow awB 7) (err_fits (last_err aw_can)).2
 have hq0 := enc_rd0 (lastRow awB 7)
 -- region 3 (law.go:18)
 refine T.region ?_
 refine T.y (fun w hw => Yl.move rfl) rfl rfl ?_
 refine T.y (fun w hw => Yl.eql rfl rfl) rfl rfl ?_
 refine T.y (fun w hw => Yl.move rfl) rfl rfl ?_
 refine T.y (fun w hw => Yl.move rfl) rfl rfl ?_
 refine T.y (fun w hw => Yl.len Try.underlying62 rfl) rfl rfl ?_
 refine T.y (fun w hw => Yl.eql rfl rfl) rfl rfl ?_
 refine T.y (fun w hw => Yl.pickT rfl rfl) rfl rfl ?_
 refine T.y (fun w hw => Yl.move rfl) rfl rfl ?_
 refine T.splitD 22 rfl (fun h22 => ?_) (fun h22 => ?_)
 ·skip
  refine T.y (fun w hw => Yl.move rfl) rfl rfl ?_
  refine T.y (fun w hw => (by first | exact Yl.iaK (i := 1) hw mM Try.underlying62 isz_23 rfl rfl rfl (by omega) | exact Yl.ia1 (i := 1) sC Try.underlying62 isz_23 rfl rfl rfl (by omega))) rfl rfl ?_
  refine T.y (fun w hw => (by first | exact Yl.ldC hw na_23 rfl mM | exact Yl.ldR sC na_23 rfl (by assumption) | exact Yl.ldV hw na_23 rfl mM rfl)) rfl rfl ?_
  refine T.y (fun w hw => Yl.len Try.underlying23 rfl) rfl rfl ?_
  refine T.y (fun w hw => Yl.eql rfl rfl) rfl rfl ?_
  refine T.y (fun w hw => Yl.pickT rfl rfl) rfl rfl ?_
  refine T.y (fun w hw => Yl.move rfl) rfl rfl ?_
  refine T.splitD 29 rfl (fun h29 => ?_) (fun h29 => ?_)
  ·skip
   refine T.y (fun w hw => Yl.move rfl) rfl rfl ?_
   refine T.y (fun w hw => (by first | exact Yl.iaK (i := 1) hw mM Try.underlying62 isz_23 rfl rfl rfl (by omega) | exact Yl.ia1 (i := 1) sC Try.underlying62 isz_23 rfl rfl rfl (by omega))) rfl rfl ?_
   refine T.y (fun w hw => (by first | exact Yl.ldC hw na_23 rfl mM | exact Yl.ldR sC na_23 rfl (by assumption) | exact Yl.ldV hw na_23 rfl mM rfl)) rfl rfl ?_
   refine T.y (fun w hw => Yl.ia1 (i := 0) sC Try.underlying23 isz_5 rfl rfl rfl (by omega)) rfl rfl ?_
   refine T.y (fun w hw => (by first | exact Yl.ldB hw mM na_5 rfl (by omega) | exact Yl.ldC hw na_5 rfl mM | exact Yl.ldR sC na_5 rfl (by assumption) | exact Yl.ldV hw na_5 rfl mM rfl)) rfl rfl ?_
   refine T.y (fun w hw => Yl.eql rfl rfl) rfl rfl ?_
   refine T.y (fun w hw => Yl.pickT rfl rfl) rfl rfl ?_
   refine T.y (fun w hw => Yl.move rfl) rfl rfl ?_
   refine T.splitD 37 rfl (fun h37 => ?_) (fun h37 => ?_)
   ·skip
    refine T.y (fun w hw => Yl.ldaP hw ag_55 rfl mM sU) rfl rfl ?_
    refine T.o (OpW.call en_66 rfl (blocks_ct (ts := awB.txs) mM (by decide))) rfl rfl (fun _ _ => ?_)
    rw [show IntKind.i64.wrap ((blocksN awB.txs : Nat) : Int) = 2 from rfl]
    refine T.y (fun w hw => Yl.eql rfl rfl) rfl rfl ?_
    refine T.y (fun w hw => Yl.pickT rfl rfl) rfl rfl ?_
    refine T.y (fun w hw => Yl.assign rfl) rfl rfl ?_
    refine T.nil ?_
    refine J.sel (.cons 0 rfl .nil) ?_
    refine X.then_ ?_
    refine T.ret ?_
    refine X.ret1 Try.results43 rfl (fun w hw => ?_)
    exact ⟨(), trivial, rfl, hw.f⟩
   · exfalso; (first | omega | exact absurd hq0 (by assumption))
  · exfalso; (first | omega | exact absurd hq0 (by assumption))
 · exfalso; (first | omega | exact absurd hq0 (by assumption))

end Go.Proofs.Ytfpnodboebpemaa
