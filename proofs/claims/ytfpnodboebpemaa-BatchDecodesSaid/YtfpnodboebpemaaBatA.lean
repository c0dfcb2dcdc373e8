/- The contracts of batch: Blocks, Order, Check, Form. -/
import Derived.Test.YtfpnodboebpemaaBat
namespace Go.Proofs.Ytfpnodboebpemaa
open Go.RowKit Go.Proofs.YtfpnodboebpemaaW.PrintWords
set_option linter.unusedVariables false
set_option linter.unusedSimpArgs false
attribute [local irreducible] pt rowH slK bytesK intsK rowsK rowsH cellK rowsV oldK star exH pureH knowH starL emp devH zoneH zonesH zrest cellsK viewV viewK viewH putE txE batE

set_option maxHeartbeats 4000000 in
theorem blocks_ct {M : List HP} {K : List KP} {A : Option Addr} {c : Nat} {num : Int} {ts : List TxL} (ht : viewK 2 txE A c ts ∈ K) (hl : ts.length ≤ 1000000) : Fn 66 [.agg [.int .i64 num, .slice A ts.length c].toArray] M K (fun _ : Unit => True) (fun _ => .int .i64 (IntKind.i64.wrap ((blocksN ts : Nat) : Int))) (fun _ => M) (fun _ => K) := by
 refine Fn.of (n := 20) Try.func66 rfl Try.ntmps66 rfl ?_
 refine T.seq ?_
 -- region 0 (batch.go:34)
 refine T.region ?_
 refine T.o (OpW.box rfl) rfl rfl (fun b1 _ => ?_)
 refine T.y (fun w hw => Yl.assign rfl) rfl rfl ?_
 refine T.nil ?_
 refine J.sel (.cons 1 rfl .nil) ?_
 refine X.then_ ?_
 refine T.seq ?_
 -- region 1 (batch.go:35)
 refine T.region ?_
 refine T.y (fun w hw => Yl.assign rfl) rfl rfl ?_
 refine T.nil ?_
 refine X.then_ ?_
 refine T.seq ?_
 refine T.seq ?_
 -- region 2 (batch.go:36)
 refine T.region ?_
 refine T.y (fun w hw => Yl.fa fa_55_1 rfl) rfl rfl ?_
 refine T.y (fun w hw => Yl.ldP hw na_53 rfl mM rfl) rfl rfl ?_
 refine T.y (fun w hw => Yl.len Try.underlying53 rfl) rfl rfl ?_
 refine T.y (fun w hw => Yl.move rfl) rfl rfl ?_
 refine T.nil ?_
 refine J.sel (.cons 3 rfl (.cons 7 rfl (.cons 8 rfl (.cons 9 rfl .nil)))) ?_
 refine X.then_ ?_
 refine T.block ?_
 refine T.loop (α := Nat) (fun i => i ≤ ts.length) (fun i => [(3, .int .i64 (IntKind.i64.wrap ((blocksN (ts.take i) : Nat) : Int))), (9, .int .i64 (i : Int)), (7, .slice A ts.length c), (8, .int .i64 (ts.length : Int))]) (fun i => M) (fun i => K) (fun i => ts.length - i) 0 (Nat.zero_le _) (.num 3 rfl rfl (.num 9 rfl rfl (.cons 7 rfl (.cons 8 rfl .nil)))) (fun w hw => hw.f) ?_
 intro i hi Zk hz2
 refine T.seq ?_
 -- region 3 (batch.go:36)
 refine T.region ?_
 refine T.y (fun w hw => Yl.lss rfl rfl) rfl rfl ?_
 refine T.nil ?_
 refine X.then_ ?_
 refine T.seq ?_
 refine T.condD rfl (fun h10 => ?_) (fun h10 => ?_)
 ·skip
  refine T.skip ?_
  refine X.then_ ?_
  refine T.seq ?_
  refine T.block ?_
  refine T.seq ?_
  obtain ⟨t, ht⟩ : ∃ t, ts[i]? = some t := ⟨_, List.getElem?_eq_getElem (by omega)⟩
  refine J.open_ (fun w hw => hw.tx_at mM ht) ?_
  rintro ⟨At, ct⟩ -
  dsimp only
  -- region 4 (batch.go:36)
  refine T.region ?_
  refine T.y (fun w hw => (by first | exact Yl.iaV hw mM Try.underlying53 isz_58 rfl rfl rfl (by omega) | exact Yl.ia Try.underlying53 isz_58 rfl rfl rfl (by omega) sC)) rfl rfl ?_
  refine T.y (fun w hw => (by first | exact Yl.ldaV hw ag_58 rfl mM rfl | exact Yl.ldaR sC ag_58 rfl sU)) rfl rfl ?_
  refine T.o (OpW.alloc zr_58) rfl rfl (fun b5 _ => ?_)
  refine T.o0 (OpW.stA sz_58 rfl rfl rfl rfl sW uL) rfl (fun _ _ => ?_)
  refine T.nil ?_
  refine J.sel (.cons 3 rfl (.cons 5 rfl (.cons 7 rfl (.cons 8 rfl (.cons 9 rfl .nil))))) ?_
  refine X.then_ ?_
  -- region 5 (batch.go:37)
  refine T.region ?_
  refine T.y (fun w hw => Yl.move rfl) rfl rfl ?_
  refine T.y (fun w hw => Yl.fa fa_58_1 rfl) rfl rfl ?_
  refine T.y (fun w hw => Yl.ldP hw na_56 rfl mM rfl) rfl rfl ?_
  refine T.y (fun w hw => Yl.len Try.underlying56 rfl) rfl rfl ?_
  refine T.y (fun w hw => Yl.addW rfl rfl) rfl rfl ?_
  refine T.y (fun w hw => Yl.assign rfl) rfl rfl ?_
  refine T.nil ?_
  refine J.sel (.cons 3 rfl (.cons 7 rfl (.cons 8 rfl (.cons 9 rfl .nil)))) ?_
  refine X.nm_blk ?_
  refine X.then_ ?_
  -- region 6 (batch.go:36)
  refine T.region ?_
  refine T.y (fun w hw => Yl.add rfl rfl (by omega)) rfl rfl ?_
  refine T.y (fun w hw => Yl.move rfl) rfl rfl ?_
  refine T.nil ?_
  refine J.sel (.cons 3 rfl (.cons 7 rfl (.cons 8 rfl (.cons 9 rfl .nil)))) ?_
  have hsum : IntKind.i64.wrap (IntKind.i64.wrap ((blocksN (ts.take i) : Nat) : Int) + (t.puts.length : Int)) = IntKind.i64.wrap ((blocksN (ts.take (i + 1)) : Nat) : Int) := by
    rw [wrap_add]; unfold blocksN; rw [sumP_take ht]; congr 1; push_cast; omega
  refine X.go (hz2 (i + 1) (by omega) (by omega)) (.num 3 rfl hsum (.num 9 rfl (by omega) (.cons 7 rfl (.cons 8 rfl .nil)))) (fun w hw => ?_)
  exact hw.f
 ·skip
  refine T.exit ?_
  refine X.exit_then ?_
  refine X.exit_then ?_
  refine X.exit_blk ?_
  refine X.then_ ?_
  refine T.seq ?_
  have hie : i = ts.length := by omega
  subst hie
  rw [List.take_length]
  -- region 7 (batch.go:39)
  refine T.region ?_
  refine T.y (fun w hw => Yl.move rfl) rfl rfl ?_
  refine T.y (fun w hw => Yl.assign rfl) rfl rfl ?_
  refine T.nil ?_
  refine J.sel (.cons 2 rfl .nil) ?_
  refine X.then_ ?_
  refine T.ret ?_
  refine X.ret1 Try.results66 rfl (fun w hw => ?_)
  exact ⟨(), trivial, rfl, hw.f⟩

set_option maxHeartbeats 4000000 in
theorem put_ct {M : List HP} {K : List KP} {A : Option Addr} {c : Nat} {p : PutL} : Fn 96 [.agg [.int .i64 p.lba, .slice A p.data.length c].toArray] M K (fun _ : Unit => True) (fun _ => .bool (decide p.ok)) (fun _ => M) (fun _ => K) := by
 refine Fn.of (n := 17) Try.func96 rfl Try.ntmps96 rfl ?_
 refine T.seq ?_
 -- region 0 (batch.go:43)
 refine T.region ?_
 refine T.o (OpW.box rfl) rfl rfl (fun b1 _ => ?_)
 refine T.y (fun w hw => Yl.assign rfl) rfl rfl ?_
 refine T.nil ?_
 refine J.sel (.cons 1 rfl .nil) ?_
 refine X.then_ ?_
 refine T.seq ?_
 -- region 1 (batch.go:44)
 refine T.region ?_
 refine T.y (fun w hw => Yl.fa fa_61_0 rfl) rfl rfl ?_
 refine T.y (fun w hw => Yl.ldP hw na_3 rfl mM rfl) rfl rfl ?_
 refine T.y (fun w hw => Yl.geq rfl rfl) rfl rfl ?_
 refine T.y (fun w hw => Yl.move rfl) rfl rfl ?_
 refine T.splitD 6 rfl (fun h6 => ?_) (fun h6 => ?_)
 ·skip
  refine T.y (fun w hw => Yl.fa fa_61_0 rfl) rfl rfl ?_
  refine T.y (fun w hw => Yl.ldP hw na_3 rfl mM rfl) rfl rfl ?_
  refine T.y (fun w hw => Yl.leq rfl rfl) rfl rfl ?_
  refine T.y (fun w hw => Yl.pickT rfl rfl) rfl rfl ?_
  refine T.y (fun w hw => Yl.move rfl) rfl rfl ?_
  refine T.splitD 11 rfl (fun h11 => ?_) (fun h11 => ?_)
  ·skip
   refine T.y (fun w hw => Yl.fa fa_61_1 rfl) rfl rfl ?_
   refine T.y (fun w hw => Yl.ldP hw na_23 rfl mM rfl) rfl rfl ?_
   refine T.y (fun w hw => Yl.len Try.underlying23 rfl) rfl rfl ?_
   refine T.y (fun w hw => Yl.eql rfl rfl) rfl rfl ?_
   refine T.y (fun w hw => Yl.pickT rfl rfl) rfl rfl ?_
   refine T.y (fun w hw => Yl.assign rfl) rfl rfl ?_
   refine T.nil ?_
   refine J.sel (.cons 2 rfl .nil) ?_
   refine X.then_ ?_
   refine T.ret ?_
   refine X.ret1 Try.results96 rfl (fun w hw => ?_)
   refine ⟨(), trivial, ?_, hw.f⟩
   congr 1
   first
     | exact (decide_eq_false (by unfold PutL.ok; omega)).symm
     | exact decide_eq_decide.2 (by unfold PutL.ok; omega)
  ·skip
   refine T.off rfl rfl rfl ?_
   refine T.off rfl rfl rfl ?_
   refine T.off rfl rfl rfl ?_
   refine T.off rfl rfl rfl ?_
   refine T.y (fun w hw => Yl.pickF rfl rfl) rfl rfl ?_
   refine T.y (fun w hw => Yl.assign rfl) rfl rfl ?_
   refine T.nil ?_
   refine J.sel (.cons 2 rfl .nil) ?_
   refine X.then_ ?_
   refine T.ret ?_
   refine X.ret1 Try.results96 rfl (fun w hw => ?_)
   refine ⟨(), trivial, ?_, hw.f⟩
   congr 1
   first
     | exact (decide_eq_false (by unfold PutL.ok; omega)).symm
     | exact decide_eq_decide.2 (by unfold PutL.ok; omega)
 ·skip
  refine T.off rfl rfl rfl ?_
  refine T.off rfl rfl rfl ?_
  refine T.off rfl rfl rfl ?_
  refine T.y (fun w hw => Yl.pickF rfl rfl) rfl rfl ?_
  refine T.y (fun w hw => Yl.move rfl) rfl rfl ?_
  refine T.off rfl rfl rfl ?_
  refine T.off rfl rfl rfl ?_
  refine T.off rfl rfl rfl ?_
  refine T.off rfl rfl rfl ?_
  refine T.y (fun w hw => Yl.pickF rfl rfl) rfl rfl ?_
  refine T.y (fun w hw => Yl.assign rfl) rfl rfl ?_
  refine T.nil ?_
  refine J.sel (.cons 2 rfl .nil) ?_
  refine X.then_ ?_
  refine T.ret ?_
  refine X.ret1 Try.results96 rfl (fun w hw => ?_)
  refine ⟨(), trivial, ?_, hw.f⟩
  congr 1
  first
    | exact (decide_eq_false (by unfold PutL.ok; omega)).symm
    | exact decide_eq_decide.2 (by unfold PutL.ok; omega)

set_option maxHeartbeats 4000000 in
theorem notPut_ct {M : List HP} {K : List KP} {A : Option Addr} {c : Nat} {p : PutL} : Fn 95 [.agg [.int .i64 p.lba, .slice A p.data.length c].toArray] M K (fun _ : Unit => True) (fun _ => .bool (decide ¬ p.ok)) (fun _ => M) (fun _ => K) := by
 refine Fn.of (n := 6) Try.func95 rfl Try.ntmps95 rfl ?_
 refine T.seq ?_
 -- region 0 (batch.go:53)
 refine T.region ?_
 refine T.o (OpW.box rfl) rfl rfl (fun b1 _ => ?_)
 refine T.y (fun w hw => Yl.assign rfl) rfl rfl ?_
 refine T.nil ?_
 refine J.sel (.cons 1 rfl .nil) ?_
 refine X.then_ ?_
 refine T.seq ?_
 -- region 1 (batch.go:53)
 refine T.region ?_
 refine T.y (fun w hw => Yl.ldaP hw ag_61 rfl mM sU) rfl rfl ?_
 refine T.o (OpW.call en_96 rfl (put_ct)) rfl rfl (fun x hx => ?_)
 refine T.y (fun w hw => Yl.notD rfl) rfl rfl ?_
 refine T.y (fun w hw => Yl.assign rfl) rfl rfl ?_
 refine T.nil ?_
 refine J.sel (.cons 2 rfl .nil) ?_
 refine X.then_ ?_
 refine T.ret ?_
 refine X.ret1 Try.results95 rfl (fun w hw => ?_)
 exact ⟨(), trivial, rfl, hw.f⟩

set_option maxHeartbeats 4000000 in
theorem firstBad_ct {M : List HP} {K : List KP} {A : Option Addr} {c : Nat} {ps : List PutL} (hps : viewK 2 putE A c ps ∈ K) : Fn 134 [.slice A ps.length c, .func (.func 95) #[] #[]] M K (fun r : Int => (r = -1 ∧ ∀ p ∈ ps, p.ok) ∨ (0 ≤ r ∧ ¬ ∀ p ∈ ps, p.ok)) (fun r => .int .i64 r) (fun _ => M) (fun _ => K) := by
 refine Fn.of (n := 19) Try.func134 rfl Try.ntmps134 rfl ?_
 refine J.fact (fun w hw => hw.view_max9 (xs := ps) (A := A) (c := c) (sz := 2) (el := putE) mM) ?_
 intro hmx
 refine T.seq ?_
 -- region 0 (slices.go:107)
 refine T.region ?_
 refine T.y (fun w hw => Yl.assign rfl) rfl rfl ?_
 refine T.nil ?_
 refine J.sel (.cons 0 rfl (.cons 1 rfl .nil)) ?_
 refine X.then_ ?_
 refine T.seq ?_
 refine T.seq ?_
 -- region 1 (slices.go:108)
 refine T.region ?_
 refine T.y (fun w hw => Yl.move rfl) rfl rfl ?_
 refine T.y (fun w hw => Yl.len Try.underlying56 rfl) rfl rfl ?_
 refine T.y (fun w hw => Yl.move rfl) rfl rfl ?_
 refine T.nil ?_
 refine J.sel (.cons 0 rfl (.cons 1 rfl (.cons 7 rfl (.cons 8 rfl .nil)))) ?_
 refine X.then_ ?_
 refine T.block ?_
 refine T.loop (α := Nat) (fun i => i ≤ ps.length ∧ ∀ j p, j < i → ps[j]? = some p → p.ok) (fun i => [(8, .int .i64 (i : Int)), (0, .slice A ps.length c), (1, .func (.func 95) #[] #[]), (7, .int .i64 (ps.length : Int))]) (fun i => M) (fun i => K) (fun i => ps.length - i) 0 ⟨Nat.zero_le _, fun j p hj => by omega⟩ (.num 8 rfl rfl (.cons 0 rfl (.cons 1 rfl (.cons 7 rfl .nil)))) (fun w hw => hw.f) ?_
 intro i hi Zk hz2
 obtain ⟨hi, hall⟩ := hi
 refine T.seq ?_
 -- region 2 (slices.go:108)
 refine T.region ?_
 refine T.y (fun w hw => Yl.lss rfl rfl) rfl rfl ?_
 refine T.nil ?_
 refine X.then_ ?_
 refine T.seq ?_
 refine T.condD rfl (fun h9 => ?_) (fun h9 => ?_)
 ·skip
  refine T.skip ?_
  refine X.then_ ?_
  refine T.seq ?_
  refine T.block ?_
  refine T.seq ?_
  obtain ⟨p, hp⟩ : ∃ p, ps[i]? = some p := ⟨_, List.getElem?_eq_getElem (by omega)⟩
  refine J.open_ (fun w hw => hw.put_at mM hp) ?_
  rintro ⟨Ap, cp⟩ -
  dsimp only
  -- region 3 (slices.go:108)
  refine T.region ?_
  refine T.y (fun w hw => Yl.move rfl) rfl rfl ?_
  refine T.y (fun w hw => Yl.assign rfl) rfl rfl ?_
  refine T.nil ?_
  refine J.sel (.cons 0 rfl (.cons 1 rfl (.cons 5 rfl (.cons 7 rfl (.cons 8 rfl .nil))))) ?_
  refine X.then_ ?_
  refine T.seq ?_
  -- region 4 (slices.go:109)
  refine T.region ?_
  refine T.y (fun w hw => Yl.move rfl) rfl rfl ?_
  refine T.y (fun w hw => Yl.move rfl) rfl rfl ?_
  refine T.y (fun w hw => Yl.move rfl) rfl rfl ?_
  refine T.y (fun w hw => (by first | exact Yl.iaV hw mM Try.underlying56 isz_61 rfl rfl rfl (by omega) | exact Yl.ia Try.underlying56 isz_61 rfl rfl rfl (by omega) sC)) rfl rfl ?_
  refine T.y (fun w hw => (by first | exact Yl.ldaV hw ag_61 rfl mM rfl | exact Yl.ldaR sC ag_61 rfl sU)) rfl rfl ?_
  refine T.o (OpW.callV (cap := []) en_95 rfl rfl (notPut_ct (p := p))) rfl rfl (fun _ _ => ?_)
  refine T.nil ?_
  refine J.sel (.cons 0 rfl (.cons 1 rfl (.cons 5 rfl (.cons 7 rfl (.cons 8 rfl (.cons 16 rfl .nil)))))) ?_
  refine X.then_ ?_
  refine T.condD rfl (fun h16 => ?_) (fun h16 => ?_)
  ·skip
   refine T.seq ?_
   -- region 5 (slices.go:110)
   refine T.region ?_
   refine T.y (fun w hw => Yl.move rfl) rfl rfl ?_
   refine T.y (fun w hw => Yl.assign rfl) rfl rfl ?_
   refine T.nil ?_
   refine J.sel (.cons 4 rfl .nil) ?_
   refine X.then_ ?_
   refine T.ret ?_
   refine X.ret_blk ?_
   refine X.ret_then ?_
   refine X.ret_then ?_
   refine X.ret_blk ?_
   refine X.ret_then ?_
   refine X.ret1 Try.results134 rfl (fun w hw => ?_)
   exact ⟨i, .inr ⟨by omega, fun h => h16 (h p (List.mem_of_getElem? hp))⟩, rfl, hw.f⟩
  ·skip
   refine T.skip ?_
   refine X.nm_blk ?_
   refine X.then_ ?_
   -- region 6 (slices.go:108)
   refine T.region ?_
   refine T.y (fun w hw => Yl.add rfl rfl (by omega)) rfl rfl ?_
   refine T.y (fun w hw => Yl.move rfl) rfl rfl ?_
   refine T.nil ?_
   refine J.sel (.cons 0 rfl (.cons 1 rfl (.cons 7 rfl (.cons 8 rfl .nil)))) ?_
   refine X.go (hz2 (i + 1) ⟨by omega, fun j q hj hq => ?_⟩ (by omega)) (.num 8 rfl (by omega) (.cons 0 rfl (.cons 1 rfl (.cons 7 rfl .nil)))) (fun w hw => ?_)
   · rcases Nat.lt_succ_iff_lt_or_eq.1 hj with hj | rfl
     · exact hall j q hj hq
     · rw [hp] at hq; injection hq with hq; subst hq; exact Classical.not_not.1 h16
   · exact hw.f
 ·skip
  refine T.exit ?_
  refine X.exit_then ?_
  refine X.exit_then ?_
  refine X.exit_blk ?_
  refine X.then_ ?_
  refine T.seq ?_
  -- region 7 (slices.go:113)
  refine T.region ?_
  refine T.y (fun w hw => Yl.assign rfl) rfl rfl ?_
  refine T.nil ?_
  refine J.sel (.cons 4 rfl .nil) ?_
  refine X.then_ ?_
  refine T.ret ?_
  refine X.ret1 Try.results134 rfl (fun w hw => ?_)
  exact ⟨-1, .inl ⟨rfl, fun p hp => by
    obtain ⟨j, hj, rfl⟩ := List.getElem_of_mem hp
    exact hall j _ (by omega) (List.getElem?_eq_getElem hj)⟩, rfl, hw.f⟩

def badB (ps : List PutL) : Bool := decide (¬ ∀ p ∈ ps, p.ok)
theorem badB_iff {ps : List PutL} : badB ps = true ↔ ¬ ∀ p ∈ ps, p.ok := by unfold badB; exact decide_eq_true_iff

set_option maxHeartbeats 4000000 in
theorem anyBad_ct {M : List HP} {K : List KP} {A : Option Addr} {c : Nat} {ps : List PutL} (hp : viewK 2 putE A c ps ∈ K) : Fn 94 [.slice A ps.length c, .func (.func 95) #[] #[]] M K (fun _ : Unit => True) (fun _ => .bool (badB ps)) (fun _ => M) (fun _ => K) := by
 refine Fn.of (n := 9) Try.func94 rfl Try.ntmps94 rfl ?_
 refine T.seq ?_
 -- region 0 (slices.go:124)
 refine T.region ?_
 refine T.y (fun w hw => Yl.assign rfl) rfl rfl ?_
 refine T.nil ?_
 refine J.sel (.cons 0 rfl (.cons 1 rfl .nil)) ?_
 refine X.then_ ?_
 refine T.seq ?_
 -- region 1 (slices.go:125)
 refine T.region ?_
 refine T.y (fun w hw => Yl.move rfl) rfl rfl ?_
 refine T.y (fun w hw => Yl.move rfl) rfl rfl ?_
 refine T.o (OpW.call en_134 rfl (firstBad_ct mM)) rfl rfl (fun r hr => ?_)
 refine T.y (fun w hw => Yl.geq rfl rfl) rfl rfl ?_
 refine T.y (fun w hw => Yl.assign rfl) rfl rfl ?_
 refine T.nil ?_
 refine J.sel (.cons 4 rfl .nil) ?_
 refine X.then_ ?_
 refine T.ret ?_
 refine X.ret1 Try.results94 rfl (fun w hw => ?_)
 refine ⟨(), trivial, ?_, hw.f⟩
 congr 1
 rw [Bool.eq_iff_iff, badB_iff, decide_eq_true_iff]
 rcases hr with ⟨h1, h2⟩ | ⟨h1, h2⟩
 · constructor
   · omega
   · intro h; exact absurd h2 h
 · exact ⟨fun _ => h2, fun _ => h1⟩

set_option maxHeartbeats 4000000 in
theorem order_ct {M : List HP} {K : List KP} {A : Option Addr} {c : Nat} {ts : List TxL} (ht : viewK 2 txE A c ts ∈ K) : Fn 93 [.slice A ts.length c] M K (fun _ : Unit => True) (fun _ => .bool (ordB ts)) (fun _ => M) (fun _ => K) := by
 refine Fn.of (n := 52) Try.func93 rfl Try.ntmps93 rfl ?_
 refine J.fact (fun w hw => hw.view_max9 (xs := ts) (A := A) (c := c) (sz := 2) (el := txE) mM) ?_
 intro hmx
 refine T.seq ?_
 -- region 0 (valid.go:45)
 refine T.region ?_
 refine T.y (fun w hw => Yl.assign rfl) rfl rfl ?_
 refine T.nil ?_
 refine J.sel (.cons 0 rfl .nil) ?_
 refine X.then_ ?_
 refine T.seq ?_
 -- region 1 (valid.go:46)
 refine T.region ?_
 refine T.y (fun w hw => Yl.assign rfl) rfl rfl ?_
 refine T.nil ?_
 refine X.then_ ?_
 refine T.seq ?_
 refine T.seq ?_
 -- region 2 (valid.go:47)
 refine T.region ?_
 refine T.y (fun w hw => Yl.move rfl) rfl rfl ?_
 refine T.y (fun w hw => Yl.len Try.underlying53 rfl) rfl rfl ?_
 refine T.y (fun w hw => Yl.move rfl) rfl rfl ?_
 refine T.nil ?_
 refine J.sel (.cons 3 rfl (.cons 7 rfl (.cons 8 rfl (.cons 9 rfl .nil)))) ?_
 refine X.then_ ?_
 refine T.block ?_
 refine T.loop (α := Nat) (fun i => i ≤ ts.length ∧ ∀ j, j < i → ordAt ts j) (fun i => [(3, .int .i64 (prevT ts i)), (9, .int .i64 (i : Int)), (7, .slice A ts.length c), (8, .int .i64 (ts.length : Int))]) (fun i => M) (fun i => K) (fun i => ts.length - i) 0 ⟨Nat.zero_le _, fun j hj => by omega⟩ (.num 3 rfl rfl (.num 9 rfl rfl (.cons 7 rfl (.cons 8 rfl .nil)))) (fun w hw => hw.f) ?_
 intro i hi Zk hzo
 obtain ⟨hi, hall⟩ := hi
 refine T.seq ?_
 -- region 3 (valid.go:47)
 refine T.region ?_
 refine T.y (fun w hw => Yl.lss rfl rfl) rfl rfl ?_
 refine T.nil ?_
 refine X.then_ ?_
 refine T.seq ?_
 refine T.condD rfl (fun h10 => ?_) (fun h10 => ?_)
 ·skip
  refine T.skip ?_
  refine X.then_ ?_
  refine T.seq ?_
  refine T.block ?_
  refine T.seq ?_
  obtain ⟨t, ht⟩ : ∃ t, ts[i]? = some t := ⟨_, List.getElem?_eq_getElem (by omega)⟩
  refine J.open_ (fun w hw => hw.tx_at mM ht) ?_
  rintro ⟨At, ct⟩ -
  dsimp only
  -- region 4 (valid.go:47)
  refine T.region ?_
  refine T.y (fun w hw => (by first | exact Yl.iaV hw mM Try.underlying53 isz_58 rfl rfl rfl (by omega) | exact Yl.ia Try.underlying53 isz_58 rfl rfl rfl (by omega) sC)) rfl rfl ?_
  refine T.y (fun w hw => (by first | exact Yl.ldaV hw ag_58 rfl mM rfl | exact Yl.ldaR sC ag_58 rfl sU)) rfl rfl ?_
  refine T.o (OpW.alloc zr_58) rfl rfl (fun b5 _ => ?_)
  refine T.o0 (OpW.stA sz_58 rfl rfl rfl rfl sW uL) rfl (fun _ _ => ?_)
  refine T.nil ?_
  refine J.sel (.cons 3 rfl (.cons 5 rfl (.cons 7 rfl (.cons 8 rfl (.cons 9 rfl .nil))))) ?_
  refine X.then_ ?_
  refine T.seq ?_
  refine T.seq ?_
  -- region 5 (valid.go:48)
  refine T.region ?_
  refine T.y (fun w hw => Yl.fa fa_58_0 rfl) rfl rfl ?_
  refine T.y (fun w hw => Yl.ldP hw na_3 rfl mM rfl) rfl rfl ?_
  refine T.y (fun w hw => Yl.move rfl) rfl rfl ?_
  refine T.y (fun w hw => Yl.leq rfl rfl) rfl rfl ?_
  refine T.y (fun w hw => Yl.move rfl) rfl rfl ?_
  refine T.splitD 17 rfl (fun h17 => ?_) (fun h17 => ?_)
  ·skip
   refine T.off rfl rfl rfl ?_
   refine T.off rfl rfl rfl ?_
   refine T.off rfl rfl rfl ?_
   refine T.y (fun w hw => Yl.pickT rfl rfl) rfl rfl ?_
   refine T.y (fun w hw => Yl.move rfl) rfl rfl ?_
   refine T.off rfl rfl rfl ?_
   refine T.off rfl rfl rfl ?_
   refine T.off rfl rfl rfl ?_
   refine T.off rfl rfl rfl ?_
   refine T.y (fun w hw => Yl.pickT rfl rfl) rfl rfl ?_
   refine T.nil ?_
   refine J.sel (.cons 5 rfl (.cons 7 rfl (.cons 8 rfl (.cons 9 rfl (.cons 27 rfl .nil))))) ?_
   refine X.then_ ?_
   refine T.condT rfl ?_
   refine T.seq ?_
   -- region 6 (valid.go:49)
   refine T.region ?_
   refine T.y (fun w hw => Yl.assign rfl) rfl rfl ?_
   refine T.nil ?_
   refine J.sel (.cons 2 rfl .nil) ?_
   refine X.then_ ?_
   refine T.ret ?_
   refine X.ret_then ?_
   refine X.ret_blk ?_
   refine X.ret_then ?_
   refine X.ret_then ?_
   refine X.ret_blk ?_
   refine X.ret_then ?_
   refine X.ret1 Try.results93 rfl (fun w hw => ?_)
   rw [ordB_no (fun h => by have := h i (by omega); obtain ⟨o1, o2, o3, o4⟩ := this; rw [timeAt_of ht] at o1 o2; rw [putsAt_of ht] at o3; first | omega | contradiction)]
   exact ⟨(), trivial, rfl, hw.f⟩
  ·skip
   refine T.y (fun w hw => Yl.fa fa_58_0 rfl) rfl rfl ?_
   refine T.y (fun w hw => Yl.ldP hw na_3 rfl mM rfl) rfl rfl ?_
   refine T.y (fun w hw => Yl.gtr rfl rfl) rfl rfl ?_
   refine T.y (fun w hw => Yl.pickF rfl rfl) rfl rfl ?_
   refine T.y (fun w hw => Yl.move rfl) rfl rfl ?_
   refine T.splitD 22 rfl (fun h22 => ?_) (fun h22 => ?_)
   ·skip
    refine T.off rfl rfl rfl ?_
    refine T.off rfl rfl rfl ?_
    refine T.off rfl rfl rfl ?_
    refine T.off rfl rfl rfl ?_
    refine T.y (fun w hw => Yl.pickT rfl rfl) rfl rfl ?_
    refine T.nil ?_
    refine J.sel (.cons 5 rfl (.cons 7 rfl (.cons 8 rfl (.cons 9 rfl (.cons 27 rfl .nil))))) ?_
    refine X.then_ ?_
    refine T.condT rfl ?_
    refine T.seq ?_
    -- region 6 (valid.go:49)
    refine T.region ?_
    refine T.y (fun w hw => Yl.assign rfl) rfl rfl ?_
    refine T.nil ?_
    refine J.sel (.cons 2 rfl .nil) ?_
    refine X.then_ ?_
    refine T.ret ?_
    refine X.ret_then ?_
    refine X.ret_blk ?_
    refine X.ret_then ?_
    refine X.ret_then ?_
    refine X.ret_blk ?_
    refine X.ret_then ?_
    refine X.ret1 Try.results93 rfl (fun w hw => ?_)
    rw [ordB_no (fun h => by have := h i (by omega); obtain ⟨o1, o2, o3, o4⟩ := this; rw [timeAt_of ht] at o1 o2; rw [putsAt_of ht] at o3; first | omega | contradiction)]
    exact ⟨(), trivial, rfl, hw.f⟩
   ·skip
    refine T.y (fun w hw => Yl.fa fa_58_1 rfl) rfl rfl ?_
    refine T.y (fun w hw => Yl.ldP hw na_56 rfl mM rfl) rfl rfl ?_
    refine T.y (fun w hw => Yl.len Try.underlying56 rfl) rfl rfl ?_
    refine T.y (fun w hw => Yl.eql rfl rfl) rfl rfl ?_
    refine T.y (fun w hw => Yl.pickF rfl rfl) rfl rfl ?_
    refine T.nil ?_
    refine J.sel (.cons 5 rfl (.cons 7 rfl (.cons 8 rfl (.cons 9 rfl (.cons 27 rfl .nil))))) ?_
    refine X.then_ ?_
    refine T.condD rfl (fun h27 => ?_) (fun h27 => ?_)
    ·skip
     refine T.seq ?_
     -- region 6 (valid.go:49)
     refine T.region ?_
     refine T.y (fun w hw => Yl.assign rfl) rfl rfl ?_
     refine T.nil ?_
     refine J.sel (.cons 2 rfl .nil) ?_
     refine X.then_ ?_
     refine T.ret ?_
     refine X.ret_then ?_
     refine X.ret_blk ?_
     refine X.ret_then ?_
     refine X.ret_then ?_
     refine X.ret_blk ?_
     refine X.ret_then ?_
     refine X.ret1 Try.results93 rfl (fun w hw => ?_)
     rw [ordB_no (fun h => by have := h i (by omega); obtain ⟨o1, o2, o3, o4⟩ := this; rw [timeAt_of ht] at o1 o2; rw [putsAt_of ht] at o3; first | omega | contradiction)]
     exact ⟨(), trivial, rfl, hw.f⟩
    ·skip
     refine T.skip ?_
     refine X.then_ ?_
     refine T.seq ?_
     -- region 7 (valid.go:51)
     refine T.region ?_
     refine T.y (fun w hw => Yl.fa fa_58_0 rfl) rfl rfl ?_
     refine T.y (fun w hw => Yl.ldP hw na_3 rfl mM rfl) rfl rfl ?_
     refine T.y (fun w hw => Yl.assign rfl) rfl rfl ?_
     refine T.nil ?_
     refine J.sel (.cons 3 rfl (.cons 5 rfl (.cons 7 rfl (.cons 8 rfl (.cons 9 rfl .nil))))) ?_
     refine X.then_ ?_
     refine T.seq ?_
     refine J.fact (fun w hw => hw.view_max9 (xs := t.puts) (A := At) (c := ct) (sz := 2) (el := putE) mM) ?_
     intro hmp
     -- region 8 (valid.go:52)
     refine T.region ?_
     refine T.y (fun w hw => Yl.assign rfl) rfl rfl ?_
     refine T.nil ?_
     refine X.then_ ?_
     refine T.block ?_
     refine T.loop (α := Nat) (fun k => 1 ≤ k ∧ k ≤ t.puts.length ∧ ∀ j, j + 1 < k → lbaAt t.puts j < lbaAt t.puts (j + 1)) (fun k => [(6, .int .i64 (k : Int)), (3, .int .i64 t.time), (5, ptr b5 0), (7, .slice A ts.length c), (8, .int .i64 (ts.length : Int)), (9, .int .i64 (i : Int))]) (fun k => pt b5 58 [.int .i64 t.time, .slice At t.puts.length ct] :: M) (fun k => viewK 2 putE At ct t.puts :: K) (fun k => t.puts.length - k) 1 ⟨Nat.le_refl _, by omega, fun j hj => by omega⟩ (.num 6 rfl rfl (.cons 3 rfl (.cons 5 rfl (.cons 7 rfl (.cons 8 rfl (.cons 9 rfl .nil)))))) (fun w hw => hw.f) ?_
     intro k hk Zk hz2
     obtain ⟨hk1, hk2, hrs⟩ := hk
     refine T.seq ?_
     refine T.seq ?_
     -- region 9 (valid.go:52)
     refine T.region ?_
     refine T.y (fun w hw => Yl.move rfl) rfl rfl ?_
     refine T.y (fun w hw => Yl.fa fa_58_1 rfl) rfl rfl ?_
     refine T.y (fun w hw => Yl.ldP hw na_56 rfl mM rfl) rfl rfl ?_
     refine T.y (fun w hw => Yl.len Try.underlying56 rfl) rfl rfl ?_
     refine T.y (fun w hw => Yl.lss rfl rfl) rfl rfl ?_
     refine T.nil ?_
     refine J.sel (.cons 3 rfl (.cons 5 rfl (.cons 6 rfl (.cons 7 rfl (.cons 8 rfl (.cons 9 rfl (.cons 34 rfl .nil))))))) ?_
     refine X.then_ ?_
     refine T.condD rfl (fun h34 => ?_) (fun h34 => ?_)
     ·skip
      refine T.skip ?_
      refine X.then_ ?_
      refine T.seq ?_
      refine T.block ?_
      refine T.seq ?_
      obtain ⟨p, hp⟩ : ∃ p, t.puts[k]? = some p := ⟨_, List.getElem?_eq_getElem (by omega)⟩
      refine J.open_ (fun w hw => hw.put_at mM hp) ?_
      rintro ⟨Ap, cp⟩ -
      dsimp only
      obtain ⟨q, hq⟩ : ∃ q, t.puts[(k - 1)]? = some q := ⟨_, List.getElem?_eq_getElem (by omega)⟩
      refine J.open_ (fun w hw => hw.put_at mM hq) ?_
      rintro ⟨Aq, cq⟩ -
      dsimp only
      -- region 11 (valid.go:53)
      refine Dr.start0 [] ?_
      refine Dr.take 0 rfl (by kernel_rfl) bL sS (fun w hs => have hw := hs.h; Yl.fa fa_58_1 rfl) rfl rfl ?_
      refine Dr.take 1 rfl (by kernel_rfl) bL sS (fun w hs => have hw := hs.h; Yl.ldP hw na_56 rfl mM rfl) rfl rfl ?_
      refine Dr.take 2 rfl (by kernel_rfl) bL sS (fun w hs => have hw := hs.h; Yl.move rfl) rfl rfl ?_
      refine Dr.take 3 rfl (by kernel_rfl) bL sS (fun w hs => have hw := hs.h; (by first | exact Yl.iaV hw mM Try.underlying56 isz_61 rfl rfl rfl (by omega) | exact Yl.ia Try.underlying56 isz_61 rfl rfl rfl (by omega) sC)) rfl rfl ?_
      refine Dr.take 4 rfl (by kernel_rfl) bL sS (fun w hs => have hw := hs.h; Yl.fae fa_61_0 rfl) rfl rfl ?_
      refine Dr.take 5 rfl (by kernel_rfl) bL sS (fun w hs => have hw := hs.h; (by first | exact Yl.ldC hw na_3 rfl mM | exact Yl.ldI hw mM na_3 rfl (by omega) | exact Yl.ldR sC na_3 rfl (by assumption) | exact Yl.ldV hw na_3 rfl mM rfl)) rfl rfl ?_
      refine Dr.take 6 rfl (by kernel_rfl) bL sS (fun w hs => have hw := hs.h; Yl.fa fa_58_1 rfl) rfl rfl ?_
      refine Dr.take 7 rfl (by kernel_rfl) bL sS (fun w hs => have hw := hs.h; Yl.ldP hw na_56 rfl mM rfl) rfl rfl ?_
      refine Dr.take 8 rfl (by kernel_rfl) bL sS (fun w hs => have hw := hs.h; Yl.move rfl) rfl rfl ?_
      refine Dr.take 9 rfl (by kernel_rfl) bL sS (fun w hs => have hw := hs.h; Yl.sub rfl rfl (by omega)) rfl rfl ?_
      refine Dr.take 10 rfl (by kernel_rfl) bL sS (fun w hs => have hw := hs.h; (by first | exact Yl.iaV (i := k - 1) hw mM Try.underlying56 isz_61 rfl rfl (by omega) (by omega) | exact Yl.ia (i := k - 1) Try.underlying56 isz_61 rfl rfl (by omega) (by omega) sC)) rfl rfl ?_
      refine Dr.take 11 rfl (by kernel_rfl) bL sS (fun w hs => have hw := hs.h; Yl.fae fa_61_0 rfl) rfl rfl ?_
      refine Dr.take 12 rfl (by kernel_rfl) bL sS (fun w hs => have hw := hs.h; (by first | exact Yl.ldC hw na_3 rfl mM | exact Yl.ldI hw mM na_3 rfl (by omega) | exact Yl.ldR sC na_3 rfl (by assumption) | exact Yl.ldV hw na_3 rfl mM rfl)) rfl rfl ?_
      refine Dr.take 13 rfl (by kernel_rfl) bL sS (fun w hs => have hw := hs.h; Yl.leq rfl rfl) rfl rfl ?_
      refine Dr.done (by kernel_rfl) ?_
      refine J.sel (.cons 3 rfl (.cons 5 rfl (.cons 6 rfl (.cons 7 rfl (.cons 8 rfl (.cons 9 rfl (.cons 50 rfl .nil))))))) ?_
      refine X.then_ ?_
      refine T.condD rfl (fun h50 => ?_) (fun h50 => ?_)
      ·skip
       refine T.seq ?_
       -- region 12 (valid.go:54)
       refine T.region ?_
       refine T.y (fun w hw => Yl.assign rfl) rfl rfl ?_
       refine T.nil ?_
       refine J.sel (.cons 2 rfl .nil) ?_
       refine X.then_ ?_
       refine T.ret ?_
       refine X.ret_blk ?_
       refine X.ret_then ?_
       refine X.ret_then ?_
       refine X.ret_blk ?_
       refine X.ret_blk ?_
       refine X.ret_then ?_
       refine X.ret_then ?_
       refine X.ret_blk ?_
       refine X.ret_then ?_
       refine X.ret1 Try.results93 rfl (fun w hw => ?_)
       rw [ordB_no (fun h => by have := (h i (by omega)).2.2.2; rw [putsAt_of ht] at this; have := this (k - 1) (by omega); rw [show k - 1 + 1 = k by omega, lbaAt_of hp, lbaAt_of hq] at this; omega)]
       exact ⟨(), trivial, rfl, hw.f⟩
      ·skip
       refine T.skip ?_
       refine X.nm_blk ?_
       refine X.then_ ?_
       -- region 10 (valid.go:52)
       refine T.region ?_
       refine T.y (fun w hw => Yl.move rfl) rfl rfl ?_
       refine T.y (fun w hw => Yl.add rfl rfl (by omega)) rfl rfl ?_
       refine T.y (fun w hw => Yl.assign rfl) rfl rfl ?_
       refine T.nil ?_
       refine J.sel (.cons 3 rfl (.cons 5 rfl (.cons 6 rfl (.cons 7 rfl (.cons 8 rfl (.cons 9 rfl .nil)))))) ?_
       refine X.go (hz2 (k + 1) ⟨by omega, by omega, fun j hj => ?_⟩ (by omega)) (.num 6 rfl (by omega) (.cons 3 rfl (.cons 5 rfl (.cons 7 rfl (.cons 8 rfl (.cons 9 rfl .nil)))))) (fun w hw => ?_)
       · rcases Nat.lt_succ_iff_lt_or_eq.1 hj with hj | hj
         · exact hrs j (by omega)
         · have hj : j = k - 1 := by omega
           subst hj
           rw [show k - 1 + 1 = k by omega, lbaAt_of hp, lbaAt_of hq]; omega
       · exact hw.f
     ·skip
      refine T.exit ?_
      refine X.exit_then ?_
      refine X.exit_then ?_
      refine X.exit_blk ?_
      refine X.nm_blk ?_
      refine X.then_ ?_
      -- region 13 (valid.go:47)
      refine T.region ?_
      refine T.y (fun w hw => Yl.add rfl rfl (by omega)) rfl rfl ?_
      refine T.y (fun w hw => Yl.move rfl) rfl rfl ?_
      refine T.nil ?_
      refine J.sel (.cons 3 rfl (.cons 7 rfl (.cons 8 rfl (.cons 9 rfl .nil)))) ?_
      have hri : rises t.puts := fun j hj => hrs j (by omega)
      refine X.go (hzo (i + 1) ⟨by omega, fun j hj => ?_⟩ (by omega)) (.num 3 rfl (prev_succ ht).symm (.num 9 rfl (by omega) (.cons 7 rfl (.cons 8 rfl .nil)))) (fun w hw => ?_)
      · rcases Nat.lt_succ_iff_lt_or_eq.1 hj with hj | rfl
        · exact hall j hj
        · exact ⟨by rw [timeAt_of ht]; omega, by rw [timeAt_of ht]; omega, by rw [putsAt_of ht]; omega, by rw [putsAt_of ht]; exact hri⟩
      · exact hw.f
 ·skip
  refine T.exit ?_
  refine X.exit_then ?_
  refine X.exit_then ?_
  refine X.exit_blk ?_
  refine X.then_ ?_
  refine T.seq ?_
  -- region 14 (valid.go:58)
  refine T.region ?_
  refine T.y (fun w hw => Yl.assign rfl) rfl rfl ?_
  refine T.nil ?_
  refine J.sel (.cons 2 rfl .nil) ?_
  refine X.then_ ?_
  refine T.ret ?_
  refine X.ret1 Try.results93 rfl (fun w hw => ?_)
  rw [ordB_yes (fun j hj => hall j (by omega))]
  exact ⟨(), trivial, rfl, hw.f⟩

set_option maxHeartbeats 4000000 in
theorem check_ct {M : List HP} {K : List KP} {A : Option Addr} {c : Nat} {b : BatL} (hb : viewK 2 txE A c b.txs ∈ K) : Fn 46 [.agg [.int .i64 b.num, .slice A b.txs.length c].toArray] M K (fun _ : Unit => True) (fun _ => .int .i64 b.chk) (fun _ => M) (fun _ => K) := by
 refine Fn.of (n := 71) Try.func46 rfl Try.ntmps46 rfl ?_
 refine T.seq ?_
 -- region 0 (batch.go:48)
 refine T.region ?_
 refine T.o (OpW.box rfl) rfl rfl (fun b1 _ => ?_)
 refine T.y (fun w hw => Yl.assign rfl) rfl rfl ?_
 refine T.nil ?_
 refine J.sel (.cons 1 rfl .nil) ?_
 refine X.then_ ?_
 refine T.seq ?_
 refine T.seq ?_
 -- region 1 (batch.go:49)
 refine T.region ?_
 refine T.y (fun w hw => Yl.fa fa_55_0 rfl) rfl rfl ?_
 refine T.y (fun w hw => Yl.ldP hw na_3 rfl mM rfl) rfl rfl ?_
 refine T.y (fun w hw => Yl.lss rfl rfl) rfl rfl ?_
 refine T.y (fun w hw => Yl.move rfl) rfl rfl ?_
 refine T.splitD 8 rfl (fun h8 => ?_) (fun h8 => ?_)
 ·skip
  refine T.off rfl rfl rfl ?_
  refine T.off rfl rfl rfl ?_
  refine T.off rfl rfl rfl ?_
  refine T.y (fun w hw => Yl.pickT rfl rfl) rfl rfl ?_
  refine T.y (fun w hw => Yl.move rfl) rfl rfl ?_
  refine T.off rfl rfl rfl ?_
  refine T.off rfl rfl rfl ?_
  refine T.off rfl rfl rfl ?_
  refine T.off rfl rfl rfl ?_
  refine T.y (fun w hw => Yl.pickT rfl rfl) rfl rfl ?_
  refine T.y (fun w hw => Yl.move rfl) rfl rfl ?_
  refine T.off rfl rfl rfl ?_
  refine T.off rfl rfl rfl ?_
  refine T.off rfl rfl rfl ?_
  refine T.off rfl rfl rfl ?_
  refine T.y (fun w hw => Yl.pickT rfl rfl) rfl rfl ?_
  refine T.y (fun w hw => Yl.move rfl) rfl rfl ?_
  refine T.off rfl rfl rfl ?_
  refine T.off rfl rfl rfl ?_
  refine T.off rfl rfl rfl ?_
  refine T.off rfl rfl rfl ?_
  refine T.y (fun w hw => Yl.pickT rfl rfl) rfl rfl ?_
  refine T.y (fun w hw => Yl.move rfl) rfl rfl ?_
  refine T.off rfl rfl rfl ?_
  refine T.off rfl rfl rfl ?_
  refine T.off rfl rfl rfl ?_
  refine T.y (fun w hw => Yl.pickT rfl rfl) rfl rfl ?_
  refine T.nil ?_
  refine J.sel (.cons 1 rfl (.cons 35 rfl .nil)) ?_
  refine X.then_ ?_
  refine T.condT rfl ?_
  refine T.seq ?_
  -- region 2 (batch.go:50)
  refine T.region ?_
  refine T.y (fun w hw => Yl.assign rfl) rfl rfl ?_
  refine T.nil ?_
  refine J.sel (.cons 2 rfl .nil) ?_
  refine X.then_ ?_
  refine T.ret ?_
  refine X.ret_then ?_
  refine X.ret1 Try.results46 rfl (fun w hw => ?_)
  rw [chk_no (fun h => by
    obtain ⟨⟨m1, m2, m3, m4, m5, m6⟩, m7⟩ := h
    first
      | omega
      | (rw [ordB_yes m5] at h31; cases h31; done)
      | (rw [wrap_id (by omega)] at h35; omega))]
  exact ⟨(), trivial, rfl, hw.f⟩
 ·skip
  refine T.y (fun w hw => Yl.fa fa_55_0 rfl) rfl rfl ?_
  refine T.y (fun w hw => Yl.ldP hw na_3 rfl mM rfl) rfl rfl ?_
  refine T.y (fun w hw => Yl.gtr rfl rfl) rfl rfl ?_
  refine T.y (fun w hw => Yl.pickF rfl rfl) rfl rfl ?_
  refine T.y (fun w hw => Yl.move rfl) rfl rfl ?_
  refine T.splitD 13 rfl (fun h13 => ?_) (fun h13 => ?_)
  ·skip
   refine T.off rfl rfl rfl ?_
   refine T.off rfl rfl rfl ?_
   refine T.off rfl rfl rfl ?_
   refine T.off rfl rfl rfl ?_
   refine T.y (fun w hw => Yl.pickT rfl rfl) rfl rfl ?_
   refine T.y (fun w hw => Yl.move rfl) rfl rfl ?_
   refine T.off rfl rfl rfl ?_
   refine T.off rfl rfl rfl ?_
   refine T.off rfl rfl rfl ?_
   refine T.off rfl rfl rfl ?_
   refine T.y (fun w hw => Yl.pickT rfl rfl) rfl rfl ?_
   refine T.y (fun w hw => Yl.move rfl) rfl rfl ?_
   refine T.off rfl rfl rfl ?_
   refine T.off rfl rfl rfl ?_
   refine T.off rfl rfl rfl ?_
   refine T.off rfl rfl rfl ?_
   refine T.y (fun w hw => Yl.pickT rfl rfl) rfl rfl ?_
   refine T.y (fun w hw => Yl.move rfl) rfl rfl ?_
   refine T.off rfl rfl rfl ?_
   refine T.off rfl rfl rfl ?_
   refine T.off rfl rfl rfl ?_
   refine T.y (fun w hw => Yl.pickT rfl rfl) rfl rfl ?_
   refine T.nil ?_
   refine J.sel (.cons 1 rfl (.cons 35 rfl .nil)) ?_
   refine X.then_ ?_
   refine T.condT rfl ?_
   refine T.seq ?_
   -- region 2 (batch.go:50)
   refine T.region ?_
   refine T.y (fun w hw => Yl.assign rfl) rfl rfl ?_
   refine T.nil ?_
   refine J.sel (.cons 2 rfl .nil) ?_
   refine X.then_ ?_
   refine T.ret ?_
   refine X.ret_then ?_
   refine X.ret1 Try.results46 rfl (fun w hw => ?_)
   rw [chk_no (fun h => by
     obtain ⟨⟨m1, m2, m3, m4, m5, m6⟩, m7⟩ := h
     first
       | omega
       | (rw [ordB_yes m5] at h31; cases h31; done)
       | (rw [wrap_id (by omega)] at h35; omega))]
   exact ⟨(), trivial, rfl, hw.f⟩
  ·skip
   refine T.y (fun w hw => Yl.fa fa_55_1 rfl) rfl rfl ?_
   refine T.y (fun w hw => Yl.ldP hw na_53 rfl mM rfl) rfl rfl ?_
   refine T.y (fun w hw => Yl.len Try.underlying53 rfl) rfl rfl ?_
   refine T.y (fun w hw => Yl.eql rfl rfl) rfl rfl ?_
   refine T.y (fun w hw => Yl.pickF rfl rfl) rfl rfl ?_
   refine T.y (fun w hw => Yl.move rfl) rfl rfl ?_
   refine T.splitD 19 rfl (fun h19 => ?_) (fun h19 => ?_)
   ·skip
    refine T.off rfl rfl rfl ?_
    refine T.off rfl rfl rfl ?_
    refine T.off rfl rfl rfl ?_
    refine T.off rfl rfl rfl ?_
    refine T.y (fun w hw => Yl.pickT rfl rfl) rfl rfl ?_
    refine T.y (fun w hw => Yl.move rfl) rfl rfl ?_
    refine T.off rfl rfl rfl ?_
    refine T.off rfl rfl rfl ?_
    refine T.off rfl rfl rfl ?_
    refine T.off rfl rfl rfl ?_
    refine T.y (fun w hw => Yl.pickT rfl rfl) rfl rfl ?_
    refine T.y (fun w hw => Yl.move rfl) rfl rfl ?_
    refine T.off rfl rfl rfl ?_
    refine T.off rfl rfl rfl ?_
    refine T.off rfl rfl rfl ?_
    refine T.y (fun w hw => Yl.pickT rfl rfl) rfl rfl ?_
    refine T.nil ?_
    refine J.sel (.cons 1 rfl (.cons 35 rfl .nil)) ?_
    refine X.then_ ?_
    refine T.condT rfl ?_
    refine T.seq ?_
    -- region 2 (batch.go:50)
    refine T.region ?_
    refine T.y (fun w hw => Yl.assign rfl) rfl rfl ?_
    refine T.nil ?_
    refine J.sel (.cons 2 rfl .nil) ?_
    refine X.then_ ?_
    refine T.ret ?_
    refine X.ret_then ?_
    refine X.ret1 Try.results46 rfl (fun w hw => ?_)
    rw [chk_no (fun h => by
      obtain ⟨⟨m1, m2, m3, m4, m5, m6⟩, m7⟩ := h
      first
        | omega
        | (rw [ordB_yes m5] at h31; cases h31; done)
        | (rw [wrap_id (by omega)] at h35; omega))]
    exact ⟨(), trivial, rfl, hw.f⟩
   ·skip
    refine T.y (fun w hw => Yl.fa fa_55_1 rfl) rfl rfl ?_
    refine T.y (fun w hw => Yl.ldP hw na_53 rfl mM rfl) rfl rfl ?_
    refine T.y (fun w hw => Yl.len Try.underlying53 rfl) rfl rfl ?_
    refine T.y (fun w hw => Yl.gtr rfl rfl) rfl rfl ?_
    refine T.y (fun w hw => Yl.pickF rfl rfl) rfl rfl ?_
    refine T.y (fun w hw => Yl.move rfl) rfl rfl ?_
    refine T.splitD 25 rfl (fun h25 => ?_) (fun h25 => ?_)
    ·skip
     refine T.off rfl rfl rfl ?_
     refine T.off rfl rfl rfl ?_
     refine T.off rfl rfl rfl ?_
     refine T.off rfl rfl rfl ?_
     refine T.y (fun w hw => Yl.pickT rfl rfl) rfl rfl ?_
     refine T.y (fun w hw => Yl.move rfl) rfl rfl ?_
     refine T.off rfl rfl rfl ?_
     refine T.off rfl rfl rfl ?_
     refine T.off rfl rfl rfl ?_
     refine T.y (fun w hw => Yl.pickT rfl rfl) rfl rfl ?_
     refine T.nil ?_
     refine J.sel (.cons 1 rfl (.cons 35 rfl .nil)) ?_
     refine X.then_ ?_
     refine T.condT rfl ?_
     refine T.seq ?_
     -- region 2 (batch.go:50)
     refine T.region ?_
     refine T.y (fun w hw => Yl.assign rfl) rfl rfl ?_
     refine T.nil ?_
     refine J.sel (.cons 2 rfl .nil) ?_
     refine X.then_ ?_
     refine T.ret ?_
     refine X.ret_then ?_
     refine X.ret1 Try.results46 rfl (fun w hw => ?_)
     rw [chk_no (fun h => by
       obtain ⟨⟨m1, m2, m3, m4, m5, m6⟩, m7⟩ := h
       first
         | omega
         | (rw [ordB_yes m5] at h31; cases h31; done)
         | (rw [wrap_id (by omega)] at h35; omega))]
     exact ⟨(), trivial, rfl, hw.f⟩
    ·skip
     refine T.y (fun w hw => Yl.fa fa_55_1 rfl) rfl rfl ?_
     refine T.y (fun w hw => Yl.ldP hw na_53 rfl mM rfl) rfl rfl ?_
     refine T.o (OpW.call en_93 rfl (order_ct mM)) rfl rfl (fun x hx => ?_)
     refine T.y (fun w hw => Yl.not rfl) rfl rfl ?_
     refine T.y (fun w hw => Yl.pickF rfl rfl) rfl rfl ?_
     refine T.y (fun w hw => Yl.move rfl) rfl rfl ?_
     refine T.split 31 rfl (fun h31 => ?_) (fun h31 => ?_)
     ·skip
      refine T.off rfl rfl rfl ?_
      refine T.off rfl rfl rfl ?_
      refine T.off rfl rfl rfl ?_
      refine T.y (fun w hw => Yl.pickT rfl rfl) rfl rfl ?_
      refine T.nil ?_
      refine J.sel (.cons 1 rfl (.cons 35 rfl .nil)) ?_
      refine X.then_ ?_
      refine T.condT rfl ?_
      refine T.seq ?_
      -- region 2 (batch.go:50)
      refine T.region ?_
      refine T.y (fun w hw => Yl.assign rfl) rfl rfl ?_
      refine T.nil ?_
      refine J.sel (.cons 2 rfl .nil) ?_
      refine X.then_ ?_
      refine T.ret ?_
      refine X.ret_then ?_
      refine X.ret1 Try.results46 rfl (fun w hw => ?_)
      rw [chk_no (fun h => by
        obtain ⟨⟨m1, m2, m3, m4, m5, m6⟩, m7⟩ := h
        first
          | omega
          | (rw [ordB_yes m5] at h31; cases h31; done)
          | (rw [wrap_id (by omega)] at h35; omega))]
      exact ⟨(), trivial, rfl, hw.f⟩
     ·skip
      refine T.y (fun w hw => Yl.ldaP hw ag_55 rfl mM sU) rfl rfl ?_
      refine T.o (OpW.call en_66 rfl (blocks_ct (ts := b.txs) mM (by omega))) rfl rfl (fun x hx => ?_)
      refine T.y (fun w hw => Yl.gtr rfl rfl) rfl rfl ?_
      refine T.y (fun w hw => Yl.pickF rfl rfl) rfl rfl ?_
      refine T.nil ?_
      refine J.sel (.cons 1 rfl (.cons 35 rfl .nil)) ?_
      refine X.then_ ?_
      refine T.condD rfl (fun h35 => ?_) (fun h35 => ?_)
      ·skip
       refine T.seq ?_
       -- region 2 (batch.go:50)
       refine T.region ?_
       refine T.y (fun w hw => Yl.assign rfl) rfl rfl ?_
       refine T.nil ?_
       refine J.sel (.cons 2 rfl .nil) ?_
       refine X.then_ ?_
       refine T.ret ?_
       refine X.ret_then ?_
       refine X.ret1 Try.results46 rfl (fun w hw => ?_)
       rw [chk_no (fun h => by
         obtain ⟨⟨m1, m2, m3, m4, m5, m6⟩, m7⟩ := h
         first
           | omega
           | (rw [ordB_yes m5] at h31; cases h31; done)
           | (rw [wrap_id (by omega)] at h35; omega))]
       exact ⟨(), trivial, rfl, hw.f⟩
      ·skip
       refine T.skip ?_
       refine X.then_ ?_
       refine T.seq ?_
       refine T.seq ?_
       have hord : ordered b.txs := ordB_iff.1 (by simpa using h31)
       have htm := ordered_time hord
       -- region 3 (batch.go:52)
       refine T.region ?_
       refine T.y (fun w hw => Yl.fa fa_55_1 rfl) rfl rfl ?_
       refine T.y (fun w hw => Yl.ldP hw na_53 rfl mM rfl) rfl rfl ?_
       refine T.y (fun w hw => Yl.len Try.underlying53 rfl) rfl rfl ?_
       refine T.y (fun w hw => Yl.move rfl) rfl rfl ?_
       refine T.nil ?_
       refine J.sel (.cons 1 rfl (.cons 37 rfl (.cons 38 rfl (.cons 39 rfl .nil)))) ?_
       refine X.then_ ?_
       refine T.block ?_
       refine T.loop (α := Nat) (fun i => i ≤ b.txs.length ∧ ∀ j, j < i → stepOk b.txs j) (fun i => [(39, .int .i64 (i : Int)), (1, ptr b1 0), (37, .slice A b.txs.length c), (38, .int .i64 (b.txs.length : Int))]) (fun i => pt b1 55 [.int .i64 b.num, .slice A b.txs.length c] :: M) (fun i => K) (fun i => b.txs.length - i) 0 ⟨Nat.zero_le _, fun j hj => by omega⟩ (.num 39 rfl rfl (.cons 1 rfl (.cons 37 rfl (.cons 38 rfl .nil)))) (fun w hw => hw.f) ?_
       intro i hi Zk hz2
       obtain ⟨hi, hall⟩ := hi
       refine T.seq ?_
       -- region 4 (batch.go:52)
       refine T.region ?_
       refine T.y (fun w hw => Yl.lss rfl rfl) rfl rfl ?_
       refine T.nil ?_
       refine X.then_ ?_
       refine T.seq ?_
       refine T.condD rfl (fun h40 => ?_) (fun h40 => ?_)
       ·skip
        refine T.skip ?_
        refine X.then_ ?_
        refine T.seq ?_
        refine T.block ?_
        refine T.seq ?_
        obtain ⟨t, ht⟩ : ∃ t, b.txs[i]? = some t := ⟨_, List.getElem?_eq_getElem (by omega)⟩
        refine J.open_ (fun w hw => hw.tx_at mM ht) ?_
        rintro ⟨At, ct⟩ -
        dsimp only
        obtain ⟨q, hq⟩ : ∃ q, b.txs[(i - 1)]? = some q := ⟨_, List.getElem?_eq_getElem (by omega)⟩
        refine J.open_ (fun w hw => hw.tx_at mM hq) ?_
        rintro ⟨Aq, cq⟩ -
        dsimp only
        have tb1 := htm i (by omega)
        rw [timeAt_of ht] at tb1
        have tb2 := htm (i - 1) (by omega)
        rw [timeAt_of hq] at tb2
        -- region 5 (batch.go:52)
        refine T.region ?_
        refine T.y (fun w hw => Yl.move rfl) rfl rfl ?_
        refine T.y (fun w hw => (by first | exact Yl.iaV hw mM Try.underlying53 isz_58 rfl rfl rfl (by omega) | exact Yl.ia Try.underlying53 isz_58 rfl rfl rfl (by omega) sC)) rfl rfl ?_
        refine T.y (fun w hw => (by first | exact Yl.ldaV hw ag_58 rfl mM rfl | exact Yl.ldaR sC ag_58 rfl sU)) rfl rfl ?_
        refine T.o (OpW.alloc zr_58) rfl rfl (fun b4 _ => ?_)
        refine T.y (fun w hw => Yl.assign rfl) rfl rfl ?_
        refine T.o0 (OpW.stA sz_58 rfl rfl rfl rfl sW uL) rfl (fun _ _ => ?_)
        refine T.nil ?_
        refine J.sel (.cons 1 rfl (.cons 3 rfl (.cons 4 rfl (.cons 37 rfl (.cons 38 rfl (.cons 39 rfl .nil)))))) ?_
        refine X.then_ ?_
        refine T.seq ?_
        -- region 6 (batch.go:53)
        refine Dr.start0 [] ?_
        refine Dr.take 0 rfl (by kernel_rfl) bL sS (fun w hs => have hw := hs.h; Yl.move rfl) rfl rfl ?_
        refine Dr.take 1 rfl (by kernel_rfl) bL sS (fun w hs => have hw := hs.h; Yl.gtr rfl rfl) rfl rfl ?_
        refine Dr.take 2 rfl (by kernel_rfl) bL sS (fun w hs => have hw := hs.h; Yl.move rfl) rfl rfl ?_
        refine T.splitD 46 rfl (fun h46 => ?_) (fun h46 => ?_)
        ·skip
         refine Dr.take 3 rfl (by kernel_rfl) bL sS (fun w hs => have hw := hs.h; Yl.fa fa_58_0 rfl) rfl rfl ?_
         refine Dr.take 4 rfl (by kernel_rfl) bL sS (fun w hs => have hw := hs.h; Yl.ldP hw na_3 rfl mM rfl) rfl rfl ?_
         refine Dr.take 5 rfl (by kernel_rfl) bL sS (fun w hs => have hw := hs.h; Yl.fa fa_55_1 rfl) rfl rfl ?_
         refine Dr.take 6 rfl (by kernel_rfl) bL sS (fun w hs => have hw := hs.h; Yl.ldP hw na_53 rfl mM rfl) rfl rfl ?_
         refine Dr.take 7 rfl (by kernel_rfl) bL sS (fun w hs => have hw := hs.h; Yl.move rfl) rfl rfl ?_
         refine Dr.take 8 rfl (by kernel_rfl) bL sS (fun w hs => have hw := hs.h; Yl.sub rfl rfl (by omega)) rfl rfl ?_
         refine Dr.take 9 rfl (by kernel_rfl) bL sS (fun w hs => have hw := hs.h; (by first | exact Yl.iaV (i := i - 1) hw mM Try.underlying53 isz_58 rfl rfl (by omega) (by omega) | exact Yl.ia (i := i - 1) Try.underlying53 isz_58 rfl rfl (by omega) (by omega) sC)) rfl rfl ?_
         refine Dr.take 10 rfl (by kernel_rfl) bL sS (fun w hs => have hw := hs.h; Yl.fae fa_58_0 rfl) rfl rfl ?_
         refine Dr.take 11 rfl (by kernel_rfl) bL sS (fun w hs => have hw := hs.h; (by first | exact Yl.ldC hw na_3 rfl mM | exact Yl.ldI hw mM na_3 rfl (by omega) | exact Yl.ldR sC na_3 rfl (by assumption) | exact Yl.ldV hw na_3 rfl mM rfl)) rfl rfl ?_
         refine Dr.take 12 rfl (by kernel_rfl) bL sS (fun w hs => have hw := hs.h; Yl.sub rfl rfl (by omega)) rfl rfl ?_
         refine Dr.take 13 rfl (by kernel_rfl) bL sS (fun w hs => have hw := hs.h; Yl.gtr rfl rfl) rfl rfl ?_
         refine Dr.take 14 rfl (by kernel_rfl) bL sS (fun w hs => have hw := hs.h; Yl.pickT rfl rfl) rfl rfl ?_
         refine Dr.take 15 rfl (by kernel_rfl) bL sS (fun w hs => have hw := hs.h; Yl.move rfl) rfl rfl ?_
         refine T.splitD 59 rfl (fun h59 => ?_) (fun h59 => ?_)
         ·skip
          refine Dr.off 16 rfl (by kernel_rfl) bL sS rfl rfl ?_
          refine Dr.off 17 rfl (by kernel_rfl) bL sS rfl rfl ?_
          refine Dr.off 18 rfl (by kernel_rfl) bL sS rfl rfl ?_
          refine Dr.off 19 rfl (by kernel_rfl) bL sS rfl rfl ?_
          refine Dr.take 20 rfl (by kernel_rfl) bL sS (fun w hs => have hw := hs.h; Yl.pickT rfl rfl) rfl rfl ?_
          refine Dr.take 21 rfl (by kernel_rfl) bL sS (fun w hs => have hw := hs.h; Yl.move rfl) rfl rfl ?_
          refine Dr.off 22 rfl (by kernel_rfl) bL sS rfl rfl ?_
          refine Dr.off 23 rfl (by kernel_rfl) bL sS rfl rfl ?_
          refine Dr.off 24 rfl (by kernel_rfl) bL sS rfl rfl ?_
          refine Dr.take 25 rfl (by kernel_rfl) bL sS (fun w hs => have hw := hs.h; Yl.pickT rfl rfl) rfl rfl ?_
          refine Dr.done (by kernel_rfl) ?_
          refine J.sel (.cons 1 rfl (.cons 37 rfl (.cons 38 rfl (.cons 39 rfl (.cons 69 rfl .nil))))) ?_
          refine X.then_ ?_
          refine T.condT rfl ?_
          refine T.seq ?_
          -- region 7 (batch.go:54)
          refine T.region ?_
          refine T.y (fun w hw => Yl.assign rfl) rfl rfl ?_
          refine T.nil ?_
          refine J.sel (.cons 2 rfl .nil) ?_
          refine X.then_ ?_
          refine T.ret ?_
          refine X.ret_blk ?_
          refine X.ret_then ?_
          refine X.ret_then ?_
          refine X.ret_blk ?_
          refine X.ret_then ?_
          refine X.ret1 Try.results46 rfl (fun w hw => ?_)
          rw [chk_no (fun h => by
            obtain ⟨h1, h2, h3⟩ := h.2 i (by omega)
            rw [putsAt_of ht] at h2 h3
            rw [timeAt_of ht, timeAt_of hq] at h1
            first
              | omega
              | (have := h1 (by omega); omega)
              | exact badB_iff.1 h69 h3)]
          exact ⟨(), trivial, rfl, hw.f⟩
         ·skip
          refine Dr.take 16 rfl (by kernel_rfl) bL sS (fun w hs => have hw := hs.h; Yl.fa fa_58_1 rfl) rfl rfl ?_
          refine Dr.take 17 rfl (by kernel_rfl) bL sS (fun w hs => have hw := hs.h; Yl.ldP hw na_56 rfl mM rfl) rfl rfl ?_
          refine Dr.take 18 rfl (by kernel_rfl) bL sS (fun w hs => have hw := hs.h; Yl.len Try.underlying56 rfl) rfl rfl ?_
          refine Dr.take 19 rfl (by kernel_rfl) bL sS (fun w hs => have hw := hs.h; Yl.gtr rfl rfl) rfl rfl ?_
          refine Dr.take 20 rfl (by kernel_rfl) bL sS (fun w hs => have hw := hs.h; Yl.pickF rfl rfl) rfl rfl ?_
          refine Dr.take 21 rfl (by kernel_rfl) bL sS (fun w hs => have hw := hs.h; Yl.move rfl) rfl rfl ?_
          refine T.splitD 65 rfl (fun h65 => ?_) (fun h65 => ?_)
          ·skip
           refine Dr.off 22 rfl (by kernel_rfl) bL sS rfl rfl ?_
           refine Dr.off 23 rfl (by kernel_rfl) bL sS rfl rfl ?_
           refine Dr.off 24 rfl (by kernel_rfl) bL sS rfl rfl ?_
           refine Dr.take 25 rfl (by kernel_rfl) bL sS (fun w hs => have hw := hs.h; Yl.pickT rfl rfl) rfl rfl ?_
           refine Dr.done (by kernel_rfl) ?_
           refine J.sel (.cons 1 rfl (.cons 37 rfl (.cons 38 rfl (.cons 39 rfl (.cons 69 rfl .nil))))) ?_
           refine X.then_ ?_
           refine T.condT rfl ?_
           refine T.seq ?_
           -- region 7 (batch.go:54)
           refine T.region ?_
           refine T.y (fun w hw => Yl.assign rfl) rfl rfl ?_
           refine T.nil ?_
           refine J.sel (.cons 2 rfl .nil) ?_
           refine X.then_ ?_
           refine T.ret ?_
           refine X.ret_blk ?_
           refine X.ret_then ?_
           refine X.ret_then ?_
           refine X.ret_blk ?_
           refine X.ret_then ?_
           refine X.ret1 Try.results46 rfl (fun w hw => ?_)
           rw [chk_no (fun h => by
             obtain ⟨h1, h2, h3⟩ := h.2 i (by omega)
             rw [putsAt_of ht] at h2 h3
             rw [timeAt_of ht, timeAt_of hq] at h1
             first
               | omega
               | (have := h1 (by omega); omega)
               | exact badB_iff.1 h69 h3)]
           exact ⟨(), trivial, rfl, hw.f⟩
          ·skip
           refine Dr.take 22 rfl (by kernel_rfl) bL sS (fun w hs => have hw := hs.h; Yl.fa fa_58_1 rfl) rfl rfl ?_
           refine Dr.take 23 rfl (by kernel_rfl) bL sS (fun w hs => have hw := hs.h; Yl.ldP hw na_56 rfl mM rfl) rfl rfl ?_
           refine Dr.act 24 rfl (by kernel_rfl) rfl (OpW.call en_94 rfl (anyBad_ct (ps := t.puts) mM)) rfl rfl (fun _ _ _ => sS) (fun x hx => ?_)
           refine Dr.take 25 rfl (by kernel_rfl) bL sS (fun w hs => have hw := hs.h; Yl.pickF rfl rfl) rfl rfl ?_
           refine Dr.done (by kernel_rfl) ?_
           refine J.sel (.cons 1 rfl (.cons 37 rfl (.cons 38 rfl (.cons 39 rfl (.cons 69 rfl .nil))))) ?_
           refine X.then_ ?_
           refine T.cond rfl (fun h69 => ?_) (fun h69 => ?_)
           ·skip
            refine T.seq ?_
            -- region 7 (batch.go:54)
            refine T.region ?_
            refine T.y (fun w hw => Yl.assign rfl) rfl rfl ?_
            refine T.nil ?_
            refine J.sel (.cons 2 rfl .nil) ?_
            refine X.then_ ?_
            refine T.ret ?_
            refine X.ret_blk ?_
            refine X.ret_then ?_
            refine X.ret_then ?_
            refine X.ret_blk ?_
            refine X.ret_then ?_
            refine X.ret1 Try.results46 rfl (fun w hw => ?_)
            rw [chk_no (fun h => by
              obtain ⟨h1, h2, h3⟩ := h.2 i (by omega)
              rw [putsAt_of ht] at h2 h3
              rw [timeAt_of ht, timeAt_of hq] at h1
              first
                | omega
                | (have := h1 (by omega); omega)
                | exact badB_iff.1 h69 h3)]
            exact ⟨(), trivial, rfl, hw.f⟩
           ·skip
            refine T.skip ?_
            refine X.nm_blk ?_
            refine X.then_ ?_
            -- region 8 (batch.go:52)
            refine T.region ?_
            refine T.y (fun w hw => Yl.add rfl rfl (by omega)) rfl rfl ?_
            refine T.y (fun w hw => Yl.move rfl) rfl rfl ?_
            refine T.nil ?_
            refine J.sel (.cons 1 rfl (.cons 37 rfl (.cons 38 rfl (.cons 39 rfl .nil)))) ?_
            refine X.go (hz2 (i + 1) ⟨by omega, fun j hj => ?_⟩ (by omega)) (.num 39 rfl (by omega) (.cons 1 rfl (.cons 37 rfl (.cons 38 rfl .nil)))) (fun w hw => ?_)
            · rcases Nat.lt_succ_iff_lt_or_eq.1 hj with hj | rfl
              · exact hall j hj
              · refine ⟨fun hj0 => ?_, by rw [putsAt_of ht]; omega, by rw [putsAt_of ht]; intro x hx; exact Classical.byContradiction fun hn => by rw [badB_iff.2 (fun hf => hn (hf x hx))] at h69; cases h69⟩
                rw [timeAt_of ht, timeAt_of hq]; omega
            · exact hw.f
        ·skip
         refine Dr.off 3 rfl (by kernel_rfl) bL sS rfl rfl ?_
         refine Dr.off 4 rfl (by kernel_rfl) bL sS rfl rfl ?_
         refine Dr.off 5 rfl (by kernel_rfl) bL sS rfl rfl ?_
         refine Dr.off 6 rfl (by kernel_rfl) bL sS rfl rfl ?_
         refine Dr.off 7 rfl (by kernel_rfl) bL sS rfl rfl ?_
         refine Dr.off 8 rfl (by kernel_rfl) bL sS rfl rfl ?_
         refine Dr.off 9 rfl (by kernel_rfl) bL sS rfl rfl ?_
         refine Dr.off 10 rfl (by kernel_rfl) bL sS rfl rfl ?_
         refine Dr.off 11 rfl (by kernel_rfl) bL sS rfl rfl ?_
         refine Dr.off 12 rfl (by kernel_rfl) bL sS rfl rfl ?_
         refine Dr.off 13 rfl (by kernel_rfl) bL sS rfl rfl ?_
         refine Dr.take 14 rfl (by kernel_rfl) bL sS (fun w hs => have hw := hs.h; Yl.pickF rfl rfl) rfl rfl ?_
         refine Dr.take 15 rfl (by kernel_rfl) bL sS (fun w hs => have hw := hs.h; Yl.move rfl) rfl rfl ?_
         refine Dr.take 16 rfl (by kernel_rfl) bL sS (fun w hs => have hw := hs.h; Yl.fa fa_58_1 rfl) rfl rfl ?_
         refine Dr.take 17 rfl (by kernel_rfl) bL sS (fun w hs => have hw := hs.h; Yl.ldP hw na_56 rfl mM rfl) rfl rfl ?_
         refine Dr.take 18 rfl (by kernel_rfl) bL sS (fun w hs => have hw := hs.h; Yl.len Try.underlying56 rfl) rfl rfl ?_
         refine Dr.take 19 rfl (by kernel_rfl) bL sS (fun w hs => have hw := hs.h; Yl.gtr rfl rfl) rfl rfl ?_
         refine Dr.take 20 rfl (by kernel_rfl) bL sS (fun w hs => have hw := hs.h; Yl.pickF rfl rfl) rfl rfl ?_
         refine Dr.take 21 rfl (by kernel_rfl) bL sS (fun w hs => have hw := hs.h; Yl.move rfl) rfl rfl ?_
         refine T.splitD 65 rfl (fun h65 => ?_) (fun h65 => ?_)
         ·skip
          refine Dr.off 22 rfl (by kernel_rfl) bL sS rfl rfl ?_
          refine Dr.off 23 rfl (by kernel_rfl) bL sS rfl rfl ?_
          refine Dr.off 24 rfl (by kernel_rfl) bL sS rfl rfl ?_
          refine Dr.take 25 rfl (by kernel_rfl) bL sS (fun w hs => have hw := hs.h; Yl.pickT rfl rfl) rfl rfl ?_
          refine Dr.done (by kernel_rfl) ?_
          refine J.sel (.cons 1 rfl (.cons 37 rfl (.cons 38 rfl (.cons 39 rfl (.cons 69 rfl .nil))))) ?_
          refine X.then_ ?_
          refine T.condT rfl ?_
          refine T.seq ?_
          -- region 7 (batch.go:54)
          refine T.region ?_
          refine T.y (fun w hw => Yl.assign rfl) rfl rfl ?_
          refine T.nil ?_
          refine J.sel (.cons 2 rfl .nil) ?_
          refine X.then_ ?_
          refine T.ret ?_
          refine X.ret_blk ?_
          refine X.ret_then ?_
          refine X.ret_then ?_
          refine X.ret_blk ?_
          refine X.ret_then ?_
          refine X.ret1 Try.results46 rfl (fun w hw => ?_)
          rw [chk_no (fun h => by
            obtain ⟨h1, h2, h3⟩ := h.2 i (by omega)
            rw [putsAt_of ht] at h2 h3
            rw [timeAt_of ht, timeAt_of hq] at h1
            first
              | omega
              | (have := h1 (by omega); omega)
              | exact badB_iff.1 h69 h3)]
          exact ⟨(), trivial, rfl, hw.f⟩
         ·skip
          refine Dr.take 22 rfl (by kernel_rfl) bL sS (fun w hs => have hw := hs.h; Yl.fa fa_58_1 rfl) rfl rfl ?_
          refine Dr.take 23 rfl (by kernel_rfl) bL sS (fun w hs => have hw := hs.h; Yl.ldP hw na_56 rfl mM rfl) rfl rfl ?_
          refine Dr.act 24 rfl (by kernel_rfl) rfl (OpW.call en_94 rfl (anyBad_ct (ps := t.puts) mM)) rfl rfl (fun _ _ _ => sS) (fun x hx => ?_)
          refine Dr.take 25 rfl (by kernel_rfl) bL sS (fun w hs => have hw := hs.h; Yl.pickF rfl rfl) rfl rfl ?_
          refine Dr.done (by kernel_rfl) ?_
          refine J.sel (.cons 1 rfl (.cons 37 rfl (.cons 38 rfl (.cons 39 rfl (.cons 69 rfl .nil))))) ?_
          refine X.then_ ?_
          refine T.cond rfl (fun h69 => ?_) (fun h69 => ?_)
          ·skip
           refine T.seq ?_
           -- region 7 (batch.go:54)
           refine T.region ?_
           refine T.y (fun w hw => Yl.assign rfl) rfl rfl ?_
           refine T.nil ?_
           refine J.sel (.cons 2 rfl .nil) ?_
           refine X.then_ ?_
           refine T.ret ?_
           refine X.ret_blk ?_
           refine X.ret_then ?_
           refine X.ret_then ?_
           refine X.ret_blk ?_
           refine X.ret_then ?_
           refine X.ret1 Try.results46 rfl (fun w hw => ?_)
           rw [chk_no (fun h => by
             obtain ⟨h1, h2, h3⟩ := h.2 i (by omega)
             rw [putsAt_of ht] at h2 h3
             rw [timeAt_of ht, timeAt_of hq] at h1
             first
               | omega
               | (have := h1 (by omega); omega)
               | exact badB_iff.1 h69 h3)]
           exact ⟨(), trivial, rfl, hw.f⟩
          ·skip
           refine T.skip ?_
           refine X.nm_blk ?_
           refine X.then_ ?_
           -- region 8 (batch.go:52)
           refine T.region ?_
           refine T.y (fun w hw => Yl.add rfl rfl (by omega)) rfl rfl ?_
           refine T.y (fun w hw => Yl.move rfl) rfl rfl ?_
           refine T.nil ?_
           refine J.sel (.cons 1 rfl (.cons 37 rfl (.cons 38 rfl (.cons 39 rfl .nil)))) ?_
           refine X.go (hz2 (i + 1) ⟨by omega, fun j hj => ?_⟩ (by omega)) (.num 39 rfl (by omega) (.cons 1 rfl (.cons 37 rfl (.cons 38 rfl .nil)))) (fun w hw => ?_)
           · rcases Nat.lt_succ_iff_lt_or_eq.1 hj with hj | rfl
             · exact hall j hj
             · refine ⟨fun hj0 => ?_, by rw [putsAt_of ht]; omega, by rw [putsAt_of ht]; intro x hx; exact Classical.byContradiction fun hn => by rw [badB_iff.2 (fun hf => hn (hf x hx))] at h69; cases h69⟩
               rw [timeAt_of ht, timeAt_of hq]; omega
           · exact hw.f
       ·skip
        refine T.exit ?_
        refine X.exit_then ?_
        refine X.exit_then ?_
        refine X.exit_blk ?_
        refine X.then_ ?_
        refine T.seq ?_
        -- region 9 (batch.go:57)
        refine T.region ?_
        refine T.y (fun w hw => Yl.assign rfl) rfl rfl ?_
        refine T.nil ?_
        refine J.sel (.cons 2 rfl .nil) ?_
        refine X.then_ ?_
        refine T.ret ?_
        refine X.ret1 Try.results46 rfl (fun w hw => ?_)
        have hie : i = b.txs.length := by omega
        subst hie
        have hle : sumP b.txs ≤ b.txs.length * 16 := sumP_le (fun t ht => by
          obtain ⟨j, hj, rfl⟩ := List.getElem_of_mem ht
          have := (hall j hj).2.1
          rwa [putsAt_of (List.getElem?_eq_getElem hj)] at this)
        rw [chk_yes ⟨⟨by omega, by omega, by omega, by omega, hord, by rw [wrap_id (by unfold blocksN; omega)] at h35; omega⟩, hall⟩]
        exact ⟨(), trivial, rfl, hw.f⟩

set_option maxHeartbeats 4000000 in
theorem form_ct {M : List HP} {K : List KP} {A : Option Addr} {c : Nat} {q : List TxL} (hq : viewK 2 txE A c q ∈ K) (hs : sumP q ≤ 1000000) (hl : q.length ≤ 1000000) : Fn 65 [.slice A q.length c] M K (fun _ : Unit => True) (fun _ => .int .i64 ((formN q : Nat) : Int)) (fun _ => M) (fun _ => K) := by
 refine Fn.of (n := 35) Try.func65 rfl Try.ntmps65 rfl ?_
 refine T.seq ?_
 -- region 0 (batch.go:21)
 refine T.region ?_
 refine T.y (fun w hw => Yl.assign rfl) rfl rfl ?_
 refine T.nil ?_
 refine X.then_ ?_
 refine T.seq ?_
 -- region 1 (batch.go:22)
 refine T.region ?_
 refine T.y (fun w hw => Yl.assign rfl) rfl rfl ?_
 refine T.nil ?_
 refine X.then_ ?_
 refine T.seq ?_
 refine T.seq ?_
 -- region 2 (batch.go:23)
 refine T.region ?_
 refine T.y (fun w hw => Yl.move rfl) rfl rfl ?_
 refine T.y (fun w hw => Yl.len Try.underlying53 rfl) rfl rfl ?_
 refine T.y (fun w hw => Yl.move rfl) rfl rfl ?_
 refine T.nil ?_
 refine J.sel (.cons 2 rfl (.cons 3 rfl (.cons 6 rfl (.cons 7 rfl (.cons 8 rfl .nil))))) ?_
 refine X.then_ ?_
 refine T.block ?_
 refine T.loop (α := Nat) (fun i => i ≤ q.length ∧ formN q = formGo (q.drop i) i (sumP (q.take i))) (fun i => [(2, .int .i64 (i : Int)), (3, .int .i64 ((sumP (q.take i) : Nat) : Int)), (8, .int .i64 (i : Int)), (6, .slice A q.length c), (7, .int .i64 (q.length : Int))]) (fun i => M) (fun i => K) (fun i => q.length - i) 0 ⟨Nat.zero_le _, rfl⟩ (.num 2 rfl rfl (.num 3 rfl rfl (.num 8 rfl rfl (.cons 6 rfl (.cons 7 rfl .nil))))) (fun w hw => hw.f) ?_
 intro i hi Zk hz2
 obtain ⟨hi, hfm⟩ := hi
 have hle := sumP_take_le q i
 refine T.seq ?_
 -- region 3 (batch.go:23)
 refine T.region ?_
 refine T.y (fun w hw => Yl.lss rfl rfl) rfl rfl ?_
 refine T.nil ?_
 refine X.then_ ?_
 refine T.seq ?_
 refine T.condD rfl (fun h9 => ?_) (fun h9 => ?_)
 ·skip
  refine T.skip ?_
  refine X.then_ ?_
  refine T.seq ?_
  refine T.block ?_
  refine T.seq ?_
  obtain ⟨t, ht⟩ : ∃ t, q[i]? = some t := ⟨_, List.getElem?_eq_getElem (by omega)⟩
  refine J.open_ (fun w hw => hw.tx_at mM ht) ?_
  rintro ⟨At, ct⟩ -
  dsimp only
  have hst := sumP_take ht
  have hle2 := sumP_take_le q (i + 1)
  -- region 4 (batch.go:23)
  refine T.region ?_
  refine T.y (fun w hw => (by first | exact Yl.iaV hw mM Try.underlying53 isz_58 rfl rfl rfl (by omega) | exact Yl.ia Try.underlying53 isz_58 rfl rfl rfl (by omega) sC)) rfl rfl ?_
  refine T.y (fun w hw => (by first | exact Yl.ldaV hw ag_58 rfl mM rfl | exact Yl.ldaR sC ag_58 rfl sU)) rfl rfl ?_
  refine T.o (OpW.alloc zr_58) rfl rfl (fun b5 _ => ?_)
  refine T.o0 (OpW.stA sz_58 rfl rfl rfl rfl sW uL) rfl (fun _ _ => ?_)
  refine T.nil ?_
  refine J.sel (.cons 2 rfl (.cons 3 rfl (.cons 5 rfl (.cons 6 rfl (.cons 7 rfl (.cons 8 rfl .nil)))))) ?_
  refine X.then_ ?_
  refine T.seq ?_
  refine T.seq ?_
  -- region 5 (batch.go:24)
  refine T.region ?_
  refine T.y (fun w hw => Yl.move rfl) rfl rfl ?_
  refine T.y (fun w hw => Yl.geq rfl rfl) rfl rfl ?_
  refine T.y (fun w hw => Yl.move rfl) rfl rfl ?_
  refine T.splitD 14 rfl (fun h14 => ?_) (fun h14 => ?_)
  ·skip
   refine T.off rfl rfl rfl ?_
   refine T.off rfl rfl rfl ?_
   refine T.off rfl rfl rfl ?_
   refine T.off rfl rfl rfl ?_
   refine T.off rfl rfl rfl ?_
   refine T.off rfl rfl rfl ?_
   refine T.off rfl rfl rfl ?_
   refine T.off rfl rfl rfl ?_
   refine T.off rfl rfl rfl ?_
   refine T.off rfl rfl rfl ?_
   refine T.y (fun w hw => Yl.pickT rfl rfl) rfl rfl ?_
   refine T.nil ?_
   refine J.sel (.cons 2 rfl (.cons 3 rfl (.cons 5 rfl (.cons 6 rfl (.cons 7 rfl (.cons 8 rfl (.cons 25 rfl .nil))))))) ?_
   refine X.then_ ?_
   refine T.condT rfl ?_
   refine T.exit ?_
   refine X.exit_then ?_
   refine X.exit_blk_ne rfl ?_
   refine X.exit_then ?_
   refine X.exit_then ?_
   refine X.exit_blk ?_
   refine X.then_ ?_
   refine T.seq ?_
   -- region 9 (batch.go:30)
   refine T.region ?_
   refine T.y (fun w hw => Yl.move rfl) rfl rfl ?_
   refine T.y (fun w hw => Yl.assign rfl) rfl rfl ?_
   refine T.nil ?_
   refine J.sel (.cons 2 rfl .nil) ?_
   refine X.then_ ?_
   refine T.ret ?_
   refine X.ret1 Try.results65 rfl (fun w hw => ?_)
   have hf : formN q = i := by
     first
       | (rw [hfm, drop_cons ht, formGo_stop (by omega)]; done)
       | (rw [hfm, List.drop_eq_nil_of_le (by omega)]; rfl)
   rw [hf]
   exact ⟨(), trivial, rfl, hw.f⟩
  ·skip
   refine T.y (fun w hw => Yl.move rfl) rfl rfl ?_
   refine T.y (fun w hw => Yl.gtr rfl rfl) rfl rfl ?_
   refine T.y (fun w hw => Yl.move rfl) rfl rfl ?_
   refine T.splitD 17 rfl (fun h17 => ?_) (fun h17 => ?_)
   ·skip
    refine T.y (fun w hw => Yl.fa fa_58_1 rfl) rfl rfl ?_
    refine T.y (fun w hw => Yl.ldP hw na_56 rfl mM rfl) rfl rfl ?_
    refine T.y (fun w hw => Yl.len Try.underlying56 rfl) rfl rfl ?_
    refine T.y (fun w hw => Yl.move rfl) rfl rfl ?_
    refine T.y (fun w hw => Yl.sub rfl rfl (by omega)) rfl rfl ?_
    refine T.y (fun w hw => Yl.gtr rfl rfl) rfl rfl ?_
    refine T.y (fun w hw => Yl.pickT rfl rfl) rfl rfl ?_
    refine T.y (fun w hw => Yl.pickF rfl rfl) rfl rfl ?_
    refine T.nil ?_
    refine J.sel (.cons 2 rfl (.cons 3 rfl (.cons 5 rfl (.cons 6 rfl (.cons 7 rfl (.cons 8 rfl (.cons 25 rfl .nil))))))) ?_
    refine X.then_ ?_
    refine T.condD rfl (fun h25 => ?_) (fun h25 => ?_)
    ·skip
     refine T.exit ?_
     refine X.exit_then ?_
     refine X.exit_blk_ne rfl ?_
     refine X.exit_then ?_
     refine X.exit_then ?_
     refine X.exit_blk ?_
     refine X.then_ ?_
     refine T.seq ?_
     -- region 9 (batch.go:30)
     refine T.region ?_
     refine T.y (fun w hw => Yl.move rfl) rfl rfl ?_
     refine T.y (fun w hw => Yl.assign rfl) rfl rfl ?_
     refine T.nil ?_
     refine J.sel (.cons 2 rfl .nil) ?_
     refine X.then_ ?_
     refine T.ret ?_
     refine X.ret1 Try.results65 rfl (fun w hw => ?_)
     have hf : formN q = i := by
       first
         | (rw [hfm, drop_cons ht, formGo_stop (by omega)]; done)
         | (rw [hfm, List.drop_eq_nil_of_le (by omega)]; rfl)
     rw [hf]
     exact ⟨(), trivial, rfl, hw.f⟩
    ·skip
     refine T.skip ?_
     refine X.then_ ?_
     refine T.seq ?_
     -- region 6 (batch.go:27)
     refine T.region ?_
     refine T.y (fun w hw => Yl.move rfl) rfl rfl ?_
     refine T.y (fun w hw => Yl.fa fa_58_1 rfl) rfl rfl ?_
     refine T.y (fun w hw => Yl.ldP hw na_56 rfl mM rfl) rfl rfl ?_
     refine T.y (fun w hw => Yl.len Try.underlying56 rfl) rfl rfl ?_
     refine T.y (fun w hw => Yl.add rfl rfl (by omega)) rfl rfl ?_
     refine T.y (fun w hw => Yl.assign rfl) rfl rfl ?_
     refine T.nil ?_
     refine J.sel (.cons 2 rfl (.cons 3 rfl (.cons 6 rfl (.cons 7 rfl (.cons 8 rfl .nil))))) ?_
     refine X.then_ ?_
     -- region 7 (batch.go:28)
     refine T.region ?_
     refine T.y (fun w hw => Yl.move rfl) rfl rfl ?_
     refine T.y (fun w hw => Yl.add rfl rfl (by omega)) rfl rfl ?_
     refine T.y (fun w hw => Yl.assign rfl) rfl rfl ?_
     refine T.nil ?_
     refine J.sel (.cons 2 rfl (.cons 3 rfl (.cons 6 rfl (.cons 7 rfl (.cons 8 rfl .nil))))) ?_
     refine X.nm_blk ?_
     refine X.then_ ?_
     -- region 8 (batch.go:23)
     refine T.region ?_
     refine T.y (fun w hw => Yl.add rfl rfl (by omega)) rfl rfl ?_
     refine T.y (fun w hw => Yl.move rfl) rfl rfl ?_
     refine T.nil ?_
     refine J.sel (.cons 2 rfl (.cons 3 rfl (.cons 6 rfl (.cons 7 rfl (.cons 8 rfl .nil))))) ?_
     refine X.go (hz2 (i + 1) ⟨by omega, by rw [hfm, drop_cons ht, formGo_on (by omega), hst]⟩ (by omega)) (.num 2 rfl (by omega) (.num 3 rfl (by rw [hst]; push_cast; omega) (.num 8 rfl (by omega) (.cons 6 rfl (.cons 7 rfl .nil))))) (fun w hw => ?_)
     exact hw.f
   ·skip
    refine T.off rfl rfl rfl ?_
    refine T.off rfl rfl rfl ?_
    refine T.off rfl rfl rfl ?_
    refine T.off rfl rfl rfl ?_
    refine T.off rfl rfl rfl ?_
    refine T.off rfl rfl rfl ?_
    refine T.y (fun w hw => Yl.pickF rfl rfl) rfl rfl ?_
    refine T.y (fun w hw => Yl.pickF rfl rfl) rfl rfl ?_
    refine T.nil ?_
    refine J.sel (.cons 2 rfl (.cons 3 rfl (.cons 5 rfl (.cons 6 rfl (.cons 7 rfl (.cons 8 rfl (.cons 25 rfl .nil))))))) ?_
    refine X.then_ ?_
    refine T.condF rfl ?_
    refine T.skip ?_
    refine X.then_ ?_
    refine T.seq ?_
    -- region 6 (batch.go:27)
    refine T.region ?_
    refine T.y (fun w hw => Yl.move rfl) rfl rfl ?_
    refine T.y (fun w hw => Yl.fa fa_58_1 rfl) rfl rfl ?_
    refine T.y (fun w hw => Yl.ldP hw na_56 rfl mM rfl) rfl rfl ?_
    refine T.y (fun w hw => Yl.len Try.underlying56 rfl) rfl rfl ?_
    refine T.y (fun w hw => Yl.add rfl rfl (by omega)) rfl rfl ?_
    refine T.y (fun w hw => Yl.assign rfl) rfl rfl ?_
    refine T.nil ?_
    refine J.sel (.cons 2 rfl (.cons 3 rfl (.cons 6 rfl (.cons 7 rfl (.cons 8 rfl .nil))))) ?_
    refine X.then_ ?_
    -- region 7 (batch.go:28)
    refine T.region ?_
    refine T.y (fun w hw => Yl.move rfl) rfl rfl ?_
    refine T.y (fun w hw => Yl.add rfl rfl (by omega)) rfl rfl ?_
    refine T.y (fun w hw => Yl.assign rfl) rfl rfl ?_
    refine T.nil ?_
    refine J.sel (.cons 2 rfl (.cons 3 rfl (.cons 6 rfl (.cons 7 rfl (.cons 8 rfl .nil))))) ?_
    refine X.nm_blk ?_
    refine X.then_ ?_
    -- region 8 (batch.go:23)
    refine T.region ?_
    refine T.y (fun w hw => Yl.add rfl rfl (by omega)) rfl rfl ?_
    refine T.y (fun w hw => Yl.move rfl) rfl rfl ?_
    refine T.nil ?_
    refine J.sel (.cons 2 rfl (.cons 3 rfl (.cons 6 rfl (.cons 7 rfl (.cons 8 rfl .nil))))) ?_
    refine X.go (hz2 (i + 1) ⟨by omega, by rw [hfm, drop_cons ht, formGo_on (by omega), hst]⟩ (by omega)) (.num 2 rfl (by omega) (.num 3 rfl (by rw [hst]; push_cast; omega) (.num 8 rfl (by omega) (.cons 6 rfl (.cons 7 rfl .nil))))) (fun w hw => ?_)
    exact hw.f
 ·skip
  refine T.exit ?_
  refine X.exit_then ?_
  refine X.exit_then ?_
  refine X.exit_blk ?_
  refine X.then_ ?_
  refine T.seq ?_
  -- region 9 (batch.go:30)
  refine T.region ?_
  refine T.y (fun w hw => Yl.move rfl) rfl rfl ?_
  refine T.y (fun w hw => Yl.assign rfl) rfl rfl ?_
  refine T.nil ?_
  refine J.sel (.cons 2 rfl .nil) ?_
  refine X.then_ ?_
  refine T.ret ?_
  refine X.ret1 Try.results65 rfl (fun w hw => ?_)
  have hf : formN q = i := by
    first
      | (rw [hfm, drop_cons ht, formGo_stop (by omega)]; done)
      | (rw [hfm, List.drop_eq_nil_of_le (by omega)]; rfl)
  rw [hf]
  exact ⟨(), trivial, rfl, hw.f⟩

end Go.Proofs.Ytfpnodboebpemaa
