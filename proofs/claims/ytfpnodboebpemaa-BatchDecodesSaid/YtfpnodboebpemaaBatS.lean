/- The contracts of scarpref11: Order, CheckBatch, EncodeBatch. -/
import Derived.Test.YtfpnodboebpemaaBatR
import Derived.Test.YtfpnodboebpemaaBat2A
namespace Go.Proofs.Ytfpnodboebpemaa
open Go.RowKit Go.Proofs.YtfpnodboebpemaaW.PrintWords
set_option linter.unusedVariables false
set_option linter.unusedSimpArgs false
theorem put6H_ct {M : List HP} {K : List KP} {a m : Int} (v n : Nat) (ha : a = (v : Int)) (hm : m = (n : Int)) (hv : v < 18446744073709551616) (hn : n ≤ 8) : Fn 97 [.int .u64 a, .int .i64 m] M K (fun _ : Option Addr × Nat => True) (fun r => .slice r.1 (le v n).length r.2) (fun r => rowH 5 1 r.1 r.2 (le v n).length (nums .u8 (le v n)) :: M) (fun _ => K) := by
  subst ha hm; exact Fn.bytesH (fun w hh => put6_any v n w hv hn)
theorem encode60_ct {M : List HP} {K : List KP} (b : Fb) (he : b.err = 0) {A : Option Addr} {n c : Nat} (hn : n = b.body.length) (hp : bytesK A c b.body ∈ K) : Fn 47 [.agg [.int .i64 b.kind, .int .i64 b.epoch, .int .i64 b.seq, .int .i64 b.lba, .slice A n c].toArray] M K (fun _ : Option Addr × Nat => True) (fun r => .tuple [.slice r.1 b.enc.length r.2, .int .i64 0].toArray) (fun _ => M) (fun r => bytesK r.1 r.2 b.enc :: K) := by
  have := encode6_ct (M := M) b hn hp
  simp only [he, if_true] at this
  exact this
theorem le_two {x : Int} (h : 0 ≤ x ∧ x ≤ 65535) : le x.toNat 2 = [x % 256, x / 256] := by
  show [((x.toNat % 256 : Nat) : Int), ((x.toNat / 256 % 256 : Nat) : Int)] = [x % 256, x / 256]
  have h1 : ((x.toNat % 256 : Nat) : Int) = x % 256 := by omega
  have h2 : ((x.toNat / 256 % 256 : Nat) : Int) = x / 256 := by omega
  rw [h1, h2]
attribute [local irreducible] pt rowH slK bytesK intsK rowsK rowsH cellK rowsV oldK star exH pureH knowH starL emp devH zoneH zonesH zrest cellsK viewV viewK viewH putE txE batE

set_option maxHeartbeats 4000000 in
theorem order6_ct {M : List HP} {K : List KP} {A : Option Addr} {c : Nat} {ts : List TxL} (hts : viewK 2 txE A c ts ∈ K) : Fn 150 [.slice A ts.length c] M K (fun _ : Unit => True) (fun _ => .bool (ordB ts)) (fun _ => M) (fun _ => K) := by
 refine Fn.of (n := 71) Try.func150 rfl Try.ntmps150 rfl ?_
 refine J.fact (fun w hw => hw.view_max9 (xs := ts) (A := A) (c := c) (sz := 2) (el := txE) mM) ?_
 intro hmx
 refine T.seq ?_
 -- region 0 (txn.go:494)
 refine T.region ?_
 refine T.y (fun w hw => Yl.assign rfl) rfl rfl ?_
 refine T.nil ?_
 refine J.sel (.cons 0 rfl .nil) ?_
 refine X.then_ ?_
 refine T.seq ?_
 -- region 1 (txn.go:495)
 refine T.region ?_
 refine T.y (fun w hw => Yl.assign rfl) rfl rfl ?_
 refine T.nil ?_
 refine X.then_ ?_
 refine T.seq ?_
 refine T.seq ?_
 -- region 2 (txn.go:496)
 refine T.region ?_
 refine T.y (fun w hw => Yl.assign rfl) rfl rfl ?_
 refine T.nil ?_
 refine X.then_ ?_
 refine T.block ?_
 refine T.loop (α := Nat) (fun i => i ≤ ts.length ∧ ∀ j, j < i → ordAt ts j) (fun i => [(3, .int .i64 (prevT ts i)), (4, .int .i64 (i : Int)), (0, .slice A ts.length c)]) (fun i => M) (fun i => K) (fun i => ts.length - i) 0 ⟨Nat.zero_le _, fun j hj => by omega⟩ (.num 3 rfl rfl (.num 4 rfl rfl (.cons 0 rfl .nil))) (fun w hw => hw.f) ?_
 intro i hi Zk hzo
 obtain ⟨hi, hall⟩ := hi
 refine T.seq ?_
 refine T.seq ?_
 -- region 3 (txn.go:496)
 refine T.region ?_
 refine T.y (fun w hw => Yl.move rfl) rfl rfl ?_
 refine T.y (fun w hw => Yl.move rfl) rfl rfl ?_
 refine T.y (fun w hw => Yl.len Try.underlying53 rfl) rfl rfl ?_
 refine T.y (fun w hw => Yl.lss rfl rfl) rfl rfl ?_
 refine T.nil ?_
 refine J.sel (.cons 0 rfl (.cons 3 rfl (.cons 4 rfl (.cons 9 rfl .nil)))) ?_
 refine X.then_ ?_
 refine T.condD rfl (fun h9 => ?_) (fun h9 => ?_)
 ·skip
  refine T.skip ?_
  refine X.then_ ?_
  refine T.seq ?_
  refine T.block ?_
  refine T.seq ?_
  refine T.seq ?_
  obtain ⟨t, htt⟩ : ∃ t, ts[i]? = some t := ⟨_, List.getElem?_eq_getElem (by omega)⟩
  refine J.open_ (fun w hw => hw.tx_at mM htt) ?_
  rintro ⟨At, ct⟩ -
  dsimp only
  -- region 5 (txn.go:497)
  refine T.region ?_
  refine T.y (fun w hw => Yl.move rfl) rfl rfl ?_
  refine T.y (fun w hw => Yl.move rfl) rfl rfl ?_
  refine T.y (fun w hw => (by first | exact Yl.iaV hw mM Try.underlying53 isz_58 rfl rfl rfl (by omega) | exact Yl.ia Try.underlying53 isz_58 rfl rfl rfl (by omega) sC)) rfl rfl ?_
  refine T.y (fun w hw => Yl.fae fa_58_0 rfl) rfl rfl ?_
  refine T.y (fun w hw => (by first | exact Yl.ldC hw na_3 rfl mM | exact Yl.ldI hw mM na_3 rfl (by omega) | exact Yl.ldR sC na_3 rfl (by assumption) | exact Yl.ldV hw na_3 rfl mM rfl)) rfl rfl ?_
  refine T.y (fun w hw => Yl.move rfl) rfl rfl ?_
  refine T.y (fun w hw => Yl.leq rfl rfl) rfl rfl ?_
  refine T.y (fun w hw => Yl.move rfl) rfl rfl ?_
  refine T.splitD 19 rfl (fun h19 => ?_) (fun h19 => ?_)
  ·skip
   refine T.off rfl rfl rfl ?_
   refine T.off rfl rfl rfl ?_
   refine T.off rfl rfl rfl ?_
   refine T.off rfl rfl rfl ?_
   refine T.off rfl rfl rfl ?_
   refine T.off rfl rfl rfl ?_
   refine T.y (fun w hw => Yl.pickT rfl rfl) rfl rfl ?_
   refine T.y (fun w hw => Yl.move rfl) rfl rfl ?_
   refine T.off rfl rfl rfl ?_
   refine T.off rfl rfl rfl ?_
   refine T.off rfl rfl rfl ?_
   refine T.off rfl rfl rfl ?_
   refine T.off rfl rfl rfl ?_
   refine T.off rfl rfl rfl ?_
   refine T.off rfl rfl rfl ?_
   refine T.y (fun w hw => Yl.pickT rfl rfl) rfl rfl ?_
   refine T.nil ?_
   refine J.sel (.cons 0 rfl (.cons 4 rfl (.cons 35 rfl .nil))) ?_
   refine X.then_ ?_
   refine T.condT rfl ?_
   refine T.seq ?_
   -- region 6 (txn.go:498)
   refine T.region ?_
   refine T.y (fun w hw => Yl.assign rfl) rfl rfl ?_
   refine T.nil ?_
   refine J.sel (.cons 2 rfl .nil) ?_
   refine X.then_ ?_
   refine T.ret ?_
   refine X.ret_then ?_
   refine X.ret_blk ?_
   refine X.ret_then ?_
   refine X.ret_then ?_
   refine X.ret_blk ?_
   refine X.ret_then ?_
   refine X.ret1 Try.results150 rfl (fun w hw => ?_)
   rw [ordB_no (fun h => by have := h i (by omega); obtain ⟨o1, o2, o3, o4⟩ := this; rw [timeAt_of htt] at o1 o2; rw [putsAt_of htt] at o3; first | omega | contradiction)]
   exact ⟨(), trivial, rfl, hw.f⟩
  ·skip
   refine T.y (fun w hw => Yl.move rfl) rfl rfl ?_
   refine T.y (fun w hw => Yl.move rfl) rfl rfl ?_
   refine T.y (fun w hw => (by first | exact Yl.iaV hw mM Try.underlying53 isz_58 rfl rfl rfl (by omega) | exact Yl.ia Try.underlying53 isz_58 rfl rfl rfl (by omega) sC)) rfl rfl ?_
   refine T.y (fun w hw => Yl.fae fa_58_0 rfl) rfl rfl ?_
   refine T.y (fun w hw => (by first | exact Yl.ldC hw na_3 rfl mM | exact Yl.ldI hw mM na_3 rfl (by omega) | exact Yl.ldR sC na_3 rfl (by assumption) | exact Yl.ldV hw na_3 rfl mM rfl)) rfl rfl ?_
   refine T.y (fun w hw => Yl.gtr rfl rfl) rfl rfl ?_
   refine T.y (fun w hw => Yl.pickF rfl rfl) rfl rfl ?_
   refine T.y (fun w hw => Yl.move rfl) rfl rfl ?_
   refine T.splitD 27 rfl (fun h27 => ?_) (fun h27 => ?_)
   ·skip
    refine T.off rfl rfl rfl ?_
    refine T.off rfl rfl rfl ?_
    refine T.off rfl rfl rfl ?_
    refine T.off rfl rfl rfl ?_
    refine T.off rfl rfl rfl ?_
    refine T.off rfl rfl rfl ?_
    refine T.off rfl rfl rfl ?_
    refine T.y (fun w hw => Yl.pickT rfl rfl) rfl rfl ?_
    refine T.nil ?_
    refine J.sel (.cons 0 rfl (.cons 4 rfl (.cons 35 rfl .nil))) ?_
    refine X.then_ ?_
    refine T.condT rfl ?_
    refine T.seq ?_
    -- region 6 (txn.go:498)
    refine T.region ?_
    refine T.y (fun w hw => Yl.assign rfl) rfl rfl ?_
    refine T.nil ?_
    refine J.sel (.cons 2 rfl .nil) ?_
    refine X.then_ ?_
    refine T.ret ?_
    refine X.ret_then ?_
    refine X.ret_blk ?_
    refine X.ret_then ?_
    refine X.ret_then ?_
    refine X.ret_blk ?_
    refine X.ret_then ?_
    refine X.ret1 Try.results150 rfl (fun w hw => ?_)
    rw [ordB_no (fun h => by have := h i (by omega); obtain ⟨o1, o2, o3, o4⟩ := this; rw [timeAt_of htt] at o1 o2; rw [putsAt_of htt] at o3; first | omega | contradiction)]
    exact ⟨(), trivial, rfl, hw.f⟩
   ·skip
    refine T.y (fun w hw => Yl.move rfl) rfl rfl ?_
    refine T.y (fun w hw => Yl.move rfl) rfl rfl ?_
    refine T.y (fun w hw => (by first | exact Yl.iaV hw mM Try.underlying53 isz_58 rfl rfl rfl (by omega) | exact Yl.ia Try.underlying53 isz_58 rfl rfl rfl (by omega) sC)) rfl rfl ?_
    refine T.y (fun w hw => Yl.fae fa_58_1 rfl) rfl rfl ?_
    refine T.y (fun w hw => (by first | exact Yl.ldC hw na_56 rfl mM | exact Yl.ldR sC na_56 rfl (by assumption) | exact Yl.ldV hw na_56 rfl mM rfl)) rfl rfl ?_
    refine T.y (fun w hw => Yl.len Try.underlying56 rfl) rfl rfl ?_
    refine T.y (fun w hw => Yl.eql rfl rfl) rfl rfl ?_
    refine T.y (fun w hw => Yl.pickF rfl rfl) rfl rfl ?_
    refine T.nil ?_
    refine J.sel (.cons 0 rfl (.cons 4 rfl (.cons 35 rfl .nil))) ?_
    refine X.then_ ?_
    refine T.condD rfl (fun h35 => ?_) (fun h35 => ?_)
    ·skip
     refine T.seq ?_
     -- region 6 (txn.go:498)
     refine T.region ?_
     refine T.y (fun w hw => Yl.assign rfl) rfl rfl ?_
     refine T.nil ?_
     refine J.sel (.cons 2 rfl .nil) ?_
     refine X.then_ ?_
     refine T.ret ?_
     refine X.ret_then ?_
     refine X.ret_blk ?_
     refine X.ret_then ?_
     refine X.ret_then ?_
     refine X.ret_blk ?_
     refine X.ret_then ?_
     refine X.ret1 Try.results150 rfl (fun w hw => ?_)
     rw [ordB_no (fun h => by have := h i (by omega); obtain ⟨o1, o2, o3, o4⟩ := this; rw [timeAt_of htt] at o1 o2; rw [putsAt_of htt] at o3; first | omega | contradiction)]
     exact ⟨(), trivial, rfl, hw.f⟩
    ·skip
     refine T.skip ?_
     refine X.then_ ?_
     refine T.seq ?_
     -- region 7 (txn.go:500)
     refine T.region ?_
     refine T.y (fun w hw => Yl.move rfl) rfl rfl ?_
     refine T.y (fun w hw => Yl.move rfl) rfl rfl ?_
     refine T.y (fun w hw => (by first | exact Yl.iaV hw mM Try.underlying53 isz_58 rfl rfl rfl (by omega) | exact Yl.ia Try.underlying53 isz_58 rfl rfl rfl (by omega) sC)) rfl rfl ?_
     refine T.y (fun w hw => Yl.fae fa_58_0 rfl) rfl rfl ?_
     refine T.y (fun w hw => (by first | exact Yl.ldC hw na_3 rfl mM | exact Yl.ldI hw mM na_3 rfl (by omega) | exact Yl.ldR sC na_3 rfl (by assumption) | exact Yl.ldV hw na_3 rfl mM rfl)) rfl rfl ?_
     refine T.y (fun w hw => Yl.assign rfl) rfl rfl ?_
     refine T.nil ?_
     refine J.sel (.cons 0 rfl (.cons 3 rfl (.cons 4 rfl .nil))) ?_
     refine X.then_ ?_
     refine T.seq ?_
     -- region 8 (txn.go:501)
     refine T.region ?_
     refine T.y (fun w hw => Yl.assign rfl) rfl rfl ?_
     refine T.nil ?_
     refine J.fact (fun w hw => hw.view_max9 (xs := t.puts) (A := At) (c := ct) (sz := 2) (el := putE) mM) ?_
     intro hmp
     refine X.then_ ?_
     refine T.block ?_
     refine T.loop (α := Nat) (fun k => 1 ≤ k ∧ k ≤ t.puts.length ∧ ∀ j, j + 1 < k → lbaAt t.puts j < lbaAt t.puts (j + 1)) (fun k => [(5, .int .i64 (k : Int)), (0, .slice A ts.length c), (3, .int .i64 t.time), (4, .int .i64 (i : Int))]) (fun k => M) (fun k => cellsK A (i * 2) [.int .i64 t.time, .slice At t.puts.length ct] :: viewK 2 putE At ct t.puts :: K) (fun k => t.puts.length - k) 1 ⟨Nat.le_refl _, by omega, fun j hj => by omega⟩ (.num 5 rfl rfl (.cons 0 rfl (.cons 3 rfl (.cons 4 rfl .nil)))) (fun w hw => hw.f) ?_
     intro k hk Zk hz2
     obtain ⟨hk1, hk2, hrs⟩ := hk
     refine T.seq ?_
     refine T.seq ?_
     -- region 9 (txn.go:501)
     refine T.region ?_
     refine T.y (fun w hw => Yl.move rfl) rfl rfl ?_
     refine T.y (fun w hw => Yl.move rfl) rfl rfl ?_
     refine T.y (fun w hw => Yl.move rfl) rfl rfl ?_
     refine T.y (fun w hw => (by first | exact Yl.iaV hw mM Try.underlying53 isz_58 rfl rfl rfl (by omega) | exact Yl.ia Try.underlying53 isz_58 rfl rfl rfl (by omega) sC)) rfl rfl ?_
     refine T.y (fun w hw => Yl.fae fa_58_1 rfl) rfl rfl ?_
     refine T.y (fun w hw => (by first | exact Yl.ldC hw na_56 rfl mM | exact Yl.ldR sC na_56 rfl (by assumption) | exact Yl.ldV hw na_56 rfl mM rfl)) rfl rfl ?_
     refine T.y (fun w hw => Yl.len Try.underlying56 rfl) rfl rfl ?_
     refine T.y (fun w hw => Yl.lss rfl rfl) rfl rfl ?_
     refine T.nil ?_
     refine J.sel (.cons 0 rfl (.cons 3 rfl (.cons 4 rfl (.cons 5 rfl (.cons 48 rfl .nil))))) ?_
     refine X.then_ ?_
     refine T.condD rfl (fun h48 => ?_) (fun h48 => ?_)
     ·skip
      refine T.skip ?_
      refine X.then_ ?_
      refine T.seq ?_
      refine T.block ?_
      refine T.seq ?_
      obtain ⟨p, htp⟩ : ∃ p, t.puts[k]? = some p := ⟨_, List.getElem?_eq_getElem (by omega)⟩
      refine J.open_ (fun w hw => hw.put_at mM htp) ?_
      rintro ⟨Ap, cp⟩ -
      dsimp only
      obtain ⟨q, htq⟩ : ∃ q, t.puts[(k - 1)]? = some q := ⟨_, List.getElem?_eq_getElem (by omega)⟩
      refine J.open_ (fun w hw => hw.put_at mM htq) ?_
      rintro ⟨Aq, cq⟩ -
      dsimp only
      -- region 11 (txn.go:502)
      refine Dr.start0 [] ?_
      refine Dr.take 0 rfl (by kernel_rfl) bL sS (fun w hs => have hw := hs.h; Yl.move rfl) rfl rfl ?_
      refine Dr.take 1 rfl (by kernel_rfl) bL sS (fun w hs => have hw := hs.h; Yl.move rfl) rfl rfl ?_
      refine Dr.take 2 rfl (by kernel_rfl) bL sS (fun w hs => have hw := hs.h; (by first | exact Yl.iaV hw mM Try.underlying53 isz_58 rfl rfl rfl (by omega) | exact Yl.ia Try.underlying53 isz_58 rfl rfl rfl (by omega) sC)) rfl rfl ?_
      refine Dr.take 3 rfl (by kernel_rfl) bL sS (fun w hs => have hw := hs.h; Yl.fae fa_58_1 rfl) rfl rfl ?_
      refine Dr.take 4 rfl (by kernel_rfl) bL sS (fun w hs => have hw := hs.h; (by first | exact Yl.ldC hw na_56 rfl mM | exact Yl.ldR sC na_56 rfl (by assumption) | exact Yl.ldV hw na_56 rfl mM rfl)) rfl rfl ?_
      refine Dr.take 5 rfl (by kernel_rfl) bL sS (fun w hs => have hw := hs.h; Yl.move rfl) rfl rfl ?_
      refine Dr.take 6 rfl (by kernel_rfl) bL sS (fun w hs => have hw := hs.h; (by first | exact Yl.iaV hw mM Try.underlying56 isz_61 rfl rfl rfl (by omega) | exact Yl.ia Try.underlying56 isz_61 rfl rfl rfl (by omega) sC)) rfl rfl ?_
      refine Dr.take 7 rfl (by kernel_rfl) bL sS (fun w hs => have hw := hs.h; Yl.fae fa_61_0 rfl) rfl rfl ?_
      refine Dr.take 8 rfl (by kernel_rfl) bL sS (fun w hs => have hw := hs.h; (by first | exact Yl.ldC hw na_3 rfl mM | exact Yl.ldI hw mM na_3 rfl (by omega) | exact Yl.ldR sC na_3 rfl (by assumption) | exact Yl.ldV hw na_3 rfl mM rfl)) rfl rfl ?_
      refine Dr.take 9 rfl (by kernel_rfl) bL sS (fun w hs => have hw := hs.h; Yl.move rfl) rfl rfl ?_
      refine Dr.take 10 rfl (by kernel_rfl) bL sS (fun w hs => have hw := hs.h; Yl.move rfl) rfl rfl ?_
      refine Dr.take 11 rfl (by kernel_rfl) bL sS (fun w hs => have hw := hs.h; (by first | exact Yl.iaV hw mM Try.underlying53 isz_58 rfl rfl rfl (by omega) | exact Yl.ia Try.underlying53 isz_58 rfl rfl rfl (by omega) sC)) rfl rfl ?_
      refine Dr.take 12 rfl (by kernel_rfl) bL sS (fun w hs => have hw := hs.h; Yl.fae fa_58_1 rfl) rfl rfl ?_
      refine Dr.take 13 rfl (by kernel_rfl) bL sS (fun w hs => have hw := hs.h; (by first | exact Yl.ldC hw na_56 rfl mM | exact Yl.ldR sC na_56 rfl (by assumption) | exact Yl.ldV hw na_56 rfl mM rfl)) rfl rfl ?_
      refine Dr.take 14 rfl (by kernel_rfl) bL sS (fun w hs => have hw := hs.h; Yl.move rfl) rfl rfl ?_
      refine Dr.take 15 rfl (by kernel_rfl) bL sS (fun w hs => have hw := hs.h; Yl.sub rfl rfl (by omega)) rfl rfl ?_
      refine Dr.take 16 rfl (by kernel_rfl) bL sS (fun w hs => have hw := hs.h; (by first | exact Yl.iaV (i := k - 1) hw mM Try.underlying56 isz_61 rfl rfl (by omega) (by omega) | exact Yl.ia (i := k - 1) Try.underlying56 isz_61 rfl rfl (by omega) (by omega) sC)) rfl rfl ?_
      refine Dr.take 17 rfl (by kernel_rfl) bL sS (fun w hs => have hw := hs.h; Yl.fae fa_61_0 rfl) rfl rfl ?_
      refine Dr.take 18 rfl (by kernel_rfl) bL sS (fun w hs => have hw := hs.h; (by first | exact Yl.ldC hw na_3 rfl mM | exact Yl.ldI hw mM na_3 rfl (by omega) | exact Yl.ldR sC na_3 rfl (by assumption) | exact Yl.ldV hw na_3 rfl mM rfl)) rfl rfl ?_
      refine Dr.take 19 rfl (by kernel_rfl) bL sS (fun w hs => have hw := hs.h; Yl.leq rfl rfl) rfl rfl ?_
      refine Dr.done (by kernel_rfl) ?_
      refine J.sel (.cons 0 rfl (.cons 3 rfl (.cons 4 rfl (.cons 5 rfl (.cons 70 rfl .nil))))) ?_
      refine X.then_ ?_
      refine T.condD rfl (fun h70 => ?_) (fun h70 => ?_)
      ·skip
       refine T.seq ?_
       -- region 12 (txn.go:503)
       refine T.region ?_
       refine T.y (fun w hw => Yl.assign rfl) rfl rfl ?_
       refine T.nil ?_
       refine J.sel (.cons 2 rfl .nil) ?_
       refine X.then_ ?_
       refine T.ret ?_
       refine X.ret_blk ?_
       refine X.ret_then ?_
       refine X.ret_then ?_
       refine X.ret_blk ?_
       refine X.ret_blk ?_
       refine X.ret_then ?_
       refine X.ret_then ?_
       refine X.ret_blk ?_
       refine X.ret_then ?_
       refine X.ret1 Try.results150 rfl (fun w hw => ?_)
       rw [ordB_no (fun h => by have := (h i (by omega)).2.2.2; rw [putsAt_of htt] at this; have := this (k - 1) (by omega); rw [show k - 1 + 1 = k by omega, lbaAt_of htp, lbaAt_of htq] at this; omega)]
       exact ⟨(), trivial, rfl, hw.f⟩
      ·skip
       refine T.skip ?_
       refine X.nm_blk ?_
       refine X.then_ ?_
       -- region 10 (txn.go:501)
       refine T.region ?_
       refine T.y (fun w hw => Yl.move rfl) rfl rfl ?_
       refine T.y (fun w hw => Yl.add rfl rfl (by omega)) rfl rfl ?_
       refine T.y (fun w hw => Yl.assign rfl) rfl rfl ?_
       refine T.nil ?_
       refine J.sel (.cons 0 rfl (.cons 3 rfl (.cons 4 rfl (.cons 5 rfl .nil)))) ?_
       refine X.go (hz2 (k + 1) ⟨by omega, by omega, fun j hj => ?_⟩ (by omega)) (.num 5 rfl (by omega) (.cons 0 rfl (.cons 3 rfl (.cons 4 rfl .nil)))) (fun w hw => ?_)
       · rcases Nat.lt_succ_iff_lt_or_eq.1 hj with hj | hj
         · exact hrs j (by omega)
         · have hj : j = k - 1 := by omega
           subst hj
           rw [show k - 1 + 1 = k by omega, lbaAt_of htp, lbaAt_of htq]; omega
       · exact hw.f
     ·skip
      refine T.exit ?_
      refine X.exit_then ?_
      refine X.exit_then ?_
      refine X.exit_blk ?_
      refine X.nm_blk ?_
      refine X.then_ ?_
      -- region 4 (txn.go:496)
      refine T.region ?_
      refine T.y (fun w hw => Yl.move rfl) rfl rfl ?_
      refine T.y (fun w hw => Yl.add rfl rfl (by omega)) rfl rfl ?_
      refine T.y (fun w hw => Yl.assign rfl) rfl rfl ?_
      refine T.nil ?_
      refine J.sel (.cons 0 rfl (.cons 3 rfl (.cons 4 rfl .nil))) ?_
      have hri : rises t.puts := fun j hj => hrs j (by omega)
      refine X.go (hzo (i + 1) ⟨by omega, fun j hj => ?_⟩ (by omega)) (.num 3 rfl (prev_succ htt).symm (.num 4 rfl (by omega) (.cons 0 rfl .nil))) (fun w hw => ?_)
      · rcases Nat.lt_succ_iff_lt_or_eq.1 hj with hj | rfl
        · exact hall j hj
        · exact ⟨by rw [timeAt_of htt]; omega, by rw [timeAt_of htt]; omega, by rw [putsAt_of htt]; omega, by rw [putsAt_of htt]; exact hri⟩
      · exact hw.f
 ·skip
  refine T.exit ?_
  refine X.exit_then ?_
  refine X.exit_then ?_
  refine X.exit_blk ?_
  refine X.then_ ?_
  refine T.seq ?_
  -- region 13 (txn.go:507)
  refine T.region ?_
  refine T.y (fun w hw => Yl.assign rfl) rfl rfl ?_
  refine T.nil ?_
  refine J.sel (.cons 2 rfl .nil) ?_
  refine X.then_ ?_
  refine T.ret ?_
  refine X.ret1 Try.results150 rfl (fun w hw => ?_)
  rw [ordB_yes (fun j hj => hall j (by omega))]
  exact ⟨(), trivial, rfl, hw.f⟩

set_option maxHeartbeats 4000000 in
theorem check6_ct {M : List HP} {K : List KP} {A : Option Addr} {c : Nat} {b : BatL} (hb : viewK 2 txE A c b.txs ∈ K) : Fn 145 [.agg [.int .i64 b.num, .slice A b.txs.length c].toArray] M K (fun _ : Unit => True) (fun _ => .int .i64 b.chk) (fun _ => M) (fun _ => K) := by
 refine Fn.of (n := 106) Try.func145 rfl Try.ntmps145 rfl ?_
 refine T.seq ?_
 -- region 0 (txn.go:525)
 refine T.region ?_
 refine T.o (OpW.box rfl) rfl rfl (fun b1 _ => ?_)
 refine T.y (fun w hw => Yl.assign rfl) rfl rfl ?_
 refine T.nil ?_
 refine J.sel (.cons 1 rfl .nil) ?_
 refine X.then_ ?_
 refine T.seq ?_
 refine T.seq ?_
 -- region 1 (txn.go:526)
 refine T.region ?_
 refine T.y (fun w hw => Yl.fa fa_55_0 rfl) rfl rfl ?_
 refine T.y (fun w hw => Yl.ldP hw na_3 rfl mM rfl) rfl rfl ?_
 refine T.y (fun w hw => Yl.lss rfl rfl) rfl rfl ?_
 refine T.y (fun w hw => Yl.move rfl) rfl rfl ?_
 refine T.splitD 10 rfl (fun h10 => ?_) (fun h10 => ?_)
 ·skip
  refine T.off rfl rfl rfl ?_
  refine T.off rfl rfl rfl ?_
  refine T.off rfl rfl rfl ?_
  refine T.y (fun w hw => Yl.pickT rfl rfl) rfl rfl ?_
  refine T.y (fun w hw => Yl.move rfl) rfl rfl ?_
  refine T.off rfl rfl rfl ?_
  refine T.off rfl rfl rfl ?_
  refine T.off rfl rfl rfl ?_
  refine T.off rfl rfl rfl ?_
  refine T.y (fun w hw => Yl.pickT rfl rfl) rfl rfl ?_
  refine T.y (fun w hw => Yl.move rfl) rfl rfl ?_
  refine T.off rfl rfl rfl ?_
  refine T.off rfl rfl rfl ?_
  refine T.off rfl rfl rfl ?_
  refine T.off rfl rfl rfl ?_
  refine T.y (fun w hw => Yl.pickT rfl rfl) rfl rfl ?_
  refine T.y (fun w hw => Yl.move rfl) rfl rfl ?_
  refine T.off rfl rfl rfl ?_
  refine T.off rfl rfl rfl ?_
  refine T.off rfl rfl rfl ?_
  refine T.off rfl rfl rfl ?_
  refine T.y (fun w hw => Yl.pickT rfl rfl) rfl rfl ?_
  refine T.nil ?_
  refine J.sel (.cons 1 rfl (.cons 32 rfl .nil)) ?_
  refine X.then_ ?_
  refine T.condT rfl ?_
  refine T.seq ?_
  -- region 2 (txn.go:527)
  refine T.region ?_
  refine T.y (fun w hw => Yl.assign rfl) rfl rfl ?_
  refine T.nil ?_
  refine J.sel (.cons 2 rfl .nil) ?_
  refine X.then_ ?_
  refine T.ret ?_
  refine X.ret_then ?_
  refine X.ret1 Try.results145 rfl (fun w hw => ?_)
  rw [chk_no (fun h => by
    obtain ⟨⟨m1, m2, m3, m4, m5, m6⟩, m7⟩ := h
    first
      | omega
      | (rw [ordB_yes m5] at h32; cases h32; done))]
  exact ⟨(), trivial, rfl, hw.f⟩
 ·skip
  refine T.y (fun w hw => Yl.fa fa_55_0 rfl) rfl rfl ?_
  refine T.y (fun w hw => Yl.ldP hw na_3 rfl mM rfl) rfl rfl ?_
  refine T.y (fun w hw => Yl.gtr rfl rfl) rfl rfl ?_
  refine T.y (fun w hw => Yl.pickF rfl rfl) rfl rfl ?_
  refine T.y (fun w hw => Yl.move rfl) rfl rfl ?_
  refine T.splitD 15 rfl (fun h15 => ?_) (fun h15 => ?_)
  ·skip
   refine T.off rfl rfl rfl ?_
   refine T.off rfl rfl rfl ?_
   refine T.off rfl rfl rfl ?_
   refine T.off rfl rfl rfl ?_
   refine T.y (fun w hw => Yl.pickT rfl rfl) rfl rfl ?_
   refine T.y (fun w hw => Yl.move rfl) rfl rfl ?_
   refine T.off rfl rfl rfl ?_
   refine T.off rfl rfl rfl ?_
   refine T.off rfl rfl rfl ?_
   refine T.off rfl rfl rfl ?_
   refine T.y (fun w hw => Yl.pickT rfl rfl) rfl rfl ?_
   refine T.y (fun w hw => Yl.move rfl) rfl rfl ?_
   refine T.off rfl rfl rfl ?_
   refine T.off rfl rfl rfl ?_
   refine T.off rfl rfl rfl ?_
   refine T.off rfl rfl rfl ?_
   refine T.y (fun w hw => Yl.pickT rfl rfl) rfl rfl ?_
   refine T.nil ?_
   refine J.sel (.cons 1 rfl (.cons 32 rfl .nil)) ?_
   refine X.then_ ?_
   refine T.condT rfl ?_
   refine T.seq ?_
   -- region 2 (txn.go:527)
   refine T.region ?_
   refine T.y (fun w hw => Yl.assign rfl) rfl rfl ?_
   refine T.nil ?_
   refine J.sel (.cons 2 rfl .nil) ?_
   refine X.then_ ?_
   refine T.ret ?_
   refine X.ret_then ?_
   refine X.ret1 Try.results145 rfl (fun w hw => ?_)
   rw [chk_no (fun h => by
     obtain ⟨⟨m1, m2, m3, m4, m5, m6⟩, m7⟩ := h
     first
       | omega
       | (rw [ordB_yes m5] at h32; cases h32; done))]
   exact ⟨(), trivial, rfl, hw.f⟩
  ·skip
   refine T.y (fun w hw => Yl.fa fa_55_1 rfl) rfl rfl ?_
   refine T.y (fun w hw => Yl.ldP hw na_53 rfl mM rfl) rfl rfl ?_
   refine T.y (fun w hw => Yl.len Try.underlying53 rfl) rfl rfl ?_
   refine T.y (fun w hw => Yl.eql rfl rfl) rfl rfl ?_
   refine T.y (fun w hw => Yl.pickF rfl rfl) rfl rfl ?_
   refine T.y (fun w hw => Yl.move rfl) rfl rfl ?_
   refine T.splitD 21 rfl (fun h21 => ?_) (fun h21 => ?_)
   ·skip
    refine T.off rfl rfl rfl ?_
    refine T.off rfl rfl rfl ?_
    refine T.off rfl rfl rfl ?_
    refine T.off rfl rfl rfl ?_
    refine T.y (fun w hw => Yl.pickT rfl rfl) rfl rfl ?_
    refine T.y (fun w hw => Yl.move rfl) rfl rfl ?_
    refine T.off rfl rfl rfl ?_
    refine T.off rfl rfl rfl ?_
    refine T.off rfl rfl rfl ?_
    refine T.off rfl rfl rfl ?_
    refine T.y (fun w hw => Yl.pickT rfl rfl) rfl rfl ?_
    refine T.nil ?_
    refine J.sel (.cons 1 rfl (.cons 32 rfl .nil)) ?_
    refine X.then_ ?_
    refine T.condT rfl ?_
    refine T.seq ?_
    -- region 2 (txn.go:527)
    refine T.region ?_
    refine T.y (fun w hw => Yl.assign rfl) rfl rfl ?_
    refine T.nil ?_
    refine J.sel (.cons 2 rfl .nil) ?_
    refine X.then_ ?_
    refine T.ret ?_
    refine X.ret_then ?_
    refine X.ret1 Try.results145 rfl (fun w hw => ?_)
    rw [chk_no (fun h => by
      obtain ⟨⟨m1, m2, m3, m4, m5, m6⟩, m7⟩ := h
      first
        | omega
        | (rw [ordB_yes m5] at h32; cases h32; done))]
    exact ⟨(), trivial, rfl, hw.f⟩
   ·skip
    refine T.y (fun w hw => Yl.fa fa_55_1 rfl) rfl rfl ?_
    refine T.y (fun w hw => Yl.ldP hw na_53 rfl mM rfl) rfl rfl ?_
    refine T.y (fun w hw => Yl.len Try.underlying53 rfl) rfl rfl ?_
    refine T.y (fun w hw => Yl.gtr rfl rfl) rfl rfl ?_
    refine T.y (fun w hw => Yl.pickF rfl rfl) rfl rfl ?_
    refine T.y (fun w hw => Yl.move rfl) rfl rfl ?_
    refine T.splitD 27 rfl (fun h27 => ?_) (fun h27 => ?_)
    ·skip
     refine T.off rfl rfl rfl ?_
     refine T.off rfl rfl rfl ?_
     refine T.off rfl rfl rfl ?_
     refine T.off rfl rfl rfl ?_
     refine T.y (fun w hw => Yl.pickT rfl rfl) rfl rfl ?_
     refine T.nil ?_
     refine J.sel (.cons 1 rfl (.cons 32 rfl .nil)) ?_
     refine X.then_ ?_
     refine T.condT rfl ?_
     refine T.seq ?_
     -- region 2 (txn.go:527)
     refine T.region ?_
     refine T.y (fun w hw => Yl.assign rfl) rfl rfl ?_
     refine T.nil ?_
     refine J.sel (.cons 2 rfl .nil) ?_
     refine X.then_ ?_
     refine T.ret ?_
     refine X.ret_then ?_
     refine X.ret1 Try.results145 rfl (fun w hw => ?_)
     rw [chk_no (fun h => by
       obtain ⟨⟨m1, m2, m3, m4, m5, m6⟩, m7⟩ := h
       first
         | omega
         | (rw [ordB_yes m5] at h32; cases h32; done))]
     exact ⟨(), trivial, rfl, hw.f⟩
    ·skip
     refine T.y (fun w hw => Yl.fa fa_55_1 rfl) rfl rfl ?_
     refine T.y (fun w hw => Yl.ldP hw na_53 rfl mM rfl) rfl rfl ?_
     refine T.o (OpW.call en_150 rfl (order6_ct mM)) rfl rfl (fun x hx => ?_)
     refine T.y (fun w hw => Yl.not rfl) rfl rfl ?_
     refine T.y (fun w hw => Yl.pickF rfl rfl) rfl rfl ?_
     refine T.nil ?_
     refine J.sel (.cons 1 rfl (.cons 32 rfl .nil)) ?_
     refine X.then_ ?_
     refine T.cond rfl (fun h32 => ?_) (fun h32 => ?_)
     ·skip
      refine T.seq ?_
      -- region 2 (txn.go:527)
      refine T.region ?_
      refine T.y (fun w hw => Yl.assign rfl) rfl rfl ?_
      refine T.nil ?_
      refine J.sel (.cons 2 rfl .nil) ?_
      refine X.then_ ?_
      refine T.ret ?_
      refine X.ret_then ?_
      refine X.ret1 Try.results145 rfl (fun w hw => ?_)
      rw [chk_no (fun h => by
        obtain ⟨⟨m1, m2, m3, m4, m5, m6⟩, m7⟩ := h
        first
          | omega
          | (rw [ordB_yes m5] at h32; cases h32; done))]
      exact ⟨(), trivial, rfl, hw.f⟩
     ·skip
      refine T.skip ?_
      refine X.then_ ?_
      refine T.seq ?_
      have hord : ordered b.txs := ordB_iff.1 (by simpa using h32)
      have htm := ordered_time hord
      -- region 3 (txn.go:529)
      refine T.region ?_
      refine T.y (fun w hw => Yl.assign rfl) rfl rfl ?_
      refine T.nil ?_
      refine J.sel (.cons 1 rfl (.cons 3 rfl .nil)) ?_
      refine X.then_ ?_
      refine T.seq ?_
      refine T.seq ?_
      -- region 4 (txn.go:530)
      refine T.region ?_
      refine T.y (fun w hw => Yl.assign rfl) rfl rfl ?_
      refine T.nil ?_
      refine X.then_ ?_
      refine T.block ?_
      refine T.loop (α := Nat) (fun i => i ≤ b.txs.length ∧ sumP (b.txs.take i) ≤ i * 16 ∧ ∀ j, j < i → stepOk b.txs j) (fun i => [(3, .int .i64 ((sumP (b.txs.take i) : Nat) : Int)), (4, .int .i64 (i : Int)), (1, ptr b1 0)]) (fun i => pt b1 55 [.int .i64 b.num, .slice A b.txs.length c] :: M) (fun i => K) (fun i => b.txs.length - i) 0 ⟨Nat.zero_le _, Nat.zero_le _, fun j hj => by omega⟩ (.num 3 rfl rfl (.num 4 rfl rfl (.cons 1 rfl .nil))) (fun w hw => hw.f) ?_
      intro i hi Zk hzo
      obtain ⟨hi, hsl, hall⟩ := hi
      refine T.seq ?_
      refine T.seq ?_
      -- region 5 (txn.go:530)
      refine T.region ?_
      refine T.y (fun w hw => Yl.move rfl) rfl rfl ?_
      refine T.y (fun w hw => Yl.fa fa_55_1 rfl) rfl rfl ?_
      refine T.y (fun w hw => Yl.ldP hw na_53 rfl mM rfl) rfl rfl ?_
      refine T.y (fun w hw => Yl.len Try.underlying53 rfl) rfl rfl ?_
      refine T.y (fun w hw => Yl.lss rfl rfl) rfl rfl ?_
      refine T.nil ?_
      refine J.sel (.cons 1 rfl (.cons 3 rfl (.cons 4 rfl (.cons 37 rfl .nil)))) ?_
      refine X.then_ ?_
      refine T.condD rfl (fun h37 => ?_) (fun h37 => ?_)
      ·skip
       refine T.skip ?_
       refine X.then_ ?_
       refine T.seq ?_
       refine T.block ?_
       refine T.seq ?_
       obtain ⟨t, htt⟩ : ∃ t, b.txs[i]? = some t := ⟨_, List.getElem?_eq_getElem (by omega)⟩
       refine J.open_ (fun w hw => hw.tx_at mM htt) ?_
       rintro ⟨At, ct⟩ -
       dsimp only
       obtain ⟨q, htq⟩ : ∃ q, b.txs[(i - 1)]? = some q := ⟨_, List.getElem?_eq_getElem (by omega)⟩
       refine J.open_ (fun w hw => hw.tx_at mM htq) ?_
       rintro ⟨Aq, cq⟩ -
       dsimp only
       have tb1 := htm i (by omega)
       rw [timeAt_of htt] at tb1
       have tb2 := htm (i - 1) (by omega)
       rw [timeAt_of htq] at tb2
       -- region 7 (txn.go:531)
       refine T.region ?_
       refine T.y (fun w hw => Yl.fa fa_55_1 rfl) rfl rfl ?_
       refine T.y (fun w hw => Yl.ldP hw na_53 rfl mM rfl) rfl rfl ?_
       refine T.y (fun w hw => Yl.move rfl) rfl rfl ?_
       refine T.y (fun w hw => (by first | exact Yl.iaV hw mM Try.underlying53 isz_58 rfl rfl rfl (by omega) | exact Yl.ia Try.underlying53 isz_58 rfl rfl rfl (by omega) sC)) rfl rfl ?_
       refine T.y (fun w hw => (by first | exact Yl.ldaV hw ag_58 rfl mM rfl | exact Yl.ldaR sC ag_58 rfl sU)) rfl rfl ?_
       refine T.o (OpW.alloc zr_58) rfl rfl (fun b5 _ => ?_)
       refine T.o0 (OpW.stA sz_58 rfl rfl rfl rfl sW uL) rfl (fun _ _ => ?_)
       refine T.nil ?_
       refine J.sel (.cons 1 rfl (.cons 3 rfl (.cons 4 rfl (.cons 5 rfl .nil)))) ?_
       refine X.then_ ?_
       refine T.seq ?_
       refine T.seq ?_
       -- region 8 (txn.go:532)
       refine Dr.start0 [] ?_
       refine Dr.take 0 rfl (by kernel_rfl) bL sS (fun w hs => have hw := hs.h; Yl.move rfl) rfl rfl ?_
       refine Dr.take 1 rfl (by kernel_rfl) bL sS (fun w hs => have hw := hs.h; Yl.gtr rfl rfl) rfl rfl ?_
       refine Dr.take 2 rfl (by kernel_rfl) bL sS (fun w hs => have hw := hs.h; Yl.move rfl) rfl rfl ?_
       refine T.splitD 47 rfl (fun h47 => ?_) (fun h47 => ?_)
       ·skip
        refine Dr.take 3 rfl (by kernel_rfl) bL sS (fun w hs => have hw := hs.h; Yl.fa fa_58_0 rfl) rfl rfl ?_
        refine Dr.take 4 rfl (by kernel_rfl) bL sS (fun w hs => have hw := hs.h; Yl.ldP hw na_3 rfl mM rfl) rfl rfl ?_
        refine Dr.take 5 rfl (by kernel_rfl) bL sS (fun w hs => have hw := hs.h; Yl.fa fa_55_1 rfl) rfl rfl ?_
        refine Dr.take 6 rfl (by kernel_rfl) bL sS (fun w hs => have hw := hs.h; Yl.ldP hw na_53 rfl mM rfl) rfl rfl ?_
        refine Dr.take 7 rfl (by kernel_rfl) bL sS (fun w hs => have hw := hs.h; Yl.move rfl) rfl rfl ?_
        refine Dr.take 8 rfl (by kernel_rfl) bL sS (fun w hs => have hw := hs.h; Yl.sub rfl rfl (by omega)) rfl rfl ?_
        refine Dr.take 9 rfl (by kernel_rfl) bL sS (fun w hs => have hw := hs.h; (by first | exact Yl.iaV (i := i - 1) hw mM Try.underlying53 isz_58 rfl rfl (by omega) (by omega) | exact Yl.ia (i := i - 1) Try.underlying53 isz_58 rfl rfl (by omega) (by omega) sC)) rfl rfl ?_
        refine Dr.take 10 rfl (by kernel_rfl) bL sS (fun w hs => have hw := hs.h; Yl.fae fa_58_0 rfl) rfl rfl ?_
        refine Dr.take 11 rfl (by kernel_rfl) bL sS (fun w hs => have hw := hs.h; (by first | exact Yl.ldC hw na_3 rfl mM | exact Yl.ldI hw mM na_3 rfl (by omega) | exact Yl.ldR sC na_3 rfl (by assumption) | exact Yl.ldV hw na_3 rfl mM rfl)) rfl rfl ?_
        refine Dr.take 12 rfl (by kernel_rfl) bL sS (fun w hs => have hw := hs.h; Yl.sub rfl rfl (by omega)) rfl rfl ?_
        refine Dr.take 13 rfl (by kernel_rfl) bL sS (fun w hs => have hw := hs.h; Yl.gtr rfl rfl) rfl rfl ?_
        refine Dr.take 14 rfl (by kernel_rfl) bL sS (fun w hs => have hw := hs.h; Yl.pickT rfl rfl) rfl rfl ?_
        refine Dr.take 15 rfl (by kernel_rfl) bL sS (fun w hs => have hw := hs.h; Yl.move rfl) rfl rfl ?_
        refine T.splitD 60 rfl (fun h60 => ?_) (fun h60 => ?_)
        ·skip
         refine Dr.off 16 rfl (by kernel_rfl) bL sS rfl rfl ?_
         refine Dr.off 17 rfl (by kernel_rfl) bL sS rfl rfl ?_
         refine Dr.off 18 rfl (by kernel_rfl) bL sS rfl rfl ?_
         refine Dr.off 19 rfl (by kernel_rfl) bL sS rfl rfl ?_
         refine Dr.take 20 rfl (by kernel_rfl) bL sS (fun w hs => have hw := hs.h; Yl.pickT rfl rfl) rfl rfl ?_
         refine Dr.done (by kernel_rfl) ?_
         refine J.sel (.cons 1 rfl (.cons 3 rfl (.cons 4 rfl (.cons 5 rfl (.cons 65 rfl .nil))))) ?_
         refine X.then_ ?_
         refine T.condT rfl ?_
         refine T.seq ?_
         -- region 9 (txn.go:533)
         refine T.region ?_
         refine T.y (fun w hw => Yl.assign rfl) rfl rfl ?_
         refine T.nil ?_
         refine J.sel (.cons 2 rfl .nil) ?_
         refine X.then_ ?_
         refine T.ret ?_
         refine X.ret_then ?_
         refine X.ret_blk ?_
         refine X.ret_then ?_
         refine X.ret_then ?_
         refine X.ret_blk ?_
         refine X.ret_then ?_
         refine X.ret1 Try.results145 rfl (fun w hw => ?_)
         rw [chk_no (fun h => by
           obtain ⟨h1, h2, h3⟩ := h.2 i (by omega)
           rw [putsAt_of htt] at h2 h3
           rw [timeAt_of htt, timeAt_of htq] at h1
           first
             | omega
             | (have := h1 (by omega); omega))]
         exact ⟨(), trivial, rfl, hw.f⟩
        ·skip
         refine Dr.take 16 rfl (by kernel_rfl) bL sS (fun w hs => have hw := hs.h; Yl.fa fa_58_1 rfl) rfl rfl ?_
         refine Dr.take 17 rfl (by kernel_rfl) bL sS (fun w hs => have hw := hs.h; Yl.ldP hw na_56 rfl mM rfl) rfl rfl ?_
         refine Dr.take 18 rfl (by kernel_rfl) bL sS (fun w hs => have hw := hs.h; Yl.len Try.underlying56 rfl) rfl rfl ?_
         refine Dr.take 19 rfl (by kernel_rfl) bL sS (fun w hs => have hw := hs.h; Yl.gtr rfl rfl) rfl rfl ?_
         refine Dr.take 20 rfl (by kernel_rfl) bL sS (fun w hs => have hw := hs.h; Yl.pickF rfl rfl) rfl rfl ?_
         refine Dr.done (by kernel_rfl) ?_
         refine J.sel (.cons 1 rfl (.cons 3 rfl (.cons 4 rfl (.cons 5 rfl (.cons 65 rfl .nil))))) ?_
         refine X.then_ ?_
         refine T.condD rfl (fun h65 => ?_) (fun h65 => ?_)
         ·skip
          refine T.seq ?_
          -- region 9 (txn.go:533)
          refine T.region ?_
          refine T.y (fun w hw => Yl.assign rfl) rfl rfl ?_
          refine T.nil ?_
          refine J.sel (.cons 2 rfl .nil) ?_
          refine X.then_ ?_
          refine T.ret ?_
          refine X.ret_then ?_
          refine X.ret_blk ?_
          refine X.ret_then ?_
          refine X.ret_then ?_
          refine X.ret_blk ?_
          refine X.ret_then ?_
          refine X.ret1 Try.results145 rfl (fun w hw => ?_)
          rw [chk_no (fun h => by
            obtain ⟨h1, h2, h3⟩ := h.2 i (by omega)
            rw [putsAt_of htt] at h2 h3
            rw [timeAt_of htt, timeAt_of htq] at h1
            first
              | omega
              | (have := h1 (by omega); omega))]
          exact ⟨(), trivial, rfl, hw.f⟩
         ·skip
          refine T.skip ?_
          refine X.then_ ?_
          refine T.seq ?_
          -- region 10 (txn.go:535)
          refine T.region ?_
          refine T.y (fun w hw => Yl.move rfl) rfl rfl ?_
          refine T.y (fun w hw => Yl.fa fa_58_1 rfl) rfl rfl ?_
          refine T.y (fun w hw => Yl.ldP hw na_56 rfl mM rfl) rfl rfl ?_
          refine T.y (fun w hw => Yl.len Try.underlying56 rfl) rfl rfl ?_
          refine T.y (fun w hw => Yl.add rfl rfl (by omega)) rfl rfl ?_
          refine T.y (fun w hw => Yl.assign rfl) rfl rfl ?_
          refine T.nil ?_
          refine J.sel (.cons 1 rfl (.cons 3 rfl (.cons 4 rfl (.cons 5 rfl .nil)))) ?_
          refine X.then_ ?_
          refine T.seq ?_
          -- region 11 (txn.go:536)
          refine T.region ?_
          refine T.y (fun w hw => Yl.assign rfl) rfl rfl ?_
          refine T.nil ?_
          refine X.then_ ?_
          refine T.block ?_
          refine T.loop (α := Nat) (fun k => k ≤ t.puts.length ∧ ∀ y p, y < k → t.puts[y]? = some p → p.ok) (fun k => [(6, .int .i64 (k : Int)), (1, ptr b1 0), (3, .int .i64 (((sumP (b.txs.take i) : Nat) : Int) + (t.puts.length : Int))), (4, .int .i64 (i : Int)), (5, ptr b5 0)]) (fun k => pt b5 58 [.int .i64 t.time, .slice At t.puts.length ct] :: pt b1 55 [.int .i64 b.num, .slice A b.txs.length c] :: M) (fun k => viewK 2 putE At ct t.puts :: K) (fun k => t.puts.length - k) 0 ⟨Nat.zero_le _, fun y p hy => by omega⟩ (.num 6 rfl rfl (.cons 1 rfl (.cons 3 rfl (.cons 4 rfl (.cons 5 rfl .nil))))) (fun w hw => hw.f) ?_
          intro k hk Zk hz2
          obtain ⟨hk, hput⟩ := hk
          refine T.seq ?_
          refine T.seq ?_
          -- region 12 (txn.go:536)
          refine T.region ?_
          refine T.y (fun w hw => Yl.move rfl) rfl rfl ?_
          refine T.y (fun w hw => Yl.fa fa_58_1 rfl) rfl rfl ?_
          refine T.y (fun w hw => Yl.ldP hw na_56 rfl mM rfl) rfl rfl ?_
          refine T.y (fun w hw => Yl.len Try.underlying56 rfl) rfl rfl ?_
          refine T.y (fun w hw => Yl.lss rfl rfl) rfl rfl ?_
          refine T.nil ?_
          refine J.sel (.cons 1 rfl (.cons 3 rfl (.cons 4 rfl (.cons 5 rfl (.cons 6 rfl (.cons 75 rfl .nil)))))) ?_
          refine X.then_ ?_
          refine T.condD rfl (fun h75 => ?_) (fun h75 => ?_)
          ·skip
           refine T.skip ?_
           refine X.then_ ?_
           refine T.seq ?_
           refine T.block ?_
           refine T.seq ?_
           obtain ⟨p, htp⟩ : ∃ p, t.puts[k]? = some p := ⟨_, List.getElem?_eq_getElem (by omega)⟩
           refine J.open_ (fun w hw => hw.put_at mM htp) ?_
           rintro ⟨Ap, cp⟩ -
           dsimp only
           -- region 14 (txn.go:537)
           refine T.region ?_
           refine T.y (fun w hw => Yl.fa fa_58_1 rfl) rfl rfl ?_
           refine T.y (fun w hw => Yl.ldP hw na_56 rfl mM rfl) rfl rfl ?_
           refine T.y (fun w hw => Yl.move rfl) rfl rfl ?_
           refine T.y (fun w hw => (by first | exact Yl.iaV hw mM Try.underlying56 isz_61 rfl rfl rfl (by omega) | exact Yl.ia Try.underlying56 isz_61 rfl rfl rfl (by omega) sC)) rfl rfl ?_
           refine T.y (fun w hw => Yl.fae fa_61_0 rfl) rfl rfl ?_
           refine T.y (fun w hw => (by first | exact Yl.ldC hw na_3 rfl mM | exact Yl.ldI hw mM na_3 rfl (by omega) | exact Yl.ldR sC na_3 rfl (by assumption) | exact Yl.ldV hw na_3 rfl mM rfl)) rfl rfl ?_
           refine T.y (fun w hw => Yl.lss rfl rfl) rfl rfl ?_
           refine T.y (fun w hw => Yl.move rfl) rfl rfl ?_
           refine T.splitD 85 rfl (fun h85 => ?_) (fun h85 => ?_)
           ·skip
            refine T.off rfl rfl rfl ?_
            refine T.off rfl rfl rfl ?_
            refine T.off rfl rfl rfl ?_
            refine T.off rfl rfl rfl ?_
            refine T.off rfl rfl rfl ?_
            refine T.off rfl rfl rfl ?_
            refine T.off rfl rfl rfl ?_
            refine T.y (fun w hw => Yl.pickT rfl rfl) rfl rfl ?_
            refine T.y (fun w hw => Yl.move rfl) rfl rfl ?_
            refine T.off rfl rfl rfl ?_
            refine T.off rfl rfl rfl ?_
            refine T.off rfl rfl rfl ?_
            refine T.off rfl rfl rfl ?_
            refine T.off rfl rfl rfl ?_
            refine T.off rfl rfl rfl ?_
            refine T.off rfl rfl rfl ?_
            refine T.off rfl rfl rfl ?_
            refine T.y (fun w hw => Yl.pickT rfl rfl) rfl rfl ?_
            refine T.nil ?_
            refine J.sel (.cons 1 rfl (.cons 3 rfl (.cons 4 rfl (.cons 5 rfl (.cons 6 rfl (.cons 103 rfl .nil)))))) ?_
            refine X.then_ ?_
            refine T.condT rfl ?_
            refine T.seq ?_
            -- region 15 (txn.go:538)
            refine T.region ?_
            refine T.y (fun w hw => Yl.assign rfl) rfl rfl ?_
            refine T.nil ?_
            refine J.sel (.cons 2 rfl .nil) ?_
            refine X.then_ ?_
            refine T.ret ?_
            refine X.ret_blk ?_
            refine X.ret_then ?_
            refine X.ret_then ?_
            refine X.ret_blk ?_
            refine X.ret_blk ?_
            refine X.ret_then ?_
            refine X.ret_then ?_
            refine X.ret_blk ?_
            refine X.ret_then ?_
            refine X.ret1 Try.results145 rfl (fun w hw => ?_)
            rw [chk_no (fun h => by
              obtain ⟨h1, h2, h3⟩ := h.2 i (by omega)
              rw [putsAt_of htt] at h3
              obtain ⟨o1, o2, o3⟩ := h3 p (List.mem_of_getElem? htp)
              omega)]
            exact ⟨(), trivial, rfl, hw.f⟩
           ·skip
            refine T.y (fun w hw => Yl.fa fa_58_1 rfl) rfl rfl ?_
            refine T.y (fun w hw => Yl.ldP hw na_56 rfl mM rfl) rfl rfl ?_
            refine T.y (fun w hw => Yl.move rfl) rfl rfl ?_
            refine T.y (fun w hw => (by first | exact Yl.iaV hw mM Try.underlying56 isz_61 rfl rfl rfl (by omega) | exact Yl.ia Try.underlying56 isz_61 rfl rfl rfl (by omega) sC)) rfl rfl ?_
            refine T.y (fun w hw => Yl.fae fa_61_0 rfl) rfl rfl ?_
            refine T.y (fun w hw => (by first | exact Yl.ldC hw na_3 rfl mM | exact Yl.ldI hw mM na_3 rfl (by omega) | exact Yl.ldR sC na_3 rfl (by assumption) | exact Yl.ldV hw na_3 rfl mM rfl)) rfl rfl ?_
            refine T.y (fun w hw => Yl.gtr rfl rfl) rfl rfl ?_
            refine T.y (fun w hw => Yl.pickF rfl rfl) rfl rfl ?_
            refine T.y (fun w hw => Yl.move rfl) rfl rfl ?_
            refine T.splitD 94 rfl (fun h94 => ?_) (fun h94 => ?_)
            ·skip
             refine T.off rfl rfl rfl ?_
             refine T.off rfl rfl rfl ?_
             refine T.off rfl rfl rfl ?_
             refine T.off rfl rfl rfl ?_
             refine T.off rfl rfl rfl ?_
             refine T.off rfl rfl rfl ?_
             refine T.off rfl rfl rfl ?_
             refine T.off rfl rfl rfl ?_
             refine T.y (fun w hw => Yl.pickT rfl rfl) rfl rfl ?_
             refine T.nil ?_
             refine J.sel (.cons 1 rfl (.cons 3 rfl (.cons 4 rfl (.cons 5 rfl (.cons 6 rfl (.cons 103 rfl .nil)))))) ?_
             refine X.then_ ?_
             refine T.condT rfl ?_
             refine T.seq ?_
             -- region 15 (txn.go:538)
             refine T.region ?_
             refine T.y (fun w hw => Yl.assign rfl) rfl rfl ?_
             refine T.nil ?_
             refine J.sel (.cons 2 rfl .nil) ?_
             refine X.then_ ?_
             refine T.ret ?_
             refine X.ret_blk ?_
             refine X.ret_then ?_
             refine X.ret_then ?_
             refine X.ret_blk ?_
             refine X.ret_blk ?_
             refine X.ret_then ?_
             refine X.ret_then ?_
             refine X.ret_blk ?_
             refine X.ret_then ?_
             refine X.ret1 Try.results145 rfl (fun w hw => ?_)
             rw [chk_no (fun h => by
               obtain ⟨h1, h2, h3⟩ := h.2 i (by omega)
               rw [putsAt_of htt] at h3
               obtain ⟨o1, o2, o3⟩ := h3 p (List.mem_of_getElem? htp)
               omega)]
             exact ⟨(), trivial, rfl, hw.f⟩
            ·skip
             refine T.y (fun w hw => Yl.fa fa_58_1 rfl) rfl rfl ?_
             refine T.y (fun w hw => Yl.ldP hw na_56 rfl mM rfl) rfl rfl ?_
             refine T.y (fun w hw => Yl.move rfl) rfl rfl ?_
             refine T.y (fun w hw => (by first | exact Yl.iaV hw mM Try.underlying56 isz_61 rfl rfl rfl (by omega) | exact Yl.ia Try.underlying56 isz_61 rfl rfl rfl (by omega) sC)) rfl rfl ?_
             refine T.y (fun w hw => Yl.fae fa_61_1 rfl) rfl rfl ?_
             refine T.y (fun w hw => (by first | exact Yl.ldC hw na_23 rfl mM | exact Yl.ldR sC na_23 rfl (by assumption) | exact Yl.ldV hw na_23 rfl mM rfl)) rfl rfl ?_
             refine T.y (fun w hw => Yl.len Try.underlying23 rfl) rfl rfl ?_
             refine T.y (fun w hw => Yl.neq rfl rfl) rfl rfl ?_
             refine T.y (fun w hw => Yl.pickF rfl rfl) rfl rfl ?_
             refine T.nil ?_
             refine J.sel (.cons 1 rfl (.cons 3 rfl (.cons 4 rfl (.cons 5 rfl (.cons 6 rfl (.cons 103 rfl .nil)))))) ?_
             refine X.then_ ?_
             refine T.condD rfl (fun h103 => ?_) (fun h103 => ?_)
             ·skip
              refine T.seq ?_
              -- region 15 (txn.go:538)
              refine T.region ?_
              refine T.y (fun w hw => Yl.assign rfl) rfl rfl ?_
              refine T.nil ?_
              refine J.sel (.cons 2 rfl .nil) ?_
              refine X.then_ ?_
              refine T.ret ?_
              refine X.ret_blk ?_
              refine X.ret_then ?_
              refine X.ret_then ?_
              refine X.ret_blk ?_
              refine X.ret_blk ?_
              refine X.ret_then ?_
              refine X.ret_then ?_
              refine X.ret_blk ?_
              refine X.ret_then ?_
              refine X.ret1 Try.results145 rfl (fun w hw => ?_)
              rw [chk_no (fun h => by
                obtain ⟨h1, h2, h3⟩ := h.2 i (by omega)
                rw [putsAt_of htt] at h3
                obtain ⟨o1, o2, o3⟩ := h3 p (List.mem_of_getElem? htp)
                omega)]
              exact ⟨(), trivial, rfl, hw.f⟩
             ·skip
              refine T.skip ?_
              refine X.nm_blk ?_
              refine X.then_ ?_
              -- region 13 (txn.go:536)
              refine T.region ?_
              refine T.y (fun w hw => Yl.move rfl) rfl rfl ?_
              refine T.y (fun w hw => Yl.add rfl rfl (by omega)) rfl rfl ?_
              refine T.y (fun w hw => Yl.assign rfl) rfl rfl ?_
              refine T.nil ?_
              refine J.sel (.cons 1 rfl (.cons 3 rfl (.cons 4 rfl (.cons 5 rfl (.cons 6 rfl .nil))))) ?_
              refine X.go (hz2 (k + 1) ⟨by omega, fun y p' hy hp' => ?_⟩ (by omega)) (.num 6 rfl (by omega) (.cons 1 rfl (.cons 3 rfl (.cons 4 rfl (.cons 5 rfl .nil))))) (fun w hw => ?_)
              · rcases Nat.lt_succ_iff_lt_or_eq.1 hy with hy | rfl
                · exact hput y p' hy hp'
                · rw [htp] at hp'; injection hp' with hp'; subst hp'; exact ⟨by omega, by omega, by omega⟩
              · exact hw.f
          ·skip
           refine T.exit ?_
           refine X.exit_then ?_
           refine X.exit_then ?_
           refine X.exit_blk ?_
           refine X.nm_blk ?_
           refine X.then_ ?_
           -- region 6 (txn.go:530)
           refine T.region ?_
           refine T.y (fun w hw => Yl.move rfl) rfl rfl ?_
           refine T.y (fun w hw => Yl.add rfl rfl (by omega)) rfl rfl ?_
           refine T.y (fun w hw => Yl.assign rfl) rfl rfl ?_
           refine T.nil ?_
           refine J.sel (.cons 1 rfl (.cons 3 rfl (.cons 4 rfl .nil))) ?_
           refine X.go (hzo (i + 1) ⟨by omega, by rw [sumP_take htt]; omega, fun j hj => ?_⟩ (by omega)) (.num 3 rfl (by rw [sumP_take htt]; push_cast; rfl) (.num 4 rfl (by omega) (.cons 1 rfl .nil))) (fun w hw => ?_)
           · rcases Nat.lt_succ_iff_lt_or_eq.1 hj with hj | rfl
             · exact hall j hj
             · refine ⟨fun hj0 => ?_, by rw [putsAt_of htt]; omega, by rw [putsAt_of htt]; intro x hx; obtain ⟨y, hy, rfl⟩ := List.getElem_of_mem hx; exact hput y _ (by omega) (List.getElem?_eq_getElem hy)⟩
               rw [timeAt_of htt, timeAt_of htq]
               first
                 | omega
                 | (have := h47 (by omega); omega)
           · exact hw.f
       ·skip
        refine Dr.off 3 rfl (by kernel_rfl) bL sS rfl rfl ?_
        refine Dr.off 4 rfl (by kernel_rfl) bL sS rfl rfl ?_
        refine Dr.off 5 rfl (by kernel_rfl) bL sS rfl rfl ?_
        refine Dr.off 6 rfl (by kernel_rfl) bL sS rfl rfl ?_
        refine Dr.off 7 rfl (by kernel_rfl) bL sS rfl rfl ?_
        refine Dr.off 8 rfl (by kernel_rfl) bL sS rfl rfl ?_
        refine Dr.off 9 rfl (by kernel_rfl) bL sS rfl rfl ?_
        refine Dr.off 10 rfl (by kernel_rfl) bL sS rfl rfl ?_
        refine Dr.off 11 rfl (by kernel_rfl) bL sS rfl rfl ?_
        refine Dr.off 12 rfl (by kernel_rfl) bL sS rfl rfl ?_
        refine Dr.off 13 rfl (by kernel_rfl) bL sS rfl rfl ?_
        refine Dr.take 14 rfl (by kernel_rfl) bL sS (fun w hs => have hw := hs.h; Yl.pickF rfl rfl) rfl rfl ?_
        refine Dr.take 15 rfl (by kernel_rfl) bL sS (fun w hs => have hw := hs.h; Yl.move rfl) rfl rfl ?_
        refine Dr.take 16 rfl (by kernel_rfl) bL sS (fun w hs => have hw := hs.h; Yl.fa fa_58_1 rfl) rfl rfl ?_
        refine Dr.take 17 rfl (by kernel_rfl) bL sS (fun w hs => have hw := hs.h; Yl.ldP hw na_56 rfl mM rfl) rfl rfl ?_
        refine Dr.take 18 rfl (by kernel_rfl) bL sS (fun w hs => have hw := hs.h; Yl.len Try.underlying56 rfl) rfl rfl ?_
        refine Dr.take 19 rfl (by kernel_rfl) bL sS (fun w hs => have hw := hs.h; Yl.gtr rfl rfl) rfl rfl ?_
        refine Dr.take 20 rfl (by kernel_rfl) bL sS (fun w hs => have hw := hs.h; Yl.pickF rfl rfl) rfl rfl ?_
        refine Dr.done (by kernel_rfl) ?_
        refine J.sel (.cons 1 rfl (.cons 3 rfl (.cons 4 rfl (.cons 5 rfl (.cons 65 rfl .nil))))) ?_
        refine X.then_ ?_
        refine T.condD rfl (fun h65 => ?_) (fun h65 => ?_)
        ·skip
         refine T.seq ?_
         -- region 9 (txn.go:533)
         refine T.region ?_
         refine T.y (fun w hw => Yl.assign rfl) rfl rfl ?_
         refine T.nil ?_
         refine J.sel (.cons 2 rfl .nil) ?_
         refine X.then_ ?_
         refine T.ret ?_
         refine X.ret_then ?_
         refine X.ret_blk ?_
         refine X.ret_then ?_
         refine X.ret_then ?_
         refine X.ret_blk ?_
         refine X.ret_then ?_
         refine X.ret1 Try.results145 rfl (fun w hw => ?_)
         rw [chk_no (fun h => by
           obtain ⟨h1, h2, h3⟩ := h.2 i (by omega)
           rw [putsAt_of htt] at h2 h3
           rw [timeAt_of htt, timeAt_of htq] at h1
           first
             | omega
             | (have := h1 (by omega); omega))]
         exact ⟨(), trivial, rfl, hw.f⟩
        ·skip
         refine T.skip ?_
         refine X.then_ ?_
         refine T.seq ?_
         -- region 10 (txn.go:535)
         refine T.region ?_
         refine T.y (fun w hw => Yl.move rfl) rfl rfl ?_
         refine T.y (fun w hw => Yl.fa fa_58_1 rfl) rfl rfl ?_
         refine T.y (fun w hw => Yl.ldP hw na_56 rfl mM rfl) rfl rfl ?_
         refine T.y (fun w hw => Yl.len Try.underlying56 rfl) rfl rfl ?_
         refine T.y (fun w hw => Yl.add rfl rfl (by omega)) rfl rfl ?_
         refine T.y (fun w hw => Yl.assign rfl) rfl rfl ?_
         refine T.nil ?_
         refine J.sel (.cons 1 rfl (.cons 3 rfl (.cons 4 rfl (.cons 5 rfl .nil)))) ?_
         refine X.then_ ?_
         refine T.seq ?_
         -- region 11 (txn.go:536)
         refine T.region ?_
         refine T.y (fun w hw => Yl.assign rfl) rfl rfl ?_
         refine T.nil ?_
         refine X.then_ ?_
         refine T.block ?_
         refine T.loop (α := Nat) (fun k => k ≤ t.puts.length ∧ ∀ y p, y < k → t.puts[y]? = some p → p.ok) (fun k => [(6, .int .i64 (k : Int)), (1, ptr b1 0), (3, .int .i64 (((sumP (b.txs.take i) : Nat) : Int) + (t.puts.length : Int))), (4, .int .i64 (i : Int)), (5, ptr b5 0)]) (fun k => pt b5 58 [.int .i64 t.time, .slice At t.puts.length ct] :: pt b1 55 [.int .i64 b.num, .slice A b.txs.length c] :: M) (fun k => viewK 2 putE At ct t.puts :: K) (fun k => t.puts.length - k) 0 ⟨Nat.zero_le _, fun y p hy => by omega⟩ (.num 6 rfl rfl (.cons 1 rfl (.cons 3 rfl (.cons 4 rfl (.cons 5 rfl .nil))))) (fun w hw => hw.f) ?_
         intro k hk Zk hz2
         obtain ⟨hk, hput⟩ := hk
         refine T.seq ?_
         refine T.seq ?_
         -- region 12 (txn.go:536)
         refine T.region ?_
         refine T.y (fun w hw => Yl.move rfl) rfl rfl ?_
         refine T.y (fun w hw => Yl.fa fa_58_1 rfl) rfl rfl ?_
         refine T.y (fun w hw => Yl.ldP hw na_56 rfl mM rfl) rfl rfl ?_
         refine T.y (fun w hw => Yl.len Try.underlying56 rfl) rfl rfl ?_
         refine T.y (fun w hw => Yl.lss rfl rfl) rfl rfl ?_
         refine T.nil ?_
         refine J.sel (.cons 1 rfl (.cons 3 rfl (.cons 4 rfl (.cons 5 rfl (.cons 6 rfl (.cons 75 rfl .nil)))))) ?_
         refine X.then_ ?_
         refine T.condD rfl (fun h75 => ?_) (fun h75 => ?_)
         ·skip
          refine T.skip ?_
          refine X.then_ ?_
          refine T.seq ?_
          refine T.block ?_
          refine T.seq ?_
          obtain ⟨p, htp⟩ : ∃ p, t.puts[k]? = some p := ⟨_, List.getElem?_eq_getElem (by omega)⟩
          refine J.open_ (fun w hw => hw.put_at mM htp) ?_
          rintro ⟨Ap, cp⟩ -
          dsimp only
          -- region 14 (txn.go:537)
          refine T.region ?_
          refine T.y (fun w hw => Yl.fa fa_58_1 rfl) rfl rfl ?_
          refine T.y (fun w hw => Yl.ldP hw na_56 rfl mM rfl) rfl rfl ?_
          refine T.y (fun w hw => Yl.move rfl) rfl rfl ?_
          refine T.y (fun w hw => (by first | exact Yl.iaV hw mM Try.underlying56 isz_61 rfl rfl rfl (by omega) | exact Yl.ia Try.underlying56 isz_61 rfl rfl rfl (by omega) sC)) rfl rfl ?_
          refine T.y (fun w hw => Yl.fae fa_61_0 rfl) rfl rfl ?_
          refine T.y (fun w hw => (by first | exact Yl.ldC hw na_3 rfl mM | exact Yl.ldI hw mM na_3 rfl (by omega) | exact Yl.ldR sC na_3 rfl (by assumption) | exact Yl.ldV hw na_3 rfl mM rfl)) rfl rfl ?_
          refine T.y (fun w hw => Yl.lss rfl rfl) rfl rfl ?_
          refine T.y (fun w hw => Yl.move rfl) rfl rfl ?_
          refine T.splitD 85 rfl (fun h85 => ?_) (fun h85 => ?_)
          ·skip
           refine T.off rfl rfl rfl ?_
           refine T.off rfl rfl rfl ?_
           refine T.off rfl rfl rfl ?_
           refine T.off rfl rfl rfl ?_
           refine T.off rfl rfl rfl ?_
           refine T.off rfl rfl rfl ?_
           refine T.off rfl rfl rfl ?_
           refine T.y (fun w hw => Yl.pickT rfl rfl) rfl rfl ?_
           refine T.y (fun w hw => Yl.move rfl) rfl rfl ?_
           refine T.off rfl rfl rfl ?_
           refine T.off rfl rfl rfl ?_
           refine T.off rfl rfl rfl ?_
           refine T.off rfl rfl rfl ?_
           refine T.off rfl rfl rfl ?_
           refine T.off rfl rfl rfl ?_
           refine T.off rfl rfl rfl ?_
           refine T.off rfl rfl rfl ?_
           refine T.y (fun w hw => Yl.pickT rfl rfl) rfl rfl ?_
           refine T.nil ?_
           refine J.sel (.cons 1 rfl (.cons 3 rfl (.cons 4 rfl (.cons 5 rfl (.cons 6 rfl (.cons 103 rfl .nil)))))) ?_
           refine X.then_ ?_
           refine T.condT rfl ?_
           refine T.seq ?_
           -- region 15 (txn.go:538)
           refine T.region ?_
           refine T.y (fun w hw => Yl.assign rfl) rfl rfl ?_
           refine T.nil ?_
           refine J.sel (.cons 2 rfl .nil) ?_
           refine X.then_ ?_
           refine T.ret ?_
           refine X.ret_blk ?_
           refine X.ret_then ?_
           refine X.ret_then ?_
           refine X.ret_blk ?_
           refine X.ret_blk ?_
           refine X.ret_then ?_
           refine X.ret_then ?_
           refine X.ret_blk ?_
           refine X.ret_then ?_
           refine X.ret1 Try.results145 rfl (fun w hw => ?_)
           rw [chk_no (fun h => by
             obtain ⟨h1, h2, h3⟩ := h.2 i (by omega)
             rw [putsAt_of htt] at h3
             obtain ⟨o1, o2, o3⟩ := h3 p (List.mem_of_getElem? htp)
             omega)]
           exact ⟨(), trivial, rfl, hw.f⟩
          ·skip
           refine T.y (fun w hw => Yl.fa fa_58_1 rfl) rfl rfl ?_
           refine T.y (fun w hw => Yl.ldP hw na_56 rfl mM rfl) rfl rfl ?_
           refine T.y (fun w hw => Yl.move rfl) rfl rfl ?_
           refine T.y (fun w hw => (by first | exact Yl.iaV hw mM Try.underlying56 isz_61 rfl rfl rfl (by omega) | exact Yl.ia Try.underlying56 isz_61 rfl rfl rfl (by omega) sC)) rfl rfl ?_
           refine T.y (fun w hw => Yl.fae fa_61_0 rfl) rfl rfl ?_
           refine T.y (fun w hw => (by first | exact Yl.ldC hw na_3 rfl mM | exact Yl.ldI hw mM na_3 rfl (by omega) | exact Yl.ldR sC na_3 rfl (by assumption) | exact Yl.ldV hw na_3 rfl mM rfl)) rfl rfl ?_
           refine T.y (fun w hw => Yl.gtr rfl rfl) rfl rfl ?_
           refine T.y (fun w hw => Yl.pickF rfl rfl) rfl rfl ?_
           refine T.y (fun w hw => Yl.move rfl) rfl rfl ?_
           refine T.splitD 94 rfl (fun h94 => ?_) (fun h94 => ?_)
           ·skip
            refine T.off rfl rfl rfl ?_
            refine T.off rfl rfl rfl ?_
            refine T.off rfl rfl rfl ?_
            refine T.off rfl rfl rfl ?_
            refine T.off rfl rfl rfl ?_
            refine T.off rfl rfl rfl ?_
            refine T.off rfl rfl rfl ?_
            refine T.off rfl rfl rfl ?_
            refine T.y (fun w hw => Yl.pickT rfl rfl) rfl rfl ?_
            refine T.nil ?_
            refine J.sel (.cons 1 rfl (.cons 3 rfl (.cons 4 rfl (.cons 5 rfl (.cons 6 rfl (.cons 103 rfl .nil)))))) ?_
            refine X.then_ ?_
            refine T.condT rfl ?_
            refine T.seq ?_
            -- region 15 (txn.go:538)
            refine T.region ?_
            refine T.y (fun w hw => Yl.assign rfl) rfl rfl ?_
            refine T.nil ?_
            refine J.sel (.cons 2 rfl .nil) ?_
            refine X.then_ ?_
            refine T.ret ?_
            refine X.ret_blk ?_
            refine X.ret_then ?_
            refine X.ret_then ?_
            refine X.ret_blk ?_
            refine X.ret_blk ?_
            refine X.ret_then ?_
            refine X.ret_then ?_
            refine X.ret_blk ?_
            refine X.ret_then ?_
            refine X.ret1 Try.results145 rfl (fun w hw => ?_)
            rw [chk_no (fun h => by
              obtain ⟨h1, h2, h3⟩ := h.2 i (by omega)
              rw [putsAt_of htt] at h3
              obtain ⟨o1, o2, o3⟩ := h3 p (List.mem_of_getElem? htp)
              omega)]
            exact ⟨(), trivial, rfl, hw.f⟩
           ·skip
            refine T.y (fun w hw => Yl.fa fa_58_1 rfl) rfl rfl ?_
            refine T.y (fun w hw => Yl.ldP hw na_56 rfl mM rfl) rfl rfl ?_
            refine T.y (fun w hw => Yl.move rfl) rfl rfl ?_
            refine T.y (fun w hw => (by first | exact Yl.iaV hw mM Try.underlying56 isz_61 rfl rfl rfl (by omega) | exact Yl.ia Try.underlying56 isz_61 rfl rfl rfl (by omega) sC)) rfl rfl ?_
            refine T.y (fun w hw => Yl.fae fa_61_1 rfl) rfl rfl ?_
            refine T.y (fun w hw => (by first | exact Yl.ldC hw na_23 rfl mM | exact Yl.ldR sC na_23 rfl (by assumption) | exact Yl.ldV hw na_23 rfl mM rfl)) rfl rfl ?_
            refine T.y (fun w hw => Yl.len Try.underlying23 rfl) rfl rfl ?_
            refine T.y (fun w hw => Yl.neq rfl rfl) rfl rfl ?_
            refine T.y (fun w hw => Yl.pickF rfl rfl) rfl rfl ?_
            refine T.nil ?_
            refine J.sel (.cons 1 rfl (.cons 3 rfl (.cons 4 rfl (.cons 5 rfl (.cons 6 rfl (.cons 103 rfl .nil)))))) ?_
            refine X.then_ ?_
            refine T.condD rfl (fun h103 => ?_) (fun h103 => ?_)
            ·skip
             refine T.seq ?_
             -- region 15 (txn.go:538)
             refine T.region ?_
             refine T.y (fun w hw => Yl.assign rfl) rfl rfl ?_
             refine T.nil ?_
             refine J.sel (.cons 2 rfl .nil) ?_
             refine X.then_ ?_
             refine T.ret ?_
             refine X.ret_blk ?_
             refine X.ret_then ?_
             refine X.ret_then ?_
             refine X.ret_blk ?_
             refine X.ret_blk ?_
             refine X.ret_then ?_
             refine X.ret_then ?_
             refine X.ret_blk ?_
             refine X.ret_then ?_
             refine X.ret1 Try.results145 rfl (fun w hw => ?_)
             rw [chk_no (fun h => by
               obtain ⟨h1, h2, h3⟩ := h.2 i (by omega)
               rw [putsAt_of htt] at h3
               obtain ⟨o1, o2, o3⟩ := h3 p (List.mem_of_getElem? htp)
               omega)]
             exact ⟨(), trivial, rfl, hw.f⟩
            ·skip
             refine T.skip ?_
             refine X.nm_blk ?_
             refine X.then_ ?_
             -- region 13 (txn.go:536)
             refine T.region ?_
             refine T.y (fun w hw => Yl.move rfl) rfl rfl ?_
             refine T.y (fun w hw => Yl.add rfl rfl (by omega)) rfl rfl ?_
             refine T.y (fun w hw => Yl.assign rfl) rfl rfl ?_
             refine T.nil ?_
             refine J.sel (.cons 1 rfl (.cons 3 rfl (.cons 4 rfl (.cons 5 rfl (.cons 6 rfl .nil))))) ?_
             refine X.go (hz2 (k + 1) ⟨by omega, fun y p' hy hp' => ?_⟩ (by omega)) (.num 6 rfl (by omega) (.cons 1 rfl (.cons 3 rfl (.cons 4 rfl (.cons 5 rfl .nil))))) (fun w hw => ?_)
             · rcases Nat.lt_succ_iff_lt_or_eq.1 hy with hy | rfl
               · exact hput y p' hy hp'
               · rw [htp] at hp'; injection hp' with hp'; subst hp'; exact ⟨by omega, by omega, by omega⟩
             · exact hw.f
         ·skip
          refine T.exit ?_
          refine X.exit_then ?_
          refine X.exit_then ?_
          refine X.exit_blk ?_
          refine X.nm_blk ?_
          refine X.then_ ?_
          -- region 6 (txn.go:530)
          refine T.region ?_
          refine T.y (fun w hw => Yl.move rfl) rfl rfl ?_
          refine T.y (fun w hw => Yl.add rfl rfl (by omega)) rfl rfl ?_
          refine T.y (fun w hw => Yl.assign rfl) rfl rfl ?_
          refine T.nil ?_
          refine J.sel (.cons 1 rfl (.cons 3 rfl (.cons 4 rfl .nil))) ?_
          refine X.go (hzo (i + 1) ⟨by omega, by rw [sumP_take htt]; omega, fun j hj => ?_⟩ (by omega)) (.num 3 rfl (by rw [sumP_take htt]; push_cast; rfl) (.num 4 rfl (by omega) (.cons 1 rfl .nil))) (fun w hw => ?_)
          · rcases Nat.lt_succ_iff_lt_or_eq.1 hj with hj | rfl
            · exact hall j hj
            · refine ⟨fun hj0 => ?_, by rw [putsAt_of htt]; omega, by rw [putsAt_of htt]; intro x hx; obtain ⟨y, hy, rfl⟩ := List.getElem_of_mem hx; exact hput y _ (by omega) (List.getElem?_eq_getElem hy)⟩
              rw [timeAt_of htt, timeAt_of htq]
              first
                | omega
                | (have := h47 (by omega); omega)
          · exact hw.f
      ·skip
       refine T.exit ?_
       refine X.exit_then ?_
       refine X.exit_then ?_
       refine X.exit_blk ?_
       refine X.then_ ?_
       refine T.seq ?_
       refine T.seq ?_
       -- region 16 (txn.go:542)
       refine T.region ?_
       refine T.y (fun w hw => Yl.move rfl) rfl rfl ?_
       refine T.y (fun w hw => Yl.gtr rfl rfl) rfl rfl ?_
       refine T.nil ?_
       refine J.sel (.cons 105 rfl .nil) ?_
       refine X.then_ ?_
       refine T.condD rfl (fun h105 => ?_) (fun h105 => ?_)
       ·skip
        refine T.seq ?_
        -- region 17 (txn.go:543)
        refine T.region ?_
        refine T.y (fun w hw => Yl.assign rfl) rfl rfl ?_
        refine T.nil ?_
        refine J.sel (.cons 2 rfl .nil) ?_
        refine X.then_ ?_
        refine T.ret ?_
        refine X.ret_then ?_
        refine X.ret1 Try.results145 rfl (fun w hw => ?_)
        have hie : i = b.txs.length := by omega
        subst hie
        rw [List.take_length] at h105
        rw [chk_no (fun h => by have := h.1.2.2.2.2.2; unfold blocksN at this; omega)]
        exact ⟨(), trivial, rfl, hw.f⟩
       ·skip
        refine T.skip ?_
        refine X.then_ ?_
        refine T.seq ?_
        -- region 18 (txn.go:545)
        refine T.region ?_
        refine T.y (fun w hw => Yl.assign rfl) rfl rfl ?_
        refine T.nil ?_
        refine J.sel (.cons 2 rfl .nil) ?_
        refine X.then_ ?_
        refine T.ret ?_
        refine X.ret1 Try.results145 rfl (fun w hw => ?_)
        have hie : i = b.txs.length := by omega
        subst hie
        rw [List.take_length] at h105
        rw [chk_yes ⟨⟨by omega, by omega, by omega, by omega, hord, by unfold blocksN; omega⟩, hall⟩]
        exact ⟨(), trivial, rfl, hw.f⟩

set_option maxHeartbeats 4000000 in
theorem encode6b_ct {M : List HP} {K : List KP} {A : Option Addr} {c : Nat} {b : BatL} {ep : Int} (hb : viewK 2 txE A c b.txs ∈ K) : Fn 121 [.agg [.int .i64 b.num, .slice A b.txs.length c].toArray, .int .i64 ep] M K (fun _ : Option Addr × Nat => True) (fun r => .tuple [.slice r.1 (encR b ep).length r.2, .int .i64 (encE b ep)].toArray) (fun _ => M) (fun r => rowsK r.1 r.2 (encR b ep) :: K) := by
 refine Fn.of (n := 145) Try.func121 rfl Try.ntmps121 rfl ?_
 refine T.seq ?_
 -- region 0 (txn.go:549)
 refine T.region ?_
 refine T.o (OpW.box rfl) rfl rfl (fun b2 _ => ?_)
 refine T.y (fun w hw => Yl.assign rfl) rfl rfl ?_
 refine T.y (fun w hw => Yl.assign rfl) rfl rfl ?_
 refine T.nil ?_
 refine J.sel (.cons 1 rfl (.cons 2 rfl .nil)) ?_
 refine X.then_ ?_
 refine T.seq ?_
 refine T.seq ?_
 -- region 1 (txn.go:550)
 refine T.region ?_
 refine T.y (fun w hw => Yl.ldaP hw ag_55 rfl mM sU) rfl rfl ?_
 refine T.o (OpW.call en_145 rfl (check6_ct mM)) rfl rfl (fun x hx => ?_)
 refine T.y (fun w hw => Yl.neq rfl rfl) rfl rfl ?_
 refine T.y (fun w hw => Yl.move rfl) rfl rfl ?_
 refine T.splitD 19 rfl (fun h19 => ?_) (fun h19 => ?_)
 ·skip
  refine T.off rfl rfl rfl ?_
  refine T.off rfl rfl rfl ?_
  refine T.y (fun w hw => Yl.pickT rfl rfl) rfl rfl ?_
  refine T.y (fun w hw => Yl.move rfl) rfl rfl ?_
  refine T.off rfl rfl rfl ?_
  refine T.off rfl rfl rfl ?_
  refine T.y (fun w hw => Yl.pickT rfl rfl) rfl rfl ?_
  refine T.nil ?_
  refine J.sel (.cons 1 rfl (.cons 2 rfl (.cons 26 rfl .nil))) ?_
  refine X.then_ ?_
  refine T.condT rfl ?_
  refine T.seq ?_
  -- region 2 (txn.go:551)
  refine T.region ?_
  refine T.y (fun w hw => Yl.assign rfl) rfl rfl ?_
  refine T.y (fun w hw => Yl.assign rfl) rfl rfl ?_
  refine T.nil ?_
  refine J.sel (.cons 4 rfl (.cons 5 rfl .nil)) ?_
  refine X.then_ ?_
  refine T.ret ?_
  refine X.ret_then ?_
  refine X.ret2 Try.results121 rfl rfl (fun w hw => ?_)
  have hno : ¬ b.can ep := fun h => by
    have h1 := chk_yes h.1
    have h2 := h.2.1
    have h3 := h.2.2
    omega
  rw [encR_no hno, encE_no hno]
  exact ⟨(none, 0), trivial, rfl, by have hw := hw.rowsK_nil; exact hw.f⟩
 ·skip
  refine T.y (fun w hw => Yl.move rfl) rfl rfl ?_
  refine T.y (fun w hw => Yl.lss rfl rfl) rfl rfl ?_
  refine T.y (fun w hw => Yl.pickF rfl rfl) rfl rfl ?_
  refine T.y (fun w hw => Yl.move rfl) rfl rfl ?_
  refine T.splitD 23 rfl (fun h23 => ?_) (fun h23 => ?_)
  ·skip
   refine T.off rfl rfl rfl ?_
   refine T.off rfl rfl rfl ?_
   refine T.y (fun w hw => Yl.pickT rfl rfl) rfl rfl ?_
   refine T.nil ?_
   refine J.sel (.cons 1 rfl (.cons 2 rfl (.cons 26 rfl .nil))) ?_
   refine X.then_ ?_
   refine T.condT rfl ?_
   refine T.seq ?_
   -- region 2 (txn.go:551)
   refine T.region ?_
   refine T.y (fun w hw => Yl.assign rfl) rfl rfl ?_
   refine T.y (fun w hw => Yl.assign rfl) rfl rfl ?_
   refine T.nil ?_
   refine J.sel (.cons 4 rfl (.cons 5 rfl .nil)) ?_
   refine X.then_ ?_
   refine T.ret ?_
   refine X.ret_then ?_
   refine X.ret2 Try.results121 rfl rfl (fun w hw => ?_)
   have hno : ¬ b.can ep := fun h => by
     have h1 := chk_yes h.1
     have h2 := h.2.1
     have h3 := h.2.2
     omega
   rw [encR_no hno, encE_no hno]
   exact ⟨(none, 0), trivial, rfl, by have hw := hw.rowsK_nil; exact hw.f⟩
  ·skip
   refine T.y (fun w hw => Yl.move rfl) rfl rfl ?_
   refine T.y (fun w hw => Yl.gtr rfl rfl) rfl rfl ?_
   refine T.y (fun w hw => Yl.pickF rfl rfl) rfl rfl ?_
   refine T.nil ?_
   refine J.sel (.cons 1 rfl (.cons 2 rfl (.cons 26 rfl .nil))) ?_
   refine X.then_ ?_
   refine T.condD rfl (fun h26 => ?_) (fun h26 => ?_)
   ·skip
    refine T.seq ?_
    -- region 2 (txn.go:551)
    refine T.region ?_
    refine T.y (fun w hw => Yl.assign rfl) rfl rfl ?_
    refine T.y (fun w hw => Yl.assign rfl) rfl rfl ?_
    refine T.nil ?_
    refine J.sel (.cons 4 rfl (.cons 5 rfl .nil)) ?_
    refine X.then_ ?_
    refine T.ret ?_
    refine X.ret_then ?_
    refine X.ret2 Try.results121 rfl rfl (fun w hw => ?_)
    have hno : ¬ b.can ep := fun h => by
      have h1 := chk_yes h.1
      have h2 := h.2.1
      have h3 := h.2.2
      omega
    rw [encR_no hno, encE_no hno]
    exact ⟨(none, 0), trivial, rfl, by have hw := hw.rowsK_nil; exact hw.f⟩
   ·skip
    refine T.skip ?_
    refine X.then_ ?_
    refine T.seq ?_
    have hcan : b.can ep := ⟨chk_iff.1 (by omega), by omega, by omega⟩
    have hm := hcan.1
    have hl1 := hm.1.2.2.1
    have hl2 := hm.1.2.2.2.1
    have htm := ordered_time hm.1.2.2.2.2.1
    have hsum := may_sum hm
    obtain ⟨t0, htt0⟩ : ∃ t0, b.txs[0]? = some t0 := ⟨_, List.getElem?_eq_getElem (by omega)⟩
    refine J.open_ (fun w hw => hw.tx_at mM htt0) ?_
    rintro ⟨At0, ct0⟩ -
    dsimp only
    have ht0 := htm 0 (by omega)
    obtain ⟨T0, hT0⟩ : ∃ T0 : Nat, timeAt b.txs 0 = T0 := ⟨(timeAt b.txs 0).toNat, by omega⟩
    have hT0' : t0.time = (T0 : Int) := by rw [← timeAt_of htt0, hT0]
    -- region 3 (txn.go:553)
    refine T.region ?_
    refine T.y (fun w hw => Yl.assign rfl) rfl rfl ?_
    refine T.nil ?_
    refine J.sel (.cons 1 rfl (.cons 2 rfl (.cons 6 rfl .nil))) ?_
    refine X.then_ ?_
    refine T.seq ?_
    -- region 4 (txn.go:554)
    refine T.region ?_
    refine T.y (fun w hw => Yl.fa fa_55_1 rfl) rfl rfl ?_
    refine T.y (fun w hw => Yl.ldP hw na_53 rfl mM rfl) rfl rfl ?_
    refine T.y (fun w hw => (by first | exact Yl.iaV (i := 0) hw mM Try.underlying53 isz_58 rfl rfl rfl (by omega) | exact Yl.ia (i := 0) Try.underlying53 isz_58 rfl rfl rfl (by omega) sC)) rfl rfl ?_
    refine T.y (fun w hw => Yl.fae fa_58_0 rfl) rfl rfl ?_
    refine T.y (fun w hw => (by first | exact Yl.ldC hw na_3 rfl mM | exact Yl.ldI hw mM na_3 rfl (by omega) | exact Yl.ldR sC na_3 rfl (by assumption) | exact Yl.ldV hw na_3 rfl mM rfl)) rfl rfl ?_
    refine T.y (fun w hw => Yl.conv Try.underlying3 Try.underlying127 rfl (cv_u64 (by omega))) rfl rfl ?_
    refine T.o (OpW.call en_97 rfl (put6H_ct T0 8 hT0' rfl (by omega) (by decide))) rfl rfl (fun ⟨A33, c33⟩ _ => ?_)
    dsimp only
    refine T.y (fun w hw => Yl.assign rfl) rfl rfl ?_
    refine T.nil ?_
    refine J.sel (.cons 1 rfl (.cons 2 rfl (.cons 6 rfl (.cons 7 rfl .nil)))) ?_
    refine X.then_ ?_
    refine T.seq ?_
    -- region 5 (txn.go:555)
    refine T.region ?_
    refine T.y (fun w hw => Yl.move rfl) rfl rfl ?_
    refine T.y (fun w hw => Yl.fa fa_55_1 rfl) rfl rfl ?_
    refine T.y (fun w hw => Yl.ldP hw na_53 rfl mM rfl) rfl rfl ?_
    refine T.y (fun w hw => Yl.len Try.underlying53 rfl) rfl rfl ?_
    refine T.y (fun w hw => Yl.conv Try.underlying3 Try.underlying5 rfl (cv_u8 (by omega))) rfl rfl ?_
    refine T.o (OpW.bsl (sz := 1) rfl bsl_23_1 rfl rfl) rfl rfl (fun b39 _ => ?_)
    refine T.o (OpW.appB (ys := [(b.txs.length : Int)]) rfl rfl pK (fun w hw => hw.row (xs := nums .u8 [(b.txs.length : Int)]) mM) (by simp [le_length])) rfl rfl (fun ⟨A40, c40⟩ _ => ?_)
    dsimp only
    refine T.y (fun w hw => Yl.assign rfl) rfl rfl ?_
    refine T.nil ?_
    rw [show le T0 8 ++ [(b.txs.length : Int)] = headL b.txs ++ stepsTo b.txs 0 from by unfold headL stepsTo; rw [hT0]; simp]
    refine J.sel (.cons 1 rfl (.cons 2 rfl (.cons 6 rfl (.cons 7 rfl .nil)))) ?_
    refine X.then_ ?_
    refine T.seq ?_
    refine T.seq ?_
    -- region 6 (txn.go:556)
    refine T.region ?_
    refine T.y (fun w hw => Yl.assign rfl) rfl rfl ?_
    refine T.nil ?_
    refine X.then_ ?_
    refine T.block ?_
    refine T.loop (α := Nat × Option Addr × Nat) (fun u => u.1 ≤ b.txs.length) (fun u => [(7, .slice u.2.1 (headL b.txs ++ stepsTo b.txs u.1).length u.2.2), (8, .int .i64 (u.1 : Int)), (1, .int .i64 ep), (2, ptr b2 0), (6, .slice none 0 0)]) (fun u => rowH 5 1 u.2.1 u.2.2 (headL b.txs ++ stepsTo b.txs u.1).length (nums .u8 (headL b.txs ++ stepsTo b.txs u.1)) :: pt b2 55 [.int .i64 b.num, .slice A b.txs.length c] :: M) (fun u => K) (fun u => b.txs.length - u.1) (0, A40, c40) (Nat.zero_le _) (.cons 7 rfl (.num 8 rfl rfl (.cons 1 rfl (.cons 2 rfl (.cons 6 rfl .nil))))) (fun w hw => hw.f) ?_
    intro ⟨i, A7, c7⟩ hi Zk hzo
    dsimp only at hi hzo ⊢
    refine T.seq ?_
    refine T.seq ?_
    -- region 7 (txn.go:556)
    refine T.region ?_
    refine T.y (fun w hw => Yl.move rfl) rfl rfl ?_
    refine T.y (fun w hw => Yl.fa fa_55_1 rfl) rfl rfl ?_
    refine T.y (fun w hw => Yl.ldP hw na_53 rfl mM rfl) rfl rfl ?_
    refine T.y (fun w hw => Yl.len Try.underlying53 rfl) rfl rfl ?_
    refine T.y (fun w hw => Yl.lss rfl rfl) rfl rfl ?_
    refine T.nil ?_
    refine J.sel (.cons 1 rfl (.cons 2 rfl (.cons 6 rfl (.cons 7 rfl (.cons 8 rfl (.cons 45 rfl .nil)))))) ?_
    refine X.then_ ?_
    refine T.condD rfl (fun h45 => ?_) (fun h45 => ?_)
    ·skip
     refine T.skip ?_
     refine X.then_ ?_
     refine T.seq ?_
     refine T.block ?_
     refine T.seq ?_
     obtain ⟨t, htt⟩ : ∃ t, b.txs[i]? = some t := ⟨_, List.getElem?_eq_getElem (by omega)⟩
     refine J.open_ (fun w hw => hw.tx_at mM htt) ?_
     rintro ⟨At, ct⟩ -
     dsimp only
     obtain ⟨q, htq⟩ : ∃ q, b.txs[(i - 1)]? = some q := ⟨_, List.getElem?_eq_getElem (by omega)⟩
     refine J.open_ (fun w hw => hw.tx_at mM htq) ?_
     rintro ⟨Aq, cq⟩ -
     dsimp only
     have hst := may_step hm (i := i) (by omega)
     have htm1 := htm i (by omega)
     have htm2 := htm (i - 1) (by omega)
     rw [timeAt_of htt] at htm1
     rw [timeAt_of htq] at htm2
     have hsl := stepsTo_length b.txs i
     have hhl := headL_length b.txs
     have hbd : headL b.txs ++ stepsTo b.txs i ++ le (stepAt b.txs i).toNat 2 = headL b.txs ++ stepsTo b.txs (i + 1) := by rw [stepsTo_succ, List.append_assoc, le_two hst]
     -- region 9 (txn.go:557)
     refine T.region ?_
     refine T.y (fun w hw => Yl.assign rfl) rfl rfl ?_
     refine T.nil ?_
     refine J.sel (.cons 1 rfl (.cons 2 rfl (.cons 6 rfl (.cons 7 rfl (.cons 8 rfl (.cons 9 rfl .nil)))))) ?_
     refine X.then_ ?_
     refine T.cut (α := Unit) (φ := fun u => True) (Ec := fun u => [(9, .int .i64 (stepAt b.txs i)), (1, .int .i64 ep), (2, ptr b2 0), (6, .slice none 0 0), (7, .slice A7 (headL b.txs ++ stepsTo b.txs i).length c7), (8, .int .i64 (i : Int))]) (Mc := fun u => rowH 5 1 A7 c7 (headL b.txs ++ stepsTo b.txs i).length (nums .u8 (headL b.txs ++ stepsTo b.txs i)) :: pt b2 55 [.int .i64 b.num, .slice A b.txs.length c] :: M) (Kc := fun u => K) ?_ ?_
     ·intro Zk hzc
      refine T.seq ?_
      -- region 10 (txn.go:558)
      refine T.region ?_
      refine T.y (fun w hw => Yl.move rfl) rfl rfl ?_
      refine T.y (fun w hw => Yl.gtr rfl rfl) rfl rfl ?_
      refine T.nil ?_
      refine J.sel (.cons 1 rfl (.cons 2 rfl (.cons 6 rfl (.cons 7 rfl (.cons 8 rfl (.cons 9 rfl (.cons 49 rfl .nil))))))) ?_
      refine X.then_ ?_
      refine T.condD rfl (fun h49 => ?_) (fun h49 => ?_)
      ·skip
       -- region 11 (txn.go:559)
       refine Dr.start0 [] ?_
       refine Dr.take 0 rfl (by kernel_rfl) bL sS (fun w hs => have hw := hs.h; Yl.fa fa_55_1 rfl) rfl rfl ?_
       refine Dr.take 1 rfl (by kernel_rfl) bL sS (fun w hs => have hw := hs.h; Yl.ldP hw na_53 rfl mM rfl) rfl rfl ?_
       refine Dr.take 2 rfl (by kernel_rfl) bL sS (fun w hs => have hw := hs.h; Yl.move rfl) rfl rfl ?_
       refine Dr.take 3 rfl (by kernel_rfl) bL sS (fun w hs => have hw := hs.h; (by first | exact Yl.iaV hw mM Try.underlying53 isz_58 rfl rfl rfl (by omega) | exact Yl.ia Try.underlying53 isz_58 rfl rfl rfl (by omega) sC)) rfl rfl ?_
       refine Dr.take 4 rfl (by kernel_rfl) bL sS (fun w hs => have hw := hs.h; Yl.fae fa_58_0 rfl) rfl rfl ?_
       refine Dr.take 5 rfl (by kernel_rfl) bL sS (fun w hs => have hw := hs.h; (by first | exact Yl.ldC hw na_3 rfl mM | exact Yl.ldI hw mM na_3 rfl (by omega) | exact Yl.ldR sC na_3 rfl (by assumption) | exact Yl.ldV hw na_3 rfl mM rfl)) rfl rfl ?_
       refine Dr.take 6 rfl (by kernel_rfl) bL sS (fun w hs => have hw := hs.h; Yl.fa fa_55_1 rfl) rfl rfl ?_
       refine Dr.take 7 rfl (by kernel_rfl) bL sS (fun w hs => have hw := hs.h; Yl.ldP hw na_53 rfl mM rfl) rfl rfl ?_
       refine Dr.take 8 rfl (by kernel_rfl) bL sS (fun w hs => have hw := hs.h; Yl.move rfl) rfl rfl ?_
       refine Dr.take 9 rfl (by kernel_rfl) bL sS (fun w hs => have hw := hs.h; Yl.sub rfl rfl (by omega)) rfl rfl ?_
       refine Dr.take 10 rfl (by kernel_rfl) bL sS (fun w hs => have hw := hs.h; (by first | exact Yl.iaV (i := i - 1) hw mM Try.underlying53 isz_58 rfl rfl (by omega) (by omega) | exact Yl.ia (i := i - 1) Try.underlying53 isz_58 rfl rfl (by omega) (by omega) sC)) rfl rfl ?_
       refine Dr.take 11 rfl (by kernel_rfl) bL sS (fun w hs => have hw := hs.h; Yl.fae fa_58_0 rfl) rfl rfl ?_
       refine Dr.take 12 rfl (by kernel_rfl) bL sS (fun w hs => have hw := hs.h; (by first | exact Yl.ldC hw na_3 rfl mM | exact Yl.ldI hw mM na_3 rfl (by omega) | exact Yl.ldR sC na_3 rfl (by assumption) | exact Yl.ldV hw na_3 rfl mM rfl)) rfl rfl ?_
       refine Dr.take 13 rfl (by kernel_rfl) bL sS (fun w hs => have hw := hs.h; Yl.sub rfl rfl (by omega)) rfl rfl ?_
       refine Dr.take 14 rfl (by kernel_rfl) bL sS (fun w hs => have hw := hs.h; Yl.assign rfl) rfl rfl ?_
       refine Dr.done (by kernel_rfl) ?_
       refine J.sel (.cons 1 rfl (.cons 2 rfl (.cons 6 rfl (.cons 7 rfl (.cons 8 rfl (.cons 9 rfl .nil)))))) ?_
       refine X.go (hzc () trivial) (.num 9 rfl (by unfold stepAt; first | (rw [if_pos (by omega)]; done) | (rw [if_neg (by omega), timeAt_of htt, timeAt_of htq]; done)) (.cons 1 rfl (.cons 2 rfl (.cons 6 rfl (.cons 7 rfl (.cons 8 rfl .nil)))))) (fun w hw => ?_)
       exact hw.f
      ·skip
       refine T.skip ?_
       refine X.go (hzc () trivial) (.num 9 rfl (by unfold stepAt; first | (rw [if_pos (by omega)]; done) | (rw [if_neg (by omega), timeAt_of htt, timeAt_of htq]; done)) (.cons 1 rfl (.cons 2 rfl (.cons 6 rfl (.cons 7 rfl (.cons 8 rfl .nil)))))) (fun w hw => ?_)
       exact hw.f
     ·intro _ _
      -- region 12 (txn.go:561)
      refine T.region ?_
      refine T.y (fun w hw => Yl.move rfl) rfl rfl ?_
      refine T.y (fun w hw => Yl.move rfl) rfl rfl ?_
      refine T.y (fun w hw => Yl.conv Try.underlying3 Try.underlying127 rfl (cv_u64 (by omega))) rfl rfl ?_
      refine T.o (OpW.call en_97 rfl (put6H_ct (stepAt b.txs i).toNat 2 (by omega) rfl (by omega) (by decide))) rfl rfl (fun ⟨A67, c67⟩ _ => ?_)
      dsimp only
      refine T.o (OpW.appB (ys := le (stepAt b.txs i).toNat 2) rfl rfl pK (fun w hw => hw.row (xs := nums .u8 (le (stepAt b.txs i).toNat 2)) mM) (by rw [List.length_append, hsl, hhl, le_length]; omega)) rfl rfl (fun ⟨A68, c68⟩ _ => ?_)
      dsimp only
      refine T.y (fun w hw => Yl.assign rfl) rfl rfl ?_
      refine T.nil ?_
      refine J.sel (.cons 1 rfl (.cons 2 rfl (.cons 6 rfl (.cons 7 rfl (.cons 8 rfl .nil))))) ?_
      refine X.nm_blk ?_
      refine X.then_ ?_
      -- region 8 (txn.go:556)
      refine T.region ?_
      refine T.y (fun w hw => Yl.move rfl) rfl rfl ?_
      refine T.y (fun w hw => Yl.add rfl rfl (by omega)) rfl rfl ?_
      refine T.y (fun w hw => Yl.assign rfl) rfl rfl ?_
      refine T.nil ?_
      refine J.sel (.cons 1 rfl (.cons 2 rfl (.cons 6 rfl (.cons 7 rfl (.cons 8 rfl .nil))))) ?_
      refine X.go (hzo (i + 1, A68, c68) (by dsimp only; omega) (by dsimp only; omega)) (.eqv 7 rfl (by rw [← hbd]) (.num 8 rfl (by omega) (.cons 1 rfl (.cons 2 rfl (.cons 6 rfl .nil))))) (fun w hw => ?_)
      dsimp only
      rw [← hbd]
      exact hw.f
    ·skip
     refine T.exit ?_
     refine X.exit_then ?_
     refine X.exit_then ?_
     refine X.exit_blk ?_
     refine X.then_ ?_
     refine T.seq ?_
     refine T.seq ?_
     have hie : i = b.txs.length := by omega
     subst hie
     refine J.ent (fun w hw => hw.rows_nil) ?_
     -- region 13 (txn.go:563)
     refine T.region ?_
     refine T.y (fun w hw => Yl.assign rfl) rfl rfl ?_
     refine T.nil ?_
     refine J.sel (.cons 1 rfl (.cons 2 rfl (.cons 6 rfl (.cons 7 rfl (.cons 10 rfl .nil))))) ?_
     refine X.then_ ?_
     refine T.block ?_
     refine T.loop (α := Nat × Option Addr × Nat × Option Addr × Nat) (fun u => u.1 ≤ b.txs.length) (fun u => [(6, .slice u.2.1 (rowsT ep b.num (b.txs.take u.1)).length u.2.2.1), (7, .slice u.2.2.2.1 (headL b.txs ++ stepsTo b.txs b.txs.length ++ countsTo b.txs u.1).length u.2.2.2.2), (10, .int .i64 (u.1 : Int)), (1, .int .i64 ep), (2, ptr b2 0)]) (fun u => rowsH u.2.1 u.2.2.1 (rowsT ep b.num (b.txs.take u.1)) :: rowH 5 1 u.2.2.2.1 u.2.2.2.2 (headL b.txs ++ stepsTo b.txs b.txs.length ++ countsTo b.txs u.1).length (nums .u8 (headL b.txs ++ stepsTo b.txs b.txs.length ++ countsTo b.txs u.1)) :: pt b2 55 [.int .i64 b.num, .slice A b.txs.length c] :: M) (fun u => K) (fun u => b.txs.length - u.1) (0, none, 0, A7, c7) (Nat.zero_le _) (.cons 6 rfl (.eqv 7 rfl (by rw [show countsTo b.txs 0 = [] from rfl, List.append_nil]) (.num 10 rfl rfl (.cons 1 rfl (.cons 2 rfl .nil))))) (fun w hw => by dsimp only; rw [show countsTo b.txs 0 = [] from rfl, List.append_nil]; exact hw.f) ?_
     intro ⟨i, A6, c6, A7, c7⟩ hi Zk hzq
     dsimp only at hi hzq ⊢
     refine T.seq ?_
     refine T.seq ?_
     -- region 14 (txn.go:563)
     refine T.region ?_
     refine T.y (fun w hw => Yl.move rfl) rfl rfl ?_
     refine T.y (fun w hw => Yl.fa fa_55_1 rfl) rfl rfl ?_
     refine T.y (fun w hw => Yl.ldP hw na_53 rfl mM rfl) rfl rfl ?_
     refine T.y (fun w hw => Yl.len Try.underlying53 rfl) rfl rfl ?_
     refine T.y (fun w hw => Yl.lss rfl rfl) rfl rfl ?_
     refine T.nil ?_
     refine J.sel (.cons 1 rfl (.cons 2 rfl (.cons 6 rfl (.cons 7 rfl (.cons 10 rfl (.cons 73 rfl .nil)))))) ?_
     refine X.then_ ?_
     refine T.condD rfl (fun h73 => ?_) (fun h73 => ?_)
     ·skip
      refine T.skip ?_
      refine X.then_ ?_
      refine T.seq ?_
      refine T.block ?_
      refine T.seq ?_
      obtain ⟨t, htt⟩ : ∃ t, b.txs[i]? = some t := ⟨_, List.getElem?_eq_getElem (by omega)⟩
      refine J.open_ (fun w hw => hw.tx_at mM htt) ?_
      rintro ⟨At, ct⟩ -
      dsimp only
      have hln := may_len hm htt
      have hcd : headL b.txs ++ stepsTo b.txs b.txs.length ++ countsTo b.txs i ++ [(t.puts.length : Int)] = headL b.txs ++ stepsTo b.txs b.txs.length ++ countsTo b.txs (i + 1) := by rw [countsTo_succ, putsAt_of htt, List.append_assoc]
      -- region 16 (txn.go:564)
      refine T.region ?_
      refine T.y (fun w hw => Yl.move rfl) rfl rfl ?_
      refine T.y (fun w hw => Yl.fa fa_55_1 rfl) rfl rfl ?_
      refine T.y (fun w hw => Yl.ldP hw na_53 rfl mM rfl) rfl rfl ?_
      refine T.y (fun w hw => Yl.move rfl) rfl rfl ?_
      refine T.y (fun w hw => (by first | exact Yl.iaV hw mM Try.underlying53 isz_58 rfl rfl rfl (by omega) | exact Yl.ia Try.underlying53 isz_58 rfl rfl rfl (by omega) sC)) rfl rfl ?_
      refine T.y (fun w hw => Yl.fae fa_58_1 rfl) rfl rfl ?_
      refine T.y (fun w hw => (by first | exact Yl.ldC hw na_56 rfl mM | exact Yl.ldR sC na_56 rfl (by assumption) | exact Yl.ldV hw na_56 rfl mM rfl)) rfl rfl ?_
      refine T.y (fun w hw => Yl.len Try.underlying56 rfl) rfl rfl ?_
      refine T.y (fun w hw => Yl.conv Try.underlying3 Try.underlying5 rfl (cv_u8 (by omega))) rfl rfl ?_
      refine T.o (OpW.bsl (sz := 1) rfl bsl_23_1 rfl rfl) rfl rfl (fun b85 _ => ?_)
      refine T.o (OpW.appB (ys := [(t.puts.length : Int)]) rfl rfl pK (fun w hw => hw.row (xs := nums .u8 [(t.puts.length : Int)]) mM) (by rw [List.length_append, List.length_append, stepsTo_length, headL_length, countsTo_length]; simp; omega)) rfl rfl (fun ⟨A86, c86⟩ _ => ?_)
      dsimp only
      refine T.y (fun w hw => Yl.assign rfl) rfl rfl ?_
      refine T.nil ?_
      refine J.sel (.cons 1 rfl (.cons 2 rfl (.cons 6 rfl (.cons 7 rfl (.cons 10 rfl .nil))))) ?_
      refine X.then_ ?_
      refine T.seq ?_
      -- region 17 (txn.go:565)
      refine T.region ?_
      refine T.y (fun w hw => Yl.assign rfl) rfl rfl ?_
      refine T.nil ?_
      refine X.then_ ?_
      refine T.block ?_
      refine T.loop (α := Nat × Option Addr × Nat) (fun u => u.1 ≤ t.puts.length) (fun u => [(6, .slice u.2.1 (rowsT ep b.num (b.txs.take i) ++ rowsP ep b.num (t.puts.take u.1)).length u.2.2), (11, .int .i64 (u.1 : Int)), (1, .int .i64 ep), (2, ptr b2 0), (7, .slice A86 ((headL b.txs ++ stepsTo b.txs b.txs.length ++ countsTo b.txs i) ++ [(t.puts.length : Int)]).length c86), (10, .int .i64 (i : Int))]) (fun u => rowsH u.2.1 u.2.2 (rowsT ep b.num (b.txs.take i) ++ rowsP ep b.num (t.puts.take u.1)) :: rowH 5 1 A86 c86 ((headL b.txs ++ stepsTo b.txs b.txs.length ++ countsTo b.txs i) ++ [(t.puts.length : Int)]).length (nums .u8 ((headL b.txs ++ stepsTo b.txs b.txs.length ++ countsTo b.txs i) ++ [(t.puts.length : Int)])) :: pt b2 55 [.int .i64 b.num, .slice A b.txs.length c] :: M) (fun u => cellsK A (i * 2) [.int .i64 t.time, .slice At t.puts.length ct] :: viewK 2 putE At ct t.puts :: K) (fun u => t.puts.length - u.1) (0, A6, c6) (Nat.zero_le _) (.eqv 6 rfl (by rw [show rowsP ep b.num (t.puts.take 0) = [] from rfl, List.append_nil]) (.num 11 rfl rfl (.cons 1 rfl (.cons 2 rfl (.cons 7 rfl (.cons 10 rfl .nil)))))) (fun w hw => by dsimp only; rw [show rowsP ep b.num (t.puts.take 0) = [] from rfl, List.append_nil]; exact hw.f) ?_
      intro ⟨k, A5, c5⟩ hk Zk hz2
      dsimp only at hk hz2 ⊢
      refine T.seq ?_
      refine T.seq ?_
      -- region 18 (txn.go:565)
      refine T.region ?_
      refine T.y (fun w hw => Yl.move rfl) rfl rfl ?_
      refine T.y (fun w hw => Yl.fa fa_55_1 rfl) rfl rfl ?_
      refine T.y (fun w hw => Yl.ldP hw na_53 rfl mM rfl) rfl rfl ?_
      refine T.y (fun w hw => Yl.move rfl) rfl rfl ?_
      refine T.y (fun w hw => (by first | exact Yl.iaV hw mM Try.underlying53 isz_58 rfl rfl rfl (by omega) | exact Yl.ia Try.underlying53 isz_58 rfl rfl rfl (by omega) sC)) rfl rfl ?_
      refine T.y (fun w hw => Yl.fae fa_58_1 rfl) rfl rfl ?_
      refine T.y (fun w hw => (by first | exact Yl.ldC hw na_56 rfl mM | exact Yl.ldR sC na_56 rfl (by assumption) | exact Yl.ldV hw na_56 rfl mM rfl)) rfl rfl ?_
      refine T.y (fun w hw => Yl.len Try.underlying56 rfl) rfl rfl ?_
      refine T.y (fun w hw => Yl.lss rfl rfl) rfl rfl ?_
      refine T.nil ?_
      refine J.sel (.cons 1 rfl (.cons 2 rfl (.cons 6 rfl (.cons 7 rfl (.cons 10 rfl (.cons 11 rfl (.cons 95 rfl .nil))))))) ?_
      refine X.then_ ?_
      refine T.condD rfl (fun h95 => ?_) (fun h95 => ?_)
      ·skip
       refine T.skip ?_
       refine X.then_ ?_
       refine T.seq ?_
       refine T.block ?_
       refine T.seq ?_
       obtain ⟨p, htp⟩ : ∃ p, t.puts[k]? = some p := ⟨_, List.getElem?_eq_getElem (by omega)⟩
       refine J.open_ (fun w hw => hw.put_at mM htp) ?_
       rintro ⟨Ap, cp⟩ -
       dsimp only
       -- region 20 (txn.go:566)
       refine Dr.start0 [] ?_
       refine Dr.take 0 rfl (by kernel_rfl) bL sS (fun w hs => have hw := hs.h; Yl.move rfl) rfl rfl ?_
       refine Dr.take 1 rfl (by kernel_rfl) bL sS (fun w hs => have hw := hs.h; Yl.fa fa_55_0 rfl) rfl rfl ?_
       refine Dr.take 2 rfl (by kernel_rfl) bL sS (fun w hs => have hw := hs.h; Yl.ldP hw na_3 rfl mM rfl) rfl rfl ?_
       refine Dr.take 3 rfl (by kernel_rfl) bL sS (fun w hs => have hw := hs.h; Yl.fa fa_55_1 rfl) rfl rfl ?_
       refine Dr.take 4 rfl (by kernel_rfl) bL sS (fun w hs => have hw := hs.h; Yl.ldP hw na_53 rfl mM rfl) rfl rfl ?_
       refine Dr.take 5 rfl (by kernel_rfl) bL sS (fun w hs => have hw := hs.h; Yl.move rfl) rfl rfl ?_
       refine Dr.take 6 rfl (by kernel_rfl) bL sS (fun w hs => have hw := hs.h; (by first | exact Yl.iaV hw mM Try.underlying53 isz_58 rfl rfl rfl (by omega) | exact Yl.ia Try.underlying53 isz_58 rfl rfl rfl (by omega) sC)) rfl rfl ?_
       refine Dr.take 7 rfl (by kernel_rfl) bL sS (fun w hs => have hw := hs.h; Yl.fae fa_58_1 rfl) rfl rfl ?_
       refine Dr.take 8 rfl (by kernel_rfl) bL sS (fun w hs => have hw := hs.h; (by first | exact Yl.ldC hw na_56 rfl mM | exact Yl.ldR sC na_56 rfl (by assumption) | exact Yl.ldV hw na_56 rfl mM rfl)) rfl rfl ?_
       refine Dr.take 9 rfl (by kernel_rfl) bL sS (fun w hs => have hw := hs.h; Yl.move rfl) rfl rfl ?_
       refine Dr.take 10 rfl (by kernel_rfl) bL sS (fun w hs => have hw := hs.h; (by first | exact Yl.iaV hw mM Try.underlying56 isz_61 rfl rfl rfl (by omega) | exact Yl.ia Try.underlying56 isz_61 rfl rfl rfl (by omega) sC)) rfl rfl ?_
       refine Dr.take 11 rfl (by kernel_rfl) bL sS (fun w hs => have hw := hs.h; Yl.fae fa_61_0 rfl) rfl rfl ?_
       refine Dr.take 12 rfl (by kernel_rfl) bL sS (fun w hs => have hw := hs.h; (by first | exact Yl.ldC hw na_3 rfl mM | exact Yl.ldI hw mM na_3 rfl (by omega) | exact Yl.ldR sC na_3 rfl (by assumption) | exact Yl.ldV hw na_3 rfl mM rfl)) rfl rfl ?_
       refine Dr.take 13 rfl (by kernel_rfl) bL sS (fun w hs => have hw := hs.h; Yl.fa fa_55_1 rfl) rfl rfl ?_
       refine Dr.take 14 rfl (by kernel_rfl) bL sS (fun w hs => have hw := hs.h; Yl.ldP hw na_53 rfl mM rfl) rfl rfl ?_
       refine Dr.take 15 rfl (by kernel_rfl) bL sS (fun w hs => have hw := hs.h; Yl.move rfl) rfl rfl ?_
       refine Dr.take 16 rfl (by kernel_rfl) bL sS (fun w hs => have hw := hs.h; (by first | exact Yl.iaV hw mM Try.underlying53 isz_58 rfl rfl rfl (by omega) | exact Yl.ia Try.underlying53 isz_58 rfl rfl rfl (by omega) sC)) rfl rfl ?_
       refine Dr.take 17 rfl (by kernel_rfl) bL sS (fun w hs => have hw := hs.h; Yl.fae fa_58_1 rfl) rfl rfl ?_
       refine Dr.take 18 rfl (by kernel_rfl) bL sS (fun w hs => have hw := hs.h; (by first | exact Yl.ldC hw na_56 rfl mM | exact Yl.ldR sC na_56 rfl (by assumption) | exact Yl.ldV hw na_56 rfl mM rfl)) rfl rfl ?_
       refine Dr.take 19 rfl (by kernel_rfl) bL sS (fun w hs => have hw := hs.h; Yl.move rfl) rfl rfl ?_
       refine Dr.take 20 rfl (by kernel_rfl) bL sS (fun w hs => have hw := hs.h; (by first | exact Yl.iaV hw mM Try.underlying56 isz_61 rfl rfl rfl (by omega) | exact Yl.ia Try.underlying56 isz_61 rfl rfl rfl (by omega) sC)) rfl rfl ?_
       refine Dr.take 21 rfl (by kernel_rfl) bL sS (fun w hs => have hw := hs.h; Yl.fae fa_61_1 rfl) rfl rfl ?_
       refine Dr.take 22 rfl (by kernel_rfl) bL sS (fun w hs => have hw := hs.h; (by first | exact Yl.ldC hw na_23 rfl mM | exact Yl.ldR sC na_23 rfl (by assumption) | exact Yl.ldV hw na_23 rfl mM rfl)) rfl rfl ?_
       refine Dr.take 23 rfl (by kernel_rfl) bL sS (fun w hs => have hw := hs.h; Yl.build rfl (bld_31_0_1_2_3_4 _)) rfl rfl ?_
       refine Dr.act 24 rfl (by kernel_rfl) rfl (OpW.call en_47 rfl (encode60_ct ⟨1, ep, b.num, p.lba, p.data⟩ (data_err hcan (may_put hm htt (List.mem_of_getElem? htp))) rfl mM)) rfl rfl (fun _ _ _ => sS) (fun ⟨A98, c98⟩ _ => ?_)
       dsimp only
       refine Dr.take 25 rfl (by kernel_rfl) bL sS (fun w hs => have hw := hs.h; Yl.move rfl) rfl rfl ?_
       refine Dr.take 26 rfl (by kernel_rfl) bL sS (fun w hs => have hw := hs.h; Yl.extract rfl rfl) rfl rfl ?_
       refine Dr.take 27 rfl (by kernel_rfl) bL sS (fun w hs => have hw := hs.h; Yl.extract rfl rfl) rfl rfl ?_
       refine Dr.take 28 rfl (by kernel_rfl) bL sS (fun w hs => have hw := hs.h; Yl.assign rfl) rfl rfl ?_
       refine Dr.take 29 rfl (by kernel_rfl) bL sS (fun w hs => have hw := hs.h; Yl.assign rfl) rfl rfl ?_
       refine Dr.done (by kernel_rfl) ?_
       refine J.sel (.cons 1 rfl (.cons 2 rfl (.cons 6 rfl (.cons 7 rfl (.cons 10 rfl (.cons 11 rfl (.cons 12 rfl .nil))))))) ?_
       refine X.then_ ?_
       -- region 21 (txn.go:567)
       refine T.region ?_
       refine T.y (fun w hw => Yl.move rfl) rfl rfl ?_
       refine T.y (fun w hw => Yl.move rfl) rfl rfl ?_
       refine T.o (OpW.bsl (sz := 1) rfl bsl_62_1 rfl rfl) rfl rfl (fun b128 _ => ?_)
       refine T.o (OpW.appR inf_23 Try.underlying62 rfl rfl mM mM pK (by rw [List.length_append, rowsT_length]; have := sumP_take_le b.txs i; simp [rowsP]; omega)) rfl rfl (fun ⟨A129, c129⟩ _ => ?_)
       dsimp only
       refine T.y (fun w hw => Yl.assign rfl) rfl rfl ?_
       refine T.nil ?_
       refine J.sel (.cons 1 rfl (.cons 2 rfl (.cons 6 rfl (.cons 7 rfl (.cons 10 rfl (.cons 11 rfl .nil)))))) ?_
       refine X.nm_blk ?_
       refine X.then_ ?_
       -- region 19 (txn.go:565)
       refine T.region ?_
       refine T.y (fun w hw => Yl.move rfl) rfl rfl ?_
       refine T.y (fun w hw => Yl.add rfl rfl (by omega)) rfl rfl ?_
       refine T.y (fun w hw => Yl.assign rfl) rfl rfl ?_
       refine T.nil ?_
       refine J.sel (.cons 1 rfl (.cons 2 rfl (.cons 6 rfl (.cons 7 rfl (.cons 10 rfl (.cons 11 rfl .nil)))))) ?_
       refine X.go (hz2 (k + 1, A129, c129) (by dsimp only; omega) (by dsimp only; omega)) (.eqv 6 rfl (by rw [← rowsP_take htp, List.append_assoc]; rfl) (.num 11 rfl (by omega) (.cons 1 rfl (.cons 2 rfl (.cons 7 rfl (.cons 10 rfl .nil)))))) (fun w hw => ?_)
       dsimp only
       rw [← rowsP_take htp, ← List.append_assoc]
       exact hw.f
      ·skip
       refine T.exit ?_
       refine X.exit_then ?_
       refine X.exit_then ?_
       refine X.exit_blk ?_
       refine X.nm_blk ?_
       refine X.then_ ?_
       -- region 15 (txn.go:563)
       refine T.region ?_
       refine T.y (fun w hw => Yl.move rfl) rfl rfl ?_
       refine T.y (fun w hw => Yl.add rfl rfl (by omega)) rfl rfl ?_
       refine T.y (fun w hw => Yl.assign rfl) rfl rfl ?_
       refine T.nil ?_
       refine J.sel (.cons 1 rfl (.cons 2 rfl (.cons 6 rfl (.cons 7 rfl (.cons 10 rfl .nil))))) ?_
       have hkt : k = t.puts.length := by omega
       subst hkt
       rw [List.take_length]
       refine X.go (hzq (i + 1, A5, c5, A86, c86) (by dsimp only; omega) (by dsimp only; omega)) (.eqv 6 rfl (by rw [← rowsT_take htt]) (.eqv 7 rfl (by rw [← hcd]) (.num 10 rfl (by omega) (.cons 1 rfl (.cons 2 rfl .nil))))) (fun w hw => ?_)
       dsimp only
       rw [← hcd, ← rowsT_take htt]
       exact hw.f
     ·skip
      refine T.exit ?_
      refine X.exit_then ?_
      refine X.exit_then ?_
      refine X.exit_blk ?_
      refine X.then_ ?_
      refine T.seq ?_
      have hie : i = b.txs.length := by omega
      subst hie
      rw [List.take_length]
      refine J.ent (fun w hw => Hold.row_bytes (A := A7) (c := c7) (xs := bodyB b.txs) (hw.pick pK) (isB_append (isB_append (headL_b hm) (stepsTo_b hm (Nat.le_refl _))) (countsTo_b hm (Nat.le_refl _)))) ?_
      -- region 22 (txn.go:570)
      refine T.region ?_
      refine T.y (fun w hw => Yl.move rfl) rfl rfl ?_
      refine T.y (fun w hw => Yl.fa fa_55_0 rfl) rfl rfl ?_
      refine T.y (fun w hw => Yl.ldP hw na_3 rfl mM rfl) rfl rfl ?_
      refine T.y (fun w hw => Yl.move rfl) rfl rfl ?_
      refine T.y (fun w hw => Yl.len Try.underlying62 rfl) rfl rfl ?_
      refine T.y (fun w hw => Yl.move rfl) rfl rfl ?_
      refine T.y (fun w hw => Yl.build rfl (bld_31_0_1_2_3_4 _)) rfl rfl ?_
      refine T.o (OpW.call en_47 rfl (encode60_ct (lastRow b ep) (last_err hcan) rfl mM)) rfl rfl (fun ⟨A138, c138⟩ _ => ?_)
      dsimp only
      refine T.y (fun w hw => Yl.move rfl) rfl rfl ?_
      refine T.y (fun w hw => Yl.extract rfl rfl) rfl rfl ?_
      refine T.y (fun w hw => Yl.extract rfl rfl) rfl rfl ?_
      refine T.y (fun w hw => Yl.assign rfl) rfl rfl ?_
      refine T.y (fun w hw => Yl.assign rfl) rfl rfl ?_
      refine T.nil ?_
      refine J.sel (.cons 6 rfl (.cons 14 rfl .nil)) ?_
      refine X.then_ ?_
      refine T.seq ?_
      -- region 23 (txn.go:571)
      refine T.region ?_
      refine T.y (fun w hw => Yl.move rfl) rfl rfl ?_
      refine T.y (fun w hw => Yl.move rfl) rfl rfl ?_
      refine T.o (OpW.bsl (sz := 1) rfl bsl_62_1 rfl rfl) rfl rfl (fun b143 _ => ?_)
      refine T.o (OpW.appR inf_23 Try.underlying62 rfl rfl mM mM pK (by rw [rowsT_length]; omega)) rfl rfl (fun ⟨A144, c144⟩ _ => ?_)
      dsimp only
      refine T.y (fun w hw => Yl.assign rfl) rfl rfl ?_
      refine T.y (fun w hw => Yl.assign rfl) rfl rfl ?_
      refine T.nil ?_
      refine J.sel (.cons 4 rfl (.cons 5 rfl .nil)) ?_
      refine X.then_ ?_
      refine T.ret ?_
      refine X.ret2 Try.results121 rfl rfl (fun w hw => ?_)
      rw [encR_yes hcan, encE_yes hcan]
      exact ⟨(A144, c144), trivial, rfl, (by have hw := Hold.rows_freeze (hw.pick (p := rowsH A144 c144 (encB b ep)) pK); exact hw.f)⟩

end Go.Proofs.Ytfpnodboebpemaa
