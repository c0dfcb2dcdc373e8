/- The contracts of slot.Room, Dead, Load, Save. -/
import Derived.Test.YtfpnodboebpemaaSltM
import Derived.Test.YtfpnodboebpemaaCvb
namespace Go.Proofs.Ytfpnodboebpemaa
open Go.RowKit Go.Proofs.YtfpnodboebpemaaW.PrintWords
set_option linter.unusedVariables false
set_option linter.unusedSimpArgs false
attribute [local irreducible] pt rowH slK bytesK intsK rowsK rowsH cellK rowsV oldK star exH pureH knowH starL emp devH zoneH zonesH zrest cellsK viewV viewK viewH blkE slotH

section
variable {M : List HP} {K : List KP} {p d b c : Nat} {A B : Option Addr} {t : List Int} {D : Dev} {s : Slt}
theorem wr_ct {a n : Int} (hk : s.ok D) (hD : D.ok) (ha : a = 1 - (s.inn : Int)) (hn : n = (s.count : Int) + 1) (ht : bytesK B b t ∈ K) (htl : t.length ≤ 1000000) :
    Fn 127 [ptr p 0, .int .i64 a, .int .i64 n, .slice B t.length b] (pt p 175 [ptr d 0, .int .i64 s.lo, .int .i64 s.mid, .int .i64 s.hi, .int .i64 D.size, .int .i64 s.inn, .slice A s.text.length c, .int .i64 s.count, .bool s.off] :: devH d D :: M) K (fun _ : Unit => True) (fun _ => .int .i64 (s.wr D t).2) (fun _ => pt p 175 [ptr d 0, .int .i64 s.lo, .int .i64 s.mid, .int .i64 s.hi, .int .i64 D.size, .int .i64 s.inn, .slice A s.text.length c, .int .i64 s.count, .bool s.off] :: devH d (s.wr D t).1 :: M) (fun _ => K) := by
  obtain ⟨k1, k2, k3, k4, k5, k6⟩ := hk
  obtain rfl : n = ((s.count + 1 : Nat) : Int) := by push_cast; exact hn
  show Fn 127 _ _ _ _ (fun _ => Value.int .i64 (sltWrite D (fr s.lo s.mid (1 - s.inn)) (fr s.mid s.hi (1 - s.inn)) ((s.count + 1 : Nat) : Int) t).2) (fun _ => _ :: devH d (sltWrite D (fr s.lo s.mid (1 - s.inn)) (fr s.mid s.hi (1 - s.inn)) ((s.count + 1 : Nat) : Int) t).1 :: M) _
  exact writeI_ct (i := 1 - s.inn) hD (by omega) (by omega) k3 (by omega) (by omega) ⟨by omega, by omega⟩ ht htl
end

set_option maxHeartbeats 2000000 in
theorem room_ct {M : List HP} {K : List KP} {p d S : Nat} {D : Dev} {s : Slt} (hk : s.ok D) (hD : D.ok) (hS : D.size = S) : Fn 76 [ptr p 0] (slotH p d S s :: M) K (fun _ : Unit => True) (fun _ => .int .i64 (s.room S)) (fun _ => slotH p d S s :: M) (fun _ => K) := by
 refine Fn.of (n := 44) Try.func76 rfl Try.ntmps76 rfl ?_
 have hz64 := hD.zones
 have hs192 := hD.size
 obtain ⟨k1, k2, k3, k4, k5, k6⟩ := hk
 obtain ⟨lo, mid, hi, inn, text, count, off⟩ := s
 dsimp only at k1 k2 k3 k4 k5 k6
 refine J.open_ (fun w hw => hw.slotO) ?_
 rintro ⟨A, c⟩ -
 dsimp only
 unfold sltCells
 dsimp only
 refine T.seq ?_
 -- region 0 (slot.go:95)
 refine T.region ?_
 refine T.y (fun w hw => Yl.assign rfl) rfl rfl ?_
 refine T.nil ?_
 refine J.sel (.cons 0 rfl .nil) ?_
 refine X.then_ ?_
 refine T.seq ?_
 refine T.seq ?_
 -- region 1 (slot.go:96)
 refine T.region ?_
 refine T.y (fun w hw => Yl.move rfl) rfl rfl ?_
 refine T.y (fun w hw => Yl.eqP Try.underlying112 rfl rfl) rfl rfl ?_
 refine T.y (fun w hw => Yl.move rfl) rfl rfl ?_
 refine T.y (fun w hw => Yl.move rfl) rfl rfl ?_
 refine T.y (fun w hw => Yl.nilck rfl) rfl rfl ?_
 refine T.y (fun w hw => Yl.fa fa_175_0 rfl) rfl rfl ?_
 refine T.y (fun w hw => Yl.ldP hw na_38 rfl mM rfl) rfl rfl ?_
 refine T.y (fun w hw => Yl.eqP Try.underlying38 rfl rfl) rfl rfl ?_
 refine T.y (fun w hw => Yl.pickF rfl rfl) rfl rfl ?_
 refine T.nil ?_
 refine J.sel (.cons 0 rfl (.cons 12 rfl .nil)) ?_
 refine X.then_ ?_
 refine T.condF rfl ?_
 refine T.skip ?_
 refine X.then_ ?_
 refine T.seq ?_
 -- region 3 (slot.go:99)
 refine Dr.start0 [] ?_
 refine Dr.take 0 rfl (by kernel_rfl) bL sS (fun w hs => have hw := hs.h; Yl.move rfl) rfl rfl ?_
 refine Dr.take 1 rfl (by kernel_rfl) bL sS (fun w hs => have hw := hs.h; Yl.nilck rfl) rfl rfl ?_
 refine Dr.take 2 rfl (by kernel_rfl) bL sS (fun w hs => have hw := hs.h; Yl.fa fa_175_1 rfl) rfl rfl ?_
 refine Dr.take 3 rfl (by kernel_rfl) bL sS (fun w hs => have hw := hs.h; Yl.iaA (i := 1) Try.underlying173 sz_3 rfl rfl rfl (by decide)) rfl rfl ?_
 refine Dr.take 4 rfl (by kernel_rfl) bL sS (fun w hs => have hw := hs.h; Yl.ldP hw na_3 rfl mM rfl) rfl rfl ?_
 refine Dr.take 5 rfl (by kernel_rfl) bL sS (fun w hs => have hw := hs.h; Yl.move rfl) rfl rfl ?_
 refine Dr.take 6 rfl (by kernel_rfl) bL sS (fun w hs => have hw := hs.h; Yl.nilck rfl) rfl rfl ?_
 refine Dr.take 7 rfl (by kernel_rfl) bL sS (fun w hs => have hw := hs.h; Yl.fa fa_175_1 rfl) rfl rfl ?_
 refine Dr.take 8 rfl (by kernel_rfl) bL sS (fun w hs => have hw := hs.h; Yl.iaA (i := 0) Try.underlying173 sz_3 rfl rfl rfl (by decide)) rfl rfl ?_
 refine Dr.take 9 rfl (by kernel_rfl) bL sS (fun w hs => have hw := hs.h; Yl.ldP hw na_3 rfl mM rfl) rfl rfl ?_
 refine Dr.take 10 rfl (by kernel_rfl) bL sS (fun w hs => have hw := hs.h; Yl.sub rfl rfl (by omega)) rfl rfl ?_
 refine Dr.take 11 rfl (by kernel_rfl) bL sS (fun w hs => have hw := hs.h; Yl.move rfl) rfl rfl ?_
 refine Dr.take 12 rfl (by kernel_rfl) bL sS (fun w hs => have hw := hs.h; Yl.nilck rfl) rfl rfl ?_
 refine Dr.take 13 rfl (by kernel_rfl) bL sS (fun w hs => have hw := hs.h; Yl.fa fa_175_1 rfl) rfl rfl ?_
 refine Dr.take 14 rfl (by kernel_rfl) bL sS (fun w hs => have hw := hs.h; Yl.iaA (i := 2) Try.underlying173 sz_3 rfl rfl rfl (by decide)) rfl rfl ?_
 refine Dr.take 15 rfl (by kernel_rfl) bL sS (fun w hs => have hw := hs.h; Yl.ldP hw na_3 rfl mM rfl) rfl rfl ?_
 refine Dr.take 16 rfl (by kernel_rfl) bL sS (fun w hs => have hw := hs.h; Yl.move rfl) rfl rfl ?_
 refine Dr.take 17 rfl (by kernel_rfl) bL sS (fun w hs => have hw := hs.h; Yl.nilck rfl) rfl rfl ?_
 refine Dr.take 18 rfl (by kernel_rfl) bL sS (fun w hs => have hw := hs.h; Yl.fa fa_175_1 rfl) rfl rfl ?_
 refine Dr.take 19 rfl (by kernel_rfl) bL sS (fun w hs => have hw := hs.h; Yl.iaA (i := 1) Try.underlying173 sz_3 rfl rfl rfl (by decide)) rfl rfl ?_
 refine Dr.take 20 rfl (by kernel_rfl) bL sS (fun w hs => have hw := hs.h; Yl.ldP hw na_3 rfl mM rfl) rfl rfl ?_
 refine Dr.take 21 rfl (by kernel_rfl) bL sS (fun w hs => have hw := hs.h; Yl.sub rfl rfl (by omega)) rfl rfl ?_
 refine Dr.take 22 rfl (by kernel_rfl) bL sS (fun w hs => have hw := hs.h; Yl.min rfl rfl) rfl rfl ?_
 refine Dr.take 23 rfl (by kernel_rfl) bL sS (fun w hs => have hw := hs.h; Yl.assign rfl) rfl rfl ?_
 refine Dr.done (by kernel_rfl) ?_
 refine J.sel (.cons 0 rfl (.cons 3 rfl .nil)) ?_
 refine X.then_ ?_
 refine T.seq ?_
 obtain ⟨m, hm⟩ : ∃ m : Nat, m = min (mid - lo) (hi - mid) := ⟨_, rfl⟩
 have hm2 : (if (hi : Int) - (mid : Int) < (mid : Int) - (lo : Int) then (hi : Int) - (mid : Int) else (mid : Int) - (lo : Int)) = (m : Int) := by split <;> omega
 have hmS : m * S ≤ 64 * 192 := Nat.mul_le_mul (by omega) (by omega)
 have hmS2 : (m : Int) * (S : Int) = ((m * S : Nat) : Int) := by push_cast; rfl
 rw [hm2]
 -- region 4 (slot.go:100)
 refine T.region ?_
 refine T.y (fun w hw => Yl.move rfl) rfl rfl ?_
 refine T.y (fun w hw => Yl.move rfl) rfl rfl ?_
 refine T.y (fun w hw => Yl.nilck rfl) rfl rfl ?_
 refine T.y (fun w hw => Yl.fa fa_175_2 rfl) rfl rfl ?_
 refine T.y (fun w hw => Yl.ldP hw na_3 rfl mM rfl) rfl rfl ?_
 refine T.y (fun w hw => Yl.mul rfl rfl (by omega)) rfl rfl ?_
 refine T.y (fun w hw => Yl.sub rfl rfl (by omega)) rfl rfl ?_
 refine T.y (fun w hw => Yl.mul rfl rfl (by omega)) rfl rfl ?_
 refine T.y (fun w hw => Yl.assign rfl) rfl rfl ?_
 refine T.nil ?_
 refine J.sel (.cons 2 rfl .nil) ?_
 refine X.then_ ?_
 refine T.ret ?_
 refine X.ret1 Try.results76 rfl (fun w hw => ?_)
 refine ⟨(), trivial, ?_, by have hw := Hold.slotC (s := ⟨lo, mid, hi, inn, text, count, off⟩) (hw.pick (p := pt p 175 [ptr d 0, .int .i64 lo, .int .i64 mid, .int .i64 hi, .int .i64 S, .int .i64 inn, .slice A text.length c, .int .i64 count, .bool off]) pK) mM; exact hw.f⟩
 show _ = Value.int .i64 (40 * (((min (mid - lo) (hi - mid) : Nat) : Int) * (S : Int) - 2))
 rw [← hm]

set_option maxHeartbeats 2000000 in
theorem roomN_ct {M : List HP} {K : List KP} : Fn 76 [.pointer none] M K (fun _ : Unit => True) (fun _ => .int .i64 0) (fun _ => M) (fun _ => K) := by
 refine Fn.of (n := 44) Try.func76 rfl Try.ntmps76 rfl ?_
 refine T.seq ?_
 -- region 0 (slot.go:95)
 refine T.region ?_
 refine T.y (fun w hw => Yl.assign rfl) rfl rfl ?_
 refine T.nil ?_
 refine J.sel (.cons 0 rfl .nil) ?_
 refine X.then_ ?_
 refine T.seq ?_
 refine T.seq ?_
 -- region 1 (slot.go:96)
 refine T.region ?_
 refine T.y (fun w hw => Yl.move rfl) rfl rfl ?_
 refine T.y (fun w hw => Yl.eqP Try.underlying112 rfl rfl) rfl rfl ?_
 refine T.y (fun w hw => Yl.move rfl) rfl rfl ?_
 refine T.off rfl rfl rfl ?_
 refine T.off rfl rfl rfl ?_
 refine T.off rfl rfl rfl ?_
 refine T.off rfl rfl rfl ?_
 refine T.off rfl rfl rfl ?_
 refine T.y (fun w hw => Yl.pickT rfl rfl) rfl rfl ?_
 refine T.nil ?_
 refine J.sel (.cons 0 rfl (.cons 12 rfl .nil)) ?_
 refine X.then_ ?_
 refine T.condT rfl ?_
 refine T.seq ?_
 -- region 2 (slot.go:97)
 refine T.region ?_
 refine T.y (fun w hw => Yl.assign rfl) rfl rfl ?_
 refine T.nil ?_
 refine J.sel (.cons 2 rfl .nil) ?_
 refine X.then_ ?_
 refine T.ret ?_
 refine X.ret_then ?_
 refine X.ret1 Try.results76 rfl (fun w hw => ?_)
 exact ⟨(), trivial, rfl, hw.f⟩

set_option maxHeartbeats 2000000 in
theorem dead_ct {M : List HP} {K : List KP} {p d S : Nat} {s : Slt} : Fn 79 [ptr p 0] (slotH p d S s :: M) K (fun _ : Unit => True) (fun _ => .bool s.off) (fun _ => slotH p d S s :: M) (fun _ => K) := by
 refine Fn.of (n := 18) Try.func79 rfl Try.ntmps79 rfl ?_
 refine J.open_ (fun w hw => hw.slotO) ?_
 rintro ⟨A, c⟩ -
 dsimp only
 unfold sltCells
 refine T.seq ?_
 -- region 0 (slot.go:154)
 refine T.region ?_
 refine T.y (fun w hw => Yl.assign rfl) rfl rfl ?_
 refine T.nil ?_
 refine J.sel (.cons 0 rfl .nil) ?_
 refine X.then_ ?_
 refine T.seq ?_
 -- region 1 (slot.go:154)
 refine T.region ?_
 refine T.y (fun w hw => Yl.move rfl) rfl rfl ?_
 refine T.y (fun w hw => Yl.eqP Try.underlying112 rfl rfl) rfl rfl ?_
 refine T.y (fun w hw => Yl.move rfl) rfl rfl ?_
 refine T.y (fun w hw => Yl.move rfl) rfl rfl ?_
 refine T.y (fun w hw => Yl.nilck rfl) rfl rfl ?_
 refine T.y (fun w hw => Yl.fa fa_175_0 rfl) rfl rfl ?_
 refine T.y (fun w hw => Yl.ldP hw na_38 rfl mM rfl) rfl rfl ?_
 refine T.y (fun w hw => Yl.eqP Try.underlying38 rfl rfl) rfl rfl ?_
 refine T.y (fun w hw => Yl.pickF rfl rfl) rfl rfl ?_
 refine T.y (fun w hw => Yl.move rfl) rfl rfl ?_
 refine T.y (fun w hw => Yl.move rfl) rfl rfl ?_
 refine T.y (fun w hw => Yl.nilck rfl) rfl rfl ?_
 refine T.y (fun w hw => Yl.fa fa_175_6 rfl) rfl rfl ?_
 refine T.y (fun w hw => Yl.ldP hw na_4 rfl mM rfl) rfl rfl ?_
 refine T.y (fun w hw => Yl.pickF rfl rfl) rfl rfl ?_
 refine T.y (fun w hw => Yl.assign rfl) rfl rfl ?_
 refine T.nil ?_
 refine J.sel (.cons 2 rfl .nil) ?_
 refine X.then_ ?_
 refine T.ret ?_
 refine X.ret1 Try.results79 rfl (fun w hw => ?_)
 exact ⟨(), trivial, rfl, by have hw := Hold.slotC (s := s) (hw.pick (p := pt p 175 [ptr d 0, .int .i64 s.lo, .int .i64 s.mid, .int .i64 s.hi, .int .i64 S, .int .i64 s.inn, .slice A s.text.length c, .int .i64 s.count, .bool s.off]) pK) mM; exact hw.f⟩

set_option maxHeartbeats 2000000 in
theorem deadN_ct {M : List HP} {K : List KP} : Fn 79 [.pointer none] M K (fun _ : Unit => True) (fun _ => .bool true) (fun _ => M) (fun _ => K) := by
 refine Fn.of (n := 18) Try.func79 rfl Try.ntmps79 rfl ?_
 refine T.seq ?_
 -- region 0 (slot.go:154)
 refine T.region ?_
 refine T.y (fun w hw => Yl.assign rfl) rfl rfl ?_
 refine T.nil ?_
 refine J.sel (.cons 0 rfl .nil) ?_
 refine X.then_ ?_
 refine T.seq ?_
 -- region 1 (slot.go:154)
 refine T.region ?_
 refine T.y (fun w hw => Yl.move rfl) rfl rfl ?_
 refine T.y (fun w hw => Yl.eqP Try.underlying112 rfl rfl) rfl rfl ?_
 refine T.y (fun w hw => Yl.move rfl) rfl rfl ?_
 refine T.off rfl rfl rfl ?_
 refine T.off rfl rfl rfl ?_
 refine T.off rfl rfl rfl ?_
 refine T.off rfl rfl rfl ?_
 refine T.off rfl rfl rfl ?_
 refine T.y (fun w hw => Yl.pickT rfl rfl) rfl rfl ?_
 refine T.y (fun w hw => Yl.move rfl) rfl rfl ?_
 refine T.off rfl rfl rfl ?_
 refine T.off rfl rfl rfl ?_
 refine T.off rfl rfl rfl ?_
 refine T.off rfl rfl rfl ?_
 refine T.y (fun w hw => Yl.pickT rfl rfl) rfl rfl ?_
 refine T.y (fun w hw => Yl.assign rfl) rfl rfl ?_
 refine T.nil ?_
 refine J.sel (.cons 2 rfl .nil) ?_
 refine X.then_ ?_
 refine T.ret ?_
 refine X.ret1 Try.results79 rfl (fun w hw => ?_)
 exact ⟨(), trivial, rfl, hw.f⟩

set_option maxHeartbeats 2000000 in
theorem load_ct {M : List HP} {K : List KP} {p d S : Nat} {s : Slt} (hl : s.text.length ≤ 1000000) : Fn 78 [ptr p 0] (slotH p d S s :: M) K (fun _ : Option Addr × Nat => True) (fun x => .tuple [.slice x.1 s.text.length x.2, .int .i64 s.count].toArray) (fun _ => slotH p d S s :: M) (fun x => bytesK x.1 x.2 s.text :: K) := by
 refine Fn.of (n := 15) Try.func78 rfl Try.ntmps78 rfl ?_
 refine J.open_ (fun w hw => hw.slotO) ?_
 rintro ⟨A, c⟩ -
 dsimp only
 unfold sltCells
 refine T.seq ?_
 -- region 0 (slot.go:146)
 refine T.region ?_
 refine T.y (fun w hw => Yl.assign rfl) rfl rfl ?_
 refine T.y (fun w hw => Yl.assign rfl) rfl rfl ?_
 refine T.nil ?_
 refine J.sel (.cons 0 rfl .nil) ?_
 refine X.then_ ?_
 refine T.seq ?_
 refine T.seq ?_
 -- region 1 (slot.go:147)
 refine T.region ?_
 refine T.y (fun w hw => Yl.move rfl) rfl rfl ?_
 refine T.y (fun w hw => Yl.eqP Try.underlying112 rfl rfl) rfl rfl ?_
 refine T.nil ?_
 refine J.sel (.cons 0 rfl (.cons 5 rfl .nil)) ?_
 refine X.then_ ?_
 refine T.condF rfl ?_
 refine T.skip ?_
 refine X.then_ ?_
 refine T.seq ?_
 -- region 3 (slot.go:150)
 refine Dr.start0 [] ?_
 refine Dr.take 0 rfl (by kernel_rfl) bL sS (fun w hs => have hw := hs.h; Yl.move rfl) rfl rfl ?_
 refine Dr.take 1 rfl (by kernel_rfl) bL sS (fun w hs => have hw := hs.h; Yl.nilck rfl) rfl rfl ?_
 refine Dr.take 2 rfl (by kernel_rfl) bL sS (fun w hs => have hw := hs.h; Yl.fa fa_175_4 rfl) rfl rfl ?_
 refine Dr.take 3 rfl (by kernel_rfl) bL sS (fun w hs => have hw := hs.h; Yl.ldP hw na_23 rfl mM rfl) rfl rfl ?_
 refine Dr.take 5 rfl (by kernel_rfl) bL sS (fun w hs => have hw := hs.h; Yl.move rfl) rfl rfl ?_
 refine Dr.take 6 rfl (by kernel_rfl) bL sS (fun w hs => have hw := hs.h; Yl.nilck rfl) rfl rfl ?_
 refine Dr.take 7 rfl (by kernel_rfl) bL sS (fun w hs => have hw := hs.h; Yl.fa fa_175_5 rfl) rfl rfl ?_
 refine Dr.take 8 rfl (by kernel_rfl) bL sS (fun w hs => have hw := hs.h; Yl.ldP hw na_3 rfl mM rfl) rfl rfl ?_
 refine Dr.act 4 rfl (by kernel_rfl) rfl (OpW.call en_91 rfl (clone_ct mM hl)) rfl rfl (fun _ _ _ => sS) (fun ⟨A10, c10⟩ _ => ?_)
 dsimp only
 refine Dr.take 9 rfl (by kernel_rfl) bL sS (fun w hs => have hw := hs.h; Yl.assign rfl) rfl rfl ?_
 refine Dr.take 10 rfl (by kernel_rfl) bL sS (fun w hs => have hw := hs.h; Yl.assign rfl) rfl rfl ?_
 refine Dr.done (by kernel_rfl) ?_
 refine J.sel (.cons 2 rfl (.cons 3 rfl .nil)) ?_
 refine X.then_ ?_
 refine T.ret ?_
 refine X.ret2 Try.results78 rfl rfl (fun w hw => ?_)
 exact ⟨(A10, c10), trivial, rfl, by have hw := Hold.slotC (s := s) (hw.pick (p := pt p 175 [ptr d 0, .int .i64 s.lo, .int .i64 s.mid, .int .i64 s.hi, .int .i64 S, .int .i64 s.inn, .slice A s.text.length c, .int .i64 s.count, .bool s.off]) pK) mM; exact hw.f⟩

set_option maxHeartbeats 2000000 in
theorem loadN_ct {M : List HP} {K : List KP} : Fn 78 [.pointer none] M K (fun _ : Unit => True) (fun x => .tuple [.slice none 0 0, .int .i64 0].toArray) (fun _ => M) (fun _ => K) := by
 refine Fn.of (n := 15) Try.func78 rfl Try.ntmps78 rfl ?_
 refine T.seq ?_
 -- region 0 (slot.go:146)
 refine T.region ?_
 refine T.y (fun w hw => Yl.assign rfl) rfl rfl ?_
 refine T.y (fun w hw => Yl.assign rfl) rfl rfl ?_
 refine T.nil ?_
 refine J.sel (.cons 0 rfl .nil) ?_
 refine X.then_ ?_
 refine T.seq ?_
 refine T.seq ?_
 -- region 1 (slot.go:147)
 refine T.region ?_
 refine T.y (fun w hw => Yl.move rfl) rfl rfl ?_
 refine T.y (fun w hw => Yl.eqP Try.underlying112 rfl rfl) rfl rfl ?_
 refine T.nil ?_
 refine J.sel (.cons 0 rfl (.cons 5 rfl .nil)) ?_
 refine X.then_ ?_
 refine T.condT rfl ?_
 refine T.seq ?_
 -- region 2 (slot.go:148)
 refine T.region ?_
 refine T.y (fun w hw => Yl.assign rfl) rfl rfl ?_
 refine T.y (fun w hw => Yl.assign rfl) rfl rfl ?_
 refine T.nil ?_
 refine J.sel (.cons 2 rfl (.cons 3 rfl .nil)) ?_
 refine X.then_ ?_
 refine T.ret ?_
 refine X.ret_then ?_
 refine X.ret2 Try.results78 rfl rfl (fun w hw => ?_)
 exact ⟨(), trivial, rfl, hw.f⟩

set_option maxHeartbeats 2000000 in
theorem save_ct {M : List HP} {K : List KP} {p d b : Nat} {B : Option Addr} {t : List Int} {D : Dev} {s : Slt} (hk : s.ok D) (hc : s.count ≤ 1000000) (hD : D.ok) (ht : bytesK B b t ∈ K) (htl : t.length ≤ 1000000) : Fn 77 [ptr p 0, .slice B t.length b] (slotH p d D.size s :: devH d D :: M) K (fun _ : Unit => True) (fun _ => .int .i64 (s.save D t).2.2) (fun _ => slotH p d D.size (s.save D t).1 :: devH d (s.save D t).2.1 :: M) (fun _ => K) := by
 refine Fn.of (n := 55) Try.func77 rfl Try.ntmps77 rfl ?_
 have hk4 := hk.inn
 have hk6 := hk.count
 refine T.seq ?_
 -- region 0 (slot.go:130)
 refine T.region ?_
 refine T.y (fun w hw => Yl.assign rfl) rfl rfl ?_
 refine T.nil ?_
 refine J.sel (.cons 0 rfl (.cons 1 rfl .nil)) ?_
 refine X.then_ ?_
 refine T.seq ?_
 refine T.block ?_
 refine T.seq ?_
 -- region 1 (slot.go:132)
 refine T.region ?_
 refine T.y (fun w hw => Yl.move rfl) rfl rfl ?_
 refine T.y (fun w hw => Yl.len Try.underlying23 rfl) rfl rfl ?_
 refine T.y (fun w hw => Yl.move rfl) rfl rfl ?_
 refine T.o (OpW.call en_76 rfl (room_ct hk hD rfl)) rfl rfl (fun _ _ => ?_)
 refine T.y (fun w hw => Yl.gtr rfl rfl) rfl rfl ?_
 refine T.y (fun w hw => Yl.assign rfl) rfl rfl ?_
 refine T.nil ?_
 refine J.sel (.cons 0 rfl (.cons 1 rfl (.cons 6 rfl .nil))) ?_
 refine X.then_ ?_
 refine T.condD rfl (fun h6 => ?_) (fun h6 => ?_)
 ·skip
  refine T.seq ?_
  -- region 2 (slot.go:133)
  refine T.region ?_
  refine T.y (fun w hw => Yl.assign rfl) rfl rfl ?_
  refine T.nil ?_
  refine J.sel (.cons 4 rfl .nil) ?_
  refine X.then_ ?_
  refine T.ret ?_
  refine X.ret_blk ?_
  refine X.ret_then ?_
  refine X.ret1 Try.results77 rfl (fun w hw => ?_)
  rw [save_big (show s.room D.size < t.length by omega)]
  exact ⟨(), trivial, rfl, hw.f⟩
 ·skip
  refine T.seq ?_
  -- region 3 (slot.go:134)
  refine T.region ?_
  refine T.y (fun w hw => Yl.move rfl) rfl rfl ?_
  refine T.o (OpW.call en_79 rfl (dead_ct)) rfl rfl (fun _ _ => ?_)
  refine T.y (fun w hw => Yl.assign rfl) rfl rfl ?_
  refine T.nil ?_
  refine J.sel (.cons 0 rfl (.cons 1 rfl (.cons 12 rfl .nil))) ?_
  refine X.then_ ?_
  refine T.cond rfl (fun h12 => ?_) (fun h12 => ?_)
  ·skip
   refine T.seq ?_
   -- region 4 (slot.go:135)
   refine T.region ?_
   refine T.y (fun w hw => Yl.assign rfl) rfl rfl ?_
   refine T.nil ?_
   refine J.sel (.cons 4 rfl .nil) ?_
   refine X.then_ ?_
   refine T.ret ?_
   refine X.ret_blk ?_
   refine X.ret_then ?_
   refine X.ret1 Try.results77 rfl (fun w hw => ?_)
   rw [save_off (by omega) (by assumption)]
   exact ⟨(), trivial, rfl, hw.f⟩
  ·skip
   refine T.skip ?_
   refine X.nm_blk ?_
   refine X.then_ ?_
   refine T.seq ?_
   refine T.seq ?_
   refine J.open_ (fun w hw => hw.slotO) ?_
   rintro ⟨A, c⟩ -
   dsimp only
   unfold sltCells
   -- region 5 (slot.go:137)
   refine Dr.start1 [] (p := devH d D) pK ?_
   refine Dr.take 0 rfl (by kernel_rfl) bL sS (fun w hs => have hw := hs.h; Yl.move rfl) rfl rfl ?_
   refine Dr.take 1 rfl (by kernel_rfl) bL sS (fun w hs => have hw := hs.h; Yl.move rfl) rfl rfl ?_
   refine Dr.take 2 rfl (by kernel_rfl) bL sS (fun w hs => have hw := hs.h; Yl.nilck rfl) rfl rfl ?_
   refine Dr.take 3 rfl (by kernel_rfl) bL sS (fun w hs => have hw := hs.h; Yl.fa fa_175_3 rfl) rfl rfl ?_
   refine Dr.take 4 rfl (by kernel_rfl) bL sS (fun w hs => have hw := hs.h; Yl.ldP hw na_3 rfl mM rfl) rfl rfl ?_
   refine Dr.take 5 rfl (by kernel_rfl) bL sS (fun w hs => have hw := hs.h; Yl.sub rfl rfl (by omega)) rfl rfl ?_
   refine Dr.take 6 rfl (by kernel_rfl) bL sS (fun w hs => have hw := hs.h; Yl.move rfl) rfl rfl ?_
   refine Dr.take 7 rfl (by kernel_rfl) bL sS (fun w hs => have hw := hs.h; Yl.nilck rfl) rfl rfl ?_
   refine Dr.take 8 rfl (by kernel_rfl) bL sS (fun w hs => have hw := hs.h; Yl.fa fa_175_5 rfl) rfl rfl ?_
   refine Dr.take 9 rfl (by kernel_rfl) bL sS (fun w hs => have hw := hs.h; Yl.ldP hw na_3 rfl mM rfl) rfl rfl ?_
   refine Dr.take 10 rfl (by kernel_rfl) bL sS (fun w hs => have hw := hs.h; Yl.add rfl rfl (by omega)) rfl rfl ?_
   refine Dr.take 11 rfl (by kernel_rfl) bL sS (fun w hs => have hw := hs.h; Yl.move rfl) rfl rfl ?_
   refine Dr.act 12 rfl (by kernel_rfl) rfl (OpW.call en_127 rfl (wr_ct hk hD rfl rfl (A := A) (c := c) mM htl)) rfl rfl (fun _ _ _ => sS) (fun _ _ => ?_)
   refine Dr.take 13 rfl (by kernel_rfl) bL sS (fun w hs => have hw := hs.h; Yl.assign rfl) rfl rfl ?_
   refine Dr.done (by kernel_rfl) ?_
   refine J.sel (.cons 0 rfl (.cons 1 rfl (.cons 5 rfl .nil))) ?_
   refine X.then_ ?_
   refine T.seq ?_
   -- region 6 (slot.go:137)
   refine T.region ?_
   refine T.y (fun w hw => Yl.move rfl) rfl rfl ?_
   refine T.y (fun w hw => Yl.neq rfl rfl) rfl rfl ?_
   refine T.nil ?_
   refine J.sel (.cons 0 rfl (.cons 1 rfl (.cons 5 rfl (.cons 29 rfl .nil)))) ?_
   refine X.then_ ?_
   refine T.condD rfl (fun h29 => ?_) (fun h29 => ?_)
   ·skip
    refine T.seq ?_
    -- region 7 (slot.go:138)
    refine T.region ?_
    refine T.y (fun w hw => Yl.move rfl) rfl rfl ?_
    refine T.y (fun w hw => Yl.nilck rfl) rfl rfl ?_
    refine T.y (fun w hw => Yl.fa fa_175_6 rfl) rfl rfl ?_
    refine T.o0 (OpW.st1 sz_4 rfl rfl rfl rfl sW uP) rfl (fun _ _ => ?_)
    refine T.nil ?_
    refine J.sel (.cons 5 rfl .nil) ?_
    refine X.then_ ?_
    refine T.seq ?_
    -- region 8 (slot.go:139)
    refine T.region ?_
    refine T.y (fun w hw => Yl.move rfl) rfl rfl ?_
    refine T.y (fun w hw => Yl.assign rfl) rfl rfl ?_
    refine T.nil ?_
    refine J.sel (.cons 4 rfl .nil) ?_
    refine X.then_ ?_
    refine T.ret ?_
    refine X.ret_then ?_
    refine X.ret1 Try.results77 rfl (fun w hw => ?_)
    rw [save_no (by omega) (by simp [‹s.off = false›]) h29]
    exact ⟨(), trivial, rfl, by have hw := Hold.slotC (s := { s with off := true }) (hw.pick (p := pt p 175 [ptr d 0, .int .i64 s.lo, .int .i64 s.mid, .int .i64 s.hi, .int .i64 D.size, .int .i64 s.inn, .slice A s.text.length c, .int .i64 s.count, .bool true]) pK) mM; exact hw.f⟩
   ·skip
    refine T.skip ?_
    refine X.then_ ?_
    refine T.seq ?_
    -- region 9 (slot.go:141)
    refine Dh.start0 [17, 20, 23] ?_
    refine Dh.takeF 0 rfl (by kernel_rfl) bL (.inr sS) (fun w => Yl.move rfl) rfl rfl ?_
    refine Dh.takeF 1 rfl (by kernel_rfl) bL (.inr sS) (fun w => Yl.move rfl) rfl rfl ?_
    refine Dh.takeF 2 rfl (by kernel_rfl) bL (.inr sS) (fun w => Yl.move rfl) rfl rfl ?_
    refine Dh.takeF 3 rfl (by kernel_rfl) bL (.inr sS) (fun w => Yl.move rfl) rfl rfl ?_
    refine Dh.takeF 4 rfl (by kernel_rfl) bL (.inr sS) (fun w => Yl.nilck rfl) rfl rfl ?_
    refine Dh.takeF 5 rfl (by kernel_rfl) bL (.inr sS) (fun w => Yl.fa fa_175_3 rfl) rfl rfl ?_
    refine Dh.take 6 rfl (by kernel_rfl) bL sS (fun w hs => have hw := hs.h; Yl.ldP hw na_3 rfl mM rfl) rfl rfl ?_
    refine Dh.takeF 7 rfl (by kernel_rfl) bL (.inr sS) (fun w => Yl.sub rfl rfl (by omega)) rfl rfl ?_
    refine Dh.takeF 8 rfl (by kernel_rfl) bL (.inr sS) (fun w => Yl.move rfl) rfl rfl ?_
    refine Dh.takeF 10 rfl (by kernel_rfl) bL (.inr sS) (fun w => Yl.move rfl) rfl rfl ?_
    refine Dh.takeF 11 rfl (by kernel_rfl) bL (.inr sS) (fun w => Yl.nilck rfl) rfl rfl ?_
    refine Dh.takeF 12 rfl (by kernel_rfl) bL (.inr sS) (fun w => Yl.fa fa_175_5 rfl) rfl rfl ?_
    refine Dh.take 13 rfl (by kernel_rfl) bL sS (fun w hs => have hw := hs.h; Yl.ldP hw na_3 rfl mM rfl) rfl rfl ?_
    refine Dh.takeF 14 rfl (by kernel_rfl) bL (.inr sS) (fun w => Yl.add rfl rfl (by omega)) rfl rfl ?_
    refine Dh.act 9 rfl (by kernel_rfl) rfl (OpW.call en_91 rfl (clone_ct mM htl)) rfl rfl (.inr (fun _ _ => sS)) (fun ⟨A43, c43⟩ _ => ?_)
    dsimp only
    refine Dh.takeF 15 rfl (by kernel_rfl) bL (.inr sS) (fun w => Yl.nilck rfl) rfl rfl ?_
    refine Dh.takeF 16 rfl (by kernel_rfl) bL (.inr sS) (fun w => Yl.fa fa_175_3 rfl) rfl rfl ?_
    refine Dh.act0 17 rfl (by kernel_rfl) rfl (OpW.st1 sz_3 rfl rfl rfl rfl sW uP) rfl (.inl (by kernel_rfl)) (fun _ _ => ?_)
    refine Dh.takeF 18 rfl (by kernel_rfl) bL (.inl (by kernel_rfl)) (fun w => Yl.nilck rfl) rfl rfl ?_
    refine Dh.takeF 19 rfl (by kernel_rfl) bL (.inl (by kernel_rfl)) (fun w => Yl.fa fa_175_4 rfl) rfl rfl ?_
    refine Dh.act0 20 rfl (by kernel_rfl) rfl (OpW.st1 sz_23 rfl rfl rfl rfl sW uP) rfl (.inl (by kernel_rfl)) (fun _ _ => ?_)
    refine Dh.takeF 21 rfl (by kernel_rfl) bL (.inl (by kernel_rfl)) (fun w => Yl.nilck rfl) rfl rfl ?_
    refine Dh.takeF 22 rfl (by kernel_rfl) bL (.inl (by kernel_rfl)) (fun w => Yl.fa fa_175_5 rfl) rfl rfl ?_
    refine Dh.act0 23 rfl (by kernel_rfl) rfl (OpW.st1 sz_3 rfl rfl rfl rfl sW uP) rfl (.inl (by kernel_rfl)) (fun _ _ => ?_)
    refine Dh.done (by kernel_rfl) ?_
    rw [show (1 : Int) - (s.inn : Int) = ((1 - s.inn : Nat) : Int) from by omega, show (s.count : Int) + 1 = ((s.count + 1 : Nat) : Int) from by push_cast; rfl]
    refine J.sel .nil ?_
    refine X.then_ ?_
    refine T.seq ?_
    -- region 10 (slot.go:142)
    refine T.region ?_
    refine T.y (fun w hw => Yl.assign rfl) rfl rfl ?_
    refine T.nil ?_
    refine X.then_ ?_
    refine T.ret ?_
    refine X.ret1 Try.results77 rfl (fun w hw => ?_)
    rw [save_yes (by omega) (by simp [‹s.off = false›]) h29]
    exact ⟨(), trivial, rfl, by have hw := Hold.slotC (s := { s with inn := 1 - s.inn, text := t, count := s.count + 1 }) (hw.pick (p := pt p 175 [ptr d 0, .int .i64 s.lo, .int .i64 s.mid, .int .i64 s.hi, .int .i64 D.size, .int .i64 ((1 - s.inn : Nat) : Int), .slice A43 t.length c43, .int .i64 ((s.count + 1 : Nat) : Int), .bool s.off]) pK) mM; exact hw.f⟩

set_option maxHeartbeats 2000000 in
theorem saveN_ct {M : List HP} {K : List KP} {b : Nat} {B : Option Addr} {n : Nat} : Fn 77 [.pointer none, .slice B n b] M K (fun _ : Unit => True) (fun _ => .int .i64 (if 0 < n then 7 else 12)) (fun _ => M) (fun _ => K) := by
 refine Fn.of (n := 55) Try.func77 rfl Try.ntmps77 rfl ?_
 refine T.seq ?_
 -- region 0 (slot.go:130)
 refine T.region ?_
 refine T.y (fun w hw => Yl.assign rfl) rfl rfl ?_
 refine T.nil ?_
 refine J.sel (.cons 0 rfl (.cons 1 rfl .nil)) ?_
 refine X.then_ ?_
 refine T.seq ?_
 refine T.block ?_
 refine T.seq ?_
 -- region 1 (slot.go:132)
 refine T.region ?_
 refine T.y (fun w hw => Yl.move rfl) rfl rfl ?_
 refine T.y (fun w hw => Yl.len Try.underlying23 rfl) rfl rfl ?_
 refine T.y (fun w hw => Yl.move rfl) rfl rfl ?_
 refine T.o (OpW.call en_76 rfl (roomN_ct)) rfl rfl (fun _ _ => ?_)
 refine T.y (fun w hw => Yl.gtr rfl rfl) rfl rfl ?_
 refine T.y (fun w hw => Yl.assign rfl) rfl rfl ?_
 refine T.nil ?_
 refine J.sel (.cons 0 rfl (.cons 1 rfl (.cons 6 rfl .nil))) ?_
 refine X.then_ ?_
 refine T.condD rfl (fun h6 => ?_) (fun h6 => ?_)
 ·skip
  refine T.seq ?_
  -- region 2 (slot.go:133)
  refine T.region ?_
  refine T.y (fun w hw => Yl.assign rfl) rfl rfl ?_
  refine T.nil ?_
  refine J.sel (.cons 4 rfl .nil) ?_
  refine X.then_ ?_
  refine T.ret ?_
  refine X.ret_blk ?_
  refine X.ret_then ?_
  refine X.ret1 Try.results77 rfl (fun w hw => ?_)
  refine ⟨(), trivial, ?_, hw.f⟩
  first
    | rw [if_pos (by omega)]
    | rw [if_neg (by omega)]
 ·skip
  refine T.seq ?_
  -- region 3 (slot.go:134)
  refine T.region ?_
  refine T.y (fun w hw => Yl.move rfl) rfl rfl ?_
  refine T.o (OpW.call en_79 rfl (deadN_ct)) rfl rfl (fun _ _ => ?_)
  refine T.y (fun w hw => Yl.assign rfl) rfl rfl ?_
  refine T.nil ?_
  refine J.sel (.cons 0 rfl (.cons 1 rfl (.cons 12 rfl .nil))) ?_
  refine X.then_ ?_
  refine T.condT rfl ?_
  refine T.seq ?_
  -- region 4 (slot.go:135)
  refine T.region ?_
  refine T.y (fun w hw => Yl.assign rfl) rfl rfl ?_
  refine T.nil ?_
  refine J.sel (.cons 4 rfl .nil) ?_
  refine X.then_ ?_
  refine T.ret ?_
  refine X.ret_blk ?_
  refine X.ret_then ?_
  refine X.ret1 Try.results77 rfl (fun w hw => ?_)
  refine ⟨(), trivial, ?_, hw.f⟩
  first
    | rw [if_pos (by omega)]
    | rw [if_neg (by omega)]

end Go.Proofs.Ytfpnodboebpemaa
