/- The methods of zdev where there is no device; ZdevNothing. -/
import Derived.Test.YtfpnodboebpemaaLawZ
namespace Go.Proofs.Ytfpnodboebpemaa
open Go.RowKit Go.Proofs.YtfpnodboebpemaaW.PrintWords
set_option linter.unusedVariables false
set_option linter.unusedSimpArgs false
theorem eq_geo (w : World) : (Op.equal 42 (.agg #[.int .i64 0, .int .i64 0]) (.agg #[.int .i64 0, .int .i64 0])).run Try.prog w = .ok true w := by kernel_rfl
theorem gd_geo (x y : Operand) (w : World) : (eqGuard .eql 42 x y (.agg #[.int .i64 0, .int .i64 0]) (.agg #[.int .i64 0, .int .i64 0])).run Try.prog w = .ok () w := by kernel_rfl
theorem Yl.eqGeo {E : Env} {w : World} {dst : Option Tmp} {ty : Nat} {ps : String} {af : Array Edge} {g : Option (Nat × Bool)} {t' : TypeId} {x y : Operand} (hx : ev E x = some (.agg #[.int .i64 0, .int .i64 0])) (hy : ev E y = some (.agg #[.int .i64 0, .int .i64 0])) : Yl ⟨dst, .binOp .eql 42 x y t', ty, ps, af, g⟩ E (.bool true) w := Yl.mk fun ρ hρ => by
  simp only [execOp, hρ x _ hx, hρ y _ hy, Sem.run_bind, gd_geo, Result.andThen_ok, binOp, eq_geo]; rfl
attribute [local irreducible] pt rowH slK bytesK intsK rowsK rowsH cellK rowsV oldK star exH pureH knowH starL emp devH zoneH zonesH zrest

set_option maxHeartbeats 2000000 in
theorem gone_nil {M : List HP} {K : List KP} : Fn 92 [.pointer none] M K (fun _ : Unit => True) (fun _ => .bool true) (fun _ => M) (fun _ => K) := by
  refine Fn.of (n := 13) Try.func92 rfl Try.ntmps92 rfl ?_
  refine T.seq ?_
  -- region 0 (zdev.go:45)
  refine T.region ?_
  refine T.y (fun w hw => Yl.assign rfl) rfl rfl ?_
  refine T.nil ?_
  refine J.sel (.cons 0 rfl .nil) ?_
  refine X.then_ ?_
  refine T.seq ?_
  -- region 1 (zdev.go:45)
  refine T.region ?_
  refine T.y (fun w hw => Yl.move rfl) rfl rfl ?_
  refine T.y (fun w hw => Yl.eqP Try.underlying38 rfl rfl) rfl rfl ?_
  refine T.y (fun w hw => Yl.move rfl) rfl rfl ?_
  refine T.off rfl rfl rfl ?_
  refine T.off rfl rfl rfl ?_
  refine T.off rfl rfl rfl ?_
  refine T.off rfl rfl rfl ?_
  refine T.off rfl rfl rfl ?_
  refine T.off rfl rfl rfl ?_
  refine T.y (fun w hw => Yl.pickT rfl rfl) rfl rfl ?_
  refine T.y (fun w hw => Yl.assign rfl) rfl rfl ?_
  refine T.nil ?_
  refine J.sel (.cons 2 rfl .nil) ?_
  refine X.then_ ?_
  refine T.ret ?_
  refine X.ret1 Try.results92 rfl (fun w hw => ?_)
  exact ⟨(), trivial, rfl, hw.fin (by (repeat (first | exact Picks.refl | exact Picks.nil | (apply Picks.cons; (focus ((repeat (first | exact Pick.head | apply Pick.tail)); done))) | apply Picks.drop))) (by (repeat (first | exact Ks.refl | exact Ks.nil | (apply Ks.cons; (focus ((repeat (first | assumption | exact List.Mem.head _ | apply List.Mem.tail)); done))) | apply Ks.drop)))⟩

set_option maxHeartbeats 2000000 in
theorem at_nil {M : List HP} {K : List KP} {i : Int} : Fn 89 [.pointer none, .int .i64 i] M K (fun _ : Unit => True) (fun _ => .pointer none) (fun _ => M) (fun _ => K) := by
  refine Fn.of (n := 27) Try.func89 rfl Try.ntmps89 rfl ?_
  refine T.seq ?_
  -- region 0 (zdev.go:56)
  refine T.region ?_
  refine T.y (fun w hw => Yl.assign rfl) rfl rfl ?_
  refine T.nil ?_
  refine J.sel (.cons 0 rfl (.cons 1 rfl .nil)) ?_
  refine X.then_ ?_
  refine T.seq ?_
  refine T.seq ?_
  -- region 1 (zdev.go:57)
  refine T.region ?_
  refine T.y (fun w hw => Yl.move rfl) rfl rfl ?_
  refine T.o (OpW.call en_92 rfl (gone_nil)) rfl rfl (fun x hx => ?_)
  refine T.y (fun w hw => Yl.move rfl) rfl rfl ?_
  refine T.off rfl rfl rfl ?_
  refine T.off rfl rfl rfl ?_
  refine T.y (fun w hw => Yl.pickT rfl rfl) rfl rfl ?_
  refine T.y (fun w hw => Yl.move rfl) rfl rfl ?_
  refine T.off rfl rfl rfl ?_
  refine T.off rfl rfl rfl ?_
  refine T.off rfl rfl rfl ?_
  refine T.off rfl rfl rfl ?_
  refine T.off rfl rfl rfl ?_
  refine T.off rfl rfl rfl ?_
  refine T.off rfl rfl rfl ?_
  refine T.y (fun w hw => Yl.pickT rfl rfl) rfl rfl ?_
  refine T.nil ?_
  refine J.sel (.cons 0 rfl (.cons 1 rfl (.cons 19 rfl .nil))) ?_
  refine X.then_ ?_
  refine T.condT rfl ?_
  refine T.seq ?_
  -- region 2 (zdev.go:58)
  refine T.region ?_
  refine T.y (fun w hw => Yl.assign rfl) rfl rfl ?_
  refine T.nil ?_
  refine J.sel (.cons 4 rfl .nil) ?_
  refine X.then_ ?_
  refine T.ret ?_
  refine X.ret_then ?_
  refine X.ret1 Try.results89 rfl (fun w hw => ?_)
  exact ⟨(), trivial, rfl, hw.fin (by (repeat (first | exact Picks.refl | exact Picks.nil | (apply Picks.cons; (focus ((repeat (first | exact Pick.head | apply Pick.tail)); done))) | apply Picks.drop))) (by (repeat (first | exact Ks.refl | exact Ks.nil | (apply Ks.cons; (focus ((repeat (first | assumption | exact List.Mem.head _ | apply List.Mem.tail)); done))) | apply Ks.drop)))⟩

set_option maxHeartbeats 2000000 in
theorem append_nil {M : List HP} {K : List KP} {i : Int} {A : Option Addr} {n c : Nat} : Fn 39 [.pointer none, .int .i64 i, .slice A n c] M K (fun _ : Unit => True) (fun _ => .tuple #[.int .i64 0, .int .i64 1]) (fun _ => M) (fun _ => K) := by
  refine Fn.of (n := 52) Try.func39 rfl Try.ntmps39 rfl ?_
  refine T.seq ?_
  -- region 0 (zdev.go:76)
  refine T.region ?_
  refine T.y (fun w hw => Yl.assign rfl) rfl rfl ?_
  refine T.y (fun w hw => Yl.assign rfl) rfl rfl ?_
  refine T.nil ?_
  refine J.sel (.cons 0 rfl (.cons 1 rfl (.cons 2 rfl .nil))) ?_
  refine X.then_ ?_
  refine T.seq ?_
  -- region 1 (zdev.go:77)
  refine T.region ?_
  refine T.y (fun w hw => Yl.move rfl) rfl rfl ?_
  refine T.y (fun w hw => Yl.move rfl) rfl rfl ?_
  refine T.o (OpW.call en_89 rfl (at_nil)) rfl rfl (fun x hx => ?_)
  refine T.y (fun w hw => Yl.assign rfl) rfl rfl ?_
  refine T.nil ?_
  refine J.sel (.cons 0 rfl (.cons 2 rfl (.cons 8 rfl .nil))) ?_
  refine X.then_ ?_
  refine T.seq ?_
  refine T.block ?_
  refine T.seq ?_
  -- region 2 (zdev.go:79)
  refine T.region ?_
  refine T.y (fun w hw => Yl.move rfl) rfl rfl ?_
  refine T.y (fun w hw => Yl.eqP Try.underlying134 rfl rfl) rfl rfl ?_
  refine T.y (fun w hw => Yl.assign rfl) rfl rfl ?_
  refine T.nil ?_
  refine J.sel (.cons 0 rfl (.cons 2 rfl (.cons 8 rfl (.cons 12 rfl .nil)))) ?_
  refine X.then_ ?_
  refine T.condT rfl ?_
  refine T.seq ?_
  -- region 3 (zdev.go:80)
  refine T.region ?_
  refine T.y (fun w hw => Yl.assign rfl) rfl rfl ?_
  refine T.y (fun w hw => Yl.assign rfl) rfl rfl ?_
  refine T.nil ?_
  refine J.sel (.cons 6 rfl (.cons 7 rfl .nil)) ?_
  refine X.then_ ?_
  refine T.ret ?_
  refine X.ret_blk ?_
  refine X.ret_then ?_
  refine X.ret2 Try.results39 rfl rfl (fun w hw => ?_)
  exact ⟨(), trivial, rfl, hw.fin (by (repeat (first | exact Picks.refl | exact Picks.nil | (apply Picks.cons; (focus ((repeat (first | exact Pick.head | apply Pick.tail)); done))) | apply Picks.drop))) (by (repeat (first | exact Ks.refl | exact Ks.nil | (apply Ks.cons; (focus ((repeat (first | assumption | exact List.Mem.head _ | apply List.Mem.tail)); done))) | apply Ks.drop)))⟩

set_option maxHeartbeats 2000000 in
theorem read_nil {M : List HP} {K : List KP} {i j : Int} : Fn 42 [.pointer none, .int .i64 i, .int .i64 j] M K (fun _ : Unit => True) (fun _ => .tuple #[.slice none 0 0, .int .i64 1]) (fun _ => M) (fun _ => K) := by
  refine Fn.of (n := 42) Try.func42 rfl Try.ntmps42 rfl ?_
  refine T.seq ?_
  -- region 0 (zdev.go:93)
  refine T.region ?_
  refine T.y (fun w hw => Yl.assign rfl) rfl rfl ?_
  refine T.y (fun w hw => Yl.assign rfl) rfl rfl ?_
  refine T.nil ?_
  refine J.sel (.cons 0 rfl (.cons 1 rfl (.cons 2 rfl .nil))) ?_
  refine X.then_ ?_
  refine T.seq ?_
  -- region 1 (zdev.go:94)
  refine T.region ?_
  refine T.y (fun w hw => Yl.move rfl) rfl rfl ?_
  refine T.y (fun w hw => Yl.move rfl) rfl rfl ?_
  refine T.o (OpW.call en_89 rfl (at_nil)) rfl rfl (fun x hx => ?_)
  refine T.y (fun w hw => Yl.assign rfl) rfl rfl ?_
  refine T.nil ?_
  refine J.sel (.cons 0 rfl (.cons 2 rfl (.cons 8 rfl .nil))) ?_
  refine X.then_ ?_
  refine T.seq ?_
  refine T.block ?_
  refine T.seq ?_
  -- region 2 (zdev.go:96)
  refine T.region ?_
  refine T.y (fun w hw => Yl.move rfl) rfl rfl ?_
  refine T.y (fun w hw => Yl.eqP Try.underlying134 rfl rfl) rfl rfl ?_
  refine T.y (fun w hw => Yl.assign rfl) rfl rfl ?_
  refine T.nil ?_
  refine J.sel (.cons 0 rfl (.cons 2 rfl (.cons 8 rfl (.cons 12 rfl .nil)))) ?_
  refine X.then_ ?_
  refine T.condT rfl ?_
  refine T.seq ?_
  -- region 3 (zdev.go:97)
  refine T.region ?_
  refine T.y (fun w hw => Yl.assign rfl) rfl rfl ?_
  refine T.y (fun w hw => Yl.assign rfl) rfl rfl ?_
  refine T.nil ?_
  refine J.sel (.cons 6 rfl (.cons 7 rfl .nil)) ?_
  refine X.then_ ?_
  refine T.ret ?_
  refine X.ret_blk ?_
  refine X.ret_then ?_
  refine X.ret2 Try.results42 rfl rfl (fun w hw => ?_)
  exact ⟨(), trivial, rfl, hw.fin (by (repeat (first | exact Picks.refl | exact Picks.nil | (apply Picks.cons; (focus ((repeat (first | exact Pick.head | apply Pick.tail)); done))) | apply Picks.drop))) (by (repeat (first | exact Ks.refl | exact Ks.nil | (apply Ks.cons; (focus ((repeat (first | assumption | exact List.Mem.head _ | apply List.Mem.tail)); done))) | apply Ks.drop)))⟩

set_option maxHeartbeats 2000000 in
theorem pointer_nil {M : List HP} {K : List KP} {i : Int} : Fn 40 [.pointer none, .int .i64 i] M K (fun _ : Unit => True) (fun _ => .tuple #[.int .i64 0, .int .i64 1]) (fun _ => M) (fun _ => K) := by
  refine Fn.of (n := 17) Try.func40 rfl Try.ntmps40 rfl ?_
  refine T.seq ?_
  -- region 0 (zdev.go:133)
  refine T.region ?_
  refine T.y (fun w hw => Yl.assign rfl) rfl rfl ?_
  refine T.y (fun w hw => Yl.assign rfl) rfl rfl ?_
  refine T.nil ?_
  refine J.sel (.cons 0 rfl (.cons 1 rfl .nil)) ?_
  refine X.then_ ?_
  refine T.seq ?_
  -- region 1 (zdev.go:134)
  refine T.region ?_
  refine T.y (fun w hw => Yl.move rfl) rfl rfl ?_
  refine T.y (fun w hw => Yl.move rfl) rfl rfl ?_
  refine T.o (OpW.call en_89 rfl (at_nil)) rfl rfl (fun x hx => ?_)
  refine T.y (fun w hw => Yl.assign rfl) rfl rfl ?_
  refine T.nil ?_
  refine J.sel (.cons 6 rfl .nil) ?_
  refine X.then_ ?_
  refine T.seq ?_
  refine T.seq ?_
  -- region 2 (zdev.go:135)
  refine T.region ?_
  refine T.y (fun w hw => Yl.move rfl) rfl rfl ?_
  refine T.y (fun w hw => Yl.eqP Try.underlying134 rfl rfl) rfl rfl ?_
  refine T.nil ?_
  refine J.sel (.cons 6 rfl (.cons 11 rfl .nil)) ?_
  refine X.then_ ?_
  refine T.condT rfl ?_
  refine T.seq ?_
  -- region 3 (zdev.go:136)
  refine T.region ?_
  refine T.y (fun w hw => Yl.assign rfl) rfl rfl ?_
  refine T.y (fun w hw => Yl.assign rfl) rfl rfl ?_
  refine T.nil ?_
  refine J.sel (.cons 4 rfl (.cons 5 rfl .nil)) ?_
  refine X.then_ ?_
  refine T.ret ?_
  refine X.ret_then ?_
  refine X.ret2 Try.results40 rfl rfl (fun w hw => ?_)
  exact ⟨(), trivial, rfl, hw.fin (by (repeat (first | exact Picks.refl | exact Picks.nil | (apply Picks.cons; (focus ((repeat (first | exact Pick.head | apply Pick.tail)); done))) | apply Picks.drop))) (by (repeat (first | exact Ks.refl | exact Ks.nil | (apply Ks.cons; (focus ((repeat (first | assumption | exact List.Mem.head _ | apply List.Mem.tail)); done))) | apply Ks.drop)))⟩

set_option maxHeartbeats 2000000 in
theorem reset_nil {M : List HP} {K : List KP} {i : Int} : Fn 38 [.pointer none, .int .i64 i] M K (fun _ : Unit => True) (fun _ => .int .i64 1) (fun _ => M) (fun _ => K) := by
  refine Fn.of (n := 19) Try.func38 rfl Try.ntmps38 rfl ?_
  refine T.seq ?_
  -- region 0 (zdev.go:106)
  refine T.region ?_
  refine T.y (fun w hw => Yl.assign rfl) rfl rfl ?_
  refine T.nil ?_
  refine J.sel (.cons 0 rfl (.cons 1 rfl .nil)) ?_
  refine X.then_ ?_
  refine T.seq ?_
  -- region 1 (zdev.go:107)
  refine T.region ?_
  refine T.y (fun w hw => Yl.move rfl) rfl rfl ?_
  refine T.y (fun w hw => Yl.move rfl) rfl rfl ?_
  refine T.o (OpW.call en_89 rfl (at_nil)) rfl rfl (fun x hx => ?_)
  refine T.y (fun w hw => Yl.assign rfl) rfl rfl ?_
  refine T.nil ?_
  refine J.sel (.cons 0 rfl (.cons 5 rfl .nil)) ?_
  refine X.then_ ?_
  refine T.seq ?_
  refine T.block ?_
  refine T.seq ?_
  -- region 2 (zdev.go:109)
  refine T.region ?_
  refine T.y (fun w hw => Yl.move rfl) rfl rfl ?_
  refine T.y (fun w hw => Yl.eqP Try.underlying134 rfl rfl) rfl rfl ?_
  refine T.y (fun w hw => Yl.assign rfl) rfl rfl ?_
  refine T.nil ?_
  refine J.sel (.cons 0 rfl (.cons 5 rfl (.cons 9 rfl .nil))) ?_
  refine X.then_ ?_
  refine T.condT rfl ?_
  refine T.seq ?_
  -- region 3 (zdev.go:110)
  refine T.region ?_
  refine T.y (fun w hw => Yl.assign rfl) rfl rfl ?_
  refine T.nil ?_
  refine J.sel (.cons 4 rfl .nil) ?_
  refine X.then_ ?_
  refine T.ret ?_
  refine X.ret_blk ?_
  refine X.ret_then ?_
  refine X.ret1 Try.results38 rfl (fun w hw => ?_)
  exact ⟨(), trivial, rfl, hw.fin (by (repeat (first | exact Picks.refl | exact Picks.nil | (apply Picks.cons; (focus ((repeat (first | exact Pick.head | apply Pick.tail)); done))) | apply Picks.drop))) (by (repeat (first | exact Ks.refl | exact Ks.nil | (apply Ks.cons; (focus ((repeat (first | assumption | exact List.Mem.head _ | apply List.Mem.tail)); done))) | apply Ks.drop)))⟩

set_option maxHeartbeats 2000000 in
theorem off_nil {M : List HP} {K : List KP} : Fn 62 [.pointer none] M K (fun _ : Unit => True) (fun _ => .bool true) (fun _ => M) (fun _ => K) := by
  refine Fn.of (n := 11) Try.func62 rfl Try.ntmps62 rfl ?_
  refine T.seq ?_
  -- region 0 (zdev.go:165)
  refine T.region ?_
  refine T.y (fun w hw => Yl.assign rfl) rfl rfl ?_
  refine T.nil ?_
  refine J.sel (.cons 0 rfl .nil) ?_
  refine X.then_ ?_
  refine T.seq ?_
  -- region 1 (zdev.go:165)
  refine T.region ?_
  refine T.y (fun w hw => Yl.move rfl) rfl rfl ?_
  refine T.o (OpW.call en_92 rfl (gone_nil)) rfl rfl (fun x hx => ?_)
  refine T.y (fun w hw => Yl.move rfl) rfl rfl ?_
  refine T.off rfl rfl rfl ?_
  refine T.off rfl rfl rfl ?_
  refine T.off rfl rfl rfl ?_
  refine T.off rfl rfl rfl ?_
  refine T.y (fun w hw => Yl.pickT rfl rfl) rfl rfl ?_
  refine T.y (fun w hw => Yl.assign rfl) rfl rfl ?_
  refine T.nil ?_
  refine J.sel (.cons 2 rfl .nil) ?_
  refine X.then_ ?_
  refine T.ret ?_
  refine X.ret1 Try.results62 rfl (fun w hw => ?_)
  exact ⟨(), trivial, rfl, hw.fin (by (repeat (first | exact Picks.refl | exact Picks.nil | (apply Picks.cons; (focus ((repeat (first | exact Pick.head | apply Pick.tail)); done))) | apply Picks.drop))) (by (repeat (first | exact Ks.refl | exact Ks.nil | (apply Ks.cons; (focus ((repeat (first | assumption | exact List.Mem.head _ | apply List.Mem.tail)); done))) | apply Ks.drop)))⟩

set_option maxHeartbeats 2000000 in
theorem ops_nil {M : List HP} {K : List KP} : Fn 41 [.pointer none] M K (fun _ : Unit => True) (fun _ => .int .i64 0) (fun _ => M) (fun _ => K) := by
  refine Fn.of (n := 9) Try.func41 rfl Try.ntmps41 rfl ?_
  refine T.seq ?_
  -- region 0 (zdev.go:142)
  refine T.region ?_
  refine T.y (fun w hw => Yl.assign rfl) rfl rfl ?_
  refine T.nil ?_
  refine J.sel (.cons 0 rfl .nil) ?_
  refine X.then_ ?_
  refine T.seq ?_
  refine T.seq ?_
  -- region 1 (zdev.go:143)
  refine T.region ?_
  refine T.y (fun w hw => Yl.move rfl) rfl rfl ?_
  refine T.o (OpW.call en_92 rfl (gone_nil)) rfl rfl (fun x hx => ?_)
  refine T.nil ?_
  refine J.sel (.cons 0 rfl (.cons 4 rfl .nil)) ?_
  refine X.then_ ?_
  refine T.condT rfl ?_
  refine T.seq ?_
  -- region 2 (zdev.go:144)
  refine T.region ?_
  refine T.y (fun w hw => Yl.assign rfl) rfl rfl ?_
  refine T.nil ?_
  refine J.sel (.cons 2 rfl .nil) ?_
  refine X.then_ ?_
  refine T.ret ?_
  refine X.ret_then ?_
  refine X.ret1 Try.results41 rfl (fun w hw => ?_)
  exact ⟨(), trivial, rfl, hw.fin (by (repeat (first | exact Picks.refl | exact Picks.nil | (apply Picks.cons; (focus ((repeat (first | exact Pick.head | apply Pick.tail)); done))) | apply Picks.drop))) (by (repeat (first | exact Ks.refl | exact Ks.nil | (apply Ks.cons; (focus ((repeat (first | assumption | exact List.Mem.head _ | apply List.Mem.tail)); done))) | apply Ks.drop)))⟩

set_option maxHeartbeats 2000000 in
theorem crash_nil {M : List HP} {K : List KP} {A B : Option Addr} {n a m b : Nat} : Fn 56 [.pointer none, .slice A n a, .slice B m b] M K (fun _ : Unit => True) (fun _ => .pointer none) (fun _ => M) (fun _ => K) := by
  refine Fn.of (n := 111) Try.func56 rfl Try.ntmps56 rfl ?_
  refine T.seq ?_
  -- region 0 (zdev.go:193)
  refine T.region ?_
  refine T.y (fun w hw => Yl.assign rfl) rfl rfl ?_
  refine T.nil ?_
  refine J.sel (.cons 0 rfl (.cons 1 rfl (.cons 2 rfl .nil))) ?_
  refine X.then_ ?_
  refine T.seq ?_
  refine T.seq ?_
  -- region 1 (zdev.go:194)
  refine T.region ?_
  refine T.y (fun w hw => Yl.move rfl) rfl rfl ?_
  refine T.o (OpW.call en_92 rfl (gone_nil)) rfl rfl (fun x hx => ?_)
  refine T.nil ?_
  refine J.sel (.cons 0 rfl (.cons 1 rfl (.cons 2 rfl (.cons 19 rfl .nil)))) ?_
  refine X.then_ ?_
  refine T.condT rfl ?_
  refine T.seq ?_
  -- region 2 (zdev.go:195)
  refine T.region ?_
  refine T.y (fun w hw => Yl.assign rfl) rfl rfl ?_
  refine T.nil ?_
  refine J.sel (.cons 6 rfl .nil) ?_
  refine X.then_ ?_
  refine T.ret ?_
  refine X.ret_then ?_
  refine X.ret1 Try.results56 rfl (fun w hw => ?_)
  exact ⟨(), trivial, rfl, hw.fin (by (repeat (first | exact Picks.refl | exact Picks.nil | (apply Picks.cons; (focus ((repeat (first | exact Pick.head | apply Pick.tail)); done))) | apply Picks.drop))) (by (repeat (first | exact Ks.refl | exact Ks.nil | (apply Ks.cons; (focus ((repeat (first | assumption | exact List.Mem.head _ | apply List.Mem.tail)); done))) | apply Ks.drop)))⟩

set_option maxHeartbeats 2000000 in
theorem copy_nil {M : List HP} {K : List KP} : Fn 63 [.pointer none] M K (fun _ : Unit => True) (fun _ => .pointer none) (fun _ => M) (fun _ => K) := by
  refine Fn.of (n := 38) Try.func63 rfl Try.ntmps63 rfl ?_
  refine T.seq ?_
  -- region 0 (zdev.go:221)
  refine T.region ?_
  refine T.y (fun w hw => Yl.assign rfl) rfl rfl ?_
  refine T.nil ?_
  refine J.sel (.cons 0 rfl .nil) ?_
  refine X.then_ ?_
  refine T.seq ?_
  refine T.seq ?_
  -- region 1 (zdev.go:222)
  refine T.region ?_
  refine T.y (fun w hw => Yl.move rfl) rfl rfl ?_
  refine T.o (OpW.call en_92 rfl (gone_nil)) rfl rfl (fun x hx => ?_)
  refine T.nil ?_
  refine J.sel (.cons 0 rfl (.cons 7 rfl .nil)) ?_
  refine X.then_ ?_
  refine T.condT rfl ?_
  refine T.seq ?_
  -- region 2 (zdev.go:223)
  refine T.region ?_
  refine T.y (fun w hw => Yl.assign rfl) rfl rfl ?_
  refine T.nil ?_
  refine J.sel (.cons 2 rfl .nil) ?_
  refine X.then_ ?_
  refine T.ret ?_
  refine X.ret_then ?_
  refine X.ret1 Try.results63 rfl (fun w hw => ?_)
  exact ⟨(), trivial, rfl, hw.fin (by (repeat (first | exact Picks.refl | exact Picks.nil | (apply Picks.cons; (focus ((repeat (first | exact Pick.head | apply Pick.tail)); done))) | apply Picks.drop))) (by (repeat (first | exact Ks.refl | exact Ks.nil | (apply Ks.cons; (focus ((repeat (first | assumption | exact List.Mem.head _ | apply List.Mem.tail)); done))) | apply Ks.drop)))⟩

set_option maxHeartbeats 2000000 in
theorem geometry_nil {M : List HP} {K : List KP} : Fn 64 [.pointer none] M K (fun _ : Unit => True) (fun _ => .agg #[.int .i64 0, .int .i64 0]) (fun _ => M) (fun _ => K) := by
  refine Fn.of (n := 10) Try.func64 rfl Try.ntmps64 rfl ?_
  refine T.seq ?_
  -- region 0 (zdev.go:48)
  refine T.region ?_
  refine T.o (OpW.alloc zr_42) rfl rfl (fun b2 _ => ?_)
  refine T.nil ?_
  refine X.then_ ?_
  refine T.seq ?_
  refine T.seq ?_
  -- region 1 (zdev.go:49)
  refine T.region ?_
  refine T.y (fun w hw => Yl.move rfl) rfl rfl ?_
  refine T.o (OpW.call en_92 rfl (gone_nil)) rfl rfl (fun x hx => ?_)
  refine T.nil ?_
  refine J.sel (.cons 0 rfl (.cons 2 rfl (.cons 4 rfl .nil))) ?_
  refine X.then_ ?_
  refine T.condT rfl ?_
  refine T.seq ?_
  -- region 2 (zdev.go:50)
  refine T.region ?_
  refine T.y (fun w hw => Yl.build rfl (bld_42_z _)) rfl rfl ?_
  refine T.o0 (OpW.stA sz_42 rfl rfl rfl rfl (by repeat (first | exact Swap.head | apply Swap.tail)) (by repeat (first | exact UpdL.nil | exact Upd1.here | apply Upd1.there | apply UpdL.cons))) rfl (fun _ _ => ?_)
  refine T.nil ?_
  refine J.sel (.cons 2 rfl .nil) ?_
  refine X.then_ ?_
  refine T.ret ?_
  refine X.ret_then ?_
  refine X.retC Try.results64 ag_42 rfl (by (repeat (first | assumption | exact List.Mem.head _ | apply List.Mem.tail))) (by repeat (first | exact Sub.nil | (apply Sub.cons; (focus exact rfl)))) (fun w hw => ?_)
  exact ⟨(), trivial, rfl, hw.fin (by (repeat (first | exact Picks.refl | exact Picks.nil | (apply Picks.cons; (focus ((repeat (first | exact Pick.head | apply Pick.tail)); done))) | apply Picks.drop))) (by (repeat (first | exact Ks.refl | exact Ks.nil | (apply Ks.cons; (focus ((repeat (first | assumption | exact List.Mem.head _ | apply List.Mem.tail)); done))) | apply Ks.drop)))⟩

set_option maxHeartbeats 2000000 in
theorem nothing_ct {M : List HP} {K : List KP} {p o : Int} : Fn 13 [.int .i64 p, .int .i64 o] M K (fun _ : Unit => True) (fun _ => .bool true) (fun _ => M) (fun _ => K) := by
  refine Fn.of (n := 76) Try.func13 rfl Try.ntmps13 rfl ?_
  refine T.seq ?_
  -- region 0 (law.go:242)
  refine T.region ?_
  refine T.y (fun w hw => Yl.assign rfl) rfl rfl ?_
  refine T.nil ?_
  refine J.sel (.cons 0 rfl (.cons 1 rfl .nil)) ?_
  refine X.then_ ?_
  refine T.seq ?_
  -- region 1 (law.go:243)
  refine T.region ?_
  refine T.y (fun w hw => Yl.assign rfl) rfl rfl ?_
  refine T.nil ?_
  refine X.then_ ?_
  refine T.seq ?_
  -- region 2 (law.go:244)
  refine T.region ?_
  refine T.y (fun w hw => Yl.move rfl) rfl rfl ?_
  refine T.y (fun w hw => Yl.move rfl) rfl rfl ?_
  refine T.o (OpW.call en_29 rfl (block64_ct)) rfl rfl (fun ⟨A, c⟩ _ => ?_)
  dsimp only
  refine T.o (OpW.call en_39 rfl (append_nil)) rfl rfl (fun x hx => ?_)
  refine T.y (fun w hw => Yl.move rfl) rfl rfl ?_
  refine T.y (fun w hw => Yl.extract rfl rfl) rfl rfl ?_
  refine T.y (fun w hw => Yl.extract rfl rfl) rfl rfl ?_
  refine T.y (fun w hw => Yl.assign rfl) rfl rfl ?_
  refine T.y (fun w hw => Yl.assign rfl) rfl rfl ?_
  refine T.nil ?_
  refine J.sel (.cons 0 rfl (.cons 1 rfl (.cons 5 rfl (.cons 7 rfl .nil)))) ?_
  refine X.then_ ?_
  refine T.seq ?_
  -- region 3 (law.go:245)
  refine T.region ?_
  refine T.y (fun w hw => Yl.move rfl) rfl rfl ?_
  refine T.y (fun w hw => Yl.move rfl) rfl rfl ?_
  refine T.y (fun w hw => Yl.move rfl) rfl rfl ?_
  refine T.o (OpW.call en_42 rfl (read_nil)) rfl rfl (fun x hx => ?_)
  refine T.y (fun w hw => Yl.move rfl) rfl rfl ?_
  refine T.y (fun w hw => Yl.extract rfl rfl) rfl rfl ?_
  refine T.y (fun w hw => Yl.extract rfl rfl) rfl rfl ?_
  refine T.y (fun w hw => Yl.assign rfl) rfl rfl ?_
  refine T.y (fun w hw => Yl.assign rfl) rfl rfl ?_
  refine T.nil ?_
  refine J.sel (.cons 0 rfl (.cons 5 rfl (.cons 7 rfl (.cons 9 rfl .nil)))) ?_
  refine X.then_ ?_
  refine T.seq ?_
  -- region 4 (law.go:246)
  refine T.region ?_
  refine T.y (fun w hw => Yl.move rfl) rfl rfl ?_
  refine T.y (fun w hw => Yl.move rfl) rfl rfl ?_
  refine T.o (OpW.call en_40 rfl (pointer_nil)) rfl rfl (fun x hx => ?_)
  refine T.y (fun w hw => Yl.move rfl) rfl rfl ?_
  refine T.y (fun w hw => Yl.extract rfl rfl) rfl rfl ?_
  refine T.y (fun w hw => Yl.extract rfl rfl) rfl rfl ?_
  refine T.y (fun w hw => Yl.assign rfl) rfl rfl ?_
  refine T.y (fun w hw => Yl.assign rfl) rfl rfl ?_
  refine T.nil ?_
  refine J.sel (.cons 0 rfl (.cons 5 rfl (.cons 7 rfl (.cons 9 rfl (.cons 11 rfl .nil))))) ?_
  refine X.then_ ?_
  refine T.seq ?_
  -- region 5 (law.go:247)
  refine T.region ?_
  refine T.y (fun w hw => Yl.move rfl) rfl rfl ?_
  refine T.y (fun w hw => Yl.eql rfl rfl) rfl rfl ?_
  refine T.y (fun w hw => Yl.move rfl) rfl rfl ?_
  refine T.y (fun w hw => Yl.move rfl) rfl rfl ?_
  refine T.y (fun w hw => Yl.eql rfl rfl) rfl rfl ?_
  refine T.y (fun w hw => Yl.pickT rfl rfl) rfl rfl ?_
  refine T.y (fun w hw => Yl.move rfl) rfl rfl ?_
  refine T.y (fun w hw => Yl.move rfl) rfl rfl ?_
  refine T.y (fun w hw => Yl.eql rfl rfl) rfl rfl ?_
  refine T.y (fun w hw => Yl.pickT rfl rfl) rfl rfl ?_
  refine T.y (fun w hw => Yl.move rfl) rfl rfl ?_
  refine T.y (fun w hw => Yl.move rfl) rfl rfl ?_
  refine T.y (fun w hw => Yl.move rfl) rfl rfl ?_
  refine T.o (OpW.call en_38 rfl (reset_nil)) rfl rfl (fun x hx => ?_)
  refine T.y (fun w hw => Yl.eql rfl rfl) rfl rfl ?_
  refine T.y (fun w hw => Yl.pickT rfl rfl) rfl rfl ?_
  refine T.y (fun w hw => Yl.move rfl) rfl rfl ?_
  refine T.y (fun w hw => Yl.move rfl) rfl rfl ?_
  refine T.o (OpW.call en_62 rfl (off_nil)) rfl rfl (fun x hx => ?_)
  refine T.y (fun w hw => Yl.pickT rfl rfl) rfl rfl ?_
  refine T.y (fun w hw => Yl.move rfl) rfl rfl ?_
  refine T.y (fun w hw => Yl.move rfl) rfl rfl ?_
  refine T.o (OpW.call en_41 rfl (ops_nil)) rfl rfl (fun x hx => ?_)
  refine T.y (fun w hw => Yl.eql rfl rfl) rfl rfl ?_
  refine T.y (fun w hw => Yl.pickT rfl rfl) rfl rfl ?_
  refine T.y (fun w hw => Yl.move rfl) rfl rfl ?_
  refine T.y (fun w hw => Yl.move rfl) rfl rfl ?_
  refine T.o (OpW.call en_56 rfl (crash_nil)) rfl rfl (fun x hx => ?_)
  refine T.y (fun w hw => Yl.eqP Try.underlying38 rfl rfl) rfl rfl ?_
  refine T.y (fun w hw => Yl.pickT rfl rfl) rfl rfl ?_
  refine T.y (fun w hw => Yl.move rfl) rfl rfl ?_
  refine T.y (fun w hw => Yl.move rfl) rfl rfl ?_
  refine T.o (OpW.call en_63 rfl (copy_nil)) rfl rfl (fun x hx => ?_)
  refine T.y (fun w hw => Yl.eqP Try.underlying38 rfl rfl) rfl rfl ?_
  refine T.y (fun w hw => Yl.pickT rfl rfl) rfl rfl ?_
  refine T.y (fun w hw => Yl.move rfl) rfl rfl ?_
  refine T.y (fun w hw => Yl.move rfl) rfl rfl ?_
  refine T.o (OpW.call en_64 rfl (geometry_nil)) rfl rfl (fun x hx => ?_)
  refine T.y (fun w hw => Yl.build rfl (bld_42_z _)) rfl rfl ?_
  refine T.y (fun w hw => Yl.eqGeo rfl rfl) rfl rfl ?_
  refine T.y (fun w hw => Yl.pickT rfl rfl) rfl rfl ?_
  refine T.y (fun w hw => Yl.move rfl) rfl rfl ?_
  refine T.o (OpW.call en_34 rfl (awake_ct)) rfl rfl (fun x hx => ?_)
  refine T.y (fun w hw => Yl.pickT rfl rfl) rfl rfl ?_
  refine T.y (fun w hw => Yl.assign rfl) rfl rfl ?_
  refine T.nil ?_
  refine J.sel (.cons 4 rfl .nil) ?_
  refine X.then_ ?_
  refine T.ret ?_
  refine X.ret1 Try.results13 rfl (fun w hw => ?_)
  exact ⟨(), trivial, rfl, hw.fin (by (repeat (first | exact Picks.refl | exact Picks.nil | (apply Picks.cons; (focus ((repeat (first | exact Pick.head | apply Pick.tail)); done))) | apply Picks.drop))) (by (repeat (first | exact Ks.refl | exact Ks.nil | (apply Ks.cons; (focus ((repeat (first | assumption | exact List.Mem.head _ | apply List.Mem.tail)); done))) | apply Ks.drop)))⟩

theorem zdevNothing_walk {w : World} (p o : Int) : Calls Try.prog 13 #[.int .i64 p, .int .i64 o] w fun e w' => e = .returned (.bool true) ∧ Below w.heap.size w w' :=
  law_of (vs := [.int .i64 p, .int .i64 o]) (K := []) (K' := []) nothing_ct (fun k hk' => by cases hk')
end Go.Proofs.Ytfpnodboebpemaa
