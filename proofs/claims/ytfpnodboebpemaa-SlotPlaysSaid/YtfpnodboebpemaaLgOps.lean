/- The rules of the second logic for the operations that leave memory as it is: what each yields. -/
import Derived.Test.YtfpnodboebpemaaLg
import Derived.WalkLawsBesides
namespace Go.Proofs.Ytfpnodboebpemaa
open Go.RowKit Go.Proofs.YtfpnodboebpemaaW.PrintWords
set_option linter.unusedVariables false
set_option linter.unusedSimpArgs false

section
variable {E : Env} {w : World} {dst : Option Tmp} {ty : Nat} {ps : String} {af : Array Edge} {g : Option (Nat × Bool)}
theorem Yl.move {x : Operand} {v : Value} (hx : ev E x = some v) : Yl ⟨dst, .move x, ty, ps, af, g⟩ E (v) w := Yl.mk fun ρ hρ => by simp only [execOp, hρ x v hx]; rfl
theorem Yl.assign {x : Operand} {v : Value} (hx : ev E x = some v) : Yl ⟨dst, .assign x, ty, ps, af, g⟩ E (v) w := Yl.mk fun ρ hρ => by simp only [execOp, hρ x v hx]; rfl
theorem Yl.pickT {c x y : Operand} {v : Value} (hc : ev E c = some (.bool true)) (hx : ev E x = some v) : Yl ⟨dst, .pick c x y, ty, ps, af, g⟩ E (v) w := Yl.mk fun ρ hρ => by simp only [execOp, hρ c _ hc, hρ x v hx]; rfl
theorem Yl.pickF {c x y : Operand} {v : Value} (hc : ev E c = some (.bool false)) (hx : ev E y = some v) : Yl ⟨dst, .pick c x y, ty, ps, af, g⟩ E (v) w := Yl.mk fun ρ hρ => by simp only [execOp, hρ c _ hc, hρ y v hx]; rfl

/-! ### Numbers -/
theorem Yl.lss {t t' : TypeId} {x y : Operand} {k : IntKind} {a b : Int} (hx : ev E x = some (.int k a)) (hy : ev E y = some (.int k b)) : Yl ⟨dst, .binOp .lss t x y t', ty, ps, af, g⟩ E (.bool (decide (a < b))) w := Yl.mk fun ρ hρ => by simp [execOp, hρ x _ hx, hρ y _ hy, eqGuard, binOp, Op.intCmp]
theorem Yl.leq {t t' : TypeId} {x y : Operand} {k : IntKind} {a b : Int} (hx : ev E x = some (.int k a)) (hy : ev E y = some (.int k b)) : Yl ⟨dst, .binOp .leq t x y t', ty, ps, af, g⟩ E (.bool (decide (a ≤ b))) w := Yl.mk fun ρ hρ => by simp [execOp, hρ x _ hx, hρ y _ hy, eqGuard, binOp, Op.intCmp]
theorem Yl.gtr {t t' : TypeId} {x y : Operand} {k : IntKind} {a b : Int} (hx : ev E x = some (.int k a)) (hy : ev E y = some (.int k b)) : Yl ⟨dst, .binOp .gtr t x y t', ty, ps, af, g⟩ E (.bool (decide (b < a))) w := Yl.mk fun ρ hρ => by simp [execOp, hρ x _ hx, hρ y _ hy, eqGuard, binOp, Op.intCmp]
theorem Yl.geq {t t' : TypeId} {x y : Operand} {k : IntKind} {a b : Int} (hx : ev E x = some (.int k a)) (hy : ev E y = some (.int k b)) : Yl ⟨dst, .binOp .geq t x y t', ty, ps, af, g⟩ E (.bool (decide (b ≤ a))) w := Yl.mk fun ρ hρ => by simp [execOp, hρ x _ hx, hρ y _ hy, eqGuard, binOp, Op.intCmp]
theorem Yl.eql {t t' : TypeId} {x y : Operand} {k : IntKind} {a b : Int} (hx : ev E x = some (.int k a)) (hy : ev E y = some (.int k b)) : Yl ⟨dst, .binOp .eql t x y t', ty, ps, af, g⟩ E (.bool (decide (a = b))) w := Yl.mk fun ρ hρ => by simp [execOp, hρ x _ hx, hρ y _ hy, eqGuard, binOp, Op.intCmp]; rfl
theorem Yl.neq {t t' : TypeId} {x y : Operand} {k : IntKind} {a b : Int} (hx : ev E x = some (.int k a)) (hy : ev E y = some (.int k b)) : Yl ⟨dst, .binOp .neq t x y t', ty, ps, af, g⟩ E (.bool (decide (a ≠ b))) w := Yl.mk fun ρ hρ => by simp [execOp, hρ x _ hx, hρ y _ hy, eqGuard, binOp, Op.intCmp]; (by_cases h : a = b <;> simp [h])
theorem Yl.add {t t' : TypeId} {x y : Operand} {a b : Int} (hx : ev E x = some (.int .i64 a)) (hy : ev E y = some (.int .i64 b)) (hb : -9223372036854775808 ≤ a + b ∧ a + b ≤ 9223372036854775807) : Yl ⟨dst, .binOp .add t x y t', ty, ps, af, g⟩ E (.int .i64 (a + b)) w := Yl.mk fun ρ hρ => by simp [execOp, hρ x _ hx, hρ y _ hy, eqGuard, binOp, Op.intArith]; rw [IntKind.wrap_i64]; omega
theorem Yl.sub {t t' : TypeId} {x y : Operand} {a b : Int} (hx : ev E x = some (.int .i64 a)) (hy : ev E y = some (.int .i64 b)) (hb : -9223372036854775808 ≤ a - b ∧ a - b ≤ 9223372036854775807) : Yl ⟨dst, .binOp .sub t x y t', ty, ps, af, g⟩ E (.int .i64 (a - b)) w := Yl.mk fun ρ hρ => by simp [execOp, hρ x _ hx, hρ y _ hy, eqGuard, binOp, Op.intArith]; rw [IntKind.wrap_i64]; omega
theorem Yl.mul {t t' : TypeId} {x y : Operand} {a b : Int} (hx : ev E x = some (.int .i64 a)) (hy : ev E y = some (.int .i64 b)) (hb : -9223372036854775808 ≤ a * b ∧ a * b ≤ 9223372036854775807) : Yl ⟨dst, .binOp .mul t x y t', ty, ps, af, g⟩ E (.int .i64 (a * b)) w := Yl.mk fun ρ hρ => by simp [execOp, hρ x _ hx, hρ y _ hy, eqGuard, binOp, Op.intArith]; rw [IntKind.wrap_i64]; omega
theorem Yl.addW {t t' : TypeId} {x y : Operand} {a b : Int} (hx : ev E x = some (.int .i64 a)) (hy : ev E y = some (.int .i64 b)) : Yl ⟨dst, .binOp .add t x y t', ty, ps, af, g⟩ E (.int .i64 (IntKind.i64.wrap (a + b))) w := Yl.mk fun ρ hρ => by simp [execOp, hρ x _ hx, hρ y _ hy, eqGuard, binOp, Op.intArith]
/-- a / b, neither below 0. -/
theorem Yl.quo {t t' : TypeId} {x y : Operand} {a b : Int} (hx : ev E x = some (.int .i64 a)) (hy : ev E y = some (.int .i64 b)) (hb : 0 ≤ a ∧ a ≤ 9223372036854775807 ∧ 0 < b) : Yl ⟨dst, .binOp .quo t x y t', ty, ps, af, g⟩ E (.int .i64 (a / b)) w := Yl.mk fun ρ hρ => by 
    have h1 : 0 ≤ a / b := Int.ediv_nonneg hb.1 (by omega)
    have h2 : a / b ≤ a := Int.ediv_le_self _ hb.1
    simp [execOp, hρ x _ hx, hρ y _ hy, eqGuard, binOp, Op.intDiv, show b ≠ 0 by omega, Int.tdiv_eq_ediv_of_nonneg hb.1]; rw [IntKind.wrap_i64]; omega
theorem Yl.rem {t t' : TypeId} {x y : Operand} {a b : Int} (hx : ev E x = some (.int .i64 a)) (hy : ev E y = some (.int .i64 b)) (hb : 0 ≤ a ∧ 0 < b) : Yl ⟨dst, .binOp .rem t x y t', ty, ps, af, g⟩ E (.int .i64 (a % b)) w := Yl.mk fun ρ hρ => by simp [execOp, hρ x _ hx, hρ y _ hy, eqGuard, binOp, Op.intDiv, show b ≠ 0 by omega, Int.tmod_eq_emod_of_nonneg hb.1]
theorem Yl.quoT {t t' : TypeId} {x y : Operand} {a b : Int} (hx : ev E x = some (.int .i64 a)) (hy : ev E y = some (.int .i64 b)) (hb : b ≠ 0 ∧ -9223372036854775808 ≤ a.tdiv b ∧ a.tdiv b ≤ 9223372036854775807) : Yl ⟨dst, .binOp .quo t x y t', ty, ps, af, g⟩ E (.int .i64 (a.tdiv b)) w := Yl.mk fun ρ hρ => by simp [execOp, hρ x _ hx, hρ y _ hy, eqGuard, binOp, Op.intDiv, hb.1]; rw [IntKind.wrap_i64]; omega
theorem Yl.remT {t t' : TypeId} {x y : Operand} {a b : Int} (hx : ev E x = some (.int .i64 a)) (hy : ev E y = some (.int .i64 b)) (hb : b ≠ 0) : Yl ⟨dst, .binOp .rem t x y t', ty, ps, af, g⟩ E (.int .i64 (a.tmod b)) w := Yl.mk fun ρ hρ => by simp [execOp, hρ x _ hx, hρ y _ hy, eqGuard, binOp, Op.intDiv, hb]

/-! ### Bools, strings, pointers -/
theorem Yl.not {t : TypeId} {x : Operand} {b : Bool} (hx : ev E x = some (.bool b)) : Yl ⟨dst, .unOp .not t x, ty, ps, af, g⟩ E (.bool (!b)) w := Yl.mk fun ρ hρ => by simp [execOp, hρ x _ hx, Op.unary]
theorem Yl.notD {t : TypeId} {x : Operand} {p : Prop} {_ : Decidable p} (hx : ev E x = some (.bool (decide p))) : Yl ⟨dst, .unOp .not t x, ty, ps, af, g⟩ E (.bool (decide (¬ p))) w := Yl.mk fun ρ hρ => by simp [execOp, hρ x _ hx, Op.unary]
theorem run_eq_bool {t : TypeId} (hu : Try.prog.underlying t = some .bool) (a b : Bool) (w : World) : (Op.equal t (.bool a) (.bool b)).run Try.prog w = .ok (a == b) w := by
  have h : ∀ d, (Op.equalIn (d + 1) t (.bool a) (.bool b)).run Try.prog w = .ok (a == b) w := fun d => by simp only [Op.equalIn, Sem.run_bind, run_underlying hu, Result.andThen_ok]; rfl
  exact h 9999
theorem Yl.eqB {t t' : TypeId} {x y : Operand} {a b : Bool} (hu : Try.prog.underlying t = some .bool) (hx : ev E x = some (.bool a)) (hy : ev E y = some (.bool b)) : Yl ⟨dst, .binOp .eql t x y t', ty, ps, af, g⟩ E (.bool (decide (a = b))) w := Yl.mk fun ρ hρ => by simp [execOp, hρ x _ hx, hρ y _ hy, eqGuard, binOp, run_eq_bool hu]; (cases a <;> cases b <;> rfl)
theorem str_beq (a b : ByteArray) : (a.toList == b.toList) = decide (a = b) := by
  by_cases h : a = b
  · subst h; simp
  · rw [decide_eq_false h]; simp only [beq_eq_false_iff_ne]; exact fun e => h (Go.WideShapes.bytes_inj (by rw [← ByteArray.toList_eq, ← ByteArray.toList_eq]; exact e))
theorem Yl.eqS {t t' : TypeId} {x y : Operand} {a b : ByteArray} (hx : ev E x = some (.string a)) (hy : ev E y = some (.string b)) : Yl ⟨dst, .binOp .eql t x y t', ty, ps, af, g⟩ E (.bool (decide (a = b))) w := Yl.mk fun ρ hρ => by simp [execOp, hρ x _ hx, hρ y _ hy, eqGuard, binOp, Op.stringOp, str_beq]
theorem Yl.neS {t t' : TypeId} {x y : Operand} {a b : ByteArray} (hx : ev E x = some (.string a)) (hy : ev E y = some (.string b)) : Yl ⟨dst, .binOp .neq t x y t', ty, ps, af, g⟩ E (.bool (decide (a ≠ b))) w := Yl.mk fun ρ hρ => by simp [execOp, hρ x _ hx, hρ y _ hy, eqGuard, binOp, Op.stringOp, str_beq]
theorem run_eq_ptr_nil {t e : TypeId} (hu : Try.prog.underlying t = some (.pointer e)) (p : Option Addr) (w : World) : (Op.equal t (.pointer p) (.pointer none)).run Try.prog w = .ok p.isNone w := by
  have h : ∀ d, (Op.equalIn (d + 1) t (.pointer p) (.pointer none)).run Try.prog w = .ok p.isNone w := fun d => by cases p <;> (simp only [Op.equalIn, Sem.run_bind, run_underlying hu, Result.andThen_ok]; rfl)
  exact h 9999
theorem Yl.eqP {t t' e : TypeId} {x y : Operand} {p : Option Addr} (hu : Try.prog.underlying t = some (.pointer e)) (hx : ev E x = some (.pointer p)) (hy : ev E y = some (.pointer none)) : Yl ⟨dst, .binOp .eql t x y t', ty, ps, af, g⟩ E (.bool p.isNone) w := Yl.mk fun ρ hρ => by cases p <;> simp [execOp, hρ x _ hx, hρ y _ hy, eqGuard, binOp, run_eq_ptr_nil hu]
theorem Yl.neP {t t' e : TypeId} {x y : Operand} {p : Option Addr} (hu : Try.prog.underlying t = some (.pointer e)) (hx : ev E x = some (.pointer p)) (hy : ev E y = some (.pointer none)) : Yl ⟨dst, .binOp .neq t x y t', ty, ps, af, g⟩ E (.bool p.isSome) w := Yl.mk fun ρ hρ => by cases p <;> simp [execOp, hρ x _ hx, hρ y _ hy, eqGuard, binOp, run_eq_ptr_nil hu]
theorem run_eq_sl_nil {t e : TypeId} (hu : Try.prog.underlying t = some (.slice e)) (A : Option Addr) (m c : Nat) (w : World) : (Op.equal t (.slice A m c) (.slice none 0 0)).run Try.prog w = .ok A.isNone w := by
  have h : ∀ d, (Op.equalIn (d + 1) t (.slice A m c) (.slice none 0 0)).run Try.prog w = .ok A.isNone w := fun d => by cases A <;> (simp only [Op.equalIn, Sem.run_bind, run_underlying hu, Result.andThen_ok]; rfl)
  exact h 9999
theorem Yl.eqSl {t t' e : TypeId} {x y : Operand} {A : Option Addr} {m c : Nat} (hu : Try.prog.underlying t = some (.slice e)) (hx : ev E x = some (.slice A m c)) (hy : ev E y = some (.slice none 0 0)) : Yl ⟨dst, .binOp .eql t x y t', ty, ps, af, g⟩ E (.bool A.isNone) w := Yl.mk fun ρ hρ => by simp [execOp, hρ x _ hx, hρ y _ hy, eqGuard, binOp, run_eq_sl_nil hu]

/-! ### Slices, tuples -/
theorem Yl.len {t e : TypeId} {x : Operand} {A : Option Addr} {m c : Nat} (hu : Try.prog.underlying t = some (.slice e)) (hx : ev E x = some (.slice A m c)) : Yl ⟨dst, .call { callee := .builtin .len, args := #[x], argTypes := #[t] }, ty, ps, af, g⟩ E (.int .i64 m) w := Yl.mk fun ρ hρ => by simp [execOp, resolve, invoke, builtin, Builtin.len_, hρ x _ hx, run_underlying hu, goInt]
theorem Yl.cap {t e : TypeId} {x : Operand} {A : Option Addr} {m c : Nat} (hu : Try.prog.underlying t = some (.slice e)) (hx : ev E x = some (.slice A m c)) : Yl ⟨dst, .call { callee := .builtin .cap, args := #[x], argTypes := #[t] }, ty, ps, af, g⟩ E (.int .i64 c) w := Yl.mk fun ρ hρ => by simp [execOp, resolve, invoke, builtin, Builtin.cap_, hρ x _ hx, run_underlying hu, goInt]
theorem Yl.min {t t' : TypeId} {x y : Operand} {k : IntKind} {a b : Int} (hx : ev E x = some (.int k a)) (hy : ev E y = some (.int k b)) : Yl ⟨dst, .call { callee := .builtin .min, args := #[x, y], argTypes := #[t, t'] }, ty, ps, af, g⟩ E (.int k (if b < a then b else a)) w := Yl.mk fun ρ hρ => by simp [execOp, resolve, invoke, builtin, Builtin.min_, Builtin.min2, hρ x _ hx, hρ y _ hy]
theorem Yl.max {t t' : TypeId} {x y : Operand} {k : IntKind} {a b : Int} (hx : ev E x = some (.int k a)) (hy : ev E y = some (.int k b)) : Yl ⟨dst, .call { callee := .builtin .max, args := #[x, y], argTypes := #[t, t'] }, ty, ps, af, g⟩ E (.int k (if a < b then b else a)) w := Yl.mk fun ρ hρ => by simp [execOp, resolve, invoke, builtin, Builtin.max_, Builtin.max2, hρ x _ hx, hρ y _ hy]
theorem Yl.extract {x : Operand} {i : Nat} {vs : List Value} {v : Value} (hx : ev E x = some (.tuple vs.toArray)) (hv : vs[i]? = some v) : Yl ⟨dst, .extract x i, ty, ps, af, g⟩ E (v) w := Yl.mk fun ρ hρ => by simp [execOp, hρ x _ hx, Instr.extract, hv]
theorem Yl.nilck {x : Operand} {a : Addr} (hx : ev E x = some (.pointer (some a))) : Yl ⟨dst, .nilCheck x, ty, ps, af, g⟩ E (.pointer (some a)) w := Yl.mk fun ρ hρ => by simp [execOp, hρ x _ hx]
/-- A number turned into another kind that has it. -/
theorem Yl.conv {s t : TypeId} {k k' : IntKind} {x : Operand} {a : Int} (hs : Try.prog.underlying s = some (.int k)) (ht : Try.prog.underlying t = some (.int k')) (hx : ev E x = some (.int k a)) (hb : k'.wrap a = a) : Yl ⟨dst, .convert s t x, ty, ps, af, g⟩ E (.int k' a) w := Yl.mk fun ρ hρ => by simp [execOp, hρ x _ hx, convert, run_underlying hs, run_underlying ht, Conv.intToInt, hb]
theorem Yl.convW {s t : TypeId} {k k' : IntKind} {x : Operand} {a : Int} (hs : Try.prog.underlying s = some (.int k)) (ht : Try.prog.underlying t = some (.int k')) (hx : ev E x = some (.int k a)) : Yl ⟨dst, .convert s t x, ty, ps, af, g⟩ E (.int k' (k'.wrap a)) w := Yl.mk fun ρ hρ => by simp [execOp, hρ x _ hx, convert, run_underlying hs, run_underlying ht, Conv.intToInt]

/-! ### Addresses -/
/-- Where a slice lies. -/
def sB (A : Option Addr) : Nat := match A with | some a => a.block | none => 0
def sO (A : Option Addr) : Nat := match A with | some a => a.off | none => 0
/-- The field's place in its struct. -/
def FieldAt (s f off : Nat) : Prop := ∀ (b o : Nat) (w : World), (Instr.fieldAt s (ptr b o) f).run Try.prog w = .ok (ptr b (o + off)) w
theorem addr_add (b o j : Nat) : (⟨b, o, none⟩ : Addr).add j = ⟨b, o + j, none⟩ := by unfold Addr.add; split <;> simp_all
theorem field_of {s f off sz : Nat} {fs : Array Field} {x : Field} (hu : Try.prog.underlying s = some (.struct fs)) (hf : fs[f]? = some x) (ho : x.offset = off) (hs : (Try.prog.info? x.type).map (·.size) = some sz) (hz : sz ≠ 0) : FieldAt s f off := fun b o w => by
  obtain ⟨i, hi, hsz⟩ : ∃ i, Try.prog.info? x.type = some i ∧ i.size = sz := by
    cases h : Try.prog.info? x.type with
    | none => rw [h] at hs; cases hs
    | some i => rw [h] at hs; exact ⟨i, rfl, by injection hs⟩
  simp [Instr.fieldAt, run_underlying hu, hf, Instr.sureAddr, fieldPlace, sizeOf, typeInfo, hi, hsz, hz, addr_add, ho]
theorem Yl.fa {s f off : Nat} {x : Operand} {b o : Nat} (hf : FieldAt s f off) (hx : ev E x = some (ptr b o)) : Yl ⟨dst, .fieldAddr s x f, ty, ps, af, g⟩ E (ptr b (o + off)) w := Yl.mk fun ρ hρ => by simp [execOp, hρ x _ hx, hf b o w]
/-- A field of an element. -/
theorem Yl.fae {s f off : Nat} {x : Operand} {b o j : Nat} (hf : FieldAt s f off) (hx : ev E x = some (ptr b (o + j))) : Yl ⟨dst, .fieldAddr s x f, ty, ps, af, g⟩ E (ptr b (o + (j + off))) w := Yl.mk fun ρ hρ => by simp [execOp, hρ x _ hx, hf b (o + j) w, Nat.add_assoc]
theorem SlC.addr {ok : Nat → Prop} {w : World} {sz m c : Nat} {A : Option Addr} {xs : List Value} (h : SlC ok w sz (.slice A m c) m xs) (hm : 0 < m) : ∃ b o, A = some ⟨b, o, none⟩ := by
  obtain ⟨A', c', he, hl, _, _, h4⟩ := h
  injection he with hA _ hc
  obtain ⟨b, o, hb, _, _, _⟩ := h4 hm
  exact ⟨b, o, hA.trans hb⟩
theorem Yl.ia {t e sz : Nat} {x y : Operand} {A : Option Addr} {m c i : Nat} {k : IntKind} {a : Int} {xs : List Value} (hu : Try.prog.underlying t = some (.slice e)) (hsz : (Try.prog.info? e).map (·.size) = some sz) (hx : ev E x = some (.slice A m c)) (hy : ev E y = some (.int k a)) (ha : a = (i : Int)) (hi : i < m)
    (hr : SlC (fun _ => True) w sz (.slice A m c) m xs) : Yl ⟨dst, .indexAddr t x y, ty, ps, af, g⟩ E (ptr (sB A) (sO A + i * sz)) w := Yl.mk fun ρ hρ => by
    have hm : 0 < m := Nat.lt_of_le_of_lt (Nat.zero_le i) hi
    have hA : ∃ b o, A = some ⟨b, o, none⟩ := by
      exact SlC.addr hr hm
    obtain ⟨b, o, hA⟩ := hA
    obtain ⟨inf, hinf, hsz'⟩ : ∃ i, Try.prog.info? e = some i ∧ i.size = sz := by
      cases h : Try.prog.info? e with
      | none => rw [h] at hsz; cases hsz
      | some i => rw [h] at hsz; exact ⟨i, rfl, Option.some.inj hsz⟩
    subst ha
    have h1 : (Instr.indexAt t (.slice (some ⟨b, o, none⟩) m c) (.int k (i : Int))).run Try.prog w = .ok (ptr b (o + i * sz)) w := by
      simp only [Instr.indexAt, asIntOf, Sem.run_bind, Sem.run_pure, run_underlying hu, Result.andThen_ok]
      rw [if_pos ⟨by omega, by omega⟩]
      simp [sizeOf, typeInfo, hinf, hsz', addr_add]
    subst hA
    simp only [execOp, hρ x _ hx, hρ y _ hy, h1, Sem.run_bind, Result.andThen_ok]; rfl

/-! ### Loads -/
def NoAgg (t : TypeId) : Prop := ∀ w, (isAgg t).run Try.prog w = .ok false w
theorem noAgg_of {t : TypeId} {td : TypeDesc} (h : Try.prog.underlying t = some td) (hn : (match td with | .struct _ | .array _ _ => true | _ => false) = false) : NoAgg t := fun w => by
  unfold isAgg; simp only [run_underlying h, Sem.run_bind, Result.andThen_ok]; revert hn; cases td <;> intro hn <;> first | rfl | (simp at hn)
theorem run_load1 {t : TypeId} (hn : NoAgg t) {b o : Nat} {v : Value} {w : World} (hc : w.cell? ⟨b, o, none⟩ = some v) : (Instr.loadAt t (ptr b o)).run Try.prog w = .ok v w := by
  simp [Instr.loadAt, Instr.sureAddr, loadVar, hn w, hc]
/-- A cell is read, whatever tells what is in it. -/
theorem Yl.ld {t : TypeId} {x : Operand} {b o : Nat} {v : Value} (hn : NoAgg t) (hx : ev E x = some (ptr b o)) (hc : w.cell? ⟨b, o, none⟩ = some v) : Yl ⟨dst, .load t x, ty, ps, af, g⟩ E (v) w := Yl.mk fun ρ hρ => by simp only [execOp, hρ x _ hx, Sem.run_bind, run_load1 hn hc, Result.andThen_ok]; rfl
theorem SlC.at {ok : Nat → Prop} {w : World} {sz m c : Nat} {A : Option Addr} {xs : List Value} (h : SlC ok w sz (.slice A m c) m xs) {j : Nat} {v : Value} (hv : xs[j]? = some v) : w.cell? ⟨sB A, sO A + j, none⟩ = some v := by
  obtain ⟨A', c', he, hl, _, _, h4⟩ := h
  injection he with hA _ hc
  have hm : 0 < m := by
    rcases Nat.eq_zero_or_pos m with h0 | h0
    · rw [h0, Nat.zero_mul] at hl
      rw [List.eq_nil_of_length_eq_zero hl] at hv; cases hv
    · exact h0
  obtain ⟨b, o, hb, _, _, hc⟩ := h4 hm
  rw [hA, hb]; exact hc j v hv
theorem Yl.ldP {M : List HP} {K : List KP} {t t' : TypeId} {x : Operand} {b o : Nat} {v : Value} {cs : List Value} (hh : Hold w M K) (hn : NoAgg t) (hx : ev E x = some (ptr b o)) (hm : pt b t' cs ∈ M) (hv : cs[o]? = some v) : Yl ⟨dst, .load t x, ty, ps, af, g⟩ E v w := Yl.ld hn hx (hh.cell hm hv)
theorem Yl.ldR {t : TypeId} {x : Operand} {A : Option Addr} {j m c sz : Nat} {v : Value} {xs : List Value} (hr : SlC (fun _ => True) w sz (.slice A m c) m xs) (hn : NoAgg t) (hx : ev E x = some (ptr (sB A) (sO A + j))) (hv : xs[j]? = some v) : Yl ⟨dst, .load t x, ty, ps, af, g⟩ E v w := Yl.ld hn hx (hr.at hv)
def AggOf (t k : Nat) : Prop := ∀ w, (isAgg t).run Try.prog w = .ok true w ∧ (sizeOf t).run Try.prog w = .ok k w
theorem aggOf {t k : Nat} {fs : Array Field} (h : Try.prog.underlying t = some (.struct fs)) (hs : (Try.prog.info? t).map (·.size) = some k) : AggOf t k := fun w => by
  obtain ⟨i, hi, hsz⟩ : ∃ i, Try.prog.info? t = some i ∧ i.size = k := by
    cases h : Try.prog.info? t with
    | none => rw [h] at hs; cases hs
    | some i => rw [h] at hs; exact ⟨i, rfl, by injection hs⟩
  refine ⟨?_, ?_⟩
  · unfold isAgg; simp only [run_underlying h, Sem.run_bind, Result.andThen_ok]; rfl
  · simp [sizeOf, typeInfo, hi, hsz]
theorem run_loadFrom {P : Program} {w : World} {b o : Nat} : ∀ (vs : List Value) (i : Nat) (acc : Array Value), (∀ j v, vs[j]? = some v → w.cell? ⟨b, o + i + j, none⟩ = some v) → (loadCellsFrom ⟨b, o, none⟩ i vs.length acc).run P w = .ok (acc ++ vs.toArray) w
  | [], i, acc, _ => by simp [loadCellsFrom]
  | v :: vs, i, acc, h => by
    have h0 := h 0 v rfl
    rw [Nat.add_zero] at h0
    have ih := run_loadFrom (P := P) (w := w) (b := b) (o := o) vs (i + 1) (acc.push v) (fun j u hu => by
      have := h (j + 1) u hu
      rwa [show o + i + (j + 1) = o + (i + 1) + j by omega] at this)
    simp only [List.length_cons, loadCellsFrom, Sem.run_bind]
    have : (load ((⟨b, o, none⟩ : Addr).add i)).run P w = .ok v w := by rw [addr_add]; simp [load, Sem.run, h0]
    rw [this, Result.andThen_ok, ih]
    simp
theorem run_loadA {t k : Nat} (ha : AggOf t k) {b o : Nat} {vs : List Value} {w : World} (hl : vs.length = k) (hc : ∀ j v, vs[j]? = some v → w.cell? ⟨b, o + j, none⟩ = some v) : (Instr.loadAt t (ptr b o)).run Try.prog w = .ok (.agg vs.toArray) w := by
  obtain ⟨h1, h2⟩ := ha w
  have := run_loadFrom (P := Try.prog) (w := w) (b := b) (o := o) vs 0 #[] (by simpa using hc)
  subst hl
  simp [Instr.loadAt, Instr.sureAddr, loadVar, h1, h2, loadCells, this]
/-- A struct is read whole. -/
theorem Yl.lda {t k : Nat} {x : Operand} {b o : Nat} {vs : List Value} (ha : AggOf t k) (hl : vs.length = k) (hx : ev E x = some (ptr b o)) (hc : ∀ j v, vs[j]? = some v → w.cell? ⟨b, o + j, none⟩ = some v) : Yl ⟨dst, .load t x, ty, ps, af, g⟩ E (.agg vs.toArray) w := Yl.mk fun ρ hρ => by simp only [execOp, hρ x _ hx, Sem.run_bind, run_loadA ha hl hc, Result.andThen_ok]; rfl
/-- cs reads vs, k of them, from o on. -/
inductive Sub : List Value → Nat → Nat → List Value → Prop
  | nil {cs : List Value} {o : Nat} : Sub cs o 0 []
  | cons {cs vs : List Value} {o k : Nat} {v : Value} (h : cs[o]? = some v) (r : Sub cs (o + 1) k vs) : Sub cs o (k + 1) (v :: vs)
theorem Sub.len {cs vs : List Value} {o k : Nat} (h : Sub cs o k vs) : vs.length = k := by
  induction h with
  | nil => rfl
  | cons _ _ ih => simp [ih]
theorem Sub.get {cs vs : List Value} {o k : Nat} (h : Sub cs o k vs) : ∀ j v, vs[j]? = some v → cs[o + j]? = some v := by
  induction h with
  | nil => intro j v hv; simp at hv
  | @cons _ o _ _ h _ ih =>
    intro j v hv
    cases j with
    | zero => simp at hv; rw [← hv]; exact h
    | succ j => have := ih j v (by simpa using hv); rwa [show o + 1 + j = o + (j + 1) by omega] at this
theorem Yl.ldaP {M : List HP} {K : List KP} {t t' k : Nat} {x : Operand} {b o : Nat} {vs cs : List Value} (hh : Hold w M K) (ha : AggOf t k) (hx : ev E x = some (ptr b o)) (hm : pt b t' cs ∈ M) (hs : Sub cs o k vs) : Yl ⟨dst, .load t x, ty, ps, af, g⟩ E (.agg vs.toArray) w :=
  Yl.lda ha hs.len hx (fun j v hv => hh.cell hm (hs.get j v hv))
/-- A struct among the elements is read whole. -/
theorem Yl.ldaR {t k : Nat} {x : Operand} {A : Option Addr} {j m c sz : Nat} {vs xs : List Value} (hr : SlC (fun _ => True) w sz (.slice A m c) m xs) (ha : AggOf t k) (hx : ev E x = some (ptr (sB A) (sO A + j))) (hs : Sub xs j k vs) : Yl ⟨dst, .load t x, ty, ps, af, g⟩ E (.agg vs.toArray) w :=
  Yl.lda ha hs.len hx (fun i v hv => by rw [Nat.add_assoc]; exact hr.at (hs.get i v hv))
end

section
variable {n : Nat} {E : Env} {M : List HP} {K : List KP} {Q : Exit → Act → World → Prop} {l0 l : List Oper}
/-- In a region in the text's order. -/
theorem T.y {d ty : Nat} {op : Op} {ps : String} {af : Array Edge} {g : Option (Nat × Bool)} {v : Value} (hy : ∀ w, Hold w M K → Yl ⟨some d, op, ty, ps, af, g⟩ E v w) (hw : wt l0 E g = some true) (hd : Nat.ble (d + 1) n = true)
    (h : J n ((d, v) :: E) M K (R l0 l Q)) : J n E M K (R l0 (⟨some d, op, ty, ps, af, g⟩ :: l) Q) := T.yl rfl hw hd hy h
end
end Go.Proofs.Ytfpnodboebpemaa
