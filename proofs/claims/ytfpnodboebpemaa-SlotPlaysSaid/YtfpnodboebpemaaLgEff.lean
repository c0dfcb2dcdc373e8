/- The rules of the second logic for the operations that make or write memory, for calls, and for slice expressions. -/
import Derived.Test.YtfpnodboebpemaaLgOps
namespace Go.Proofs.Ytfpnodboebpemaa
open Go.RowKit Go.Proofs.YtfpnodboebpemaaW.PrintWords
set_option linter.unusedVariables false
set_option linter.unusedSimpArgs false

/-- What an operation does, whoever goes on behind it. -/
@[irreducible] def OpW (o : Oper) (E : Env) (M : List HP) (K : List KP) {α : Type} (φ : α → Prop) (V : α → Value) (M' : α → List HP) (K' : α → List KP) : Prop :=
  ∀ (a : Act) (w : World) (Kn : Act → World → Prop) (Q : Exit → Act → World → Prop), (∀ x u, ev E x = some u → a.eval x = u) → Hold w M K → (∀ x w', φ x → Hold w' (M' x) (K' x) → Kn (a.put o.dst (V x)) w') → o.wp Try.prog a w Kn Q
theorem OpW.intro {o : Oper} {E : Env} {M : List HP} {K : List KP} {α : Type} {φ : α → Prop} {V : α → Value} {M' : α → List HP} {K' : α → List KP}
    (h : ∀ (a : Act) (w : World) (Kn : Act → World → Prop) (Q : Exit → Act → World → Prop), (∀ x u, ev E x = some u → a.eval x = u) → Hold w M K → (∀ x w', φ x → Hold w' (M' x) (K' x) → Kn (a.put o.dst (V x)) w') → o.wp Try.prog a w Kn Q) : OpW o E M K φ V M' K' := by unfold OpW; exact h
theorem OpW.go {o : Oper} {E : Env} {M : List HP} {K : List KP} {α : Type} {φ : α → Prop} {V : α → Value} {M' : α → List HP} {K' : α → List KP} (h : OpW o E M K φ V M' K') :
    ∀ (a : Act) (w : World) (Kn : Act → World → Prop) (Q : Exit → Act → World → Prop), (∀ x u, ev E x = some u → a.eval x = u) → Hold w M K → (∀ x w', φ x → Hold w' (M' x) (K' x) → Kn (a.put o.dst (V x)) w') → o.wp Try.prog a w Kn Q := by unfold OpW at h; exact h

section
variable {n : Nat} {E : Env} {M : List HP} {K : List KP} {Q : Exit → Act → World → Prop} {l0 l : List Oper}
theorem T.o {α : Type} {φ : α → Prop} {V : α → Value} {Mc : α → List HP} {Kc : α → List KP} {d ty : Nat} {op : Op} {ps : String} {af : Array Edge} {g : Option (Nat × Bool)} (ho : OpW ⟨some d, op, ty, ps, af, g⟩ E M K φ V Mc Kc) (hw : wt l0 E g = some true) (hd : Nat.ble (d + 1) n = true)
    (h : ∀ x, φ x → J n ((d, V x) :: E) (Mc x) (Kc x) (R l0 l Q)) : J n E M K (R l0 (⟨some d, op, ty, ps, af, g⟩ :: l) Q) := J.intro fun a w ha hh => by
  refine wpList_step fun Kn hK => ?_
  rw [if_pos (ha.wt hw)]
  exact ho.go a w Kn Q (fun x u hx => ha.ev hx) hh (fun x w' hx hh' => hK _ _ ((h x hx).go _ w' (ha.put hd (V x)) hh'))
theorem T.o0 {α : Type} {φ : α → Prop} {V : α → Value} {Mc : α → List HP} {Kc : α → List KP} {ty : Nat} {op : Op} {ps : String} {af : Array Edge} {g : Option (Nat × Bool)} (ho : OpW ⟨none, op, ty, ps, af, g⟩ E M K φ V Mc Kc) (hw : wt l0 E g = some true)
    (h : ∀ x, φ x → J n E (Mc x) (Kc x) (R l0 l Q)) : J n E M K (R l0 (⟨none, op, ty, ps, af, g⟩ :: l) Q) := J.intro fun a w ha hh => by
  refine wpList_step fun Kn hK => ?_
  rw [if_pos (ha.wt hw)]
  exact ho.go a w Kn Q (fun x u hx => ha.ev hx) hh (fun x w' hx hh' => hK _ _ ((h x hx).go _ w' ha hh'))
end

section
variable {E : Env} {M M' : List HP} {K : List KP} {dst : Option Tmp} {ty : Nat} {ps : String} {af : Array Edge} {g : Option (Nat × Bool)}

theorem OpW.val {o : Oper} {α : Type} {φ : α → Prop} {V : α → Value} {Mc : α → List HP} {Kc : α → List KP} (h : ∀ (ρ : Operand → Value) w, (∀ x u, ev E x = some u → ρ x = u) → Hold w M K → ∃ x w', φ x ∧ (execOp ρ o).run Try.prog w = .ok (.value (V x)) w' ∧ Hold w' (Mc x) (Kc x)) : OpW o E M K φ V Mc Kc := OpW.intro fun a w Kn Q ha hh hk => by
  obtain ⟨x, w', hx, hr, hh'⟩ := h a.eval w ha hh
  unfold Oper.wp; rw [hr, Oper.upon_value]; exact hk x w' hx hh'
theorem OpW.call {f : FuncId} {xs : List Operand} {ts : Array TypeId} {vs : List Value} {α : Type} {φ : α → Prop} {V : α → Value} {Mc : α → List HP} {Kc : α → List KP}
    (he : Enters f) (hx : evL E xs = some vs) (hf : Fn f vs M K φ V Mc Kc) : OpW ⟨dst, .call { callee := .value (.func f), args := xs.toArray, argTypes := ts }, ty, ps, af, g⟩ E M K φ V Mc Kc := OpW.intro fun a w Kn Q ha hh hk => by
  have hl : ∀ (l : List Operand) (ws : List Value), evL E l = some ws → l.map a.eval = ws := by
    intro l
    induction l with
    | nil => intro ws hv; simp only [evL] at hv; injection hv
    | cons x l ih =>
      intro ws hv
      simp only [evL] at hv
      cases h1 : ev E x with
      | none => simp [h1] at hv
      | some v =>
        cases h2 : evL E l with
        | none => simp [h1, h2] at hv
        | some us =>
          simp only [h1, h2] at hv
          injection hv with hv
          rw [← hv, List.map_cons, ha _ _ h1, ih us h2]
  have hr : (execOp a.eval ⟨dst, .call { callee := .value (.func f), args := xs.toArray, argTypes := ts }, ty, ps, af, g⟩).run Try.prog w = .ok (.enter f vs.toArray) w := by
    simp only [execOp, resolve, Act.eval, Deferred.ofValue, invoke, Sem.run_bind, Sem.run_pure, Result.andThen_ok, List.map_toArray, hl xs vs hx, Array.append_empty, Array.empty_append]
    exact he vs.toArray w
  unfold Oper.wp
  rw [hr, Oper.upon_enter]
  refine (hf.go w hh).mono fun e w' ⟨x, hx, he, hw''⟩ => ?_
  subst he
  exact hk x w' hx hw''
/-- A call through a slot that holds a function value. -/
theorem OpW.callV {f : FuncId} {y : Operand} {cap : List Value} {xs : List Operand} {ts : Array TypeId} {vs : List Value} {α : Type} {φ : α → Prop} {V : α → Value} {Mc : α → List HP} {Kc : α → List KP}
    (he : Enters f) (hy : ev E y = some (.func (.func f) #[] cap.toArray)) (hx : evL E xs = some vs) (hf : Fn f (vs ++ cap) M K φ V Mc Kc) : OpW ⟨dst, .call { callee := .value y, args := xs.toArray, argTypes := ts }, ty, ps, af, g⟩ E M K φ V Mc Kc := OpW.intro fun a w Kn Q ha hh hk => by
  have hl : ∀ (l : List Operand) (ws : List Value), evL E l = some ws → l.map a.eval = ws := by
    intro l
    induction l with
    | nil => intro ws hv; simp only [evL] at hv; injection hv
    | cons x l ih =>
      intro ws hv
      simp only [evL] at hv
      cases h1 : ev E x with
      | none => simp [h1] at hv
      | some v =>
        cases h2 : evL E l with
        | none => simp [h1, h2] at hv
        | some us =>
          simp only [h1, h2] at hv
          injection hv with hv
          rw [← hv, List.map_cons, ha _ _ h1, ih us h2]
  have hr : (execOp a.eval ⟨dst, .call { callee := .value y, args := xs.toArray, argTypes := ts }, ty, ps, af, g⟩).run Try.prog w = .ok (.enter f (vs ++ cap).toArray) w := by
    simp only [execOp, resolve, ha y _ hy, Deferred.ofValue, invoke, Sem.run_bind, Sem.run_pure, Result.andThen_ok, List.map_toArray, hl xs vs hx, Array.append_empty, Array.empty_append, List.append_toArray]
    exact he _ w
  unfold Oper.wp
  rw [hr, Oper.upon_enter]
  refine (hf.go w hh).mono fun e w' ⟨x, hx, he, hw''⟩ => ?_
  subst he
  exact hk x w' hx hw''

/-! ### Memory is made -/
theorem OpW.box {t : TypeId} {x : Operand} {vs : List Value} (hx : ev E x = some (.agg vs.toArray)) : OpW ⟨dst, .box t x, ty, ps, af, g⟩ E M K (fun _ : Nat => True) (fun b => ptr b 0) (fun b => pt b t vs :: M) (fun _ => K) :=
  OpW.val fun ρ w hρ hh => ⟨w.heap.size, _, trivial, by simp only [execOp, hρ x _ hx, Instr.box, newVar, newRow, newObj, Value.cells, Sem.run_bind]; rfl, hh.alloc t vs⟩
/-- A value of one cell gets a block of its own. -/
theorem OpW.box1 {t : TypeId} {x : Operand} {v : Value} (hx : ev E x = some v) (hc : v.cells = #[v]) : OpW ⟨dst, .box t x, ty, ps, af, g⟩ E M K (fun _ : Nat => True) (fun b => ptr b 0) (fun b => pt b t [v] :: M) (fun _ => K) :=
  OpW.val fun ρ w hρ hh => ⟨w.heap.size, _, trivial, by simp only [execOp, hρ x _ hx, Instr.box, newVar, newRow, newObj, hc, Sem.run_bind]; rfl, hh.alloc t [v]⟩
def Zero (t : TypeId) (zs : List Value) : Prop := ∃ z : Value, (∀ w, (zeroValue t).run Try.prog w = .ok z w) ∧ z.cells = zs.toArray
theorem zero_of {t : TypeId} {z : Value} {zs : List Value} (h : (Try.prog.info? t).map (·.zero) = some (some z)) (hc : z.cells = zs.toArray) : Zero t zs := ⟨z, fun w => by
  cases hi : Try.prog.info? t with
  | none => rw [hi] at h; cases h
  | some i => rw [hi] at h; have h := Option.some.inj h; simp only at h; simp [zeroValue, typeInfo, hi, h], hc⟩
theorem run_alloc' {t : TypeId} {z : Value} {zs : List Value} (hz : ∀ w, (zeroValue t).run Try.prog w = .ok z w) (hc : z.cells = zs.toArray) (w : World) : (Instr.alloc t true (.tuple #[])).run Try.prog w = .ok (ptr w.heap.size 0) (w.alloc (.cells zs.toArray t)) := by
  unfold Instr.alloc
  rw [Sem.run_bind, hz w, Result.andThen_ok]
  simp only [newVar, newRow, newObj, hc, Sem.run_bind]
  rfl
theorem exec_alloc {t : TypeId} {z : Value} {zs : List Value} (hz : ∀ w, (zeroValue t).run Try.prog w = .ok z w) (hc : z.cells = zs.toArray) (w : World) (ρ : Operand → Value) : (execOp ρ ⟨dst, .alloc t, ty, ps, af, g⟩).run Try.prog w = .ok (.value (ptr w.heap.size 0)) (w.alloc (.cells zs.toArray t)) := by
  simp only [execOp, Sem.run_bind, run_alloc' hz hc w, Result.andThen_ok]; rfl
theorem OpW.alloc {t : TypeId} {zs : List Value} (hz : Zero t zs) : OpW ⟨dst, .alloc t, ty, ps, af, g⟩ E M K (fun _ : Nat => True) (fun b => ptr b 0) (fun b => pt b t zs :: M) (fun _ => K) := by
  obtain ⟨z, hz, hc⟩ := hz
  refine OpW.val fun ρ w hρ hh => ?_
  exact ⟨w.heap.size, _, trivial, exec_alloc hz hc w ρ, hh.alloc t zs⟩
def evP (E : Env) : List (Nat × Operand) → Option (List (Nat × Value))
  | [] => some []
  | (i, x) :: l => match ev E x with
    | some v => match evP E l with
      | some vs => some ((i, v) :: vs)
      | none => none
    | none => none
theorem evP_list {E : Env} : ∀ {pts : List (Nat × Operand)} {qs : List (Nat × Value)}, evP E pts = some qs → ∀ ρ : Operand → Value, (∀ x u, ev E x = some u → ρ x = u) → (pts.map fun p => (p.1, ρ p.2)) = qs
  | [], qs, h, ρ, _ => by simp only [evP] at h; injection h
  | (i, x) :: l, qs, h, ρ, hρ => by
    simp only [evP] at h
    cases h1 : ev E x with
    | none => simp [h1] at h
    | some v =>
      cases h2 : evP E l with
      | none => simp [h1, h2] at h
      | some us =>
        simp only [h1, h2] at h
        injection h with h
        rw [← h, List.map_cons, evP_list h2 ρ hρ]
        show (i, ρ x) :: us = _
        rw [hρ x v h1]
theorem evP_map {E : Env} {pts : List (Nat × Operand)} {qs : List (Nat × Value)} (h : evP E pts = some qs) (ρ : Operand → Value) (hρ : ∀ x u, ev E x = some u → ρ x = u) : (pts.toArray.map fun (i, x) => (i, ρ x)) = qs.toArray := by
  rw [List.map_toArray]; exact congrArg List.toArray (evP_list h ρ hρ)
/-- A struct literal; its run is known. -/
theorem Yl.build {w : World} {t : TypeId} {pts : List (Nat × Operand)} {qs : List (Nat × Value)} {cs : List Value} (hq : evP E pts = some qs) (hr : (Instr.build t qs.toArray).run Try.prog w = .ok (.agg cs.toArray) w) : Yl ⟨dst, .build t pts.toArray, ty, ps, af, g⟩ E (.agg cs.toArray) w := Yl.mk fun ρ hρ => by
  simp only [execOp, evP_map hq ρ hρ, hr, Sem.run_bind, Result.andThen_ok]; rfl
/-- A slice literal; its run is known. -/
theorem OpW.bsl {t e sz k : Nat} {pts : List (Nat × Operand)} {qs : List (Nat × Value)} {cs : List Value}
    (hq : evP E pts = some qs)
    (hr : ∀ w, (Instr.buildSlice t k qs.toArray).run Try.prog w = .ok (.slice (some ⟨w.heap.size, 0, none⟩) k k) (w.alloc (.cells cs.toArray e))) (hl : cs.length = k * sz) (hk : Nat.ble k 100 = true) :
    OpW ⟨dst, .buildSlice t k pts.toArray, ty, ps, af, g⟩ E M K (fun _ : Nat => True) (fun b => .slice (some ⟨b, 0, none⟩) k k) (fun b => rowH e sz (some ⟨b, 0, none⟩) k k cs :: M) (fun _ => K) :=
by
  refine OpW.val fun ρ w hρ hh => ?_
  have hr' : (execOp ρ ⟨dst, .buildSlice t k pts.toArray, ty, ps, af, g⟩).run Try.prog w = .ok (.value (.slice (some ⟨w.heap.size, 0, none⟩) k k)) (w.alloc (.cells cs.toArray e)) := by
    simp only [execOp, evP_map hq ρ hρ, hr w, Sem.run_bind, Result.andThen_ok]; rfl
  exact ⟨w.heap.size, _, trivial, hr', (hh.alloc e cs).to_row hl (Nat.le_trans (Nat.le_of_ble_eq_true hk) (by decide))⟩
theorem app_bound {a b : Nat} (h1 : a ≤ 1000000) (h2 : b ≤ 1000) : a * b ≤ 140737488355328 := Nat.le_trans (Nat.mul_le_mul h1 h2) (by decide)
theorem app_max {a : Nat} (h1 : a ≤ 1000000) : a ≤ maxLen := Nat.le_trans h1 (by decide)
/-- append. -/
theorem OpW.app {t e sz bytes c m k c2 : Nat} {z : Value} {x y : Operand} {A B : Option Addr} {xs ys : List Value} (ht : Try.prog.underlying t = some (.slice e)) (hi : (Try.prog.info? e).map (fun i => (i.zero, i.size, i.bytes)) = some (some z, sz, bytes)) (hz : z.cells.size = sz) (hsz : Nat.ble 1 sz = true)
    (hx : ev E x = some (.slice A m c)) (hy : ev E y = some (.slice B k c2)) (hp : Pick M (rowH e sz A c m xs) M') (hu : ∀ w, Hold w M K → SlC (fun _ => True) w sz (.slice B k c2) k ys) (h1 : ∀ u ∈ ys, u.oneCell' = true) (hb : m + k ≤ 1000000 ∧ bytes ≤ 1000) :
    OpW ⟨dst, .call { callee := .builtin .append, args := #[x, y], argTypes := #[t, t] }, ty, ps, af, g⟩ E M K (fun _ : Option Addr × Nat => True) (fun r => .slice r.1 (m + k) r.2) (fun r => rowH e sz r.1 r.2 (m + k) (xs ++ ys) :: M') (fun _ => K) :=
  OpW.val fun ρ w hρ hh => by
    have hbb := app_bound hb.1 hb.2
    have hmx := app_max hb.1
    obtain ⟨A', c', w', hr, hh'⟩ := (hh.pick hp).append (ty := ty) ht hi hz (Nat.le_of_ble_eq_true hsz) (hu w hh) h1 hmx hbb
    refine ⟨(A', c'), w', trivial, ?_, hh'⟩
    simp only [execOp, resolve, invoke, builtin, Sem.run_bind, Sem.run_pure, Result.andThen_ok, List.map_toArray, List.map_cons, List.map_nil, hρ x _ hx, hρ y _ hy, hr]

/-! ### Memory is written -/
inductive Swap : List HP → HP → HP → List HP → Prop
  | head {p q : HP} {M : List HP} : Swap (p :: M) p q (q :: M)
  | tail {p q r : HP} {M M' : List HP} : Swap M p q M' → Swap (r :: M) p q (r :: M')
theorem Swap.picks {p q : HP} {M M' : List HP} (h : Swap M p q M') : ∃ M0, Pick M p M0 ∧ Pick M' q M0 := by
  induction h with
  | head => exact ⟨_, .head, .head⟩
  | tail _ ih => obtain ⟨M0, h1, h2⟩ := ih; exact ⟨_, .tail h1, .tail h2⟩
theorem Hold.swap {w w' : World} {p q : HP} {M M' : List HP} {K : List KP} (hs : Swap M p q M') (h : Hold w M K) (hu : ∀ M0, Hold w (p :: M0) K → Hold w' (q :: M0) K) : Hold w' M' K := by
  obtain ⟨M0, h1, h2⟩ := hs.picks
  exact (hu M0 (h.pick h1)).unpick h2
inductive Upd1 : List Value → Nat → Value → List Value → Prop
  | here {x v : Value} {l : List Value} : Upd1 (x :: l) 0 v (v :: l)
  | there {x v : Value} {l l' : List Value} {i : Nat} : Upd1 l i v l' → Upd1 (x :: l) (i + 1) v (x :: l')
theorem Upd1.set {l l' : List Value} {i : Nat} {v : Value} (h : Upd1 l i v l') : i < l.length ∧ l' = l.set i v := by
  induction h with
  | here => exact ⟨by simp, rfl⟩
  | there _ ih => exact ⟨by simpa using ih.1, by rw [ih.2]; rfl⟩
inductive UpdL : List Value → Nat → List Value → List Value → Prop
  | nil {l : List Value} {i : Nat} : UpdL l i [] l
  | cons {l l1 l' : List Value} {i : Nat} {v : Value} {vs : List Value} : Upd1 l i v l1 → UpdL l1 (i + 1) vs l' → UpdL l i (v :: vs) l'
theorem run_st1 {M : List HP} {K : List KP} {w : World} {b o t : Nat} {cs cs' : List Value} {v : Value} (h : Hold w (pt b t cs :: M) K) (hu : Upd1 cs o v cs') (h1 : v.oneCell' = true) : (store ⟨b, o, none⟩ v).run Try.prog w = .ok () (w.setCell ⟨b, o, none⟩ v) ∧ Hold (w.setCell ⟨b, o, none⟩ v) (pt b t cs' :: M) K := by
  obtain ⟨hlt, rfl⟩ := hu.set
  have hc : w.cell? ⟨b, o, none⟩ = some cs[o] := h.cell List.mem_cons_self (List.getElem?_eq_getElem hlt)
  have hf : w.frozen? ⟨b, o, none⟩ = false := (h.blk List.mem_cons_self).frozen o
  refine ⟨?_, h.set o v⟩
  rw [run_store Try.prog w _ _ _ h1]; simp [stored, hc, hf]
theorem run_stL {M : List HP} {K : List KP} {t b o : Nat} : ∀ {vs : List Value} {i : Nat} {cs cs' : List Value} {w : World}, Hold w (pt b t cs :: M) K → UpdL cs (o + i) vs cs' → (∀ v ∈ vs, v.oneCell' = true) → ∃ w', (storeCells ⟨b, o, none⟩ vs i).run Try.prog w = .ok () w' ∧ Hold w' (pt b t cs' :: M) K
  | [], i, cs, cs', w, h, hu, _ => by cases hu; exact ⟨w, by simp [storeCells], h⟩
  | v :: vs, i, cs, cs', w, h, hu, h1 => by
    cases hu with
    | cons hu1 hu2 =>
      obtain ⟨hr, hh⟩ := run_st1 h hu1 (h1 v List.mem_cons_self)
      obtain ⟨w', hr2, hh2⟩ := run_stL (i := i + 1) hh hu2 (fun u hu => h1 u (List.mem_cons_of_mem _ hu))
      refine ⟨w', ?_, hh2⟩
      simp only [storeCells, Sem.run_bind, addr_add, hr, Result.andThen_ok, hr2]
def SizeOf (t k : Nat) : Prop := ∀ w, (sizeOf t).run Try.prog w = .ok k w
theorem sizeOf_of {t k : Nat} (hs : (Try.prog.info? t).map (·.size) = some k) : SizeOf t k := fun w => by
  cases h : Try.prog.info? t with
  | none => rw [h] at hs; cases hs
  | some i => rw [h] at hs; have := Option.some.inj hs; simp [sizeOf, typeInfo, h]; exact this
theorem OpW.st1 {t t' : TypeId} {x y : Operand} {b o : Nat} {v : Value} {cs cs' : List Value} (hz : SizeOf t 1) (hx : ev E x = some (ptr b o)) (hy : ev E y = some v) (h1 : v.oneCell' = true) (hc : v.cells = #[v]) (hs : Swap M (pt b t' cs) (pt b t' cs') M') (hu : Upd1 cs o v cs') :
    OpW ⟨none, .store t x y, ty, ps, af, g⟩ E M K (fun _ : Unit => True) (fun _ => undef) (fun _ => M') (fun _ => K) := OpW.intro fun a w Kn Q ha hh hk => by
  obtain ⟨M0, hp1, hp2⟩ := hs.picks
  obtain ⟨hr, hh'⟩ := run_st1 (hh.pick hp1) hu h1
  have : (execOp a.eval ⟨none, .store t x y, ty, ps, af, g⟩).run Try.prog w = .ok .skip (w.setCell ⟨b, o, none⟩ v) := by
    simp only [execOp, ha x _ hx, ha y _ hy, Instr.storeAt, Instr.sureAddr, storeVar, hc, Sem.run_bind, Sem.run_pure, Result.andThen_ok, hz w]
    rw [if_neg (by simp)]
    simp only [storeCells, addr_add, Nat.add_zero, Sem.run_bind, Sem.run_pure, Result.andThen_ok, hr]
  unfold Oper.wp; rw [this, Oper.upon_skip]
  exact hk () _ trivial (hh'.unpick hp2)
theorem OpW.stA {t t' k : TypeId} {x y : Operand} {b o : Nat} {vs cs cs' : List Value} (hz : SizeOf t k) (hl : vs.length = k) (hx : ev E x = some (ptr b o)) (hy : ev E y = some (.agg vs.toArray)) (h1 : vs.all (·.oneCell') = true) (hs : Swap M (pt b t' cs) (pt b t' cs') M') (hu : UpdL cs o vs cs') :
    OpW ⟨none, .store t x y, ty, ps, af, g⟩ E M K (fun _ : Unit => True) (fun _ => undef) (fun _ => M') (fun _ => K) := OpW.intro fun a w Kn Q ha hh hk => by
  obtain ⟨M0, hp1, hp2⟩ := hs.picks
  obtain ⟨w', hr, hh'⟩ := run_stL (o := o) (i := 0) (hh.pick hp1) (by rw [Nat.add_zero]; exact hu) (fun v hv => List.all_eq_true.1 h1 v hv)
  have : (execOp a.eval ⟨none, .store t x y, ty, ps, af, g⟩).run Try.prog w = .ok .skip w' := by
    simp only [execOp, ha x _ hx, ha y _ hy, Instr.storeAt, Instr.sureAddr, storeVar, Value.cells, Sem.run_bind, Sem.run_pure, Result.andThen_ok, hz w]
    rw [if_neg (by simp [hl])]
    simp only [Sem.run_bind, Sem.run_pure, Result.andThen_ok, hr]
  unfold Oper.wp; rw [this, Oper.upon_skip]
  exact hk () _ trivial (hh'.unpick hp2)
/-- A cell of one's own row is written. -/
theorem OpW.stR {t e sz c m j : Nat} {x y : Operand} {A : Option Addr} {v : Value} {xs : List Value} (hz : SizeOf t 1) (hx : ev E x = some (ptr (sB A) (sO A + j))) (hy : ev E y = some v) (h1 : v.oneCell' = true) (hc : v.cells = #[v]) (hs : Swap M (rowH e sz A c m xs) (rowH e sz A c m (xs.set j v)) M') (hm : 0 < m) (hj : j < xs.length) :
    OpW ⟨none, .store t x y, ty, ps, af, g⟩ E M K (fun _ : Unit => True) (fun _ => undef) (fun _ => M') (fun _ => K) := OpW.intro fun a w Kn Q ha hh hk => by
  obtain ⟨M0, hp1, hp2⟩ := hs.picks
  have hh0 := hh.pick hp1
  obtain ⟨b, o, rfl⟩ := hh0.row_addr List.mem_cons_self hm
  have hc' : w.cell? ⟨b, o + j, none⟩ = some xs[j] := (hh0.row List.mem_cons_self).at (List.getElem?_eq_getElem hj)
  have hf : w.frozen? ⟨b, o + j, none⟩ = false := by
    obtain ⟨I, D, ⟨F, D', ⟨hq, he⟩, _⟩, _⟩ := hh0
    rcases hq.2 with ⟨h0, _⟩ | ⟨g', off, cap, cur, he', hb, hh', _⟩
    · omega
    · injection he' with hA _ _
      injection hA with hA
      injection hA with hA
      subst hA
      exact Blk.frozen hh' _
  have : (execOp a.eval ⟨none, .store t x y, ty, ps, af, g⟩).run Try.prog w = .ok .skip (w.setCell ⟨b, o + j, none⟩ v) := by
    simp only [execOp, ha x _ hx, ha y _ hy, Instr.storeAt, Instr.sureAddr, storeVar, hc, Sem.run_bind, Sem.run_pure, Result.andThen_ok, hz w]
    rw [if_neg (by simp)]
    simp only [storeCells, addr_add, Nat.add_zero, Sem.run_bind, Sem.run_pure, Result.andThen_ok, sB, sO]
    rw [run_store Try.prog w _ _ _ h1]; simp [stored, hc', hf]
  unfold Oper.wp; rw [this, Oper.upon_skip]
  exact hk () _ trivial ((hh0.row_set rfl j hj v).unpick hp2)
end

/-! ### Elements of an array in memory -/
theorem Yl.iaA {E : Env} {w : World} {dst : Option Tmp} {ty : Nat} {ps : String} {af : Array Edge} {g : Option (Nat × Bool)} {t e len : Nat} {x y : Operand} {b o i : Nat} {k : IntKind} {a : Int} (hu : Try.prog.underlying t = some (.array len e)) (hsz : SizeOf e 1) (hx : ev E x = some (ptr b o)) (hy : ev E y = some (.int k a)) (ha : a = (i : Int)) (hi : i < len) :
    Yl ⟨dst, .indexAddr t x y, ty, ps, af, g⟩ E (ptr b (o + i)) w := Yl.mk fun ρ hρ => by
  subst ha
  have h1 : (Instr.indexAt t (ptr b o) (.int k (i : Int))).run Try.prog w = .ok (ptr b (o + i)) w := by
    simp only [Instr.indexAt, asIntOf, Sem.run_bind, Sem.run_pure, run_underlying hu, Result.andThen_ok, Instr.sureAddr]
    rw [if_pos ⟨by omega, by omega⟩]
    simp [hsz w, addr_add]
  simp only [execOp, hρ x _ hx, hρ y _ hy, h1, Sem.run_bind, Result.andThen_ok]; rfl
/-! ### Slice expressions -/
/-- Where a slice of a slice lies. -/
def slA (A : Option Addr) (c l sz : Nat) : Option Addr := if c = l then A else A.map (·.add (l * sz))
theorem run_bound {y l : Nat} {a : Int} {k : IntKind} {code : BoundsCode} (h : a = (l : Int)) (hl : l ≤ y) (w : World) : (Instr.sliceBound (.int k a) y code).run Try.prog w = .ok l w := by
  subst h; simp only [Instr.sliceBound, asIntOf, Sem.run_bind, Sem.run_pure, Result.andThen_ok]; rw [if_pos ⟨by omega, by omega⟩]; simp
section
variable {E : Env} {w : World} {dst : Option Tmp} {ty : Nat} {ps : String} {af : Array Edge} {g : Option (Nat × Bool)} {t e sz : Nat} {x y z u : Operand} {A : Option Addr} {m c l h : Nat} {k k' : IntKind} {a a' : Int}
theorem Yl.slLo (hu : Try.prog.underlying t = some (.slice e)) (hsz : SizeOf e sz) (hx : ev E x = some (.slice A m c)) (hy : ev E y = some (.int k a)) (ha : a = (l : Int)) (hl : l ≤ m) (hm : m ≤ c) : Yl ⟨dst, .slice t x (some y) none none, ty, ps, af, g⟩ E (.slice (slA A c l sz) (m - l) (c - l)) w := Yl.mk fun ρ hρ => by
  have h1 : (Instr.sliceAt t (.slice A m c) (some (.int k a)) none none).run Try.prog w = .ok (.slice (slA A c l sz) (m - l) (c - l)) w := by
    simp only [Instr.sliceAt, Sem.run_bind, run_underlying hu, Result.andThen_ok, Instr.slice, Instr.sliceBounds, Sem.run_pure, run_bound ha hl, hsz w]; rfl
  simp only [execOp, hρ x _ hx, Option.map_some, Option.map_none, hρ y _ hy, Sem.run_bind, h1, Result.andThen_ok]; rfl
theorem Yl.slHi (hu : Try.prog.underlying t = some (.slice e)) (hsz : SizeOf e sz) (hx : ev E x = some (.slice A m c)) (hy : ev E y = some (.int k a)) (ha : a = (l : Int)) (hl : l ≤ c) : Yl ⟨dst, .slice t x none (some y) none, ty, ps, af, g⟩ E (.slice (slA A c 0 sz) l c) w := Yl.mk fun ρ hρ => by
  have h1 : (Instr.sliceAt t (.slice A m c) none (some (.int k a)) none).run Try.prog w = .ok (.slice (slA A c 0 sz) l c) w := by
    simp only [Instr.sliceAt, Sem.run_bind, run_underlying hu, Result.andThen_ok, Instr.slice, Instr.sliceBounds, Sem.run_pure, run_bound ha hl, hsz w]; rfl
  simp only [execOp, hρ x _ hx, Option.map_some, Option.map_none, hρ y _ hy, Sem.run_bind, h1, Result.andThen_ok]; rfl
theorem Yl.slLH (hu : Try.prog.underlying t = some (.slice e)) (hsz : SizeOf e sz) (hx : ev E x = some (.slice A m c)) (hy : ev E y = some (.int k a)) (hz : ev E z = some (.int k' a')) (ha : a = (l : Int)) (ha' : a' = (h : Int)) (hl : l ≤ h) (hh : h ≤ c) : Yl ⟨dst, .slice t x (some y) (some z) none, ty, ps, af, g⟩ E (.slice (slA A c l sz) (h - l) (c - l)) w := Yl.mk fun ρ hρ => by
  have h1 : (Instr.sliceAt t (.slice A m c) (some (.int k a)) (some (.int k' a')) none).run Try.prog w = .ok (.slice (slA A c l sz) (h - l) (c - l)) w := by
    simp only [Instr.sliceAt, Sem.run_bind, run_underlying hu, Result.andThen_ok, Instr.slice, Instr.sliceBounds, Sem.run_pure, run_bound ha' hh, run_bound ha hl, hsz w]; rfl
  simp only [execOp, hρ x _ hx, Option.map_some, Option.map_none, hρ y _ hy, hρ z _ hz, Sem.run_bind, h1, Result.andThen_ok]; rfl
theorem Yl.slHM (hu : Try.prog.underlying t = some (.slice e)) (hsz : SizeOf e sz) (hx : ev E x = some (.slice A m c)) (hy : ev E y = some (.int k a)) (hz : ev E z = some (.int k' a')) (ha : a = (l : Int)) (ha' : a' = (h : Int)) (hl : l ≤ h) (hh : h ≤ c) : Yl ⟨dst, .slice t x none (some y) (some z), ty, ps, af, g⟩ E (.slice (slA A h 0 sz) l h) w := Yl.mk fun ρ hρ => by
  have h1 : (Instr.sliceAt t (.slice A m c) none (some (.int k a)) (some (.int k' a'))).run Try.prog w = .ok (.slice (slA A h 0 sz) l h) w := by
    simp only [Instr.sliceAt, Sem.run_bind, run_underlying hu, Result.andThen_ok, Instr.slice, Instr.sliceBounds, Sem.run_pure, run_bound ha' hh, run_bound ha hl, hsz w]; rfl
  simp only [execOp, hρ x _ hx, Option.map_some, Option.map_none, hρ y _ hy, hρ z _ hz, Sem.run_bind, h1, Result.andThen_ok]; rfl
end
end Go.Proofs.Ytfpnodboebpemaa
