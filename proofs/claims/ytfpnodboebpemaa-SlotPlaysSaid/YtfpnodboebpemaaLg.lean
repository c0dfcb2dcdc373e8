/- The judgements of the second logic and their rules: what is known of the slots (Env), what is owned and known of memory (Hold), and the code that is left. -/
import Derived.Test.YtfpnodboebpemaaChunk
import Derived.WalkKit
import Derived.IntWalk
namespace Go.Proofs.Ytfpnodboebpemaa
open Go.RowKit Go.Proofs.YtfpnodboebpemaaW.PrintWords
set_option linter.unusedVariables false
set_option linter.unusedSimpArgs false

abbrev Env := List (Nat × Value)
def lk : Env → Nat → Option Value
  | [], _ => none
  | (u, v) :: E, t => bif Nat.beq u t then some v else lk E t
def ev (E : Env) : Operand → Option Value
  | .tmp t => lk E t
  | .const v => some v
  | .global g => some (.pointer (some ⟨g, 0, none⟩))
  | .func f => some (.func (.func f) #[] #[])
def evL (E : Env) : List Operand → Option (List Value)
  | [] => some []
  | x :: l => match ev E x with
    | some v => match evL E l with
      | some vs => some (v :: vs)
      | none => none
    | none => none
def en : Nat → List Value → Env
  | _, [] => []
  | i, v :: l => (i, v) :: en (i + 1) l

structure Agr (n : Nat) (E : Env) (a : Act) : Prop where
  size : a.tmps.size = n
  defers : a.defers = []
  look : ∀ t v, lk E t = some v → a.tmps[t]? = some v

theorem lk_cons (u : Nat) (v : Value) (E : Env) (t : Nat) : lk ((u, v) :: E) t = if u = t then some v else lk E t := by
  simp only [lk]
  by_cases h : u = t
  · subst h; simp
  · have : Nat.beq u t = false := by
      cases hb : Nat.beq u t with
      | true => exact absurd (Nat.eq_of_beq_eq_true hb) h
      | false => rfl
    simp [this, h]
theorem Agr.put {n d : Nat} {E : Env} {a : Act} (h : Agr n E a) (hd : Nat.ble (d + 1) n = true) (v : Value) : Agr n ((d, v) :: E) (a.put (some d) v) := by
  have hd' := Nat.le_of_ble_eq_true hd
  refine ⟨by simp [Act.put, h.size], h.defers, fun t u ht => ?_⟩
  rw [lk_cons] at ht
  simp only [Act.put]
  by_cases he : d = t
  · subst he
    rw [if_pos rfl] at ht
    rw [← ht]; exact Array.getElem?_setIfInBounds_self_of_lt (by rw [h.size]; omega)
  · rw [if_neg he] at ht
    rw [Array.getElem?_setIfInBounds_ne he]; exact h.look t u ht
theorem Agr.ev {n : Nat} {E : Env} {a : Act} (h : Agr n E a) {x : Operand} {v : Value} (hv : ev E x = some v) : a.eval x = v := by
  cases x with
  | tmp t => simp only [Go.Proofs.Ytfpnodboebpemaa.ev] at hv; simp [Act.eval, h.look t v hv]
  | const u => simp only [Go.Proofs.Ytfpnodboebpemaa.ev] at hv; injection hv
  | global g => simp only [Go.Proofs.Ytfpnodboebpemaa.ev] at hv; injection hv
  | func f => simp only [Go.Proofs.Ytfpnodboebpemaa.ev] at hv; injection hv
theorem Agr.evL {n : Nat} {E : Env} {a : Act} (h : Agr n E a) : ∀ {l : List Operand} {vs : List Value}, evL E l = some vs → l.map a.eval = vs
  | [], vs, hv => by simp only [Go.Proofs.Ytfpnodboebpemaa.evL] at hv; injection hv
  | x :: l, vs, hv => by
    simp only [Go.Proofs.Ytfpnodboebpemaa.evL] at hv
    cases h1 : Go.Proofs.Ytfpnodboebpemaa.ev E x with
    | none => simp [h1] at hv
    | some v =>
      cases h2 : Go.Proofs.Ytfpnodboebpemaa.evL E l with
      | none => simp [h1, h2] at hv
      | some ws =>
        simp only [h1, h2] at hv
        injection hv with hv
        rw [← hv, List.map_cons, h.ev h1, h.evL h2]

/-- The slots of a list, with their values. -/
inductive Sel : Env → Env → Prop
  | nil {E : Env} : Sel E []
  | cons {E E' : Env} (t : Nat) {v : Value} (h : lk E t = some v) (r : Sel E E') : Sel E ((t, v) :: E')
  | num {E E' : Env} (t : Nat) {k : IntKind} {a b : Int} (h : lk E t = some (.int k a)) (e : a = b) (r : Sel E E') : Sel E ((t, .int k b) :: E')
  | eqv {E E' : Env} (t : Nat) {v u : Value} (h : lk E t = some v) (e : v = u) (r : Sel E E') : Sel E ((t, u) :: E')
theorem Sel.lk {E E' : Env} (h : Sel E E') : ∀ t v, lk E' t = some v → lk E t = some v := by
  induction h with
  | nil => intro t v h; simp [Go.Proofs.Ytfpnodboebpemaa.lk] at h
  | cons u h _ ih =>
    intro t v hv
    rw [lk_cons] at hv
    split at hv
    · rename_i he; subst he; rw [h]; exact hv
    · exact ih t v hv
  | num u h e _ ih =>
    intro t v hv
    rw [lk_cons] at hv
    split at hv
    · rename_i he; subst he; rw [h, e]; exact hv
    · exact ih t v hv
  | eqv u h e _ ih =>
    intro t v hv
    rw [lk_cons] at hv
    split at hv
    · rename_i he; subst he; rw [h, e]; exact hv
    · exact ih t v hv
theorem Agr.sel {n : Nat} {E E' : Env} {a : Act} (h : Agr n E a) (hs : Sel E E') : Agr n E' a := ⟨h.size, h.defers, fun t v hv => h.look t v (hs.lk t v hv)⟩

/-! ### Guards -/
def gdst : List Oper → Nat → Option Tmp
  | [], _ => none
  | o :: _, 0 => o.dst
  | _ :: l, i + 1 => gdst l i
theorem gdst_eq : ∀ (l : List Oper) (i : Nat), (l[i]?).bind (·.dst) = gdst l i
  | [], i => by simp [gdst]
  | o :: l, 0 => by simp [gdst]
  | o :: l, i + 1 => by simpa [gdst] using gdst_eq l i
/-- Is an operation under this guard carried out? -/
def wt (l0 : List Oper) (E : Env) : Option (Nat × Bool) → Option Bool
  | none => some true
  | some (i, b) => match gdst l0 i with
    | some t => match lk E t with
      | some (.bool b') => some (b' == b)
      | some _ => some false
      | none => none
    | none => none
theorem Agr.wt {n : Nat} {E : Env} {a : Act} (h : Agr n E a) {l0 : List Oper} {o : Oper} {r : Bool} (hw : wt l0 E o.guard = some r) : Region.wanted o (yielded l0.toArray a.tmps) = r := by
  unfold Region.wanted
  cases hg : o.guard with
  | none => rw [hg] at hw; simp only [Go.Proofs.Ytfpnodboebpemaa.wt] at hw; injection hw
  | some p =>
    obtain ⟨i, b⟩ := p
    rw [hg] at hw
    simp only [Go.Proofs.Ytfpnodboebpemaa.wt] at hw
    cases h1 : gdst l0 i with
    | none => simp [h1] at hw
    | some t =>
      simp only [h1] at hw
      cases h2 : lk E t with
      | none => simp [h2] at hw
      | some v =>
        cases v with
        | bool b' =>
          simp only [h2] at hw
          injection hw with hw
          have : yielded l0.toArray a.tmps i = some b' := by
            have he : (l0.toArray[i]?).bind (·.dst) = some t := by rw [List.getElem?_toArray, gdst_eq, h1]
            unfold yielded
            rw [he, Option.bind_some, h.look t _ h2]
          simp only [this]
          rw [← hw]
          cases b' <;> cases b <;> rfl
        | _ =>
          simp only [h2] at hw
          injection hw with hw
          have : yielded l0.toArray a.tmps i = none := by
            have he : (l0.toArray[i]?).bind (·.dst) = some t := by rw [List.getElem?_toArray, gdst_eq, h1]
            unfold yielded
            rw [he, Option.bind_some, h.look t _ h2]
          simp only [this]
          rw [← hw]; rfl

/-! ### The judgement -/
def J (n : Nat) (E : Env) (M : List HP) (K : List KP) (X : Act → World → Prop) : Prop := ∀ a w, Agr n E a → Hold w M K → X a w
abbrev W (c : Code) (Q : Exit → Act → World → Prop) : Act → World → Prop := fun a w => Code.wp Try.prog c Q a w
abbrev R (l0 l : List Oper) (Q : Exit → Act → World → Prop) : Act → World → Prop := fun a w => wpList Try.prog l0.toArray Q l a w
abbrev X (e : Exit) (Q : Exit → Act → World → Prop) : Act → World → Prop := fun a w => Q e a w

section
variable {n : Nat} {E E' : Env} {M M' : List HP} {K K' : List KP} {Y : Act → World → Prop} {Q : Exit → Act → World → Prop} {l0 l : List Oper}

theorem J.sel (hs : Sel E E') (h : J n E' M K Y) : J n E M K Y := fun a w ha hw => h a w (ha.sel hs) hw
theorem J.ent (hh : ∀ w, Hold w M K → Hold w M' K') (h : J n E M' K' Y) : J n E M K Y := fun a w ha hw => h a w ha (hh w hw)
theorem J.pick {p : HP} (hp : Pick M p M') (h : J n E (p :: M') K Y) : J n E M K Y := J.ent (fun w hw => hw.pick hp) h
theorem J.picks (hp : Picks M M') (h : J n E M' K Y) : J n E M K Y := J.ent (fun w hw => hw.mono hp (fun _ h => h)) h
theorem J.ex {α : Type} {f : α → HP} (h : ∀ x, J n E (f x :: M) K Y) : J n E (exH f :: M) K Y := fun a w ha hw => by
  obtain ⟨x, hx⟩ := Hold.ex.1 hw; exact h x a w ha hx
theorem J.pure {φ : Prop} {p : HP} (h : φ → J n E (p :: M) K Y) : J n E (pureH φ p :: M) K Y := fun a w ha hw => by
  obtain ⟨x, hx⟩ := Hold.pure.1 hw; exact h x a w ha hx
theorem J.know {k : KP} {p : HP} (h : J n E (p :: M) (k :: K) Y) : J n E (knowH k p :: M) K Y := J.ent (fun w hw => Hold.knowH.1 hw) h
theorem J.star {p q : HP} (h : J n E (p :: q :: M) K Y) : J n E (star p q :: M) K Y := J.ent (fun w hw => Hold.star.1 hw) h
theorem J.fact {φ : Prop} (hh : ∀ w, Hold w M K → φ) (h : φ → J n E M K Y) : J n E M K Y := fun a w ha hw => h (hh w hw) a w ha hw
theorem J.open_ {α : Type} {φ : α → Prop} {M' : α → List HP} {K' : α → List KP} (hh : ∀ w, Hold w M K → ∃ x, φ x ∧ Hold w (M' x) (K' x)) (h : ∀ x, φ x → J n E (M' x) (K' x) Y) : J n E M K Y := fun a w ha hw => by
  obtain ⟨x, hx, hw'⟩ := hh w hw; exact h x hx a w ha hw'
theorem J.freeze {e sz c m : Nat} {A : Option Addr} {xs : List Value} (h : J n E M (slK sz A c m xs :: K) Y) : J n E (rowH e sz A c m xs :: M) K Y := J.ent (fun w hw => hw.freeze) h
theorem J.row_nil (e sz : Nat) (h : J n E (rowH e sz none 0 0 [] :: M) K Y) : J n E M K Y := J.ent (fun w hw => hw.row_nil e sz) h

/-! ### Code -/
theorem T.seq {x y : Code} (h : J n E M K (W x (Exit.then (W y Q) Q))) : J n E M K (W (.seq x y) Q) := fun a w ha hw => wp_seq (h a w ha hw)
theorem T.skip (h : J n E M K (X .normal Q)) : J n E M K (W .skip Q) := fun a w ha hw => wp_skip (h a w ha hw)
theorem T.ret (h : J n E M K (X .ret Q)) : J n E M K (W .ret Q) := fun a w ha hw => wp_ret (h a w ha hw)
theorem T.exit {i : Nat} (h : J n E M K (X (.exit i) Q)) : J n E M K (W (.exit i) Q) := fun a w ha hw => wp_exit (h a w ha hw)
theorem T.label {i : Nat} (h : J n E M K (X .normal Q)) : J n E M K (W (.label i) Q) := fun a w ha hw => wp_label (h a w ha hw)
theorem T.block {i : Nat} {c : Code} (h : J n E M K (W c (Exit.inBlock i Q))) : J n E M K (W (.block i c) Q) := fun a w ha hw => wp_block (h a w ha hw)
theorem T.region {i : Nat} (h : J n E M K (R l l Q)) : J n E M K (W (.region i l.toArray false) Q) := fun a w ha hw => wp_region_lit (h a w ha hw)
theorem T.nil (h : J n E M K (X .normal Q)) : J n E M K (R l0 [] Q) := fun a w ha hw => wpList_nil (h a w ha hw)
theorem T.cond {c : Operand} {x y : Code} {b : Bool} (hc : ev E c = some (.bool b)) (ht : b = true → J n E M K (W x Q)) (hf : b = false → J n E M K (W y Q)) : J n E M K (W (.cond c x y) Q) :=
  fun a w ha hw => wp_cond_split (ha.ev hc) (fun h => ht h a w ha hw) (fun h => hf h a w ha hw)
theorem T.condD {c : Operand} {x y : Code} {p : Prop} {_ : Decidable p} (hc : ev E c = some (.bool (decide p))) (ht : p → J n E M K (W x Q)) (hf : ¬ p → J n E M K (W y Q)) : J n E M K (W (.cond c x y) Q) :=
  T.cond hc (fun h => ht (of_decide_eq_true h)) (fun h => hf (of_decide_eq_false h))
theorem T.condT {c : Operand} {x y : Code} (hc : ev E c = some (.bool true)) (h : J n E M K (W x Q)) : J n E M K (W (.cond c x y) Q) := fun a w ha hw => wp_cond_true (ha.ev hc) (h a w ha hw)
theorem T.condF {c : Operand} {x y : Code} (hc : ev E c = some (.bool false)) (h : J n E M K (W y Q)) : J n E M K (W (.cond c x y) Q) := fun a w ha hw => wp_cond_false (ha.ev hc) (h a w ha hw)

/-! ### Ways out -/
theorem X.then_ {Z : Act → World → Prop} (h : J n E M K Z) : J n E M K (X .normal (Exit.then Z Q)) := h
theorem X.exit_then {i : Nat} {Z : Act → World → Prop} (h : J n E M K (X (.exit i) Q)) : J n E M K (X (.exit i) (Exit.then Z Q)) := h
theorem X.ret_then {Z : Act → World → Prop} (h : J n E M K (X .ret Q)) : J n E M K (X .ret (Exit.then Z Q)) := h
theorem X.nm_blk {i : Nat} (h : J n E M K (X .normal Q)) : J n E M K (X .normal (Exit.inBlock i Q)) := h
theorem X.ret_blk {i : Nat} (h : J n E M K (X .ret Q)) : J n E M K (X .ret (Exit.inBlock i Q)) := h
theorem X.exit_blk {i : Nat} (h : J n E M K (X .normal Q)) : J n E M K (X (.exit i) (Exit.inBlock i Q)) := fun a w ha hw => by
  show if i = i then Q .normal a w else Q (.exit i) a w
  rw [if_pos rfl]; exact h a w ha hw
theorem X.exit_blk_ne {i j : Nat} (hne : Nat.beq i j = false) (h : J n E M K (X (.exit i) Q)) : J n E M K (X (.exit i) (Exit.inBlock j Q)) := fun a w ha hw => by
  show if i = j then Q .normal a w else Q (.exit i) a w
  rw [if_neg (by rintro rfl; simp at hne)]; exact h a w ha hw

/-! ### Cuts -/
/-- Code up to a place where ways meet: there the state is one of a family. -/
theorem T.cut {α : Type} {x y : Code} {φ : α → Prop} {Ec : α → Env} {Mc : α → List HP} {Kc : α → List KP}
    (h1 : ∀ Z : Act → World → Prop, (∀ u, φ u → J n (Ec u) (Mc u) (Kc u) Z) → J n E M K (W x (Exit.then Z Q)))
    (h2 : ∀ u, φ u → J n (Ec u) (Mc u) (Kc u) (W y Q)) : J n E M K (W (.seq x y) Q) := T.seq (h1 _ h2)
theorem T.cut2 {α : Type} {x y z : Code} {φ : α → Prop} {Ec : α → Env} {Mc : α → List HP} {Kc : α → List KP}
    (h1 : ∀ Z : Act → World → Prop, (∀ u, φ u → J n (Ec u) (Mc u) (Kc u) Z) → J n E M K (W x (Exit.then (W y (Exit.then Z Q)) (Exit.then Z Q))))
    (h2 : ∀ u, φ u → J n (Ec u) (Mc u) (Kc u) (W z Q)) : J n E M K (W (.seq x (.seq y z)) Q) := fun a w ha hw => by
  refine wp_seq (Code.wp_mono ?_ (h1 _ h2 a w ha hw))
  intro e a' w' h
  cases e with
  | normal => exact wp_seq h
  | _ => exact h
theorem X.meet {α : Type} {φ : α → Prop} {Ec : α → Env} {Mc : α → List HP} {Kc : α → List KP} {Z : Act → World → Prop}
    (hz : ∀ u, φ u → J n (Ec u) (Mc u) (Kc u) Z) (u : α) (hu : φ u) (hs : Sel E (Ec u)) (hh : ∀ w, Hold w M K → Hold w (Mc u) (Kc u)) : J n E M K Z := J.sel hs (J.ent hh (hz u hu))

/-- A loop: a family of states, a measure. -/
theorem T.loop {α : Type} {c : Code} (φ : α → Prop) (Ec : α → Env) (Mc : α → List HP) (Kc : α → List KP) (μ : α → Nat) (u0 : α) (hu : φ u0) (hs : Sel E (Ec u0)) (hh : ∀ w, Hold w M K → Hold w (Mc u0) (Kc u0))
    (round : ∀ u, φ u → ∀ Z : Act → World → Prop, (∀ v, φ v → μ v < μ u → J n (Ec v) (Mc v) (Kc v) Z) → J n (Ec u) (Mc u) (Kc u) (W c (Exit.then Z Q))) : J n E M K (W (.loop c) Q) := by
  intro a w ha hw
  let I : Nat → Act → World → Prop := fun m a w => ∃ u, φ u ∧ μ u = m ∧ Agr n (Ec u) a ∧ Hold w (Mc u) (Kc u)
  have least : ∀ a w, (∃ m, I m a w) → ∃ m, I m a w ∧ ∀ k, k < m → ¬ I k a w := by
    intro a w ⟨m, hm⟩
    induction m using Nat.strongRecOn with
    | _ m ih =>
      by_cases h : ∃ k, k < m ∧ I k a w
      · obtain ⟨k, hk, hI⟩ := h; exact ih k hk hI
      · exact ⟨m, hm, fun k hk hI => h ⟨k, hk, hI⟩⟩
  refine wp_loop (fun a w => ∃ m, I m a w) (fun a w => open Classical in if h : ∃ m, I m a w then Classical.choose (least a w h) else 0) ⟨_, u0, hu, rfl, ha.sel hs, hh w hw⟩ ?_
  intro a w hI
  have hc := Classical.choose_spec (least a w hI)
  obtain ⟨u, hu, hm, ha, hw⟩ := hc.1
  refine Code.wp_mono ?_ (round u hu (fun a' w' => ∃ v, φ v ∧ μ v < μ u ∧ Agr n (Ec v) a' ∧ Hold w' (Mc v) (Kc v)) (fun v hv hlt a' w' ha' hw' => ⟨v, hv, hlt, ha', hw'⟩) a w ha hw)
  intro e a' w' hq
  cases e with
  | normal =>
    obtain ⟨v, hv, hlt, ha', hw'⟩ := hq
    have hI' : ∃ m, I m a' w' := ⟨_, v, hv, rfl, ha', hw'⟩
    refine ⟨hI', ?_⟩
    rw [dif_pos hI', dif_pos hI]
    have hc' := Classical.choose_spec (least a' w' hI')
    rcases Nat.lt_or_ge (μ v) (Classical.choose (least a' w' hI')) with h | h
    · exact absurd ⟨v, hv, rfl, ha', hw'⟩ (hc'.2 _ h)
    · omega
  | _ => exact hq
theorem X.round {α : Type} {φ : α → Prop} {Ec : α → Env} {Mc : α → List HP} {Kc : α → List KP} {μ : α → Nat} {u : α} {Z : Act → World → Prop}
    (hz : ∀ v, φ v → μ v < μ u → J n (Ec v) (Mc v) (Kc v) Z) (v : α) (hv : φ v) (hlt : μ v < μ u) (hs : Sel E (Ec v)) (hh : ∀ w, Hold w M K → Hold w (Mc v) (Kc v)) : J n E M K Z := J.sel hs (J.ent hh (hz v hv hlt))

theorem X.go {E' : Env} {M' : List HP} {K' : List KP} {Z : Act → World → Prop} (hz : J n E' M' K' Z) (hs : Sel E E') (hh : ∀ w, Hold w M K → Hold w M' K') : J n E M K Z := J.sel hs (J.ent hh hz)

/-! ### An operation -/
/-- In a state that reads as E says the operation yields v and leaves the world. -/
structure Yl (o : Oper) (E : Env) (v : Value) (w : World) : Prop where
  go : ∀ ρ : Operand → Value, (∀ x u, ev E x = some u → ρ x = u) → (execOp ρ o).run Try.prog w = .ok (.value v) w
theorem T.yl {o : Oper} {d : Nat} {v : Value} (ho : o.dst = some d) (hw : wt l0 E o.guard = some true) (hd : Nat.ble (d + 1) n = true) (hy : ∀ w, Hold w M K → Yl o E v w)
    (h : J n ((d, v) :: E) M K (R l0 l Q)) : J n E M K (R l0 (o :: l) Q) := fun a w ha hw' => by
  refine wpList_step fun Kn hK => ?_
  rw [if_pos (ha.wt hw)]
  unfold Oper.wp
  rw [(hy w hw').go a.eval (fun x u hx => ha.ev hx), Oper.upon_value, ho]
  exact hK _ _ (h _ w (ha.put hd v) hw')
/-- Not carried out. -/
theorem T.off {o : Oper} {d : Nat} (ho : o.dst = some d) (hw : wt l0 E o.guard = some false) (hd : Nat.ble (d + 1) n = true) (h : J n ((d, undef) :: E) M K (R l0 l Q)) : J n E M K (R l0 (o :: l) Q) := fun a w ha hw' => by
  refine wpList_step fun Kn hK => ?_
  rw [if_neg (by rw [ha.wt hw]; simp), ho]
  exact hK _ _ (h _ w (ha.put hd undef) hw')
/-- A slot's Bool is looked at ahead of a guard. -/
theorem T.split (t : Nat) {b : Bool} (hc : lk E t = some (.bool b)) (ht : b = true → J n ((t, .bool true) :: E) M K Y) (hf : b = false → J n ((t, .bool false) :: E) M K Y) : J n E M K Y := by
  cases b with
  | true => exact fun a w ha hw => ht rfl a w ⟨ha.size, ha.defers, fun u v hu => by
      rw [lk_cons] at hu
      split at hu
      · rename_i he; subst he; injection hu with hu; rw [← hu]; exact ha.look t _ hc
      · exact ha.look u v hu⟩ hw
  | false => exact fun a w ha hw => hf rfl a w ⟨ha.size, ha.defers, fun u v hu => by
      rw [lk_cons] at hu
      split at hu
      · rename_i he; subst he; injection hu with hu; rw [← hu]; exact ha.look t _ hc
      · exact ha.look u v hu⟩ hw
theorem T.splitD (t : Nat) {p : Prop} {_ : Decidable p} (hc : lk E t = some (.bool (decide p))) (ht : p → J n ((t, .bool true) :: E) M K Y) (hf : ¬ p → J n ((t, .bool false) :: E) M K Y) : J n E M K Y :=
  T.split t hc (fun h => ht (of_decide_eq_true h)) (fun h => hf (of_decide_eq_false h))

theorem T.splitTH (t : Nat) {b : Bool} (hc : lk E t = some (.bool b)) (hb : b = true) (h : J n ((t, .bool true) :: E) M K Y) : J n E M K Y := T.split t hc (fun _ => h) (fun e => by rw [hb] at e; cases e)
theorem T.splitFH (t : Nat) {b : Bool} (hc : lk E t = some (.bool b)) (hb : b = false) (h : J n ((t, .bool false) :: E) M K Y) : J n E M K Y := T.split t hc (fun e => by rw [hb] at e; cases e) (fun _ => h)
theorem T.condTH {c : Operand} {x y : Code} {b : Bool} (hc : ev E c = some (.bool b)) (hb : b = true) (h : J n E M K (W x Q)) : J n E M K (W (.cond c x y) Q) := T.cond hc (fun _ => h) (fun e => by rw [hb] at e; cases e)
theorem T.condFH {c : Operand} {x y : Code} {b : Bool} (hc : ev E c = some (.bool b)) (hb : b = false) (h : J n E M K (W y Q)) : J n E M K (W (.cond c x y) Q) := T.cond hc (fun e => by rw [hb] at e; cases e) (fun _ => h)
/-- A contract. -/
def Fn (f : FuncId) (args : List Value) (M : List HP) (K : List KP) {α : Type} (φ : α → Prop) (V : α → Value) (M' : α → List HP) (K' : α → List KP) : Prop :=
  ∀ w, Hold w M K → Calls Try.prog f args.toArray w fun e w' => ∃ x, φ x ∧ e = .returned (V x) ∧ Hold w' (M' x) (K' x)

/-- The function is entered when it is called. -/
def Enters (f : FuncId) : Prop := ∀ (vs : Array Value) (w : World), (callFunc f vs).run Try.prog w = .ok (.enter f vs) w
theorem enters_of {f : FuncId} {fn : Func} (hf : Try.prog.funcs[f]? = some fn) (hb : fn.body.isNone = false) (hn : (fn.name == "runtime.NumGoroutine") = false) : Enters f := fun vs w => by
  have hn' : ¬ fn.name = "runtime.NumGoroutine" := by simpa using hn
  have hb' : ¬ fn.body = none := by cases h : fn.body with
    | none => simp [h] at hb
    | some _ => simp
  simp [callFunc, program, Sem.run, hf, hb', hn']
theorem T.call {f : FuncId} {d ty : Nat} {ps : String} {af : Array Edge} {g : Option (Nat × Bool)} {xs : List Operand} {ts : Array TypeId} {vs : List Value} {α : Type} {φ : α → Prop} {V : α → Value} {Mc : α → List HP} {Kc : α → List KP}
    (he : Enters f) (hw : wt l0 E g = some true) (hx : evL E xs = some vs) (hd : Nat.ble (d + 1) n = true) (hf : Fn f vs M K φ V Mc Kc)
    (h : ∀ x, φ x → J n ((d, V x) :: E) (Mc x) (Kc x) (R l0 l Q)) : J n E M K (R l0 (⟨some d, .call { callee := .value (.func f), args := xs.toArray, argTypes := ts }, ty, ps, af, g⟩ :: l) Q) := fun a w ha hw' => by
  refine wpList_step fun Kn hK => ?_
  rw [if_pos (ha.wt hw)]
  unfold Oper.wp
  have hr : (execOp a.eval ⟨some d, .call { callee := .value (.func f), args := xs.toArray, argTypes := ts }, ty, ps, af, g⟩).run Try.prog w = .ok (.enter f vs.toArray) w := by
    have := ha.evL hx
    simp only [execOp, resolve, Act.eval, Deferred.ofValue, invoke, Sem.run_bind, Sem.run_pure, Result.andThen_ok, List.map_toArray, this, Array.append_empty, Array.empty_append]
    exact he vs.toArray w
  rw [hr, Oper.upon_enter]
  refine (hf w hw').mono fun e w' ⟨x, hx, he, hw''⟩ => ?_
  subst he
  exact hK _ _ (h x hx _ w' (ha.put hd (V x)) hw'')
/-- Call without a slot for the result. -/
theorem T.call0 {f : FuncId} {ty : Nat} {ps : String} {af : Array Edge} {g : Option (Nat × Bool)} {xs : List Operand} {ts : Array TypeId} {vs : List Value} {α : Type} {φ : α → Prop} {V : α → Value} {Mc : α → List HP} {Kc : α → List KP}
    (he : Enters f) (hw : wt l0 E g = some true) (hx : evL E xs = some vs) (hf : Fn f vs M K φ V Mc Kc)
    (h : ∀ x, φ x → J n E (Mc x) (Kc x) (R l0 l Q)) : J n E M K (R l0 (⟨none, .call { callee := .value (.func f), args := xs.toArray, argTypes := ts }, ty, ps, af, g⟩ :: l) Q) := fun a w ha hw' => by
  refine wpList_step fun Kn hK => ?_
  rw [if_pos (ha.wt hw)]
  unfold Oper.wp
  have hr : (execOp a.eval ⟨none, .call { callee := .value (.func f), args := xs.toArray, argTypes := ts }, ty, ps, af, g⟩).run Try.prog w = .ok (.enter f vs.toArray) w := by
    have := ha.evL hx
    simp only [execOp, resolve, Act.eval, Deferred.ofValue, invoke, Sem.run_bind, Sem.run_pure, Result.andThen_ok, List.map_toArray, this, Array.append_empty, Array.empty_append]
    exact he vs.toArray w
  rw [hr, Oper.upon_enter]
  refine (hf w hw').mono fun e w' ⟨x, hx, he, hw''⟩ => ?_
  subst he
  exact hK _ _ (h x hx _ w' ha hw'')

/-! ### A function -/
theorem lk_en : ∀ (vs : List Value) (i t : Nat), lk (en i vs) t = if i ≤ t then vs[t - i]? else none
  | [], i, t => by simp [en, lk]
  | v :: vs, i, t => by
    rw [en, lk_cons, lk_en vs (i + 1) t]
    by_cases h1 : i = t
    · subst h1; simp
    · rw [if_neg h1]
      by_cases h2 : i + 1 ≤ t
      · rw [if_pos h2, if_pos (by omega), show t - i = (t - (i + 1)) + 1 by omega, List.getElem?_cons_succ]
      · rw [if_neg h2, if_neg (by omega)]
theorem Fn.of {f : FuncId} {fn : Func} {c : Code} {vs : List Value} {α : Type} {φ : α → Prop} {V : α → Value} {Mc : α → List HP} {Kc : α → List KP} (hf : Try.prog.funcs[f]? = some fn) (hb : fn.body = some c) (hn : fn.ntmps = n)
    (hl : Nat.ble vs.length n = true) (h : J n (en 0 vs) M K (W c (bodyPost Try.prog fn fun e w' => ∃ x, φ x ∧ e = .returned (V x) ∧ Hold w' (Mc x) (Kc x)))) : Fn f vs M K φ V Mc Kc := fun w hw => by
  have hl' := Nat.le_of_ble_eq_true hl
  refine calls_of_wp hf hb (h _ w ⟨by simp [hn]; omega, rfl, fun t v ht => ?_⟩ hw)
  rw [lk_en, if_pos (Nat.zero_le _), Nat.sub_zero] at ht
  have hlt : t < vs.length := (List.getElem?_eq_some_iff.1 ht).1
  simp only
  rw [Array.getElem?_append_left (by simpa using hlt)]
  simpa using ht
theorem X.ret0 {fn : Func} {α : Type} {φ : α → Prop} {V : α → Value} {Mc : α → List HP} {Kc : α → List KP} (hr : fn.results = #[])
    (h : ∀ w, Hold w M K → ∃ x, φ x ∧ Value.tuple #[] = V x ∧ Hold w (Mc x) (Kc x)) : J n E M K (X .ret (bodyPost Try.prog fn fun e w' => ∃ x, φ x ∧ e = .returned (V x) ∧ Hold w' (Mc x) (Kc x))) := fun a w ha hw => by
  obtain ⟨x, h1, h2, h3⟩ := h w hw
  exact bodyPost_ret (results_none hr _ _ _) ha.defers ⟨x, h1, by rw [h2], h3⟩
theorem X.end0 {fn : Func} {α : Type} {φ : α → Prop} {V : α → Value} {Mc : α → List HP} {Kc : α → List KP} (hr : fn.results = #[])
    (h : ∀ w, Hold w M K → ∃ x, φ x ∧ Value.tuple #[] = V x ∧ Hold w (Mc x) (Kc x)) : J n E M K (X .normal (bodyPost Try.prog fn fun e w' => ∃ x, φ x ∧ e = .returned (V x) ∧ Hold w' (Mc x) (Kc x))) := fun a w ha hw => by
  obtain ⟨x, h1, h2, h3⟩ := h w hw
  exact bodyPost_end (results_none hr _ _ _) ha.defers ⟨x, h1, by rw [h2], h3⟩
theorem Agr.getD {a : Act} (ha : Agr n E a) {t : Nat} {v : Value} (h : lk E t = some v) : a.tmps.getD t undef = v := by
  rw [Array.getD_eq_getD_getElem?, ha.look t v h]; rfl
theorem X.ret1 {fn : Func} {t : Nat} {v : Value} {α : Type} {φ : α → Prop} {V : α → Value} {Mc : α → List HP} {Kc : α → List KP} (hr : fn.results = #[.tmp t]) (hv : lk E t = some v)
    (h : ∀ w, Hold w M K → ∃ x, φ x ∧ v = V x ∧ Hold w (Mc x) (Kc x)) : J n E M K (X .ret (bodyPost Try.prog fn fun e w' => ∃ x, φ x ∧ e = .returned (V x) ∧ Hold w' (Mc x) (Kc x))) := fun a w ha hw => by
  obtain ⟨x, h1, h2, h3⟩ := h w hw
  exact bodyPost_ret (results_tmp hr _ _ _) ha.defers ⟨x, h1, by rw [ha.getD hv, h2], h3⟩
theorem X.ret2 {fn : Func} {t u : Nat} {v v' : Value} {α : Type} {φ : α → Prop} {V : α → Value} {Mc : α → List HP} {Kc : α → List KP} (hr : fn.results = #[.tmp t, .tmp u]) (hv : lk E t = some v) (hv' : lk E u = some v')
    (h : ∀ w, Hold w M K → ∃ x, φ x ∧ Value.tuple #[v, v'] = V x ∧ Hold w (Mc x) (Kc x)) : J n E M K (X .ret (bodyPost Try.prog fn fun e w' => ∃ x, φ x ∧ e = .returned (V x) ∧ Hold w' (Mc x) (Kc x))) := fun a w ha hw => by
  obtain ⟨x, h1, h2, h3⟩ := h w hw
  exact bodyPost_ret (results_tmp2 hr _ _ _) ha.defers ⟨x, h1, by rw [ha.getD hv, ha.getD hv', h2], h3⟩
theorem J.intro {Y : Act → World → Prop} (h : ∀ a w, Agr n E a → Hold w M K → Y a w) : J n E M K Y := h
theorem J.go {Y : Act → World → Prop} (h : J n E M K Y) : ∀ a w, Agr n E a → Hold w M K → Y a w := h
theorem Fn.intro {f : FuncId} {vs : List Value} {α : Type} {φ : α → Prop} {V : α → Value} {Mc : α → List HP} {Kc : α → List KP} (h : ∀ w, Hold w M K → Calls Try.prog f vs.toArray w fun e w' => ∃ x, φ x ∧ e = .returned (V x) ∧ Hold w' (Mc x) (Kc x)) : Fn f vs M K φ V Mc Kc := h
theorem Fn.go {f : FuncId} {vs : List Value} {α : Type} {φ : α → Prop} {V : α → Value} {Mc : α → List HP} {Kc : α → List KP} (h : Fn f vs M K φ V Mc Kc) : ∀ w, Hold w M K → Calls Try.prog f vs.toArray w fun e w' => ∃ x, φ x ∧ e = .returned (V x) ∧ Hold w' (Mc x) (Kc x) := h
end
attribute [irreducible] J Fn
end Go.Proofs.Ytfpnodboebpemaa
