/- Regions that draw their order, in the second logic: what only reads is taken first, what acts comes as the edges say. -/
import Derived.Test.YtfpnodboebpemaaLgEff
import Derived.OrdersHeld
namespace Go.Proofs.Ytfpnodboebpemaa
open Go.RowKit Go.Proofs.YtfpnodboebpemaaW.PrintWords
set_option linter.unusedVariables false
set_option linter.unusedSimpArgs false

/-! ### Who waits for whom -/
inductive Reach (ops : Array Oper) (i : Nat) : Nat → Prop
  | edge {j : Nat} {o : Oper} {e : Edge} (ho : ops[j]? = some o) (he : e ∈ o.after) (hb : Region.binds .any e = true) (hi : e.on = i) : Reach ops i j
  | step {j : Nat} {o : Oper} {e : Edge} (ho : ops[j]? = some o) (he : e ∈ o.after) (hb : Region.binds .any e = true) (r : Reach ops i e.on) : Reach ops i j
def reachB (ops : Array Oper) (i : Nat) : Nat → Nat → Bool
  | 0, _ => false
  | f + 1, j => match ops[j]? with
    | some o => o.after.any (fun e => Region.binds .any e && e.on == i) || o.after.any (fun e => Region.binds .any e && reachB ops i f e.on)
    | none => false
theorem reach_of {ops : Array Oper} {i : Nat} : ∀ (f j : Nat), reachB ops i f j = true → Reach ops i j
  | 0, j, h => by simp [reachB] at h
  | f + 1, j, h => by
    simp only [reachB] at h
    cases ho : ops[j]? with
    | none => simp [ho] at h
    | some o =>
      simp only [ho, Bool.or_eq_true] at h
      rcases h with h | h
      · obtain ⟨e, he, hb⟩ := Array.any_eq_true'.1 h
        simp only [Bool.and_eq_true, beq_iff_eq] at hb
        exact .edge ho he hb.1 hb.2
      · obtain ⟨e, he, hb⟩ := Array.any_eq_true'.1 h
        simp only [Bool.and_eq_true] at hb
        exact .step ho he hb.1 (reach_of f e.on hb.2)
def Closed (ops : Array Oper) (listed : Array Bool) : Prop := ∀ (j : Nat) (o : Oper), ops[j]? = some o → listed.getD j false = true → ∀ e ∈ o.after, Region.binds .any e = true → listed.getD e.on false = true
theorem reach_listed {ops : Array Oper} {listed : Array Bool} {i j : Nat} (hc : Closed ops listed) (h : Reach ops i j) : (∀ (o : Oper), ops[j]? = some o → ∀ e ∈ o.after, Region.binds .any e = true → listed.getD e.on false = true) → listed.getD i false = true := by
  induction h with
  | edge ho he hb hi => intro hj; rw [← hi]; exact hj _ ho _ he hb
  | step ho he hb _ ih => intro hj; exact ih (fun o ho' e' he' hb' => hc _ o ho' (hj _ ho _ he hb) e' he' hb')
theorem Closed.set {ops : Array Oper} {listed : Array Bool} {i : Nat} (hc : Closed ops listed) (hi : i ∈ Region.ready .any ops listed) : Closed ops (listed.setIfInBounds i true) := fun j o ho hj e he hb => by
  by_cases hij : i = j
  · subst hij
    obtain ⟨_, o', ho', h⟩ := mem_ready.1 hi
    rw [ho] at ho'; injection ho' with ho'; subst ho'
    exact getD_set_true (h e he hb)
  · rw [getD_set_ne false hij] at hj
    exact getD_set_true (hc j o ho hj e he hb)

/-! ### Whatever order; S holds behind every operation that is not one of B -/
section
variable {ops : Array Oper} {Q : Exit → Act → World → Prop} {B : List Nat} {S : World → Prop}
def wpAnyG (ops : Array Oper) (Q : Exit → Act → World → Prop) (B : List Nat) (S : World → Prop) : Nat → Array Bool → Act → World → Prop
  | 0, listed, a, w => Region.ready .any ops listed = [] ∧ Q .normal a w
  | fuel + 1, listed, a, w => (Region.ready .any ops listed = [] → Q .normal a w) ∧
    ∀ i ∈ Region.ready .any ops listed, wpOp Try.prog ops Q i (fun a' w' => (i ∉ B → S w') ∧ wpAnyG ops Q B S fuel (listed.setIfInBounds i true) a' w') a w
theorem wpAny_of_G : ∀ (fuel : Nat) (listed : Array Bool) (a : Act) (w : World), wpAnyG ops Q B S fuel listed a w → wpAny Try.prog .any ops Q fuel listed a w
  | 0, _, _, _, h => h
  | fuel + 1, _, _, _, h => ⟨h.1, fun i hi => wpOp_mono (fun a' w' h' => wpAny_of_G fuel _ a' w' h'.2) (h.2 i hi)⟩
theorem unlisted_of {listed : Array Bool} {i : Nat} (h : listed.getD i true = false) : listed.getD i false = false := by
  rcases Nat.lt_or_ge i listed.size with h' | h'
  · simp [h'] at h ⊢; exact h
  · simp [Array.getElem?_eq_none h'] at h
theorem wpAnyG_first {i : Nat} {oi : Oper} {v : Value} (hi : ops[i]? = some oi) (hsel : ∀ (j : Nat) (o : Oper) cs b, ops[j]? = some o → o.op ≠ .select cs b)
    (hQ : ∀ c a w, Q (.panic c) (a.put oi.dst v) w → Q (.panic c) a w) (hB : ∀ j ∈ B, Reach ops i j) :
    ∀ (fuel : Nat) (listed : Array Bool) (a : Act) (w : World), Closed ops listed →
      (∀ j oj, ops[j]? = some oj → j ≠ i → listed.getD j true = false → (∀ e ∈ oj.after, Region.binds .any e = true → e.on ≠ i) → oi.apart ops oj = true) →
      i ∈ Region.ready .any ops listed → YieldsIf Try.prog ops S oi v a → S w →
      wpAnyG ops Q B S fuel (listed.setIfInBounds i true) (a.put oi.dst v) w → wpAnyG ops Q B S (fuel + 1) listed a w := by
  intro fuel
  induction fuel with
  | zero =>
    intro listed a w hcl _ hr hy hS H
    refine ⟨fun h => (by rw [h] at hr; cases hr), fun j hj => ?_⟩
    by_cases hji : j = i
    · subst hji; exact hy.wpOp hi hS ⟨fun _ => hS, H⟩
    · have := ready_mono hj hji
      rw [H.1] at this
      cases this
  | succ fuel ih =>
    intro listed a w hcl hfree hr hy hS H
    refine ⟨fun h => (by rw [h] at hr; cases hr), fun j hj => ?_⟩
    by_cases hji : j = i
    · subst hji; exact hy.wpOp hi hS ⟨fun _ => hS, H⟩
    · have h1 := H.2 j (ready_mono hj hji)
      obtain ⟨hjun, oj, hoj, hall⟩ := mem_ready.1 hj
      have hun := unlisted_of (mem_ready.1 hr).1
      have hjB : j ∉ B := fun hm => by
        have := reach_listed hcl (hB j hm) (fun o ho e he hb => by rw [hoj] at ho; injection ho with ho; subst ho; exact hall e he hb)
        rw [this] at hun; cases hun
      have hnot : ∀ e ∈ oj.after, Region.binds .any e = true → e.on ≠ i := fun e he hb heq => by
        have h1 := hall e he hb
        rw [heq] at h1; rw [h1] at hun; cases hun
      have h2 := wpOp_putIf hoj (hfree j oj hoj hji hjun hnot) (fun cs b => hsel i oi cs b hi) (fun cs b => hsel j oj cs b hoj) hQ hy h1
      have hfree' : ∀ k ok, ops[k]? = some ok → k ≠ i → (listed.setIfInBounds j true).getD k true = false →
          (∀ e ∈ ok.after, Region.binds .any e = true → e.on ≠ i) → oi.apart ops ok = true := fun k ok hk hki hun hno => by
        refine hfree k ok hk hki ?_ hno
        by_cases hjk : j = k
        · subst hjk; exact hjun
        · rw [getD_set_ne true hjk] at hun; exact hun
      refine wpOp_mono (fun a' w' h3 => ⟨h3.2.1, ih (listed.setIfInBounds j true) a' w' (hcl.set hj) hfree' (ready_mono hr (Ne.symm hji)) h3.1 (h3.2.1 hjB) ?_⟩) h2
      rw [Array.setIfInBounds_comm _ _ hji]
      exact h3.2.2
theorem wpAnyG_firstF {i : Nat} {oi : Oper} {v : Value} (hi : ops[i]? = some oi) (hsel : ∀ (j : Nat) (o : Oper) cs b, ops[j]? = some o → o.op ≠ .select cs b)
    (hQ : ∀ c a w, Q (.panic c) (a.put oi.dst v) w → Q (.panic c) a w) (hiB : i ∈ B) :
    ∀ (fuel : Nat) (listed : Array Bool) (a : Act) (w : World),
      (∀ j oj, ops[j]? = some oj → j ≠ i → listed.getD j true = false → (∀ e ∈ oj.after, Region.binds .any e = true → e.on ≠ i) → oi.apart ops oj = true) →
      i ∈ Region.ready .any ops listed → Yields Try.prog ops oi v a →
      wpAnyG ops Q B S fuel (listed.setIfInBounds i true) (a.put oi.dst v) w → wpAnyG ops Q B S (fuel + 1) listed a w := by
  intro fuel
  induction fuel with
  | zero =>
    intro listed a w _ hr hy H
    refine ⟨fun h => (by rw [h] at hr; cases hr), fun j hj => ?_⟩
    by_cases hji : j = i
    · subst hji; exact hy.wpOp hi ⟨fun h => absurd hiB h, H⟩
    · have := ready_mono hj hji
      rw [H.1] at this
      cases this
  | succ fuel ih =>
    intro listed a w hfree hr hy H
    refine ⟨fun h => (by rw [h] at hr; cases hr), fun j hj => ?_⟩
    by_cases hji : j = i
    · subst hji; exact hy.wpOp hi ⟨fun h => absurd hiB h, H⟩
    · have h1 := H.2 j (ready_mono hj hji)
      obtain ⟨hjun, oj, hoj, hall⟩ := mem_ready.1 hj
      have hun := unlisted_of (mem_ready.1 hr).1
      have hnot : ∀ e ∈ oj.after, Region.binds .any e = true → e.on ≠ i := fun e he hb heq => by
        have h1 := hall e he hb
        rw [heq] at h1; rw [h1] at hun; cases hun
      have h2 := wpOp_put hoj (hfree j oj hoj hji hjun hnot) (fun cs b => hsel i oi cs b hi) (fun cs b => hsel j oj cs b hoj) hQ hy h1
      have hfree' : ∀ k ok, ops[k]? = some ok → k ≠ i → (listed.setIfInBounds j true).getD k true = false →
          (∀ e ∈ ok.after, Region.binds .any e = true → e.on ≠ i) → oi.apart ops ok = true := fun k ok hk hki hun hno => by
        refine hfree k ok hk hki ?_ hno
        by_cases hjk : j = k
        · subst hjk; exact hjun
        · rw [getD_set_ne true hjk] at hun; exact hun
      refine wpOp_mono (fun a' w' h3 => ⟨h3.2.1, ih (listed.setIfInBounds j true) a' w' hfree' (ready_mono hr (Ne.symm hji)) h3.1 ?_⟩) h2
      rw [Array.setIfInBounds_comm _ _ hji]
      exact h3.2.2

/-! ### Ways out are blind to slots when they panic -/
def Blind (Q : Exit → Act → World → Prop) : Prop := ∀ c (a : Act) (d : Option Tmp) (v : Value) w, Q (.panic c) (a.put d v) w → Q (.panic c) a w
theorem Blind.then_ {Z : Act → World → Prop} (h : Blind Q) : Blind (Exit.then Z Q) := h
theorem Blind.blk {i : Nat} (h : Blind Q) : Blind (Exit.inBlock i Q) := h
theorem Blind.body {fn : Func} {R : Ending → World → Prop} : Blind (bodyPost Try.prog fn R) := fun c a d v w h => by cases d <;> exact h
end

/-! ### The judgement -/
def lst (n : Nat) : List Nat → Array Bool
  | [] => Array.replicate n false
  | i :: ds => (lst n ds).setIfInBounds i true
/-- A region that draws its order; ds has come up. -/
def DR (l0 : List Oper) (Q : Exit → Act → World → Prop) (B : List Nat) (S : World → Prop) (ds : List Nat) : Act → World → Prop := fun a w => wpAnyG l0.toArray Q B S (l0.length - ds.length) (lst l0.length ds) a w
def closedB (ops : Array Oper) (listed : Array Bool) : Bool := (List.range ops.size).all fun j => match ops[j]? with
  | some o => !listed.getD j false || o.after.all (fun e => !Region.binds .any e || listed.getD e.on false)
  | none => true
theorem closed_of {ops : Array Oper} {listed : Array Bool} (h : closedB ops listed = true) : Closed ops listed := fun j o ho hj e he hb => by
  have hlt : j < ops.size := (Array.getElem?_eq_some_iff.1 ho).1
  have := List.all_eq_true.1 h j (List.mem_range.2 hlt)
  simp only [ho, hj, Bool.not_true, Bool.false_or] at this
  have := Array.all_eq_true_iff_forall_mem.1 this e he
  simpa [hb] using this
/-- May number i be taken first? -/
def okT (l0 : List Oper) (B ds : List Nat) (i : Nat) : Bool :=
  Nat.blt ds.length l0.length && (Region.ready .any l0.toArray (lst l0.length ds)).contains i && Region.free .any l0.toArray (lst l0.length ds) i && closedB l0.toArray (lst l0.length ds) && Region.noSelect l0.toArray && B.all (reachB l0.toArray i 8)
def okF (l0 : List Oper) (B ds : List Nat) (i : Nat) : Bool :=
  Nat.blt ds.length l0.length && (Region.ready .any l0.toArray (lst l0.length ds)).contains i && Region.free .any l0.toArray (lst l0.length ds) i && Region.noSelect l0.toArray && B.contains i
def rdy (l0 : List Oper) (ds : List Nat) : List Nat := Region.ready .any l0.toArray (lst l0.length ds)

section
variable {n : Nat} {E : Env} {M : List HP} {K : List KP} {Q : Exit → Act → World → Prop} {l0 : List Oper} {B ds : List Nat} {S : World → Prop}
theorem Dr.start {i : Nat} {l : List Oper} (B : List Nat) (S : World → Prop) (hm : Try.prog.follows .mixedOrders = true) (h : J n E M K (DR l Q B S [])) : J n E M K (W (.region i l.toArray true) Q) := J.intro fun a w ha hh => by
  refine wp_region_any hm (wpAny_of_G (B := B) (S := S) _ _ _ _ ?_)
  have := h.go a w.drew ha hh.drew
  simpa [DR, lst] using this
theorem D.fuel' {i : Nat} (h : Nat.blt ds.length l0.length = true) : l0.length - ds.length = (l0.length - (i :: ds).length) + 1 := by
  have := Nat.le_of_ble_eq_true h
  simp only [List.length_cons]; omega
theorem Dr.take {d ty : Nat} {op : Op} {ps : String} {af : Array Edge} {g : Option (Nat × Bool)} {v : Value} (i : Nat) (ho : l0[i]? = some ⟨some d, op, ty, ps, af, g⟩) (hk : okT l0 B ds i = true) (hQ : Blind Q) (hS : ∀ w, Hold w M K → S w)
    (hy : ∀ w, S w → Yl ⟨some d, op, ty, ps, af, g⟩ E v w) (hw : wt l0 E g = some true) (hd : Nat.ble (d + 1) n = true) (h : J n ((d, v) :: E) M K (DR l0 Q B S (i :: ds))) : J n E M K (DR l0 Q B S ds) := J.intro fun a w ha hh => by
  simp only [okT, Bool.and_eq_true] at hk
  obtain ⟨⟨⟨⟨⟨h1, h2⟩, h3⟩, h4⟩, h5⟩, h6⟩ := hk
  have hi : l0.toArray[i]? = some ⟨some d, op, ty, ps, af, g⟩ := by rw [List.getElem?_toArray]; exact ho
  unfold DR
  rw [D.fuel' (i := i) h1]
  refine wpAnyG_first hi (Region.noSelect_spec h5) (fun c a w => hQ c a _ _ w) (fun j hj => reach_of 8 j (List.all_eq_true.1 h6 j hj)) _ _ a w (closed_of h4) (Region.free_spec hi h3) (by simpa using h2) (.inl ⟨ha.wt hw, fun w' hs => (hy w' hs).go a.eval (fun x u hx => ha.ev hx)⟩) (hS w hh) ?_
  exact h.go _ w (ha.put hd v) hh
/-- Behind the operations that S is for. -/
theorem Dr.takeF {d ty : Nat} {op : Op} {ps : String} {af : Array Edge} {g : Option (Nat × Bool)} {v : Value} (i : Nat) (ho : l0[i]? = some ⟨some d, op, ty, ps, af, g⟩) (hk : okF l0 B ds i = true) (hQ : Blind Q)
    (hy : ∀ w, Yl ⟨some d, op, ty, ps, af, g⟩ E v w) (hw : wt l0 E g = some true) (hd : Nat.ble (d + 1) n = true) (h : J n ((d, v) :: E) M K (DR l0 Q B S (i :: ds))) : J n E M K (DR l0 Q B S ds) := J.intro fun a w ha hh => by
  simp only [okF, Bool.and_eq_true] at hk
  obtain ⟨⟨⟨⟨h1, h2⟩, h3⟩, h5⟩, h6⟩ := hk
  have hi : l0.toArray[i]? = some ⟨some d, op, ty, ps, af, g⟩ := by rw [List.getElem?_toArray]; exact ho
  unfold DR
  rw [D.fuel' (i := i) h1]
  refine wpAnyG_firstF hi (Region.noSelect_spec h5) (fun c a w => hQ c a _ _ w) (by simpa using h6) _ _ a w (Region.free_spec hi h3) (by simpa using h2) (.inl ⟨ha.wt hw, fun w' => (hy w').go a.eval (fun x u hx => ha.ev hx)⟩) ?_
  exact h.go _ w (ha.put hd v) hh
/-- Not carried out: taken first. -/
theorem Dr.off {d ty : Nat} {op : Op} {ps : String} {af : Array Edge} {g : Option (Nat × Bool)} (i : Nat) (ho : l0[i]? = some ⟨some d, op, ty, ps, af, g⟩) (hk : okT l0 B ds i = true) (hQ : Blind Q) (hS : ∀ w, Hold w M K → S w)
    (hw : wt l0 E g = some false) (hd : Nat.ble (d + 1) n = true) (h : J n ((d, undef) :: E) M K (DR l0 Q B S (i :: ds))) : J n E M K (DR l0 Q B S ds) := J.intro fun a w ha hh => by
  simp only [okT, Bool.and_eq_true] at hk
  obtain ⟨⟨⟨⟨⟨h1, h2⟩, h3⟩, h4⟩, h5⟩, h6⟩ := hk
  have hi : l0.toArray[i]? = some ⟨some d, op, ty, ps, af, g⟩ := by rw [List.getElem?_toArray]; exact ho
  unfold DR
  rw [D.fuel' (i := i) h1]
  refine wpAnyG_first hi (Region.noSelect_spec h5) (fun c a w => hQ c a _ _ w) (fun j hj => reach_of 8 j (List.all_eq_true.1 h6 j hj)) _ _ a w (closed_of h4) (Region.free_spec hi h3) (by simpa using h2) (.inr ⟨ha.wt hw, rfl⟩) (hS w hh) ?_
  exact h.go _ w (ha.put hd undef) hh
theorem Dr.done (hr : rdy l0 ds = []) (h : J n E M K (X .normal Q)) : J n E M K (DR l0 Q B S ds) := J.intro fun a w ha hh => by
  unfold DR
  cases l0.length - ds.length with
  | zero => exact ⟨hr, h.go a w ha hh⟩
  | succ f => exact ⟨fun _ => h.go a w ha hh, fun i hi => by rw [show Region.ready .any l0.toArray (lst l0.length ds) = [] from hr] at hi; cases hi⟩
theorem wpOp_W {α : Type} {φ : α → Prop} {V : α → Value} {Mc : α → List HP} {Kc : α → List KP} {i : Nat} {o : Oper} {a : Act} {w : World} {Kn : Act → World → Prop} (hi : l0.toArray[i]? = some o) (ho : OpW o E M K φ V Mc Kc) (ha : Agr n E a) (hh : Hold w M K) (hw : wt l0 E o.guard = some true)
    (h : ∀ x w', φ x → Hold w' (Mc x) (Kc x) → Kn (a.put o.dst (V x)) w') : wpOp Try.prog l0.toArray Q i Kn a w := by
  unfold wpOp
  simp only [hi, ha.wt hw, if_true]
  exact .inl (ho.go a w Kn Q (fun x u hx => ha.ev hx) hh h)
/-- The one operation that may come up. -/
theorem Dr.act {α : Type} {φ : α → Prop} {V : α → Value} {Mc : α → List HP} {Kc : α → List KP} {d ty : Nat} {op : Op} {ps : String} {af : Array Edge} {g : Option (Nat × Bool)} (i : Nat) (ho : l0[i]? = some ⟨some d, op, ty, ps, af, g⟩) (hr : rdy l0 ds = [i]) (hl : Nat.blt ds.length l0.length = true)
    (hop : OpW ⟨some d, op, ty, ps, af, g⟩ E M K φ V Mc Kc) (hw : wt l0 E g = some true) (hd : Nat.ble (d + 1) n = true) (hS : i ∉ B → ∀ x, φ x → ∀ w, Hold w (Mc x) (Kc x) → S w) (h : ∀ x, φ x → J n ((d, V x) :: E) (Mc x) (Kc x) (DR l0 Q B S (i :: ds))) : J n E M K (DR l0 Q B S ds) := J.intro fun a w ha hh => by
  unfold DR
  rw [D.fuel' (i := i) hl]
  refine ⟨fun h => ?_, fun j hj => ?_⟩
  · rw [show Region.ready .any l0.toArray (lst l0.length ds) = [i] from hr] at h; cases h
  · rw [show Region.ready .any l0.toArray (lst l0.length ds) = [i] from hr] at hj
    rw [List.mem_singleton.1 hj]
    exact wpOp_W (by rw [List.getElem?_toArray]; exact ho) hop ha hh hw (fun x w' hx hh' => ⟨fun hB => hS hB x hx w' hh', (h x hx).go _ w' (ha.put hd (V x)) hh'⟩)
theorem Dr.act0 {α : Type} {φ : α → Prop} {V : α → Value} {Mc : α → List HP} {Kc : α → List KP} {ty : Nat} {op : Op} {ps : String} {af : Array Edge} {g : Option (Nat × Bool)} (i : Nat) (ho : l0[i]? = some ⟨none, op, ty, ps, af, g⟩) (hr : rdy l0 ds = [i]) (hl : Nat.blt ds.length l0.length = true)
    (hop : OpW ⟨none, op, ty, ps, af, g⟩ E M K φ V Mc Kc) (hw : wt l0 E g = some true) (hS : i ∉ B → ∀ x, φ x → ∀ w, Hold w (Mc x) (Kc x) → S w) (h : ∀ x, φ x → J n E (Mc x) (Kc x) (DR l0 Q B S (i :: ds))) : J n E M K (DR l0 Q B S ds) := J.intro fun a w ha hh => by
  unfold DR
  rw [D.fuel' (i := i) hl]
  refine ⟨fun h => ?_, fun j hj => ?_⟩
  · rw [show Region.ready .any l0.toArray (lst l0.length ds) = [i] from hr] at h; cases h
  · rw [show Region.ready .any l0.toArray (lst l0.length ds) = [i] from hr] at hj
    rw [List.mem_singleton.1 hj]
    exact wpOp_W (by rw [List.getElem?_toArray]; exact ho) hop ha hh hw (fun x w' hx hh' => ⟨fun hB => hS hB x hx w' hh', (h x hx).go _ w' ha hh'⟩)
/-- Two may come up. -/
theorem Dr.or {i j : Nat} (hr : rdy l0 ds = [i, j]) (hl : Nat.blt ds.length l0.length = true) (h1 : J n E M K (fun a w => wpOp Try.prog l0.toArray Q i (fun a' w' => (i ∉ B → S w') ∧ DR l0 Q B S (i :: ds) a' w') a w)) (h2 : J n E M K (fun a w => wpOp Try.prog l0.toArray Q j (fun a' w' => (j ∉ B → S w') ∧ DR l0 Q B S (j :: ds) a' w') a w)) : J n E M K (DR l0 Q B S ds) := J.intro fun a w ha hh => by
  have e1 := h1.go a w ha hh
  have e2 := h2.go a w ha hh
  unfold DR at *
  rw [D.fuel' (i := i) hl]
  refine ⟨fun h => ?_, fun k hk => ?_⟩
  · rw [show Region.ready .any l0.toArray (lst l0.length ds) = [i, j] from hr] at h; cases h
  · rw [show Region.ready .any l0.toArray (lst l0.length ds) = [i, j] from hr] at hk
    rcases List.mem_cons.1 hk with rfl | hk
    · exact e1
    · rw [List.mem_singleton.1 hk]; exact e2
theorem Dr.one {α : Type} {φ : α → Prop} {V : α → Value} {Mc : α → List HP} {Kc : α → List KP} {d ty : Nat} {op : Op} {ps : String} {af : Array Edge} {g : Option (Nat × Bool)} (i : Nat) (ho : l0[i]? = some ⟨some d, op, ty, ps, af, g⟩)
    (hop : OpW ⟨some d, op, ty, ps, af, g⟩ E M K φ V Mc Kc) (hw : wt l0 E g = some true) (hd : Nat.ble (d + 1) n = true) (hS : i ∉ B → ∀ x, φ x → ∀ w, Hold w (Mc x) (Kc x) → S w) (h : ∀ x, φ x → J n ((d, V x) :: E) (Mc x) (Kc x) (DR l0 Q B S (i :: ds))) :
    J n E M K (fun a w => wpOp Try.prog l0.toArray Q i (fun a' w' => (i ∉ B → S w') ∧ DR l0 Q B S (i :: ds) a' w') a w) := J.intro fun a w ha hh =>
  wpOp_W (by rw [List.getElem?_toArray]; exact ho) hop ha hh hw (fun x w' hx hh' => ⟨fun hB => hS hB x hx w' hh', (h x hx).go _ w' (ha.put hd (V x)) hh'⟩)
end
/-- What stands through a region: the chunks M1, and what is known. -/
def SS (M1 : List HP) (K : List KP) : World → Prop := fun w => ∃ K', Hold w M1 K' ∧ ∀ k ∈ K, k ∈ K'
theorem SS.of {w : World} {M M1 : List HP} {K K1 : List KP} (h : Hold w M K) (hp : Picks M M1) (hk : Ks K K1) : SS M1 K1 w := ⟨K, h.mono hp (fun _ h => h), hk.sub⟩
section
variable {n : Nat} {E : Env} {M M1 M2 : List HP} {K : List KP} {Q : Exit → Act → World → Prop} {i : Nat} {l : List Oper}
theorem Dr.start0 (B : List Nat) (h : J n E M K (DR l Q B (SS M K) [])) : J n E M K (W (.region i l.toArray true) Q) := Dr.start B _ (by kernel_rfl) h
theorem Dr.start1 (B : List Nat) {p : HP} (hp : Pick M p M1) (h : J n E M K (DR l Q B (SS M1 K) [])) : J n E M K (W (.region i l.toArray true) Q) := Dr.start B _ (by kernel_rfl) h
theorem Dr.start2 (B : List Nat) {p q : HP} (hp : Pick M p M1) (hq : Pick M1 q M2) (h : J n E M K (DR l Q B (SS M2 K) [])) : J n E M K (W (.region i l.toArray true) Q) := Dr.start B _ (by kernel_rfl) h
end
theorem mixed : Try.prog.follows .mixedOrders = true := by kernel_rfl
end Go.Proofs.Ytfpnodboebpemaa
