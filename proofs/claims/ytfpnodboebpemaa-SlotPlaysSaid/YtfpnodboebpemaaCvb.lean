/- Regions that draw their order and store; a literal []byte; []byte as a string. -/
import Derived.Test.YtfpnodboebpemaaSh
import Derived.Test.YtfpnodboebpemaaAdapt
import Derived.Laws.BytesArg
namespace Go.Proofs.Ytfpnodboebpemaa
open Go.RowKit Go.Proofs.YtfpnodboebpemaaW.PrintWords
set_option linter.unusedVariables false
set_option linter.unusedSimpArgs false
section

def clear (B : List Nat) (listed : Array Bool) : Prop := ∀ j ∈ B, listed.getD j false = false
theorem clear.of {B : List Nat} {listed : Array Bool} {i : Nat} (h : clear B (listed.setIfInBounds i true)) : clear B listed := fun j hj => by
  have h1 := h j hj
  by_cases hij : i = j
  · subst hij
    rcases Nat.lt_or_ge i listed.size with hl | hl
    · simp [hl] at h1
    · simp [Array.getElem?_eq_none hl]
  · rwa [getD_set_ne false hij] at h1
theorem clear.set {B : List Nat} {listed : Array Bool} {i : Nat} (hi : i ∉ B) (h : clear B listed) : clear B (listed.setIfInBounds i true) := fun j hj => by
  by_cases hij : i = j
  · subst hij; exact absurd hj hi
  · rw [getD_set_ne false hij]; exact h j hj
section
variable {ops : Array Oper} {Q : Exit → Act → World → Prop} {B : List Nat} {S : World → Prop}
def wpAnyH (ops : Array Oper) (Q : Exit → Act → World → Prop) (B : List Nat) (S : World → Prop) : Nat → Array Bool → Act → World → Prop
  | 0, listed, a, w => Region.ready .any ops listed = [] ∧ Q .normal a w
  | fuel + 1, listed, a, w => (Region.ready .any ops listed = [] → Q .normal a w) ∧
    ∀ i ∈ Region.ready .any ops listed, wpOp Try.prog ops Q i (fun a' w' => (clear B (listed.setIfInBounds i true) → S w') ∧ wpAnyH ops Q B S fuel (listed.setIfInBounds i true) a' w') a w
theorem wpAny_of_H : ∀ (fuel : Nat) (listed : Array Bool) (a : Act) (w : World), wpAnyH ops Q B S fuel listed a w → wpAny Try.prog .any ops Q fuel listed a w
  | 0, _, _, _, h => h
  | fuel + 1, _, _, _, h => ⟨h.1, fun i hi => wpOp_mono (fun a' w' h' => wpAny_of_H fuel _ a' w' h'.2) (h.2 i hi)⟩
theorem wpAnyH_first {i : Nat} {oi : Oper} {v : Value} (hi : ops[i]? = some oi) (hsel : ∀ (j : Nat) (o : Oper) cs b, ops[j]? = some o → o.op ≠ .select cs b)
    (hQ : ∀ c a w, Q (.panic c) (a.put oi.dst v) w → Q (.panic c) a w) (hB : ∀ j ∈ B, Reach ops i j) (hiB : i ∉ B) :
    ∀ (fuel : Nat) (listed : Array Bool) (a : Act) (w : World), Closed ops listed →
      (∀ j oj, ops[j]? = some oj → j ≠ i → listed.getD j true = false → (∀ e ∈ oj.after, Region.binds .any e = true → e.on ≠ i) → oi.apart ops oj = true) →
      i ∈ Region.ready .any ops listed → YieldsIf Try.prog ops S oi v a → S w →
      wpAnyH ops Q B S fuel (listed.setIfInBounds i true) (a.put oi.dst v) w → wpAnyH ops Q B S (fuel + 1) listed a w := by
  intro fuel
  induction fuel with
  | zero =>
    intro listed a w hcl _ hr hy hS H
    refine ⟨fun h => (by rw [h] at hr; cases hr), fun j hj => ?_⟩
    by_cases hji : j = i
    · subst hji; exact hy.wpOp hi hS ⟨fun _ => hS, H⟩
    · have := ready_mono hj hji
      rw [H.1] at this
      cases this
  | succ fuel ih =>
    intro listed a w hcl hfree hr hy hS H
    refine ⟨fun h => (by rw [h] at hr; cases hr), fun j hj => ?_⟩
    by_cases hji : j = i
    · subst hji; exact hy.wpOp hi hS ⟨fun _ => hS, H⟩
    · have h1 := H.2 j (ready_mono hj hji)
      obtain ⟨hjun, oj, hoj, hall⟩ := mem_ready.1 hj
      have hun := unlisted_of (mem_ready.1 hr).1
      have hnot : ∀ e ∈ oj.after, Region.binds .any e = true → e.on ≠ i := fun e he hb heq => by
        have h1 := hall e he hb
        rw [heq] at h1; rw [h1] at hun; cases hun
      have h2 := wpOp_putIf hoj (hfree j oj hoj hji hjun hnot) (fun cs b => hsel i oi cs b hi) (fun cs b => hsel j oj cs b hoj) hQ hy h1
      have hfree' : ∀ k ok, ops[k]? = some ok → k ≠ i → (listed.setIfInBounds j true).getD k true = false →
          (∀ e ∈ ok.after, Region.binds .any e = true → e.on ≠ i) → oi.apart ops ok = true := fun k ok hk hki hun hno => by
        refine hfree k ok hk hki ?_ hno
        by_cases hjk : j = k
        · subst hjk; exact hjun
        · rw [getD_set_ne true hjk] at hun; exact hun
      have hcl' := hcl.set hj
      have hun' : (listed.setIfInBounds j true).getD i false = false := by rw [getD_set_ne false hji]; exact hun
      have hclr : clear B (listed.setIfInBounds j true) := fun k hk => by
        cases hkb : (listed.setIfInBounds j true).getD k false with
        | false => rfl
        | true =>
          have := reach_listed hcl' (hB k hk) (fun o ho e he hb => hcl' k o ho hkb e he hb)
          rw [this] at hun'; cases hun'
      have hclr2 : clear B ((listed.setIfInBounds i true).setIfInBounds j true) := by rw [Array.setIfInBounds_comm _ _ (Ne.symm hji)]; exact hclr.set hiB
      refine wpOp_mono (fun a' w' h3 => ⟨fun _ => h3.2.1 hclr2, ih (listed.setIfInBounds j true) a' w' hcl' hfree' (ready_mono hr (Ne.symm hji)) h3.1 (h3.2.1 hclr2) ?_⟩) h2
      rw [Array.setIfInBounds_comm _ _ hji]
      exact h3.2.2
theorem wpAnyH_firstF {i : Nat} {oi : Oper} {v : Value} (hi : ops[i]? = some oi) (hsel : ∀ (j : Nat) (o : Oper) cs b, ops[j]? = some o → o.op ≠ .select cs b)
    (hQ : ∀ c a w, Q (.panic c) (a.put oi.dst v) w → Q (.panic c) a w) (hiB : i ∉ B) :
    ∀ (fuel : Nat) (listed : Array Bool) (a : Act) (w : World),
      (∀ j oj, ops[j]? = some oj → j ≠ i → listed.getD j true = false → (∀ e ∈ oj.after, Region.binds .any e = true → e.on ≠ i) → oi.apart ops oj = true) →
      i ∈ Region.ready .any ops listed → Yields Try.prog ops oi v a → (clear B listed → S w) →
      wpAnyH ops Q B S fuel (listed.setIfInBounds i true) (a.put oi.dst v) w → wpAnyH ops Q B S (fuel + 1) listed a w := by
  intro fuel
  induction fuel with
  | zero =>
    intro listed a w _ hr hy hS H
    refine ⟨fun h => (by rw [h] at hr; cases hr), fun j hj => ?_⟩
    by_cases hji : j = i
    · subst hji; exact hy.wpOp hi ⟨fun h => hS h.of, H⟩
    · have := ready_mono hj hji
      rw [H.1] at this
      cases this
  | succ fuel ih =>
    intro listed a w hfree hr hy hS H
    refine ⟨fun h => (by rw [h] at hr; cases hr), fun j hj => ?_⟩
    by_cases hji : j = i
    · subst hji; exact hy.wpOp hi ⟨fun h => hS h.of, H⟩
    · have h1 := H.2 j (ready_mono hj hji)
      obtain ⟨hjun, oj, hoj, hall⟩ := mem_ready.1 hj
      have hun := unlisted_of (mem_ready.1 hr).1
      have hnot : ∀ e ∈ oj.after, Region.binds .any e = true → e.on ≠ i := fun e he hb heq => by
        have h1 := hall e he hb
        rw [heq] at h1; rw [h1] at hun; cases hun
      have h2 := wpOp_put hoj (hfree j oj hoj hji hjun hnot) (fun cs b => hsel i oi cs b hi) (fun cs b => hsel j oj cs b hoj) hQ hy h1
      have hfree' : ∀ k ok, ops[k]? = some ok → k ≠ i → (listed.setIfInBounds j true).getD k true = false →
          (∀ e ∈ ok.after, Region.binds .any e = true → e.on ≠ i) → oi.apart ops ok = true := fun k ok hk hki hun hno => by
        refine hfree k ok hk hki ?_ hno
        by_cases hjk : j = k
        · subst hjk; exact hjun
        · rw [getD_set_ne true hjk] at hun; exact hun
      have hS' : ∀ w', (clear B ((listed.setIfInBounds i true).setIfInBounds j true) → S w') → clear B (listed.setIfInBounds j true) → S w' := fun w' h hc => by
        rw [Array.setIfInBounds_comm _ _ (Ne.symm hji)] at h; exact h (hc.set hiB)
      refine wpOp_mono (fun a' w' h3 => ⟨hS' w' h3.2.1, ih (listed.setIfInBounds j true) a' w' hfree' (ready_mono hr (Ne.symm hji)) h3.1 (hS' w' h3.2.1) ?_⟩) h2
      rw [Array.setIfInBounds_comm _ _ hji]
      exact h3.2.2
end
/-- The same judgement over it; ds has come up. -/
def DH (l0 : List Oper) (Q : Exit → Act → World → Prop) (B : List Nat) (S : World → Prop) (ds : List Nat) : Act → World → Prop := fun a w => wpAnyH l0.toArray Q B S (l0.length - ds.length) (lst l0.length ds) a w
def okH (l0 : List Oper) (B ds : List Nat) (i : Nat) : Bool :=
  Nat.blt ds.length l0.length && (Region.ready .any l0.toArray (lst l0.length ds)).contains i && Region.free .any l0.toArray (lst l0.length ds) i && closedB l0.toArray (lst l0.length ds) && Region.noSelect l0.toArray && B.all (reachB l0.toArray i 8) && !B.contains i
def okG (l0 : List Oper) (B ds : List Nat) (i : Nat) : Bool :=
  Nat.blt ds.length l0.length && (Region.ready .any l0.toArray (lst l0.length ds)).contains i && Region.free .any l0.toArray (lst l0.length ds) i && Region.noSelect l0.toArray && !B.contains i
/-- Has one of B come up? -/
def dirty (l0 : List Oper) (B ds : List Nat) : Bool := B.any fun j => (lst l0.length ds).getD j false
theorem not_clear {l0 : List Oper} {B ds : List Nat} (h : dirty l0 B ds = true) : ¬ clear B (lst l0.length ds) := fun hc => by
  obtain ⟨j, hj, h2⟩ := List.any_eq_true.1 h
  rw [hc j hj] at h2; cases h2
section
variable {n : Nat} {E : Env} {M : List HP} {K : List KP} {Q : Exit → Act → World → Prop} {l0 : List Oper} {B ds : List Nat} {S : World → Prop}
theorem Dh.start {i : Nat} {l : List Oper} (B : List Nat) (S : World → Prop) (hm : Try.prog.follows .mixedOrders = true) (h : J n E M K (DH l Q B S [])) : J n E M K (W (.region i l.toArray true) Q) := J.intro fun a w ha hh => by
  refine wp_region_any hm (wpAny_of_H (B := B) (S := S) _ _ _ _ ?_)
  have := h.go a w.drew ha hh.drew
  simpa [DH, lst] using this
theorem Dh.take {d ty : Nat} {op : Op} {ps : String} {af : Array Edge} {g : Option (Nat × Bool)} {v : Value} (i : Nat) (ho : l0[i]? = some ⟨some d, op, ty, ps, af, g⟩) (hk : okH l0 B ds i = true) (hQ : Blind Q) (hS : ∀ w, Hold w M K → S w)
    (hy : ∀ w, S w → Yl ⟨some d, op, ty, ps, af, g⟩ E v w) (hw : wt l0 E g = some true) (hd : Nat.ble (d + 1) n = true) (h : J n ((d, v) :: E) M K (DH l0 Q B S (i :: ds))) : J n E M K (DH l0 Q B S ds) := J.intro fun a w ha hh => by
  simp only [okH, Bool.and_eq_true] at hk
  obtain ⟨⟨⟨⟨⟨⟨h1, h2⟩, h3⟩, h4⟩, h5⟩, h6⟩, h7⟩ := hk
  have hi : l0.toArray[i]? = some ⟨some d, op, ty, ps, af, g⟩ := by rw [List.getElem?_toArray]; exact ho
  unfold DH
  rw [D.fuel' (i := i) h1]
  refine wpAnyH_first hi (Region.noSelect_spec h5) (fun c a w => hQ c a _ _ w) (fun j hj => reach_of 8 j (List.all_eq_true.1 h6 j hj)) (by simpa using h7) _ _ a w (closed_of h4) (Region.free_spec hi h3) (by simpa using h2) (.inl ⟨ha.wt hw, fun w' hs => (hy w' hs).go a.eval (fun x u hx => ha.ev hx)⟩) (hS w hh) ?_
  exact h.go _ w (ha.put hd v) hh
theorem Dh.takeF {d ty : Nat} {op : Op} {ps : String} {af : Array Edge} {g : Option (Nat × Bool)} {v : Value} (i : Nat) (ho : l0[i]? = some ⟨some d, op, ty, ps, af, g⟩) (hk : okG l0 B ds i = true) (hQ : Blind Q) (hS : dirty l0 B ds = true ∨ ∀ w, Hold w M K → S w)
    (hy : ∀ w, Yl ⟨some d, op, ty, ps, af, g⟩ E v w) (hw : wt l0 E g = some true) (hd : Nat.ble (d + 1) n = true) (h : J n ((d, v) :: E) M K (DH l0 Q B S (i :: ds))) : J n E M K (DH l0 Q B S ds) := J.intro fun a w ha hh => by
  simp only [okG, Bool.and_eq_true] at hk
  obtain ⟨⟨⟨⟨h1, h2⟩, h3⟩, h5⟩, h6⟩ := hk
  have hi : l0.toArray[i]? = some ⟨some d, op, ty, ps, af, g⟩ := by rw [List.getElem?_toArray]; exact ho
  unfold DH
  rw [D.fuel' (i := i) h1]
  refine wpAnyH_firstF hi (Region.noSelect_spec h5) (fun c a w => hQ c a _ _ w) (by simpa using h6) _ _ a w (Region.free_spec hi h3) (by simpa using h2) (.inl ⟨ha.wt hw, fun w' => (hy w').go a.eval (fun x u hx => ha.ev hx)⟩) (fun hc => hS.elim (fun hd => absurd hc (not_clear hd)) (fun hs => hs w hh)) ?_
  exact h.go _ w (ha.put hd v) hh
theorem Dh.done (hr : rdy l0 ds = []) (h : J n E M K (X .normal Q)) : J n E M K (DH l0 Q B S ds) := J.intro fun a w ha hh => by
  unfold DH
  cases l0.length - ds.length with
  | zero => exact ⟨hr, h.go a w ha hh⟩
  | succ f => exact ⟨fun _ => h.go a w ha hh, fun i hi => by rw [show Region.ready .any l0.toArray (lst l0.length ds) = [] from hr] at hi; cases hi⟩
theorem Dh.act {α : Type} {φ : α → Prop} {V : α → Value} {Mc : α → List HP} {Kc : α → List KP} {d ty : Nat} {op : Op} {ps : String} {af : Array Edge} {g : Option (Nat × Bool)} (i : Nat) (ho : l0[i]? = some ⟨some d, op, ty, ps, af, g⟩) (hr : rdy l0 ds = [i]) (hl : Nat.blt ds.length l0.length = true)
    (hop : OpW ⟨some d, op, ty, ps, af, g⟩ E M K φ V Mc Kc) (hw : wt l0 E g = some true) (hd : Nat.ble (d + 1) n = true) (hS : dirty l0 B (i :: ds) = true ∨ ∀ x, φ x → ∀ w, Hold w (Mc x) (Kc x) → S w) (h : ∀ x, φ x → J n ((d, V x) :: E) (Mc x) (Kc x) (DH l0 Q B S (i :: ds))) : J n E M K (DH l0 Q B S ds) := J.intro fun a w ha hh => by
  unfold DH
  rw [D.fuel' (i := i) hl]
  refine ⟨fun h => ?_, fun j hj => ?_⟩
  · rw [show Region.ready .any l0.toArray (lst l0.length ds) = [i] from hr] at h; cases h
  · rw [show Region.ready .any l0.toArray (lst l0.length ds) = [i] from hr] at hj
    rw [List.mem_singleton.1 hj]
    exact wpOp_W (by rw [List.getElem?_toArray]; exact ho) hop ha hh hw (fun x w' hx hh' => ⟨fun hc => hS.elim (fun hd => absurd hc (not_clear hd)) (fun hs => hs x hx w' hh'), (h x hx).go _ w' (ha.put hd (V x)) hh'⟩)
theorem Dh.act0 {α : Type} {φ : α → Prop} {V : α → Value} {Mc : α → List HP} {Kc : α → List KP} {ty : Nat} {op : Op} {ps : String} {af : Array Edge} {g : Option (Nat × Bool)} (i : Nat) (ho : l0[i]? = some ⟨none, op, ty, ps, af, g⟩) (hr : rdy l0 ds = [i]) (hl : Nat.blt ds.length l0.length = true)
    (hop : OpW ⟨none, op, ty, ps, af, g⟩ E M K φ V Mc Kc) (hw : wt l0 E g = some true) (hS : dirty l0 B (i :: ds) = true ∨ ∀ x, φ x → ∀ w, Hold w (Mc x) (Kc x) → S w) (h : ∀ x, φ x → J n E (Mc x) (Kc x) (DH l0 Q B S (i :: ds))) : J n E M K (DH l0 Q B S ds) := J.intro fun a w ha hh => by
  unfold DH
  rw [D.fuel' (i := i) hl]
  refine ⟨fun h => ?_, fun j hj => ?_⟩
  · rw [show Region.ready .any l0.toArray (lst l0.length ds) = [i] from hr] at h; cases h
  · rw [show Region.ready .any l0.toArray (lst l0.length ds) = [i] from hr] at hj
    rw [List.mem_singleton.1 hj]
    exact wpOp_W (by rw [List.getElem?_toArray]; exact ho) hop ha hh hw (fun x w' hx hh' => ⟨fun hc => hS.elim (fun hd => absurd hc (not_clear hd)) (fun hs => hs x hx w' hh'), (h x hx).go _ w' ha hh'⟩)
end
section
variable {n : Nat} {E : Env} {M : List HP} {K : List KP} {Q : Exit → Act → World → Prop} {i : Nat} {l : List Oper}
theorem Dh.start0 (B : List Nat) (h : J n E M K (DH l Q B (SS M K) [])) : J n E M K (W (.region i l.toArray true) Q) := Dh.start B _ (by kernel_rfl) h
end
end

section

theorem cell_mark (w : World) (a x : Addr) (n : Nat) : (w.freeze a n).cell? x = w.cell? x := by
  unfold World.freeze
  split
  · rfl
  · unfold World.cell?
    simp only [Array.getElem?_modify]
    by_cases h : a.block = x.block
    · rw [if_pos h]
      cases h2 : w.heap[x.block]? with
      | none => simp
      | some o => cases o <;> simp
    · rw [if_neg h]
theorem mark_other (w : World) (a : Addr) (n b : Nat) (h : b ≠ a.block) : (w.freeze a n).heap[b]? = w.heap[b]? := by
  unfold World.freeze
  split
  · rfl
  · simp only [Array.getElem?_modify, if_neg (Ne.symm h)]
theorem mark_size (w : World) (a : Addr) (n : Nat) : (w.freeze a n).heap.size = w.heap.size := by
  unfold World.freeze
  split
  · rfl
  · simp
theorem mark_ag (w : World) (a : Addr) (n : Nat) {S : Nat → Prop} (hS : ∀ b, S b → b ≠ a.block) : Ag S w (w.freeze a n) := by
  refine ⟨?_, ?_, ?_, by rw [mark_size]; exact Nat.le_refl _, fun b hb => mark_other w a n b (hS b hb)⟩
  all_goals unfold World.freeze; split <;> rfl
theorem Hold.mark {w : World} {M : List HP} {K : List KP} {e sz c n b : Nat} {xs : List Value} (k m : Nat) (h : Hold w (rowH e sz (some ⟨b, 0, none⟩) c n xs :: M) K) : Hold (w.freeze ⟨b, k, none⟩ m) M (slK sz (some ⟨b, 0, none⟩) c n xs :: K) := by
  have := h.turn (w' := w.freeze ⟨b, k, none⟩ m) (p' := emp) (K' := [slK sz (some ⟨b, 0, none⟩) c n xs]) fun I F hp hd h3 h4 => by
    obtain ⟨hq, he⟩ := hp
    have hFb : F b := (he b).2 (by simp [Value.ownBlock])
    refine ⟨fun b => I b ∨ F b, fun _ => False, fun _ h => h, fun _ h => .inl h, fun b hb => hb.imp_right .inl, fun x hx => by rw [mark_size]; exact hx.elim (h3 x) (fun hF => q_lt hq x ((he x).1 hF)), fun _ h => h.elim, fun _ h => h.elim, mark_ag w _ m (fun x hx hxb => hx.2 (hxb ▸ hFb)), fun kk hk => ?_⟩
    rw [List.mem_singleton.1 hk]
    obtain ⟨A', c', e1, e2, e3, e4, e5⟩ := SlC.of_q (ok := fun b => I b ∨ F b) hq (fun k hk => .inr ((he k).2 hk))
    refine ⟨A', c', e1, e2, e3, e4, fun hp => ?_⟩
    obtain ⟨x, o, f1, f2, f3, f4⟩ := e5 hp
    exact ⟨x, o, f1, f2, by rw [mark_size]; exact f3, fun i u hu => by rw [cell_mark]; exact f4 i u hu⟩
  exact this.tail
theorem Hold.slB {w : World} {M : List HP} {K : List KP} {c : Nat} {A : Option Addr} {xs : List Int} (h : Hold w M (slK 1 A c xs.length (nums .u8 xs) :: K)) (hb : IsB xs) : Hold w M (bytesK A c xs :: K) :=
  (h.derive1 (k := bytesK A c xs) fun I hI _ => ⟨hI _ List.mem_cons_self, hb⟩).know (fun k hk => by rcases List.mem_cons.1 hk with rfl | hk; exact List.mem_cons_self; exact List.mem_cons_of_mem _ (List.mem_cons_of_mem _ hk))
theorem OpW.convB {dst : Option Tmp} {ty : Nat} {ps : String} {af : Array Edge} {g : Option (Nat × Bool)} {E : Env} {M M' : List HP} {K : List KP} {x : Operand} {b c : Nat} (xs : List Int) (hx : ev E x = some (.slice (some ⟨b, 0, none⟩) xs.length c)) (hp : Pick M (rowH 5 1 (some ⟨b, 0, none⟩) c xs.length (nums .u8 xs)) M') (hB : IsB xs) :
    OpW ⟨dst, .convert 23 23 x, ty, ps, af, g⟩ E M K (fun _ : Unit => True) (fun _ => .slice (some ⟨b, 0, none⟩) xs.length c) (fun _ => M') (fun _ => bytesK (some ⟨b, 0, none⟩) c xs :: K) :=
  OpW.val fun ρ w hρ hh => by
    have h1 := hh.pick hp
    cases hs : w.shape? b with
    | none =>
      refine ⟨(), w, trivial, ?_, (h1.freeze).slB hB⟩
      simp [execOp, hρ x _ hx, convert, run_underlying Try.underlying23, run_underlying Try.underlying5, markStringish, hs]
    | some o =>
      refine ⟨(), _, trivial, ?_, (h1.mark o.2 1).slB hB⟩
      simp [execOp, hρ x _ hx, convert, run_underlying Try.underlying23, run_underlying Try.underlying5, markStringish, hs]
end
section
variable {M : List HP} {K : List KP} {A : Option Addr} {c : Nat} {xs : List Int}
theorem conv_byt (ok : Nat → Prop) (w : World) (v : Value) (xs : List Int) (hx : Byt ok w v xs) : (convert 23 9 v).run Try.prog w = .ok (.string (strOfNums xs)) w := by
  obtain ⟨A, c, rfl, hc, hm, hA⟩ := hx.open_
  cases A with
  | none =>
    have h0 : xs.length = 0 := by
      rcases Nat.eq_zero_or_pos xs.length with h | h
      · exact h
      · obtain ⟨b, o, he, _⟩ := hA h; cases he
    have : xs = [] := List.eq_nil_of_length_eq_zero h0
    subst this
    rw [run_convert_bytes_nil w 23 5 Try.underlying23 Try.underlying5 _ _ 9 Try.underlying9]
    rfl
  | some ad =>
    rcases Nat.eq_zero_or_pos xs.length with h | h
    · have : xs = [] := List.eq_nil_of_length_eq_zero h
      subst this
      obtain ⟨b, o, s⟩ := ad
      cases s with
      | none => exact run_convert_bytes_arg w 23 5 Try.underlying23 Try.underlying5 b o 0 c [] rfl (fun i h => absurd h (Nat.not_lt_zero _)) 9 Try.underlying9
      | some q =>
        rw [run_convert_bytes_string w 23 9 5 _ _ _ Try.underlying23 Try.underlying5 Try.underlying9]
        exact run_bytesToString w _ _ _ [] (by simp [loadCells, loadCellsFrom, Sem.run_pure])
    · obtain ⟨b, o, he, _, _, hcell⟩ := hA h
      cases he
      exact run_convert_bytes_arg w 23 5 Try.underlying23 Try.underlying5 b o _ c xs rfl (fun i hi => by rw [hcell i hi]; simp [rd, List.getD]) 9 Try.underlying9
theorem Yl.convS {E : Env} {w : World} {dst : Option Tmp} {ty : Nat} {ps : String} {af : Array Edge} {g : Option (Nat × Bool)} {x : Operand} (hh : Hold w M K) (hm : bytesK A c xs ∈ K) (hx : ev E x = some (.slice A xs.length c)) : Yl ⟨dst, .convert 23 9 x, ty, ps, af, g⟩ E (.string (strOfNums xs)) w := Yl.mk fun ρ hρ => by
  simp only [execOp, hρ x _ hx, Sem.run_bind, conv_byt _ w _ xs (hh.byt hm), Result.andThen_ok]; rfl
end
end Go.Proofs.Ytfpnodboebpemaa
