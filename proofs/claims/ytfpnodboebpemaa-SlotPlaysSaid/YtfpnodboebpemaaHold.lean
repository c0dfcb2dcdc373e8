/- The assertions of this seat's second logic: what is owned (HP), what is known for good (KP), and how both stand over a world (Hold). -/
import Derived.Test.YtfpnodboebpemaaSl
namespace Go.Proofs.Ytfpnodboebpemaa
open Go.RowKit Go.Proofs.YtfpnodboebpemaaW.PrintWords
set_option linter.unusedVariables false

/-- The worlds agree on the blocks of S (and outside memory). -/
structure Ag (S : Nat → Prop) (w w' : World) : Prop where
  os : w'.os = w.os
  tape : w'.tape = w.tape
  output : w'.output = w.output
  size : w.heap.size ≤ w'.heap.size
  block : ∀ b, S b → w'.heap[b]? = w.heap[b]?

theorem Ag.refl (S : Nat → Prop) (w : World) : Ag S w w := ⟨rfl, rfl, rfl, Nat.le_refl _, fun _ _ => rfl⟩
theorem Ag.sub {S T : Nat → Prop} {w w' : World} (h : Ag S w w') (hs : ∀ b, T b → S b) : Ag T w w' := ⟨h.os, h.tape, h.output, h.size, fun b hb => h.block b (hs b hb)⟩
theorem Ag.of_below {S : Nat → Prop} {w w' : World} (h : Below w.heap.size w w') (hs : ∀ b, S b → b < w.heap.size) : Ag S w w' := ⟨h.os, h.tape, h.output, h.size, fun b hb => h.block b (hs b hb)⟩

/-- Known for good: it reads blocks of I alone. -/
structure KP where
  sat : World → (Nat → Prop) → Prop
  mono : ∀ {w w' : World} {I I' : Nat → Prop}, sat w I → Ag I w w' → (∀ b, I b → I' b) → (∀ b, I' b → b < w'.heap.size) → sat w' I'

/-- Owned: the blocks of F; it may read those of I. -/
structure HP where
  sat : World → (Nat → Prop) → (Nat → Prop) → Prop
  mono : ∀ {w w' : World} {I I' F : Nat → Prop}, sat w I F → Ag I w w' → (∀ b, F b → w'.heap[b]? = w.heap[b]?) → (∀ b, I b → I' b) → (∀ b, I' b → b < w'.heap.size) → sat w' I' F
  bnd : ∀ {w : World} {I F : Nat → Prop}, sat w I F → ∀ b, F b → b < w.heap.size

def Own (w : World) (I : Nat → Prop) : List HP → (Nat → Prop) → Prop
  | [], D => ∀ b, ¬ D b
  | p :: M, D => ∃ F D', p.sat w I F ∧ Own w I M D' ∧ (∀ b, F b → ¬ D' b) ∧ (∀ b, D b ↔ (F b ∨ D' b))

theorem Own.bnd {w : World} {I : Nat → Prop} : ∀ {M : List HP} {D : Nat → Prop}, Own w I M D → ∀ b, D b → b < w.heap.size
  | [], _, h, b, hb => absurd hb (h b)
  | p :: M, D, h, b, hb => by
    obtain ⟨F, D', hp, hM, _, he⟩ := h
    rcases (he b).1 hb with h1 | h1
    · exact p.bnd hp b h1
    · exact Own.bnd hM b h1
theorem Own.mono {w w' : World} {I I' : Nat → Prop} : ∀ {M : List HP} {D : Nat → Prop}, Own w I M D → Ag I w w' → (∀ b, D b → w'.heap[b]? = w.heap[b]?) → (∀ b, I b → I' b) → (∀ b, I' b → b < w'.heap.size) → Own w' I' M D
  | [], _, h, _, _, _, _ => h
  | p :: M, D, h, ha, hd, hi, hb => by
    obtain ⟨F, D', hp, hM, hn, he⟩ := h
    exact ⟨F, D', p.mono hp ha (fun b hF => hd b ((he b).2 (.inl hF))) hi hb, Own.mono hM ha (fun b hD => hd b ((he b).2 (.inr hD))) hi hb, hn, he⟩
theorem Own.congr {w : World} {I : Nat → Prop} {D E : Nat → Prop} (he : ∀ b, D b ↔ E b) : ∀ {M : List HP}, Own w I M D → Own w I M E
  | [], h => fun b hb => h b ((he b).2 hb)
  | p :: M, h => by
    obtain ⟨F, D', hp, hM, hn, h2⟩ := h
    exact ⟨F, D', hp, hM, hn, fun b => (he b).symm.trans (h2 b)⟩
theorem Own.swap {w : World} {I : Nat → Prop} {p q : HP} {M : List HP} {D : Nat → Prop} (h : Own w I (p :: q :: M) D) : Own w I (q :: p :: M) D := by
  obtain ⟨F, D', hp, ⟨G, D'', hq, hM, hn', he'⟩, hn, he⟩ := h
  refine ⟨G, fun b => F b ∨ D'' b, hq, ⟨F, D'', hp, hM, fun b hF hD => hn b hF ((he' b).2 (.inr hD)), fun b => Iff.rfl⟩, fun b hG hb => ?_, fun b => ?_⟩
  · rcases hb with hF | hD
    · exact hn b hF ((he' b).2 (.inl hG))
    · exact hn' b hG hD
  · rw [he b, he' b]; constructor
    · rintro (h | h | h)
      · exact .inr (.inl h)
      · exact .inl h
      · exact .inr (.inr h)
    · rintro (h | h | h)
      · exact .inr (.inl h)
      · exact .inl h
      · exact .inr (.inr h)
theorem Own.drop {w : World} {I : Nat → Prop} {p : HP} {M : List HP} {D : Nat → Prop} (h : Own w I (p :: M) D) : ∃ D', Own w I M D' ∧ ∀ b, D' b → D b := by
  obtain ⟨F, D', hp, hM, hn, he⟩ := h
  exact ⟨D', hM, fun b hb => (he b).2 (.inr hb)⟩

/-- What is owned, and what is known. -/
def Hold (w : World) (M : List HP) (K : List KP) : Prop := ∃ I D : Nat → Prop, Own w I M D ∧ (∀ b, I b → ¬ D b) ∧ (∀ b, I b → b < w.heap.size) ∧ ∀ k ∈ K, k.sat w I

/-! ### A chunk taken to the front -/
inductive Pick : List HP → HP → List HP → Prop
  | head {p : HP} {M : List HP} : Pick (p :: M) p M
  | tail {p q : HP} {M M' : List HP} : Pick M p M' → Pick (q :: M) p (q :: M')
theorem Own.pick {w : World} {I : Nat → Prop} {p : HP} {M M' : List HP} (hp : Pick M p M') : ∀ {D : Nat → Prop}, Own w I M D → Own w I (p :: M') D := by
  induction hp with
  | head => exact fun h => h
  | tail _ ih =>
    intro D h
    obtain ⟨F, D', hq, hM, hn, he⟩ := h
    exact Own.swap ⟨F, D', hq, ih hM, hn, he⟩
theorem Own.unpick {w : World} {I : Nat → Prop} {p : HP} {M M' : List HP} (hp : Pick M p M') : ∀ {D : Nat → Prop}, Own w I (p :: M') D → Own w I M D := by
  induction hp with
  | head => exact fun h => h
  | tail _ ih =>
    intro D h
    obtain ⟨F, D', hq, hM, hn, he⟩ := Own.swap h
    exact ⟨F, D', hq, ih hM, hn, he⟩
theorem Hold.pick {w : World} {p : HP} {M M' : List HP} {K : List KP} (hp : Pick M p M') (h : Hold w M K) : Hold w (p :: M') K := by
  obtain ⟨I, D, h1, h2⟩ := h; exact ⟨I, D, h1.pick hp, h2⟩
theorem Hold.unpick {w : World} {p : HP} {M M' : List HP} {K : List KP} (hp : Pick M p M') (h : Hold w (p :: M') K) : Hold w M K := by
  obtain ⟨I, D, h1, h2⟩ := h; exact ⟨I, D, h1.unpick hp, h2⟩
/-- Every chunk of the second list stands in the first one. -/
inductive Picks : List HP → List HP → Prop
  | refl {M : List HP} : Picks M M
  | nil {M : List HP} : Picks M []
  | drop {p : HP} {M M' : List HP} : Picks M M' → Picks (p :: M) M'
  | cons {p : HP} {M M1 M' : List HP} : Pick M p M1 → Picks M1 M' → Picks M (p :: M')
theorem Own.picks {w : World} {I : Nat → Prop} {M M' : List HP} (hp : Picks M M') : ∀ {D : Nat → Prop}, Own w I M D → ∃ D', Own w I M' D' ∧ ∀ b, D' b → D b := by
  induction hp with
  | refl => exact fun h => ⟨_, h, fun _ hb => hb⟩
  | nil => exact fun h => ⟨fun _ => False, fun _ hf => hf, fun _ hb => hb.elim⟩
  | drop _ ih =>
    intro D h
    obtain ⟨D', h1, h2⟩ := h.drop
    obtain ⟨D'', h3, h4⟩ := ih h1
    exact ⟨D'', h3, fun b hb => h2 b (h4 b hb)⟩
  | cons hk _ ih =>
    intro D h
    obtain ⟨F, D', hp, hM, hn, he⟩ := h.pick hk
    obtain ⟨D'', h3, h4⟩ := ih hM
    exact ⟨fun b => F b ∨ D'' b, ⟨F, D'', hp, h3, fun b hF hD => hn b hF (h4 b hD), fun b => Iff.rfl⟩, fun b hb => (he b).2 (hb.imp_right (h4 b))⟩
theorem Hold.mono {w : World} {M M' : List HP} {K K' : List KP} (hp : Picks M M') (hk : ∀ k ∈ K', k ∈ K) (h : Hold w M K) : Hold w M' K' := by
  obtain ⟨I, D, h1, h2, h3, h4⟩ := h
  obtain ⟨D', h5, h6⟩ := h1.picks hp
  exact ⟨I, D', h5, fun b hb hd => h2 b hb (h6 b hd), h3, fun k hk' => h4 k (hk k hk')⟩
theorem Hold.know {w : World} {M : List HP} {K K' : List KP} (h : Hold w M K) (hk : ∀ k ∈ K', k ∈ K) : Hold w M K' := h.mono .refl hk

/-- All of the second list stands in the first one. -/
inductive Ks : List KP → List KP → Prop
  | refl {K : List KP} : Ks K K
  | nil {K : List KP} : Ks K []
  | drop {k : KP} {K K' : List KP} : Ks K K' → Ks (k :: K) K'
  | cons {k : KP} {K K' : List KP} : k ∈ K → Ks K K' → Ks K (k :: K')
theorem Ks.sub {K K' : List KP} (h : Ks K K') : ∀ k ∈ K', k ∈ K := by
  induction h with
  | refl => exact fun _ h => h
  | nil => exact fun _ h => by cases h
  | drop _ ih => exact fun k hk => List.mem_cons_of_mem _ (ih k hk)
  | cons hm _ ih => exact fun k hk => (List.mem_cons.1 hk).elim (fun e => e ▸ hm) (ih k)
theorem Hold.fin {w : World} {M M' : List HP} {K K' : List KP} (h : Hold w M K) (hp : Picks M M') (hk : Ks K K') : Hold w M' K' := h.mono hp hk.sub

/-! ### The frame rule -/
/-- One chunk turned into others, the world beside it as it was. -/
theorem Hold.turn {w w' : World} {p p' : HP} {M : List HP} {K K' : List KP} (h : Hold w (p :: M) K)
    (ht : ∀ I F : Nat → Prop, p.sat w I F → (∀ b, I b → ¬ F b) → (∀ b, I b → b < w.heap.size) → (∀ k ∈ K, k.sat w I) →
      ∃ I' F' : Nat → Prop, p'.sat w' I' F' ∧ (∀ b, I b → I' b) ∧ (∀ b, I' b → I b ∨ F b ∨ w.heap.size ≤ b) ∧ (∀ b, I' b → b < w'.heap.size) ∧ (∀ b, F' b → ¬ I' b) ∧ (∀ b, F' b → F b ∨ w.heap.size ≤ b) ∧
        Ag (fun b => b < w.heap.size ∧ ¬ F b) w w' ∧ ∀ k ∈ K', k.sat w' I') : Hold w' (p' :: M) (K' ++ K) := by
  obtain ⟨I, D, ⟨F, D', hp, hM, hn, he⟩, h2, h3, h4⟩ := h
  obtain ⟨I', F', h5, h6, h7, h8, h9, h10, h11, h12⟩ := ht I F hp (fun b hb hF => h2 b hb ((he b).2 (.inl hF))) h3 h4
  have hDb := Own.bnd hM
  have aI : Ag I w w' := h11.sub (fun b hb => ⟨h3 b hb, fun hF => h2 b hb ((he b).2 (.inl hF))⟩)
  refine ⟨I', fun b => F' b ∨ D' b, ⟨F', D', h5, Own.mono hM aI (fun b hb => h11.block b ⟨hDb b hb, fun hF => hn b hF hb⟩) h6 h8, fun b hF hD => ?_, fun b => Iff.rfl⟩, fun b hb hd => ?_, h8, fun k hk => ?_⟩
  · rcases h10 b hF with hF | hge
    · exact hn b hF hD
    · exact absurd (hDb b hD) (by omega)
  · rcases hd with hF | hD
    · exact h9 b hF hb
    · rcases h7 b hb with hI | hF | hge
      · exact h2 b hI ((he b).2 (.inr hD))
      · exact hn b hF hD
      · exact absurd (hDb b hD) (by omega)
  · rcases List.mem_append.1 hk with hk | hk
    · exact h12 k hk
    · exact k.mono (h4 k hk) aI h6 h8

/-- Nothing is owned. -/
def emp : HP := ⟨fun _ _ F => ∀ b, ¬ F b, fun h _ _ _ _ => h, fun h b hb => absurd hb (h b)⟩
theorem Hold.emp_cons {w : World} {M : List HP} {K : List KP} (h : Hold w M K) : Hold w (emp :: M) K := by
  obtain ⟨I, D, h1, h2⟩ := h
  exact ⟨I, D, ⟨fun _ => False, D, fun b hb => hb, h1, fun b hb => hb.elim, fun b => by simp⟩, h2⟩
theorem Hold.tail {w : World} {p : HP} {M : List HP} {K : List KP} (h : Hold w (p :: M) K) : Hold w M K := h.mono (.drop .refl) (fun _ h => h)

/-- Something new is made, nothing that was there is touched. -/
theorem Hold.make {w w' : World} {p' : HP} {M : List HP} {K K' : List KP} (h : Hold w M K) (hb : Below w.heap.size w w')
    (ht : ∀ I : Nat → Prop, (∀ b, I b → b < w.heap.size) → (∀ k ∈ K, k.sat w I) →
      ∃ I' F' : Nat → Prop, p'.sat w' I' F' ∧ (∀ b, I b → I' b) ∧ (∀ b, I' b → I b ∨ w.heap.size ≤ b) ∧ (∀ b, I' b → b < w'.heap.size) ∧ (∀ b, F' b → ¬ I' b) ∧ (∀ b, F' b → w.heap.size ≤ b) ∧ ∀ k ∈ K', k.sat w' I') :
    Hold w' (p' :: M) (K' ++ K) :=
  h.emp_cons.turn fun I F hp hd h3 h4 => by
    obtain ⟨I', F', h5, h6, h7, h8, h9, h10, h12⟩ := ht I h3 h4
    exact ⟨I', F', h5, h6, fun b hb => (h7 b hb).imp_right .inr, h8, h9, fun b hb => .inr (h10 b hb), Ag.of_below hb (fun b hb => hb.1), h12⟩
/-- The world has grown. -/
theorem Hold.below {w w' : World} {M : List HP} {K : List KP} (h : Hold w M K) (hb : Below w.heap.size w w') : Hold w' M K := by
  obtain ⟨I, D, h1, h2, h3, h4⟩ := h
  have hs : ∀ b, I b → b < w'.heap.size := fun b hi => Nat.lt_of_lt_of_le (h3 b hi) hb.size
  exact ⟨I, D, h1.mono (Ag.of_below hb h3) (fun b hd => hb.block b (h1.bnd b hd)) (fun _ h => h) hs, h2, hs, fun k hk => k.mono (h4 k hk) (Ag.of_below hb h3) (fun _ h => h) hs⟩
theorem Hold.drew {w : World} {M : List HP} {K : List KP} (h : Hold w M K) : Hold w.drew M K := h.below ⟨rfl, rfl, rfl, Nat.le_refl _, fun _ _ => rfl⟩
theorem Hold.drewN {w : World} {M : List HP} {K : List KP} (h : Hold w M K) (n : Nat) : Hold (w.drewN n) M K := h.below ⟨rfl, rfl, rfl, Nat.le_refl _, fun _ _ => rfl⟩
/-- What is known of bytes and the like that a call has made. -/
theorem Hold.fresh {w w' : World} {M : List HP} {K : List KP} {k : KP} (h : Hold w M K) (hb : Below w.heap.size w w') (hk : ∀ I : Nat → Prop, (∀ b, w.heap.size ≤ b ∧ b < w'.heap.size → I b) → (∀ b, I b → b < w'.heap.size) → k.sat w' I) : Hold w' M (k :: K) :=
  (h.make (p' := emp) (K' := [k]) hb fun I h3 _ => ⟨fun b => I b ∨ (w.heap.size ≤ b ∧ b < w'.heap.size), fun _ => False, fun _ h => h, fun _ h => .inl h, fun b hb => hb.imp_right And.left, fun b hb' => hb'.elim (fun h => Nat.lt_of_lt_of_le (h3 b h) hb.size) And.right, fun _ h => h.elim, fun _ h => h.elim,
    fun k' hk' => by rw [List.mem_singleton.1 hk']; exact hk _ (fun b hb => .inr hb) (fun b hb' => hb'.elim (fun h => Nat.lt_of_lt_of_le (h3 b h) hb.size) And.right)⟩).tail

/-! ### Connectives -/
def star (p q : HP) : HP := ⟨fun w I D => ∃ F G, p.sat w I F ∧ q.sat w I G ∧ (∀ b, F b → ¬ G b) ∧ ∀ b, D b ↔ (F b ∨ G b),
  fun ⟨F, G, hp, hq, hn, he⟩ ha hd hi hb => ⟨F, G, p.mono hp ha (fun b h => hd b ((he b).2 (.inl h))) hi hb, q.mono hq ha (fun b h => hd b ((he b).2 (.inr h))) hi hb, hn, he⟩,
  fun ⟨F, G, hp, hq, _, he⟩ b hb => ((he b).1 hb).elim (p.bnd hp b) (q.bnd hq b)⟩
theorem Own.star {w : World} {I : Nat → Prop} {p q : HP} {M : List HP} {D : Nat → Prop} : Own w I (star p q :: M) D ↔ Own w I (p :: q :: M) D := by
  constructor
  · rintro ⟨S, D', ⟨F, G, hp, hq, hn, he⟩, hM, hn', he'⟩
    refine ⟨F, fun b => G b ∨ D' b, hp, ⟨G, D', hq, hM, fun b hG => hn' b ((he b).2 (.inr hG)), fun b => Iff.rfl⟩, fun b hF hb => ?_, fun b => by rw [he' b, he b, or_assoc]⟩
    rcases hb with h | h
    · exact hn b hF h
    · exact hn' b ((he b).2 (.inl hF)) h
  · rintro ⟨F, D', hp, ⟨G, D'', hq, hM, hn', he'⟩, hn, he⟩
    refine ⟨fun b => F b ∨ G b, D'', ⟨F, G, hp, hq, fun b hF hG => hn b hF ((he' b).2 (.inl hG)), fun b => Iff.rfl⟩, hM, fun b hb hD => ?_, fun b => by rw [he b, he' b, or_assoc]⟩
    rcases hb with h | h
    · exact hn b h ((he' b).2 (.inr hD))
    · exact hn' b h hD
theorem Hold.star {w : World} {p q : HP} {M : List HP} {K : List KP} : Hold w (star p q :: M) K ↔ Hold w (p :: q :: M) K := by unfold Hold; simp only [Own.star]

def exH {α : Type} (f : α → HP) : HP := ⟨fun w I F => ∃ x, (f x).sat w I F, fun ⟨x, h⟩ ha hd hi hb => ⟨x, (f x).mono h ha hd hi hb⟩, fun ⟨x, h⟩ => (f x).bnd h⟩
theorem Hold.ex {α : Type} {f : α → HP} {w : World} {M : List HP} {K : List KP} : Hold w (exH f :: M) K ↔ ∃ x, Hold w (f x :: M) K := by
  constructor
  · rintro ⟨I, D, ⟨F, D', ⟨x, hx⟩, h1⟩, h2⟩; exact ⟨x, I, D, ⟨F, D', hx, h1⟩, h2⟩
  · rintro ⟨x, I, D, ⟨F, D', hx, h1⟩, h2⟩; exact ⟨I, D, ⟨F, D', ⟨x, hx⟩, h1⟩, h2⟩
def pureH (φ : Prop) (p : HP) : HP := ⟨fun w I F => φ ∧ p.sat w I F, fun ⟨h0, h⟩ ha hd hi hb => ⟨h0, p.mono h ha hd hi hb⟩, fun ⟨_, h⟩ => p.bnd h⟩
theorem Hold.pure {φ : Prop} {p : HP} {w : World} {M : List HP} {K : List KP} : Hold w (pureH φ p :: M) K ↔ φ ∧ Hold w (p :: M) K := by
  constructor
  · rintro ⟨I, D, ⟨F, D', ⟨x, hx⟩, h1⟩, h2⟩; exact ⟨x, I, D, ⟨F, D', hx, h1⟩, h2⟩
  · rintro ⟨x, I, D, ⟨F, D', hx, h1⟩, h2⟩; exact ⟨I, D, ⟨F, D', ⟨x, hx⟩, h1⟩, h2⟩
/-- Known, kept inside what is owned. -/
def knowH (k : KP) (p : HP) : HP := ⟨fun w I F => k.sat w I ∧ p.sat w I F, fun ⟨h0, h⟩ ha hd hi hb => ⟨k.mono h0 ha hi hb, p.mono h ha hd hi hb⟩, fun ⟨_, h⟩ => p.bnd h⟩
theorem Hold.knowH {k : KP} {p : HP} {w : World} {M : List HP} {K : List KP} : Hold w (knowH k p :: M) K ↔ Hold w (p :: M) (k :: K) := by
  constructor
  · rintro ⟨I, D, ⟨F, D', ⟨x, hx⟩, h1⟩, h2, h3, h4⟩
    exact ⟨I, D, ⟨F, D', hx, h1⟩, h2, h3, fun k' hk => (List.mem_cons.1 hk).elim (fun e => e ▸ x) (h4 k')⟩
  · rintro ⟨I, D, ⟨F, D', hx, h1⟩, h2, h3, h4⟩
    exact ⟨I, D, ⟨F, D', ⟨h4 k (List.mem_cons_self), hx⟩, h1⟩, h2, h3, fun k' hk => h4 k' (List.mem_cons_of_mem _ hk)⟩
/-- All of a list. -/
def starL : List HP → HP
  | [] => emp
  | p :: L => star p (starL L)
theorem pick_mid {p : HP} {M : List HP} : ∀ L : List HP, Pick (L ++ p :: M) p (L ++ M)
  | [] => .head
  | _ :: L => .tail (pick_mid L)
theorem Hold.starL {w : World} {K : List KP} : ∀ {L M : List HP}, Hold w (starL L :: M) K ↔ Hold w (L ++ M) K
  | [], M => ⟨fun h => h.tail, fun h => h.emp_cons⟩
  | p :: L, M => by
    rw [Go.Proofs.Ytfpnodboebpemaa.starL, Hold.star]
    constructor
    · intro h
      have h2 := Hold.starL.1 (h.pick (.tail .head))
      exact h2.pick (pick_mid L)
    · intro h
      have h1 : Hold w (L ++ p :: M) K := h.unpick (pick_mid L)
      exact (Hold.starL.2 h1).pick (.tail .head)
end Go.Proofs.Ytfpnodboebpemaa
