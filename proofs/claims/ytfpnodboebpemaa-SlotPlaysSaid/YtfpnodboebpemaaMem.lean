/- The words in which the contracts of this seat speak of memory: what a slice reads as (SlC), a slice of one's own (QRow of the print's words), what a call keeps (Kp). -/
import Derived.Test.YtfpnodboebpemaaProg
import Derived.Test.YtfpnodboebpemaaWWords
import Derived.Deep.AppendSrc
import Derived.Deep.Upon
namespace Go.Proofs.Ytfpnodboebpemaa
open Go.RowKit Go.Proofs.YtfpnodboebpemaaW.PrintWords

theorem ret_of {a b : Value} (h : a = b) : Ending.returned a = Ending.returned b := by rw [h]

/-! ### What a call keeps -/

/-- All blocks but those of S are as they were. -/
structure Kp (S : Nat → Prop) (w w' : World) : Prop where
  os : w'.os = w.os
  tape : w'.tape = w.tape
  output : w'.output = w.output
  size : w.heap.size ≤ w'.heap.size
  block : ∀ k, k < w.heap.size → ¬ S k → w'.heap[k]? = w.heap[k]?

theorem Kp.refl (S : Nat → Prop) (w : World) : Kp S w w := ⟨rfl, rfl, rfl, Nat.le_refl _, fun _ _ _ => rfl⟩
theorem Kp.mono {S T : Nat → Prop} {w w' : World} (h : Kp S w w') (hs : ∀ k, k < w.heap.size → S k → T k) : Kp T w w' :=
  ⟨h.os, h.tape, h.output, h.size, fun k hk hn => h.block k hk (fun hS => hn (hs k hk hS))⟩
theorem Kp.trans {S T : Nat → Prop} {a b c : World} (h : Kp S a b) (k : Kp T b c) (hs : ∀ i, i < a.heap.size → T i → S i) : Kp S a c :=
  ⟨k.os.trans h.os, k.tape.trans h.tape, k.output.trans h.output, Nat.le_trans h.size k.size,
   fun i hi hn => (k.block i (Nat.lt_of_lt_of_le hi h.size) (fun hT => hn (hs i hi hT))).trans (h.block i hi hn)⟩
theorem Kp.then_ {S : Nat → Prop} {a b c : World} (h : Kp S a b) (k : Kp S b c) : Kp S a c := h.trans k (fun _ _ h => h)
theorem Kp.of_below {w w' : World} (h : Below w.heap.size w w') (S : Nat → Prop) : Kp S w w' := ⟨h.os, h.tape, h.output, h.size, fun k hk _ => h.block k hk⟩
theorem Kp.below {B : Nat} {S : Nat → Prop} {w w' : World} (h : Kp S w w') (hB : B ≤ w.heap.size) (hs : ∀ k, k < B → ¬ S k) : Below B w w' :=
  ⟨h.os, h.tape, h.output, h.size, fun k hk => h.block k (by omega) (hs k hk)⟩
theorem Kp.drew {S : Nat → Prop} {a w : World} (h : Kp S a w) : Kp S a w.drew := ⟨h.os, h.tape, h.output, h.size, h.block⟩
theorem Kp.drewN {S : Nat → Prop} {a w : World} (h : Kp S a w) (n : Nat) : Kp S a (w.drewN n) := ⟨h.os, h.tape, h.output, h.size, h.block⟩
theorem Kp.alloc {S : Nat → Prop} {a w : World} (h : Kp S a w) (o : Obj) : Kp S a (w.alloc o) :=
  h.then_ (Kp.of_below ((Below.refl _ _).alloc (Nat.le_refl _) o) S)
theorem Kp.setCell {S : Nat → Prop} {a w : World} (h : Kp S a w) {p : Addr} (hp : S p.block ∨ a.heap.size ≤ p.block) (u : Value) : Kp S a (w.setCell p u) :=
  ⟨h.os, h.tape, h.output, by simpa [World.setCell] using h.size, fun k hk hn => (Below.heap_setCell w p u k (by rintro rfl; rcases hp with hp | hp; exact hn hp; omega)).trans (h.block k hk hn)⟩
theorem Kp.grown {S : Nat → Prop} {a w w' : World} {row : Option Nat} (h : Kp S a w) (hg : w.grownBy w' row) (hr : ∀ k, row = some k → S k ∨ a.heap.size ≤ k) : Kp S a w' :=
  h.trans (T := fun k => row = some k) ⟨hg.os, hg.tape, hg.output, hg.size, fun k hk hn => hg.block k hk (fun he => hn he.symm)⟩ (fun k hk hT => (hr k hT).resolve_right (by omega))
theorem Kp.now {S : Nat → Prop} {a w w' : World} (h : Kp S a w) (hb : Below w.heap.size w w') : Kp S a w' := h.then_ (Kp.of_below hb S)

theorem below_now {B : Nat} {a w w' : World} (h : Below B a w) (hB : B ≤ w.heap.size) (hb : Below w.heap.size w w') : Below B a w' := h.trans (hb.mono hB)
theorem below_draw (w : World) (n : Nat) : Below w.heap.size w (w.drewN n) := ⟨rfl, rfl, rfl, Nat.le_refl _, fun _ _ => rfl⟩

/-! ### A block known whole -/

def Blk (w : World) (b : Nat) (t : TypeId) (cs : Array Value) : Prop := w.heap[b]? = some (.cells cs t (0, 0))
theorem Blk.lt {w : World} {b : Nat} {t : TypeId} {cs : Array Value} (h : Blk w b t cs) : b < w.heap.size := (Array.getElem?_eq_some_iff.1 h).1
theorem Blk.cell {w : World} {b : Nat} {t : TypeId} {cs : Array Value} (h : Blk w b t cs) (i : Nat) : w.cell? ⟨b, i, none⟩ = cs[i]? := cell_of_row w b i cs t (0, 0) h
theorem Blk.frozen {w : World} {b : Nat} {t : TypeId} {cs : Array Value} (h : Blk w b t cs) (i : Nat) : w.frozen? ⟨b, i, none⟩ = false := by unfold Blk at h; simp [World.frozen?, h]
theorem Blk.set {w : World} {b : Nat} {t : TypeId} {cs : Array Value} (h : Blk w b t cs) (i : Nat) (u : Value) : Blk (w.setCell ⟨b, i, none⟩ u) b t (cs.setIfInBounds i u) := by
  unfold Blk at *; simp only [World.setCell, Array.getElem?_modify, h, Option.map_some, if_true]; rfl
theorem Blk.far {w : World} {b : Nat} {t : TypeId} {cs : Array Value} (h : Blk w b t cs) {p : Addr} (hp : b ≠ p.block) (u : Value) : Blk (w.setCell p u) b t cs := (Below.heap_setCell w p u b hp).trans h
theorem Blk.kp {S : Nat → Prop} {w w' : World} {b : Nat} {t : TypeId} {cs : Array Value} (h : Blk w b t cs) (k : Kp S w w') (hn : ¬ S b) : Blk w' b t cs := (k.block b h.lt hn).trans h
theorem Blk.below {w w' : World} {b : Nat} {t : TypeId} {cs : Array Value} (h : Blk w b t cs) (k : Below w.heap.size w w') : Blk w' b t cs := (k.block b h.lt).trans h
theorem Blk.new (w : World) (t : TypeId) (cs : Array Value) : Blk (w.alloc (.cells cs t)) w.heap.size t cs := heap_alloc_new w _
theorem Blk.ne {w : World} {b b' : Nat} {t t' : TypeId} {cs cs' : Array Value} (h : Blk w b t cs) (h' : Blk w b' t' cs') (ht : t ≠ t') : b ≠ b' := by
  rintro rfl; unfold Blk at *; rw [h] at h'; injection h' with h'; injection h' with _ h'; exact ht h'

/-! ### What a slice reads as -/

/-- A slice value of n elements of sz cells each; the cells read xs; they lie in a block of 'ok'. -/
def SlC (ok : Nat → Prop) (w : World) (sz : Nat) (v : Value) (n : Nat) (xs : List Value) : Prop :=
  ∃ A c, v = .slice A n c ∧ xs.length = n * sz ∧ n ≤ c ∧ c ≤ maxLen ∧
    (0 < n → ∃ b o, A = some ⟨b, o, none⟩ ∧ ok b ∧ b < w.heap.size ∧ ∀ i u, xs[i]? = some u → w.cell? ⟨b, o + i, none⟩ = some u)

theorem SlC.kp {S ok : Nat → Prop} {w w' : World} {sz n : Nat} {v : Value} {xs : List Value} (h : SlC ok w sz v n xs) (k : Kp S w w') (hn : ∀ b, b < w.heap.size → ok b → ¬ S b) : SlC ok w' sz v n xs := by
  obtain ⟨A, c, rfl, h1, h2, h3, h4⟩ := h
  refine ⟨A, c, rfl, h1, h2, h3, fun hp => ?_⟩
  obtain ⟨b, o, h5, h6, h7, h8⟩ := h4 hp
  refine ⟨b, o, h5, h6, Nat.lt_of_lt_of_le h7 k.size, fun i u hu => ?_⟩
  have := k.block b h7 (hn b h7 h6)
  rw [World.cell?_of_block (w := w) (a := ⟨b, o + i, none⟩) this]
  exact h8 i u hu
theorem SlC.below {ok : Nat → Prop} {w w' : World} {sz n : Nat} {v : Value} {xs : List Value} (h : SlC ok w sz v n xs) (k : Below w.heap.size w w') : SlC ok w' sz v n xs :=
  h.kp (Kp.of_below k (fun _ => False)) (fun _ _ _ hf => hf)
theorem SlC.mono {ok ok' : Nat → Prop} {w : World} {sz n : Nat} {v : Value} {xs : List Value} (h : SlC ok w sz v n xs) (hm : ∀ b, b < w.heap.size → ok b → ok' b) : SlC ok' w sz v n xs := by
  obtain ⟨A, c, rfl, h1, h2, h3, h4⟩ := h
  refine ⟨A, c, rfl, h1, h2, h3, fun hp => ?_⟩
  obtain ⟨b, o, h5, h6, h7, h8⟩ := h4 hp
  exact ⟨b, o, h5, hm b h7 h6, h7, h8⟩
theorem SlC.nil (ok : Nat → Prop) (w : World) (sz : Nat) : SlC ok w sz (.slice none 0 0) 0 [] :=
  ⟨none, 0, rfl, by simp, Nat.le_refl _, Nat.zero_le _, fun h => absurd h (Nat.lt_irrefl _)⟩
theorem SlC.empty (ok : Nat → Prop) (w : World) (sz : Nat) (A : Option Addr) (c : Nat) (hc : c ≤ maxLen) : SlC ok w sz (.slice A 0 c) 0 [] :=
  ⟨A, c, rfl, by simp, Nat.zero_le _, hc, fun h => absurd h (Nat.lt_irrefl _)⟩
theorem SlC.len {ok : Nat → Prop} {w : World} {sz n : Nat} {v : Value} {xs : List Value} (h : SlC ok w sz v n xs) : xs.length = n * sz := by
  obtain ⟨A, c, _, h1, _⟩ := h; exact h1
theorem SlC.max {ok : Nat → Prop} {w : World} {sz n : Nat} {v : Value} {xs : List Value} (h : SlC ok w sz v n xs) : n ≤ maxLen := by
  obtain ⟨A, c, _, _, h2, h3, _⟩ := h; exact Nat.le_trans h2 h3

/-- A slice of one's own reads as what it owns. -/
theorem SlC.of_q {ok : Nat → Prop} {w : World} {base : Nat} {e : TypeId} {sz n : Nat} {v : Value} {xs : List Value} (h : QRow w base e sz v n xs) (hok : ∀ k, v.ownBlock = some k → ok k) : SlC ok w sz v n xs := by
  obtain ⟨hl, h⟩ := h
  rcases h with ⟨rfl, A, rfl, hA⟩ | ⟨g, off, cap, cur, rfl, hb, hh, hnc, hcm, hcs, ht⟩
  · have : xs = [] := List.eq_nil_of_length_eq_zero (by rw [hl, Nat.zero_mul])
    subst this
    exact SlC.empty ok w sz A 0 (Nat.zero_le _)
  · refine ⟨_, cap, rfl, hl, hnc, Nat.le_trans (Nat.le_add_left _ _) hcm, fun hp => ⟨g, off * sz, rfl, hok g rfl, (Array.getElem?_eq_some_iff.1 hh).1, fun i u hu => ?_⟩⟩
    rw [cell_of_row w g _ cur e (0, 0) hh]
    rw [← ht, List.getElem?_take] at hu
    split at hu
    · rw [List.getElem?_drop] at hu
      rw [← Array.getElem?_toList]; exact hu
    · cases hu

/-- What may be appended: the cells of a slice. -/
theorem SlC.src {P : Program} {ok : Nat → Prop} {w : World} {sz n : Nat} {v : Value} {xs : List Value} {tx e' : TypeId} (h : SlC ok w sz v n xs) (hk : P.underlying tx = some (.slice e')) (h1 : ∀ u ∈ xs, u.oneCell' = true) : Src P sz tx v n xs w := by
  obtain ⟨A, c, rfl, hl, hc, hm, hA⟩ := h
  rcases Nat.eq_zero_or_pos n with h0 | h0
  · subst h0
    have : xs = [] := List.eq_nil_of_length_eq_zero (by rw [hl, Nat.zero_mul])
    subst this
    cases A with
    | none => exact Src.ofNil w hk c
    | some a => exact Src.ofSlice w hk a 0 c [] (by simp) (fun j u hu => by simp at hu) (fun u hu => by cases hu)
  · obtain ⟨b, o, rfl, _, _, hcell⟩ := hA h0
    refine Src.ofSlice w hk ⟨b, o, none⟩ n c xs hl (fun j u hu => ?_) h1
    rw [add_at]; exact hcell j u hu

/-- append: whatever is owned, whatever is read. -/
theorem run_append_q {P : Program} {ok : Nat → Prop} (w : World) (base : Nat) (t ty e : TypeId) (i : TypeInfo) (z : Value) (size bytes : Nat) (ht : P.underlying t = some (.slice e)) (hi : P.info? e = some i) (hz : i.zero = some z)
    (hsize : i.size = size) (hby : i.bytes = bytes) (hzs : z.cells.size = size) (hsz : 0 < size)
    (v : Value) (n : Nat) (xs : List Value) (hown : QRow w base e size v n xs)
    (u : Value) (m : Nat) (news : List Value) (hu : SlC ok w size u m news) (h1 : ∀ u ∈ news, u.oneCell' = true)
    (h63 : n + m ≤ maxLen) (hbytes : (n + m) * bytes ≤ 140737488355328) (hbase : base ≤ w.heap.size) :
    ∃ v' w', (Builtin.append_ #[t, t] ty #[v, u]).run P w = .ok v' w' ∧ QRow w' base e size v' (n + m) (xs ++ news) ∧ w.grownBy w' v.ownBlock ∧
      (v'.ownBlock = v.ownBlock ∨ ∃ b, v'.ownBlock = some b ∧ w.heap.size ≤ b ∧ b < w'.heap.size) := by
  rcases Nat.eq_zero_or_pos m with h0 | h0
  · subst h0
    have hn : news = [] := List.eq_nil_of_length_eq_zero (by rw [hu.len, Nat.zero_mul])
    subst hn
    have hs : Src P i.size t u 0 [] w := by rw [hsize]; exact hu.src ht (fun u hu => by cases hu)
    obtain ⟨A, c, rfl, hnc⟩ := q_slice hown
    refine ⟨_, w, run_append_nothing w t t ty e i ht hi A n c hnc u hs, by simpa using hown, ⟨rfl, rfl, rfl, Nat.le_refl _, fun _ _ _ => rfl⟩, .inl rfl⟩
  · obtain ⟨A, c, rfl, hl, hc, hm, hA⟩ := hu
    obtain ⟨b, o, rfl, _, hb, hcell⟩ := hA h0
    obtain ⟨v', w', hr, hq, hg, hat⟩ := q_append (P := P) w base t ty e i z size bytes ht hi hz hsize hby hzs hsz v n xs hown ⟨b, o, none⟩ m c news hl (fun j u hu => by rw [add_at]; exact hcell j u hu) h1 h0 h63 hbytes hbase
    refine ⟨v', w', hr, hq, hg, ?_⟩
    rcases hat with hat | ⟨b, hb, hle⟩
    · exact .inl hat
    · exact .inr ⟨b, hb, hle, q_lt hq b hb⟩

end Go.Proofs.Ytfpnodboebpemaa
