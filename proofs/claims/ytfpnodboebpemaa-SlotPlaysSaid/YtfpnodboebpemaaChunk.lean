/- The chunks of the second logic: a block known whole (pt), a row of one's own (rowH), a slice that reads for good (slK), bytes, whole numbers, what stood at the start (oldK). -/
import Derived.Test.YtfpnodboebpemaaHold
namespace Go.Proofs.Ytfpnodboebpemaa
open Go.RowKit Go.Proofs.YtfpnodboebpemaaW.PrintWords
set_option linter.unusedVariables false

abbrev ptr (b o : Nat) : Value := .pointer (some ⟨b, o, none⟩)

/-! ### A block known whole -/
def pt (b : Nat) (t : TypeId) (cs : List Value) : HP :=
  ⟨fun w _ F => w.heap[b]? = some (.cells cs.toArray t (0, 0)) ∧ ∀ i, F i ↔ i = b, fun ⟨h, he⟩ _ hd _ _ => ⟨(hd b ((he b).2 rfl)).trans h, he⟩, fun ⟨h, he⟩ i hi => by
    rw [(he i).1 hi]; exact (Array.getElem?_eq_some_iff.1 h).1⟩
theorem own_mem {w : World} {I : Nat → Prop} {p : HP} : ∀ {M : List HP} {D : Nat → Prop}, Own w I M D → p ∈ M → ∃ F, p.sat w I F ∧ ∀ b, F b → D b
  | q :: M, D, h, hm => by
    obtain ⟨F, D', hp, hM, hn, he⟩ := h
    rcases List.mem_cons.1 hm with rfl | hm
    · exact ⟨F, hp, fun b hb => (he b).2 (.inl hb)⟩
    · obtain ⟨G, h1, h2⟩ := own_mem hM hm
      exact ⟨G, h1, fun b hb => (he b).2 (.inr (h2 b hb))⟩
theorem Hold.blk {w : World} {M : List HP} {K : List KP} {b : Nat} {t : TypeId} {cs : List Value} (h : Hold w M K) (hm : pt b t cs ∈ M) : Blk w b t cs.toArray := by
  obtain ⟨I, D, h1, _⟩ := h
  obtain ⟨F, h2, _⟩ := own_mem h1 hm
  exact h2.1
theorem Hold.cell {w : World} {M : List HP} {K : List KP} {b : Nat} {t : TypeId} {cs : List Value} (h : Hold w M K) (hm : pt b t cs ∈ M) {o : Nat} {v : Value} (hv : cs[o]? = some v) : w.cell? ⟨b, o, none⟩ = some v := by
  rw [(h.blk hm).cell]; simpa using hv
theorem Hold.alloc {w : World} {M : List HP} {K : List KP} (h : Hold w M K) (t : TypeId) (cs : List Value) : Hold (w.alloc (.cells cs.toArray t)) (pt w.heap.size t cs :: M) K :=
  h.make (K' := []) ((Below.refl _ _).alloc (Nat.le_refl _) _) fun I h3 _ => ⟨I, fun b => b = w.heap.size, ⟨heap_alloc_new w _, fun _ => Iff.rfl⟩, fun _ h => h, fun _ h => .inl h, fun b hb => by simp; have := h3 b hb; omega,
    fun b hb hi => by have := h3 b hi; omega, fun b hb => by omega, fun k hk => by cases hk⟩
theorem Hold.set {w : World} {M : List HP} {K : List KP} {b : Nat} {t : TypeId} {cs : List Value} (h : Hold w (pt b t cs :: M) K) (o : Nat) (v : Value) : Hold (w.setCell ⟨b, o, none⟩ v) (pt b t (cs.set o v) :: M) K := by
  have := h.turn (w' := w.setCell ⟨b, o, none⟩ v) (p' := pt b t (cs.set o v)) (K' := []) fun I F hp hd h3 h4 => by
    obtain ⟨hb, he⟩ := hp
    have hs : (w.setCell ⟨b, o, none⟩ v).heap.size = w.heap.size := by simp [World.setCell]
    refine ⟨I, F, ⟨?_, he⟩, fun _ h => h, fun _ h => .inl h, fun i hi => by rw [hs]; exact h3 i hi, fun i hF hI => hd i hI hF, fun _ h => .inl h, ⟨rfl, rfl, rfl, by rw [hs]; exact Nat.le_refl _, fun i hi => Below.heap_setCell w ⟨b, o, none⟩ v i (fun e => hi.2 ((he i).2 (by exact e)))⟩, fun k hk => by cases hk⟩
    have := (show Blk w b t cs.toArray from hb).set o v
    unfold Blk at this
    rw [this]; simp
  exact this

/-! ### A row of one's own -/
def rowH (e : TypeId) (sz : Nat) (A : Option Addr) (c n : Nat) (xs : List Value) : HP :=
  ⟨fun w _ F => QRow w 0 e sz (.slice A n c) n xs ∧ ∀ i, F i ↔ (Value.slice A n c).ownBlock = some i,
   fun ⟨h, he⟩ _ hd _ _ => ⟨q_move h (fun k hk => hd k ((he k).2 hk)), he⟩, fun ⟨h, he⟩ i hi => q_lt h i ((he i).1 hi)⟩
/-- It reads so. -/
theorem Hold.row {w : World} {M : List HP} {K : List KP} {e sz c n : Nat} {A : Option Addr} {xs : List Value} (h : Hold w M K) (hm : rowH e sz A c n xs ∈ M) : SlC (fun _ => True) w sz (.slice A n c) n xs := by
  obtain ⟨I, D, h1, _⟩ := h
  obtain ⟨F, h2, _⟩ := own_mem h1 hm
  exact SlC.of_q h2.1 (fun _ _ => trivial)
theorem Hold.row_nil {w : World} {M : List HP} {K : List KP} (h : Hold w M K) (e sz : Nat) : Hold w (rowH e sz none 0 0 [] :: M) K :=
  h.make (K' := []) (Below.refl _ _) fun I h3 _ => ⟨I, fun _ => False, ⟨⟨by simp, .inl ⟨rfl, none, rfl, fun a ha => by cases ha⟩⟩, fun i => by simp [Value.ownBlock]⟩, fun _ h => h, fun _ h => .inl h, h3, fun _ h => h.elim, fun _ h => h.elim, fun k hk => by cases hk⟩
/-- A block that was made is a row. -/
theorem pt_row {w : World} {I F : Nat → Prop} {b e sz n : Nat} {cs : List Value} (h : (pt b e cs).sat w I F) (hl : cs.length = n * sz) (hm : n ≤ maxLen) : (rowH e sz (some ⟨b, 0, none⟩) n n cs).sat w I F := by
  obtain ⟨hb, he⟩ := h
  refine ⟨⟨hl, .inr ⟨b, 0, n, cs.toArray, by rw [Nat.zero_mul], Nat.zero_le _, hb, Nat.le_refl _, by omega, by simp [hl], by simp [← hl]⟩⟩, fun i => by rw [he i]; simp [Value.ownBlock]; exact eq_comm⟩
theorem Hold.conv {w : World} {p p' : HP} {M : List HP} {K : List KP} (h : Hold w (p :: M) K) (hc : ∀ I F, p.sat w I F → p'.sat w I F) : Hold w (p' :: M) K := by
  obtain ⟨I, D, ⟨F, D', hp, h1⟩, h2⟩ := h
  exact ⟨I, D, ⟨F, D', hc I F hp, h1⟩, h2⟩
theorem Hold.to_row {w : World} {M : List HP} {K : List KP} {b e sz n : Nat} {cs : List Value} (h : Hold w (pt b e cs :: M) K) (hl : cs.length = n * sz) (hm : n ≤ maxLen) : Hold w (rowH e sz (some ⟨b, 0, none⟩) n n cs :: M) K :=
  h.conv fun I F hp => pt_row hp hl hm

/-! ### A slice that reads for good -/
def slK (sz : Nat) (A : Option Addr) (c n : Nat) (xs : List Value) : KP :=
  ⟨fun w I => SlC I w sz (.slice A n c) n xs, fun {w w' I I'} h ha hi hb => by
    obtain ⟨A', c', he, h1, h2, h3, h4⟩ := h
    refine ⟨A', c', he, h1, h2, h3, fun hp => ?_⟩
    obtain ⟨b, o, h5, h6, h7, h8⟩ := h4 hp
    refine ⟨b, o, h5, hi b h6, Nat.lt_of_lt_of_le h7 ha.size, fun i u hu => ?_⟩
    rw [World.cell?_of_block (w := w) (a := ⟨b, o + i, none⟩) (ha.block b h6)]
    exact h8 i u hu⟩
theorem Hold.sl {w : World} {M : List HP} {K : List KP} {sz c n : Nat} {A : Option Addr} {xs : List Value} (h : Hold w M K) (hm : slK sz A c n xs ∈ K) : SlC (fun _ => True) w sz (.slice A n c) n xs := by
  obtain ⟨I, D, h1, h2, h3, h4⟩ := h
  exact SlC.mono (h4 _ hm) (fun _ _ _ => trivial)
/-- One's own row is given up: it reads so for good. -/
theorem Hold.freeze {w : World} {M : List HP} {K : List KP} {e sz c n : Nat} {A : Option Addr} {xs : List Value} (h : Hold w (rowH e sz A c n xs :: M) K) : Hold w M (slK sz A c n xs :: K) := by
  have := h.turn (w' := w) (p' := emp) (K' := [slK sz A c n xs]) fun I F hp hd h3 h4 => by
    obtain ⟨hq, he⟩ := hp
    refine ⟨fun b => I b ∨ F b, fun _ => False, fun _ h => h, fun _ h => .inl h, fun b hb => hb.imp_right .inl, fun b hb => hb.elim (h3 b) (fun hF => q_lt hq b ((he b).1 hF)), fun _ h => h.elim, fun _ h => h.elim, Ag.refl _ _, fun k hk => ?_⟩
    rw [List.mem_singleton.1 hk]
    exact SlC.of_q hq (fun k hk => .inr ((he k).2 hk))
  exact this.tail

/-! ### append -/
theorem own_block_fresh {w w' : World} {v : Value} (h : w.grownBy w' v.ownBlock) : Ag (fun b => b < w.heap.size ∧ ¬ v.ownBlock = some b) w w' :=
  ⟨h.os, h.tape, h.output, h.size, fun b hb => h.block b hb.1 (fun e => hb.2 e.symm)⟩
theorem Hold.append {ok : Nat → Prop} {w : World} {M : List HP} {K : List KP} {t ty e sz bytes c n m : Nat} {z : Value} {A : Option Addr} {u : Value} {xs ys : List Value} (h : Hold w (rowH e sz A c n xs :: M) K)
    (ht : Try.prog.underlying t = some (.slice e)) (hi : (Try.prog.info? e).map (fun i => (i.zero, i.size, i.bytes)) = some (some z, sz, bytes)) (hz : z.cells.size = sz) (hsz : 0 < sz)
    (hu : SlC ok w sz u m ys) (h1 : ∀ u ∈ ys, u.oneCell' = true) (h63 : n + m ≤ maxLen) (hb : (n + m) * bytes ≤ 140737488355328) :
    ∃ A' c' w', (Builtin.append_ #[t, t] ty #[.slice A n c, u]).run Try.prog w = .ok (.slice A' (n + m) c') w' ∧ Hold w' (rowH e sz A' c' (n + m) (xs ++ ys) :: M) K := by
  obtain ⟨i, hi, hz', hsize, hby⟩ := info_of hi
  have h' := h
  obtain ⟨I, D, ⟨F, D', ⟨hq, he⟩, _⟩, _⟩ := h'
  obtain ⟨v', w', hr, hq', hg, hat⟩ := run_append_q (P := Try.prog) w 0 t ty e i z sz bytes ht hi hz' hsize hby hz hsz _ n xs hq u m ys hu h1 h63 hb (Nat.zero_le _)
  obtain ⟨A', c', rfl, hnc⟩ := q_slice hq'
  refine ⟨A', c', w', hr, ?_⟩
  have := h.turn (w' := w') (p' := rowH e sz A' c' (n + m) (xs ++ ys)) (K' := []) fun I F hp hd h3 h4 => by
    obtain ⟨_, he⟩ := hp
    refine ⟨I, fun b => (Value.slice A' (n + m) c').ownBlock = some b, ⟨hq', fun _ => Iff.rfl⟩, fun _ h => h, fun _ h => .inl h, fun b hb => Nat.lt_of_lt_of_le (h3 b hb) hg.size, fun b hF hI => ?_, fun b hF => ?_, (own_block_fresh hg).sub (fun b hb => ⟨hb.1, fun e => hb.2 ((he b).2 e)⟩), fun k hk => by cases hk⟩
    · rcases hat with hat | ⟨b', hat, hge, _⟩
      · exact hd b hI ((he b).2 (hat ▸ hF))
      · rw [hat] at hF; injection hF with hF; have := h3 b hI; omega
    · rcases hat with hat | ⟨b', hat, hge, _⟩
      · exact .inl ((he b).2 (hat ▸ hF))
      · rw [hat] at hF; injection hF with hF; right; omega
  exact this

/-! ### An element of one's own row is written -/
theorem QRow.set {w : World} {base e sz n c : Nat} {A : Option Addr} {xs : List Value} (h : QRow w base e sz (.slice A n c) n xs) {b o : Nat} (hA : A = some ⟨b, o, none⟩) (i : Nat) (hi : i < xs.length) (v : Value) :
    QRow (w.setCell ⟨b, o + i, none⟩ v) base e sz (.slice A n c) n (xs.set i v) := by
  obtain ⟨hl, h⟩ := h
  refine ⟨by simpa using hl, ?_⟩
  rcases h with ⟨h0, _⟩ | ⟨g, off, cap, cur, he, hb, hh, hnc, hm, hcs, ht⟩
  · rw [h0, Nat.zero_mul] at hl; omega
  · injection he with hA' _ hc
    subst hc
    rw [hA] at hA'
    injection hA' with hA'
    injection hA' with hbg hoo _
    subst hbg
    refine .inr ⟨b, off, c, cur.setIfInBounds (o + i) v, by rw [hA, hoo], hb, ?_, hnc, hm, by simpa using hcs, ?_⟩
    · have := (show Blk w b e cur from hh).set (o + i) v; exact this
    · rw [Array.toList_setIfInBounds, hoo, List.drop_set, if_neg (by omega), Nat.add_sub_cancel_left, List.take_set, ht]
theorem Hold.row_addr {w : World} {M : List HP} {K : List KP} {e sz c n : Nat} {A : Option Addr} {xs : List Value} (h : Hold w M K) (hm : rowH e sz A c n xs ∈ M) (hn : 0 < n) : ∃ b o, A = some ⟨b, o, none⟩ := by
  obtain ⟨A', c', he, _, _, _, h4⟩ := h.row hm
  injection he with hA _ _
  obtain ⟨b, o, h5, _⟩ := h4 hn
  exact ⟨b, o, hA.trans h5⟩
theorem Hold.row_set {w : World} {M : List HP} {K : List KP} {e sz c n : Nat} {A : Option Addr} {xs : List Value} (h : Hold w (rowH e sz A c n xs :: M) K) {b o : Nat} (hA : A = some ⟨b, o, none⟩) (i : Nat) (hi : i < xs.length) (v : Value) :
    Hold (w.setCell ⟨b, o + i, none⟩ v) (rowH e sz A c n (xs.set i v) :: M) K := by
  have := h.turn (w' := w.setCell ⟨b, o + i, none⟩ v) (p' := rowH e sz A c n (xs.set i v)) (K' := []) fun I F hp hd h3 h4 => by
    obtain ⟨hq, he⟩ := hp
    have hs : (w.setCell ⟨b, o + i, none⟩ v).heap.size = w.heap.size := by simp [World.setCell]
    exact ⟨I, F, ⟨QRow.set hq hA i hi v, he⟩, fun _ h => h, fun _ h => .inl h, fun i hi => by rw [hs]; exact h3 i hi, fun i hF hI => hd i hI hF, fun _ h => .inl h,
      ⟨rfl, rfl, rfl, by rw [hs]; exact Nat.le_refl _, fun j hj => Below.heap_setCell w ⟨b, o + i, none⟩ v j (fun e => hj.2 ((he j).2 (by rw [hA]; simp only [Value.ownBlock]; rw [e])))⟩, fun k hk => by cases hk⟩
  exact this

/-! ### Bytes, whole numbers -/
def bytesK (A : Option Addr) (c : Nat) (xs : List Int) : KP :=
  ⟨fun w I => Byt I w (.slice A xs.length c) xs ∧ IsB xs, fun h ha hi hb => ⟨(slK 1 A c xs.length (nums .u8 xs)).mono h.1 ha hi hb, h.2⟩⟩
theorem Hold.byt {w : World} {M : List HP} {K : List KP} {A : Option Addr} {c : Nat} {xs : List Int} (h : Hold w M K) (hm : bytesK A c xs ∈ K) : Byt (fun b => b < w.heap.size) w (.slice A xs.length c) xs := by
  obtain ⟨I, D, h1, h2, h3, h4⟩ := h
  exact Byt.mono (h4 _ hm).1 (fun b _ hb => h3 b hb)
theorem Hold.isB {w : World} {M : List HP} {K : List KP} {A : Option Addr} {c : Nat} {xs : List Int} (h : Hold w M K) (hm : bytesK A c xs ∈ K) : IsB xs := by
  obtain ⟨I, D, h1, h2, h3, h4⟩ := h
  exact (h4 _ hm).2
theorem Hold.bytes_max {w : World} {M : List HP} {K : List KP} {A : Option Addr} {c : Nat} {xs : List Int} (h : Hold w M K) (hm : bytesK A c xs ∈ K) : xs.length ≤ maxLen := SlC.max (h.byt hm)
def intsK (A : Option Addr) (c : Nat) (xs : List Int) : KP := slK 1 A c xs.length (nums .i64 xs)

/-! ### What stood at the start -/
def oldK (w0 : World) : KP :=
  ⟨fun w I => Below w0.heap.size w0 w ∧ ∀ b, b < w0.heap.size → I b, fun ⟨h, hI⟩ ha hi hb =>
    ⟨⟨ha.os.trans h.os, ha.tape.trans h.tape, ha.output.trans h.output, Nat.le_trans h.size ha.size, fun b hb => (ha.block b (hI b hb)).trans (h.block b hb)⟩, fun b hb => hi b (hI b hb)⟩⟩
theorem Hold.old {w w0 : World} {M : List HP} {K : List KP} (h : Hold w M K) (hm : oldK w0 ∈ K) : Below w0.heap.size w0 w := by
  obtain ⟨I, D, h1, h2, h3, h4⟩ := h
  exact (h4 _ hm).1
theorem Hold.start (w : World) (K : List KP) (hk : ∀ k ∈ K, k.sat w (fun b => b < w.heap.size)) : Hold w [] (oldK w :: K) :=
  ⟨fun b => b < w.heap.size, fun _ => False, fun _ h => h, fun _ _ h => h, fun _ h => h, fun k hk' => (List.mem_cons.1 hk').elim (fun e => e ▸ ⟨Below.refl _ _, fun _ h => h⟩) (hk k)⟩
end Go.Proofs.Ytfpnodboebpemaa
