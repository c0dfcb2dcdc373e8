/- append at an operation, in the words of Mem: in a plain region's list and at a step of a region that draws its order. -/
import Derived.Test.YtfpnodboebpemaaMem
namespace Go.Proofs.Ytfpnodboebpemaa
open Go.RowKit Go.Proofs.YtfpnodboebpemaaW.PrintWords

theorem wp_append_q {P : Program} {ok : Nat → Prop} {w : World} {o : Oper} {a : Act} {K : Act → World → Prop} {Q : Exit → Act → World → Prop} (s x : Operand) (t : TypeId)
    (ho : o.op = .call { callee := .builtin .append, args := #[s, x], argTypes := #[t, t] })
    (base : Nat) (e : TypeId) (i : TypeInfo) (z : Value) (size bytes : Nat) (ht : P.underlying t = some (.slice e)) (hi : P.info? e = some i) (hz : i.zero = some z)
    (hsize : i.size = size) (hby : i.bytes = bytes) (hzs : z.cells.size = size) (hsz : 0 < size)
    (v : Value) (n : Nat) (xs : List Value) (hs : a.eval s = v) (hown : QRow w base e size v n xs)
    (u : Value) (m : Nat) (news : List Value) (hx : a.eval x = u) (hu : SlC ok w size u m news) (h1 : ∀ u ∈ news, u.oneCell' = true)
    (h63 : n + m ≤ maxLen) (hbytes : (n + m) * bytes ≤ 140737488355328) (hbase : base ≤ w.heap.size)
    (h : ∀ v' w', QRow w' base e size v' (n + m) (xs ++ news) → w.grownBy w' v.ownBlock → (v'.ownBlock = v.ownBlock ∨ ∃ b, v'.ownBlock = some b ∧ w.heap.size ≤ b ∧ b < w'.heap.size) → K (a.put o.dst v') w') : o.wp P a w K Q := by
  obtain ⟨v', w', hr, h2, h3, h4⟩ := run_append_q (P := P) w base t o.type e i z size bytes ht hi hz hsize hby hzs hsz v n xs hown u m news hu h1 h63 hbytes hbase
  unfold Oper.wp execOp
  simp only [ho, resolve, invoke, builtin, Sem.run_bind, Sem.run_pure, Result.andThen_ok, List.map_toArray, List.map_cons, List.map_nil, hs, hx, hr]
  exact h v' w' h2 h3 h4

/-- In a plain region. -/
theorem wpList_append_q {P : Program} {ok : Nat → Prop} {w : World} {ops : Array Oper} {rest : List Oper} {o : Oper} {a : Act} {Q : Exit → Act → World → Prop} (hgd : o.guard = none) (s x : Operand) (t : TypeId)
    (ho : o.op = .call { callee := .builtin .append, args := #[s, x], argTypes := #[t, t] })
    (base : Nat) (e : TypeId) (i : TypeInfo) (z : Value) (size bytes : Nat) (ht : P.underlying t = some (.slice e)) (hi : P.info? e = some i) (hz : i.zero = some z)
    (hsize : i.size = size) (hby : i.bytes = bytes) (hzs : z.cells.size = size) (hsz : 0 < size)
    (v : Value) (n : Nat) (xs : List Value) (hs : a.eval s = v) (hown : QRow w base e size v n xs)
    (u : Value) (m : Nat) (news : List Value) (hx : a.eval x = u) (hu : SlC ok w size u m news) (h1 : ∀ u ∈ news, u.oneCell' = true)
    (h63 : n + m ≤ maxLen) (hbytes : (n + m) * bytes ≤ 140737488355328) (hbase : base ≤ w.heap.size)
    (h : ∀ v' w', QRow w' base e size v' (n + m) (xs ++ news) → w.grownBy w' v.ownBlock → (v'.ownBlock = v.ownBlock ∨ ∃ b, v'.ownBlock = some b ∧ w.heap.size ≤ b ∧ b < w'.heap.size) → wpList P ops Q rest (a.put o.dst v') w') : wpList P ops Q (o :: rest) a w :=
  wpList_plain hgd fun _ hK => wp_append_q s x t ho base e i z size bytes ht hi hz hsize hby hzs hsz v n xs hs hown u m news hx hu h1 h63 hbytes hbase fun v' w' h2 h3 h4 => hK _ _ (h v' w' h2 h3 h4)

/-- At a step of a region that draws its order. -/
theorem step_append_q {P : Program} {ok : Nat → Prop} {w : World} {ops : Array Oper} {o : Oper} {a : Act} {K : Act → World → Prop} {Q : Exit → Act → World → Prop} {E : Prop} (hgd : o.guard = none) (s x : Operand) (t : TypeId)
    (ho : o.op = .call { callee := .builtin .append, args := #[s, x], argTypes := #[t, t] })
    (base : Nat) (e : TypeId) (i : TypeInfo) (z : Value) (size bytes : Nat) (ht : P.underlying t = some (.slice e)) (hi : P.info? e = some i) (hz : i.zero = some z)
    (hsize : i.size = size) (hby : i.bytes = bytes) (hzs : z.cells.size = size) (hsz : 0 < size)
    (v : Value) (n : Nat) (xs : List Value) (hs : a.eval s = v) (hown : QRow w base e size v n xs)
    (u : Value) (m : Nat) (news : List Value) (hx : a.eval x = u) (hu : SlC ok w size u m news) (h1 : ∀ u ∈ news, u.oneCell' = true)
    (h63 : n + m ≤ maxLen) (hbytes : (n + m) * bytes ≤ 140737488355328) (hbase : base ≤ w.heap.size)
    (h : ∀ v' w', QRow w' base e size v' (n + m) (xs ++ news) → w.grownBy w' v.ownBlock → (v'.ownBlock = v.ownBlock ∨ ∃ b, v'.ownBlock = some b ∧ w.heap.size ≤ b ∧ b < w'.heap.size) → K (a.put o.dst v') w') :
    if Region.wanted o (yielded ops a.tmps) = true then Oper.wp P o a w K Q else E := by
  have hw : Region.wanted o (yielded ops a.tmps) = true := by simp [Region.wanted, hgd]
  rw [if_pos hw]
  exact wp_append_q s x t ho base e i z size bytes ht hi hz hsize hby hzs hsz v n xs hs hown u m news hx hu h1 h63 hbytes hbase h

/-! ### The element types of this program -/
theorem info_of {e sz by_ : Nat} {z : Value} {P : Program} (h : (P.info? e).map (fun i => (i.zero, i.size, i.bytes)) = some (some z, sz, by_)) : ∃ i, P.info? e = some i ∧ i.zero = some z ∧ i.size = sz ∧ i.bytes = by_ := by
  cases hi : P.info? e with
  | none => rw [hi] at h; cases h
  | some i => rw [hi] at h; simp at h; exact ⟨i, rfl, h.1, h.2.1, h.2.2⟩
theorem info5 : (Try.prog.info? 5).map (fun i => (i.zero, i.size, i.bytes)) = some (some (.int .u8 0), 1, 1) := by kernel_rfl
theorem info23 : (Try.prog.info? 23).map (fun i => (i.zero, i.size, i.bytes)) = some (some (.slice none 0 0), 1, 24) := by kernel_rfl
theorem info29 : (Try.prog.info? 29).map (fun i => (i.zero, i.size, i.bytes)) = some (some (.agg #[.int .i64 0, .int .i64 0, .int .i64 0, .int .i64 0, .slice none 0 0]), 5, 56) := by kernel_rfl

/-! ### Bytes -/
/-- A []byte that reads xs. -/
def Byt (ok : Nat → Prop) (w : World) (v : Value) (xs : List Int) : Prop := SlC ok w 1 v xs.length (nums .u8 xs)
/-- A []byte of one's own. -/
def BytQ (w : World) (base : Nat) (v : Value) (xs : List Int) : Prop := QRow w base 5 1 v xs.length (nums .u8 xs)

theorem nums_one (k : IntKind) (xs : List Int) : ∀ u ∈ nums k xs, u.oneCell' = true := by
  intro u hu; obtain ⟨x, _, rfl⟩ := List.mem_map.1 hu; rfl
theorem Byt.kp {S ok : Nat → Prop} {w w' : World} {v : Value} {xs : List Int} (h : Byt ok w v xs) (k : Kp S w w') (hn : ∀ b, b < w.heap.size → ok b → ¬ S b) : Byt ok w' v xs := SlC.kp h k hn
theorem Byt.below {ok : Nat → Prop} {w w' : World} {v : Value} {xs : List Int} (h : Byt ok w v xs) (k : Below w.heap.size w w') : Byt ok w' v xs := SlC.below h k
theorem Byt.mono {ok ok' : Nat → Prop} {w : World} {v : Value} {xs : List Int} (h : Byt ok w v xs) (hm : ∀ b, b < w.heap.size → ok b → ok' b) : Byt ok' w v xs := SlC.mono h hm
theorem Byt.nil (ok : Nat → Prop) (w : World) : Byt ok w (.slice none 0 0) [] := SlC.nil ok w 1
theorem BytQ.byt {ok : Nat → Prop} {w : World} {base : Nat} {v : Value} {xs : List Int} (h : BytQ w base v xs) (hok : ∀ k, v.ownBlock = some k → ok k) : Byt ok w v xs := SlC.of_q h hok
/-- As it lies: an address (if there is anything), a capacity. -/
theorem Byt.open_ {ok : Nat → Prop} {w : World} {v : Value} {xs : List Int} (h : Byt ok w v xs) :
    ∃ A c, v = .slice A xs.length c ∧ xs.length ≤ c ∧ c ≤ maxLen ∧ (0 < xs.length → ∃ b o, A = some ⟨b, o, none⟩ ∧ ok b ∧ b < w.heap.size ∧ ∀ i, i < xs.length → w.cell? ⟨b, o + i, none⟩ = some (.int .u8 (rd xs i))) := by
  obtain ⟨A, c, rfl, hl, hc, hm, hA⟩ := h
  refine ⟨A, c, rfl, hc, hm, fun hp => ?_⟩
  obtain ⟨b, o, rfl, h1, h2, h3⟩ := hA hp
  refine ⟨b, o, rfl, h1, h2, fun i hi => h3 i _ ?_⟩
  simp [nums, rd, hi]

/-! ### Rows of one's own that begin at their block's head -/
def BytO (w : World) (base : Nat) (v : Value) (xs : List Int) : Prop := w.ownsRow base 5 1 v xs.length (nums .u8 xs)
theorem BytO.q {w : World} {base : Nat} {v : Value} {xs : List Int} (h : BytO w base v xs) : BytQ w base v xs := q_of_own h
theorem BytO.byt {ok : Nat → Prop} {w : World} {base : Nat} {v : Value} {xs : List Int} (h : BytO w base v xs) (hok : ∀ k, v.ownBlock = some k → ok k) : Byt ok w v xs := h.q.byt hok
theorem BytO.fresh {w : World} {base : Nat} {v : Value} {xs : List Int} (h : BytO w base v xs) : Byt (fun k => base ≤ k ∧ k < w.heap.size) w v xs := h.byt (fun k hk => h.lt k hk)
theorem SlC.of_own {w : World} {base : Nat} {e : TypeId} {sz n : Nat} {v : Value} {xs : List Value} (h : w.ownsRow base e sz v n xs) : SlC (fun k => base ≤ k ∧ k < w.heap.size) w sz v n xs := SlC.of_q (q_of_own h) (fun k hk => h.lt k hk)
theorem BytQ.lt {w : World} {base : Nat} {v : Value} {xs : List Int} (h : BytQ w base v xs) : ∀ k, v.ownBlock = some k → base ≤ k ∧ k < w.heap.size := fun k hk => ⟨(q_typed h k hk).1, q_lt h k hk⟩
theorem BytQ.fresh {w : World} {base : Nat} {v : Value} {xs : List Int} (h : BytQ w base v xs) : Byt (fun k => base ≤ k ∧ k < w.heap.size) w v xs := h.byt (fun k hk => h.lt k hk)

/-- append onto a row of one's own: it is one again. -/
theorem run_append_o {P : Program} {ok : Nat → Prop} (w : World) (base : Nat) (t ty e : TypeId) (z : Value) (size bytes : Nat) (ht : P.underlying t = some (.slice e)) (hinfo : (P.info? e).map (fun i => (i.zero, i.size, i.bytes)) = some (some z, size, bytes))
    (hzs : z.cells.size = size) (hsz : 0 < size)
    (v : Value) (n : Nat) (xs : List Value) (hown : w.ownsRow base e size v n xs)
    (u : Value) (m : Nat) (news : List Value) (hu : SlC ok w size u m news) (h1 : ∀ u ∈ news, u.oneCell' = true)
    (h63 : n + m ≤ maxLen) (hbytes : (n + m) * bytes ≤ 140737488355328) (hbase : base ≤ w.heap.size) :
    ∃ v' w', (Builtin.append_ #[t, t] ty #[v, u]).run P w = .ok v' w' ∧ w'.ownsRow base e size v' (n + m) (xs ++ news) ∧ w.grownBy w' v.ownBlock ∧
      (v'.ownBlock = v.ownBlock ∨ ∃ b, v'.ownBlock = some b ∧ w.heap.size ≤ b ∧ b < w'.heap.size) := by
  obtain ⟨i, hi, hz, hsize, hby⟩ := info_of hinfo
  rcases Nat.eq_zero_or_pos m with h0 | h0
  · subst h0
    have hn : news = [] := List.eq_nil_of_length_eq_zero (by rw [hu.len, Nat.zero_mul])
    subst hn
    have hs : Src P i.size t u 0 [] w := by rw [hsize]; exact hu.src ht (fun u hu => by cases hu)
    obtain ⟨A, c, rfl, hnc⟩ := q_slice (q_of_own hown)
    exact ⟨_, w, run_append_nothing w t t ty e i ht hi A n c hnc u hs, by simpa using hown, ⟨rfl, rfl, rfl, Nat.le_refl _, fun _ _ _ => rfl⟩, .inl rfl⟩
  · obtain ⟨A, c, rfl, hl, hc, hm, hA⟩ := hu
    obtain ⟨b, o, rfl, _, hb, hcell⟩ := hA h0
    obtain ⟨v', w', hr, hq, hg, _, hat⟩ := run_append_own_at (P := P) w base t ty e i z size bytes ht hi hz hsize hby hzs hsz v n xs hown ⟨b, o, none⟩ m c news hl (fun j u hu => by rw [add_at]; exact hcell j u hu) h1 h63 hbytes hbase
    refine ⟨v', w', hr, hq, hg, ?_⟩
    rcases hat with hat | hat
    · exact .inl hat
    · exact .inr ⟨_, hat, Nat.le_refl _, (hq.lt _ hat).2⟩

/-- What was there below 'B' stays, whatever is appended to a row of one's own from B on. -/
theorem below_app {B : Nat} {a w w' : World} {e : TypeId} {size n : Nat} {v : Value} {xs : List Value} (h : Below B a w) (hB : B ≤ w.heap.size) (ho : w.ownsRow B e size v n xs) (hg : w.grownBy w' v.ownBlock) : Below B a w' :=
  h.grown hg hB (fun k hk => (ho.lt k hk).1)

theorem Byt.shape {ok : Nat → Prop} {w : World} {v : Value} {xs : List Int} (h : Byt ok w v xs) : ∃ A c, v = .slice A xs.length c := by obtain ⟨A, c, e, _⟩ := h.open_; exact ⟨A, c, e⟩
theorem BytO.shape {w : World} {base : Nat} {v : Value} {xs : List Int} (h : BytO w base v xs) : ∃ A c, v = .slice A xs.length c := h.fresh.shape
theorem own_shape {w : World} {base : Nat} {e : TypeId} {sz n : Nat} {v : Value} {xs : List Value} (h : w.ownsRow base e sz v n xs) : ∃ A c, v = .slice A n c := by obtain ⟨A, c, e, _⟩ := SlC.of_own h; exact ⟨A, c, e⟩

end Go.Proofs.Ytfpnodboebpemaa
