/- Lists of structs in memory: each element's cells mean something. And rules that the generator lacked: scopes, shifts, or. -/
import Derived.Test.YtfpnodboebpemaaOpn
import Derived.Scope
import Derived.Laws.BitsLemmas
namespace Go.Proofs.Ytfpnodboebpemaa
open Go.RowKit Go.Proofs.YtfpnodboebpemaaW.PrintWords
set_option linter.unusedVariables false
set_option linter.unusedSimpArgs false

/-! ### Scopes -/
section
variable {n : Nat} {E : Env} {M : List HP} {K : List KP} {Q : Exit → Act → World → Prop}
theorem T.scope {c : Code} (h : J n E M K (W c (Exit.noGoto Q))) : J n E M K (W (.scope c) Q) := J.intro fun a w ha hw => wp_scope_straight (h.go a w ha hw)
theorem X.nm_sc (h : J n E M K (X .normal Q)) : J n E M K (X .normal (Exit.noGoto Q)) := h
theorem X.ret_sc (h : J n E M K (X .ret Q)) : J n E M K (X .ret (Exit.noGoto Q)) := h
theorem X.exit_sc {i : Nat} (h : J n E M K (X (.exit i) Q)) : J n E M K (X (.exit i) (Exit.noGoto Q)) := h
end

/-! ### Shifts -/
section
variable {E : Env} {w : World} {dst : Option Tmp} {ty : Nat} {ps : String} {af : Array Edge} {g : Option (Nat × Bool)}
theorem Yl.shr {t t' : TypeId} {x y : Operand} {k k' : IntKind} {a : Int} {n : Nat} (hx : ev E x = some (.int k a)) (hy : ev E y = some (.int k' (n : Int))) (hn : n ≤ k.bits) : Yl ⟨dst, .binOp .shr t x y t', ty, ps, af, g⟩ E (.int k (a / 2 ^ n)) w := Yl.mk fun ρ hρ => by
  have h1 : (Op.shift .shr k a k' (n : Int)).run Try.prog w = .ok (.int k (a / 2 ^ n)) w := by
    unfold Op.shift
    rw [if_neg (by omega)]
    simp only [Int.toNat_natCast, Nat.min_eq_left hn]
    rw [Int.fdiv_eq_ediv_of_nonneg _ (Int.le_of_lt (Int.pow_pos (by decide)))]; rfl
  simp [execOp, hρ x _ hx, hρ y _ hy, eqGuard, binOp, h1]
theorem Yl.shl {t t' : TypeId} {x y : Operand} {k k' : IntKind} {a : Int} {n : Nat} (hx : ev E x = some (.int k a)) (hy : ev E y = some (.int k' (n : Int))) (hn : n ≤ k.bits) (hb : k.wrap (a * 2 ^ n) = a * 2 ^ n) : Yl ⟨dst, .binOp .shl t x y t', ty, ps, af, g⟩ E (.int k (a * 2 ^ n)) w := Yl.mk fun ρ hρ => by
  have h1 : (Op.shift .shl k a k' (n : Int)).run Try.prog w = .ok (.int k (a * 2 ^ n)) w := by
    unfold Op.shift
    rw [if_neg (by omega)]
    simp only [Int.toNat_natCast, Nat.min_eq_left hn, hb]; rfl
  simp [execOp, hρ x _ hx, hρ y _ hy, eqGuard, binOp, h1]
theorem Yl.orJ {t t' : TypeId} {x y : Operand} {a b : Int} (hx : ev E x = some (.int .i64 a)) (hy : ev E y = some (.int .i64 b)) (i : Nat) (ha : 0 ≤ a ∧ a < 2 ^ i) (hb : 0 ≤ b ∧ b % 2 ^ i = 0 ∧ b < 4611686018427387904) (hi : i ≤ 62) : Yl ⟨dst, .binOp .or t x y t', ty, ps, af, g⟩ E (.int .i64 (a + b)) w := Yl.mk fun ρ hρ => by
  have hp : (2 : Int) ^ i ≤ 2 ^ 62 := by exact_mod_cast Nat.pow_le_pow_right (by decide) hi
  have h62 : (2 : Int) ^ 62 = 4611686018427387904 := by decide
  have h2 : bits .or .i64 b a = b + a := bits_join .i64 62 (by decide) (fun n h0 h1 => by rw [IntKind.wrap_i64]; omega) i b a hb.1 hb.2.1 (by omega) ha.1 ha.2 (by omega)
  have h3 : bits .or .i64 a b = bits .or .i64 b a := by simp only [bits, BitVec.or_comm]
  have h1 : (Op.intBits .or .i64 a b).run Try.prog w = .ok (.int .i64 (a + b)) w := by
    show Sem.run Try.prog (pure (Value.int .i64 (bits .or .i64 a b))) w = _
    rw [h3, h2, Int.add_comm]; rfl
  simp only [execOp, hρ x _ hx, hρ y _ hy, eqGuard, binOp, Sem.run_bind, Sem.run_pure, Result.andThen_ok]
  simp [h1]
end

/-! ### Views -/
section
variable {α : Type} {w : World} {M : List HP} {K : List KP} {I : Nat → Prop}
/-- The cells of a slice from one place on. -/
def cellsK (A : Option Addr) (j : Nat) (us : List Value) : KP :=
  ⟨fun w I => ∀ i v, us[i]? = some v → I (sB A) ∧ w.cell? ⟨sB A, sO A + (j + i), none⟩ = some v, fun h ha hi hb i v hv => ⟨hi _ (h i v hv).1, by rw [World.cell?_of_block (ha.block _ (h i v hv).1)]; exact (h i v hv).2⟩⟩
def viewV (sz : Nat) (el : α → List Value → KP) (vs : List Value) (xs : List α) : KP :=
  ⟨fun w I => vs.length = xs.length * sz ∧ ∀ i x, xs[i]? = some x → (el x ((vs.drop (i * sz)).take sz)).sat w I, fun ⟨h1, h2⟩ ha hi hb => ⟨h1, fun i x hx => (el x _).mono (h2 i x hx) ha hi hb⟩⟩
def viewK (sz : Nat) (el : α → List Value → KP) (A : Option Addr) (c : Nat) (xs : List α) : KP :=
  ⟨fun w I => ∃ vs, (slK sz A c xs.length vs).sat w I ∧ (viewV sz el vs xs).sat w I, fun ⟨vs, h1, h2⟩ ha hi hb => ⟨vs, (slK sz A c xs.length vs).mono h1 ha hi hb, (viewV sz el vs xs).mono h2 ha hi hb⟩⟩
def viewH (e sz : Nat) (el : α → List Value → KP) (A : Option Addr) (c : Nat) (xs : List α) : HP := exH fun vs => knowH (viewV sz el vs xs) (rowH e sz A c xs.length vs)

variable {sz c : Nat} {el : α → List Value → KP} {A : Option Addr} {xs : List α}
theorem Hold.view (h : Hold w M K) (hm : viewK sz el A c xs ∈ K) : ∃ vs, Hold w M (slK sz A c xs.length vs :: viewV sz el vs xs :: K) := by
  obtain ⟨vs, hv⟩ := h.derive (f := fun vs => [slK sz A c xs.length vs, viewV sz el vs xs]) (fun I hI _ => by
    obtain ⟨vs, h1, h2⟩ := hI _ hm
    exact ⟨vs, fun k hk => by
      rcases List.mem_cons.1 hk with rfl | hk
      · exact h1
      · rw [List.mem_singleton.1 hk]; exact h2⟩)
  exact ⟨vs, hv⟩
theorem Hold.viewSl (h : Hold w M K) (hm : viewK sz el A c xs ∈ K) : ∃ vs, SlC (fun _ => True) w sz (.slice A xs.length c) xs.length vs := by
  obtain ⟨vs, hv⟩ := h.view hm
  exact ⟨vs, hv.sl List.mem_cons_self⟩
/-- An element: its cells, and what they mean. -/
theorem Hold.view_at (h : Hold w M K) (hm : viewK sz el A c xs ∈ K) {i : Nat} {x : α} (hi : xs[i]? = some x) : ∃ us : List Value, us.length = sz ∧ Hold w M (cellsK A (i * sz) us :: el x us :: K) := by
  have h' := h
  obtain ⟨I, D, h1, h2, h3, h4⟩ := h
  obtain ⟨vs, h5, h6, h7⟩ := h4 _ hm
  have hlt := (List.getElem?_eq_some_iff.1 hi).1
  have hl : ((vs.drop (i * sz)).take sz).length = sz := by
    rw [List.length_take, List.length_drop, h6, ← Nat.sub_mul]
    exact Nat.min_eq_left (Nat.le_mul_of_pos_left _ (by omega))
  refine ⟨(vs.drop (i * sz)).take sz, hl, I, D, h1, h2, h3, fun k hk => ?_⟩
  rcases List.mem_cons.1 hk with rfl | hk
  · intro j v hv
    rw [List.getElem?_take] at hv
    split at hv
    · rename_i hj
      rw [List.getElem?_drop] at hv
      have hc := SlC.at (show SlC I w sz (.slice A xs.length c) xs.length vs from h5) hv
      refine ⟨?_, hc⟩
      obtain ⟨A', c', he, _, _, _, h9⟩ := (show SlC I w sz (.slice A xs.length c) xs.length vs from h5)
      injection he with hA _ _
      obtain ⟨b, o, hb, hI, _⟩ := h9 (by omega)
      have he : sB A = b := by rw [hA, hb]; rfl
      rw [he]; exact hI
    · cases hv
  · rcases List.mem_cons.1 hk with rfl | hk
    · exact h7 i x hi
    · exact h4 k hk
theorem Hold.view_max (h : Hold w M K) (hm : viewK sz el A c xs ∈ K) : xs.length ≤ c ∧ c ≤ maxLen := by
  obtain ⟨vs, hv⟩ := h.viewSl hm
  obtain ⟨A', c', he, h1, h2, h3, _⟩ := hv
  injection he with _ _ hc
  subst hc
  exact ⟨h2, h3⟩
theorem Hold.view_max9 (h : Hold w M K) (hm : viewK sz el A c xs ∈ K) : xs.length ≤ 9223372036854775807 := by
  have := h.view_max hm
  have h2 : maxLen = 9223372036854775807 := by decide
  omega
theorem Hold.view_freeze {e : Nat} (h : Hold w (viewH e sz el A c xs :: M) K) : Hold w M (viewK sz el A c xs :: K) := by
  obtain ⟨vs, hv⟩ := Hold.ex.1 h
  have h1 := (Hold.knowH.1 hv).freeze
  have h2 : Hold w M (viewK sz el A c xs :: slK sz A c xs.length vs :: viewV sz el vs xs :: K) := h1.derive1 fun I hI _ => ⟨vs, hI _ List.mem_cons_self, hI _ (List.mem_cons_of_mem _ List.mem_cons_self)⟩
  exact h2.know (fun k hk => by rcases List.mem_cons.1 hk with rfl | hk; exact List.mem_cons_self; exact List.mem_cons_of_mem _ (List.mem_cons_of_mem _ (List.mem_cons_of_mem _ hk)))
theorem Hold.view_nil (h : Hold w M K) (e sz : Nat) (el : α → List Value → KP) : Hold w (viewH e sz el none 0 [] :: M) K := by
  refine Hold.ex.2 ⟨[], Hold.knowH.2 ?_⟩
  exact (h.row_nil e sz).derive1 fun I _ _ => ⟨by simp, fun i r hr => by simp at hr⟩
theorem Hold.viewK_nil (h : Hold w M K) (sz : Nat) (el : α → List Value → KP) : Hold w M (viewK sz el none 0 [] :: K) := (h.view_nil 0 sz el).view_freeze
/-- A row of one element becomes a view of it. -/
theorem Hold.view_one {e : Nat} {vs : List Value} {x : α} (h : Hold w (rowH e sz A c 1 vs :: M) K) (hl : vs.length = sz) (hm : el x vs ∈ K) : Hold w (viewH e sz el A c [x] :: M) K := by
  refine Hold.ex.2 ⟨vs, Hold.knowH.2 ?_⟩
  exact h.derive1 fun I hI _ => ⟨by simpa using hl, fun i y hy => by
    match i, hy with
    | 0, hy => simp at hy; subst hy; simp; rw [List.take_of_length_le (by omega)]; exact hI _ hm
    | i + 1, hy => simp at hy⟩
theorem viewV_append {us vs : List Value} {r1 r2 : List α} (h1 : (viewV sz el us r1).sat w I) (h2 : (viewV sz el vs r2).sat w I) : (viewV sz el (us ++ vs) (r1 ++ r2)).sat w I := by
  obtain ⟨a1, a2⟩ := h1
  obtain ⟨b1, b2⟩ := h2
  refine ⟨by rw [List.length_append, List.length_append, a1, b1, Nat.add_mul], fun i x hx => ?_⟩
  rcases Nat.lt_or_ge i r1.length with hlt | hge
  · rw [List.getElem?_append_left hlt] at hx
    have hle : i * sz + sz ≤ us.length := by rw [a1, ← Nat.succ_mul]; exact Nat.mul_le_mul_right _ hlt
    rw [List.drop_append_of_le_length (by omega), List.take_append_of_le_length (by rw [List.length_drop]; omega)]
    exact a2 i x hx
  · rw [List.getElem?_append_right hge] at hx
    obtain ⟨k, rfl⟩ : ∃ k, i = r1.length + k := ⟨i - r1.length, by omega⟩
    rw [Nat.add_sub_cancel_left] at hx
    rw [Nat.add_mul, ← a1, show (us ++ vs).drop (us.length + k * sz) = vs.drop (k * sz) by rw [List.drop_append]; simp]
    exact b2 k x hx
theorem view_cut_sat {l k : Nat} (h : (viewK sz el A c xs).sat w I) (hl : l ≤ k) (hk : k ≤ xs.length) : (viewK sz el (slA A c l sz) (c - l) ((xs.drop l).take (k - l))).sat w I := by
  obtain ⟨vs, h1, h2, h3⟩ := h
  have hn : ((xs.drop l).take (k - l)).length = k - l := by simp; omega
  refine ⟨(vs.drop (l * sz)).take ((k - l) * sz), ?_, ?_, fun i x hx => ?_⟩
  · have := SlC.cut (show SlC I w sz (.slice A xs.length c) xs.length vs from h1) hl hk
    show SlC I w sz _ _ _
    rw [hn]; exact this
  · rw [hn, List.length_take, List.length_drop, h2, ← Nat.sub_mul]
    exact Nat.min_eq_left (Nat.mul_le_mul_right _ (by omega))
  · rw [List.getElem?_take] at hx
    split at hx
    · rename_i hlt
      rw [List.getElem?_drop] at hx
      have := h3 _ x hx
      rw [Nat.add_mul] at this
      rw [List.drop_take, List.drop_drop, List.take_take, Nat.min_eq_left]
      · exact this
      · rw [← Nat.sub_mul]; exact Nat.le_mul_of_pos_left _ (by omega)
    · cases hx
theorem Hold.view_cut (h : Hold w M K) (hm : viewK sz el A c xs ∈ K) (l k : Nat) (hl : l ≤ k) (hk : k ≤ xs.length) : Hold w M (viewK sz el (slA A c l sz) (c - l) ((xs.drop l).take (k - l)) :: K) :=
  h.derive1 fun I hI _ => view_cut_sat (hI _ hm) hl hk
/-- The same row, but with no room behind it. -/
theorem SlC.shrink {ok : Nat → Prop} {sz m c k : Nat} {A : Option Addr} {xs : List Value} (hs : SlC ok w sz (.slice A m c) m xs) (h1 : m ≤ k) (h2 : k ≤ c) : SlC ok w sz (.slice A m k) m xs := by
  obtain ⟨A', c', he, hlen, hmc, hcm, h4⟩ := hs
  injection he with hA _ hc
  subst hA hc
  exact ⟨_, _, rfl, hlen, h1, Nat.le_trans h2 hcm, h4⟩
theorem Hold.view_shrink (h : Hold w M K) (hm : viewK sz el A c xs ∈ K) (k : Nat) (h1 : xs.length ≤ k) (h2 : k ≤ c) : Hold w M (viewK sz el A k xs :: K) :=
  h.derive1 fun I hI _ => by
    obtain ⟨vs, h3, h4⟩ := hI _ hm
    exact ⟨vs, SlC.shrink (show SlC I w sz (.slice A xs.length c) xs.length vs from h3) h1 h2, h4⟩

variable {E : Env} {dst : Option Tmp} {ty : Nat} {ps : String} {af : Array Edge} {g : Option (Nat × Bool)}
theorem Yl.iaV {t e i : Nat} {x y : Operand} {k : IntKind} {a : Int} (hh : Hold w M K) (hm : viewK sz el A c xs ∈ K) (hu : Try.prog.underlying t = some (.slice e)) (hsz : (Try.prog.info? e).map (·.size) = some sz) (hx : ev E x = some (.slice A xs.length c)) (hy : ev E y = some (.int k a)) (ha : a = (i : Int)) (hi : i < xs.length) :
    Yl ⟨dst, .indexAddr t x y, ty, ps, af, g⟩ E (ptr (sB A) (sO A + i * sz)) w := by
  obtain ⟨vs, hv⟩ := hh.viewSl hm
  exact Yl.ia hu hsz hx hy ha hi hv
theorem Yl.iaK {t e i : Nat} {x y : Operand} {k : IntKind} {a : Int} {rows : List (List Int)} (hh : Hold w M K) (hm : rowsK A c rows ∈ K) (hu : Try.prog.underlying t = some (.slice e)) (hsz : (Try.prog.info? e).map (·.size) = some 1) (hx : ev E x = some (.slice A rows.length c)) (hy : ev E y = some (.int k a)) (ha : a = (i : Int)) (hi : i < rows.length) :
    Yl ⟨dst, .indexAddr t x y, ty, ps, af, g⟩ E (ptr (sB A) (sO A + i)) w := by
  obtain ⟨vs, hv⟩ := hh.rows hm
  exact Yl.ia1 (hv.sl List.mem_cons_self) hu hsz hx hy ha hi
theorem Hold.cells {j i : Nat} {us : List Value} {v : Value} (h : Hold w M K) (hm : cellsK A j us ∈ K) (hv : us[i]? = some v) : w.cell? ⟨sB A, sO A + (j + i), none⟩ = some v := by
  obtain ⟨I, D, h1, h2, h3, h4⟩ := h; exact (h4 _ hm i v hv).2
theorem Yl.ldV {t : TypeId} {x : Operand} {j i : Nat} {us : List Value} {v : Value} (hh : Hold w M K) (hn : NoAgg t) (hx : ev E x = some (ptr (sB A) (sO A + (j + i)))) (hm : cellsK A j us ∈ K) (hv : us[i]? = some v) : Yl ⟨dst, .load t x, ty, ps, af, g⟩ E v w := Yl.ld hn hx (hh.cells hm hv)
theorem Yl.ldaV {t k : Nat} {x : Operand} {j : Nat} {us : List Value} (hh : Hold w M K) (ha : AggOf t k) (hx : ev E x = some (ptr (sB A) (sO A + j))) (hm : cellsK A j us ∈ K) (hl : us.length = k) : Yl ⟨dst, .load t x, ty, ps, af, g⟩ E (.agg us.toArray) w :=
  Yl.lda ha hl hx (fun i v hv => by rw [Nat.add_assoc]; exact hh.cells hm hv)
/-- append onto a view of one's own: all of a view that reads for good. -/
theorem OpW.appV {M' : List HP} {t e bytes : Nat} {z : Value} {x y : Operand} {B : Option Addr} {c2 : Nat} {ys : List α} (ht : Try.prog.underlying t = some (.slice e)) (hi : (Try.prog.info? e).map (fun i => (i.zero, i.size, i.bytes)) = some (some z, sz, bytes)) (hz : z.cells.size = sz) (hsz : Nat.ble 1 sz = true)
    (hx : ev E x = some (.slice A xs.length c)) (hy : ev E y = some (.slice B ys.length c2)) (hb : viewK sz el B c2 ys ∈ K) (hone : ∀ (w : World) (I : Nat → Prop) (y : α) (us : List Value), (el y us).sat w I → ∀ u ∈ us, u.oneCell' = true) (hp : Pick M (viewH e sz el A c xs) M') (hl : xs.length + ys.length ≤ 1000000 ∧ bytes ≤ 1000) :
    OpW ⟨dst, .call { callee := .builtin .append, args := #[x, y], argTypes := #[t, t] }, ty, ps, af, g⟩ E M K (fun _ : Option Addr × Nat => True) (fun r => .slice r.1 (xs ++ ys).length r.2) (fun r => viewH e sz el r.1 r.2 (xs ++ ys) :: M') (fun _ => K) :=
  OpW.val fun ρ w hρ hh => by
    obtain ⟨us, hus⟩ := hh.view hb
    have hsrc := hus.sl List.mem_cons_self
    have hone' : ∀ u ∈ us, u.oneCell' = true := fun u hu => by
      obtain ⟨I, D, h1, h2, h3, h4⟩ := hus
      obtain ⟨h5, h6⟩ := h4 _ (List.mem_cons_of_mem _ List.mem_cons_self)
      obtain ⟨i, hi', rfl⟩ := List.getElem_of_mem hu
      have hs0 : 0 < sz := Nat.le_of_ble_eq_true hsz
      have hlt : i / sz < ys.length := by rw [Nat.div_lt_iff_lt_mul hs0]; omega
      refine hone w I _ _ (h6 (i / sz) _ (List.getElem?_eq_getElem hlt)) _ ?_
      refine List.mem_of_getElem? (i := i % sz) ?_
      rw [List.getElem?_take, if_pos (Nat.mod_lt _ hs0), List.getElem?_drop, Nat.div_add_mod' i sz, List.getElem?_eq_getElem hi']
    obtain ⟨vs, hv⟩ := Hold.ex.1 (hus.pick hp)
    have hv' := Hold.knowH.1 hv
    obtain ⟨A', c', w', hr, hh'⟩ := hv'.append (ty := ty) ht hi hz (Nat.le_of_ble_eq_true hsz) hsrc hone' (app_max hl.1) (app_bound hl.1 hl.2)
    have hlen : (xs ++ ys).length = xs.length + ys.length := by simp
    refine ⟨(A', c'), w', trivial, ?_, ?_⟩
    · simp only [execOp, resolve, invoke, builtin, Sem.run_bind, Sem.run_pure, Result.andThen_ok, List.map_toArray, List.map_cons, List.map_nil, hρ x _ hx, hρ y _ hy, hr, hlen]
    · have h2 := hh'.derive1 (k := viewV sz el (vs ++ us) (xs ++ ys)) fun I hI _ => viewV_append (hI _ List.mem_cons_self) (hI _ (List.mem_cons_of_mem _ (List.mem_cons_of_mem _ List.mem_cons_self)))
      refine Hold.ex.2 ⟨vs ++ us, Hold.knowH.2 ?_⟩
      rw [hlen]
      exact h2.know (fun k hk => by rcases List.mem_cons.1 hk with rfl | hk; exact List.mem_cons_self; exact List.mem_cons_of_mem _ (List.mem_cons_of_mem _ (List.mem_cons_of_mem _ (List.mem_cons_of_mem _ hk))))
end
end Go.Proofs.Ytfpnodboebpemaa
