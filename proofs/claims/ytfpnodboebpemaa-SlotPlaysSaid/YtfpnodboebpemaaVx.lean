/- Frames as they lie in memory; parts of views; append onto bytes. -/
import Derived.Test.YtfpnodboebpemaaVw
namespace Go.Proofs.Ytfpnodboebpemaa
open Go.RowKit Go.Proofs.YtfpnodboebpemaaW.PrintWords
set_option linter.unusedVariables false
set_option linter.unusedSimpArgs false

section
variable {E : Env} {w : World} {dst : Option Tmp} {ty : Nat} {ps : String} {af : Array Edge} {g : Option (Nat × Bool)} {M M' : List HP} {K : List KP}
theorem nums_app (k : IntKind) (xs ys : List Int) : nums k xs ++ nums k ys = nums k (xs ++ ys) := by simp [nums]
/-- append onto bytes of one's own. -/
theorem OpW.appB {x y : Operand} {A B : Option Addr} {c c2 : Nat} {xs ys : List Int} (hx : ev E x = some (.slice A xs.length c)) (hy : ev E y = some (.slice B ys.length c2)) (hp : Pick M (rowH 5 1 A c xs.length (nums .u8 xs)) M')
    (hu : ∀ w, Hold w M K → SlC (fun _ => True) w 1 (.slice B ys.length c2) ys.length (nums .u8 ys)) (hb : xs.length + ys.length ≤ 1000000) :
    OpW ⟨dst, .call { callee := .builtin .append, args := #[x, y], argTypes := #[23, 23] }, ty, ps, af, g⟩ E M K (fun _ : Option Addr × Nat => True) (fun r => .slice r.1 (xs ++ ys).length r.2) (fun r => rowH 5 1 r.1 r.2 (xs ++ ys).length (nums .u8 (xs ++ ys)) :: M') (fun _ => K) := by
  have := OpW.app (dst := dst) (ty := ty) (ps := ps) (af := af) (g := g) (K := K) (ys := nums .u8 ys) Try.underlying23 inf_5 rfl rfl hx hy hp hu (nums_one _ _) ⟨hb, by decide⟩
  rw [nums_app] at this
  rw [List.length_append]
  exact this
theorem put64H_ct {a : Int} (v : Nat) (ha : a = (v : Int)) (hv : v < 18446744073709551616) : Fn 85 [.int .u64 a] M K (fun _ : Option Addr × Nat => True) (fun r => .slice r.1 (le v 8).length r.2) (fun r => rowH 5 1 r.1 r.2 (le v 8).length (nums .u8 (le v 8)) :: M) (fun _ => K) := by
  subst ha; exact Fn.bytesH (fun w hh => put64_any v w hv)
theorem encode0_ct (b : Fb) (he : b.err = 0) {A : Option Addr} {n c : Nat} (hn : n = b.body.length) (hp : bytesK A c b.body ∈ K) : Fn 28 [.agg [.int .i64 b.kind, .int .i64 b.epoch, .int .i64 b.seq, .int .i64 b.lba, .slice A n c].toArray] M K (fun _ : Option Addr × Nat => True) (fun r => .tuple [.slice r.1 b.enc.length r.2, .int .i64 0].toArray) (fun _ => M) (fun r => bytesK r.1 r.2 b.enc :: K) := by
  have := encode_ct (M := M) b hn hp
  simp only [he, if_true] at this
  exact this
end

section
variable {w : World} {M : List HP} {K : List KP} {A : Option Addr} {c : Nat}
theorem Hold.view_pre {α : Type} {sz : Nat} {el : α → List Value → KP} {xs : List α} (h : Hold w M K) (hm : viewK sz el A c xs ∈ K) (k : Nat) (hk : k ≤ xs.length) : Hold w M (viewK sz el A k (xs.take k) :: K) := by
  have h1 := h.view_cut hm 0 k (Nat.zero_le _) hk
  rw [slA_zero, List.drop_zero, Nat.sub_zero, Nat.sub_zero] at h1
  have hmx := h.view_max hm
  have h2 := h1.view_shrink List.mem_cons_self k (by rw [List.length_take]; omega) (by omega)
  exact h2.know (fun k' hk' => by
    rcases List.mem_cons.1 hk' with rfl | hk'
    · exact List.mem_cons_self
    · exact List.mem_cons_of_mem _ (List.mem_cons_of_mem _ hk'))
theorem Hold.view_suf {α : Type} {sz : Nat} {el : α → List Value → KP} {xs : List α} (h : Hold w M K) (hm : viewK sz el A c xs ∈ K) (k : Nat) (hk : k ≤ xs.length) : Hold w M (viewK sz el (slA A c k sz) (c - k) (xs.drop k) :: K) := by
  have h1 := h.view_cut hm k xs.length hk (Nat.le_refl _)
  rwa [List.take_of_length_le (by simp)] at h1
/-- One element appended to a view of one's own: the literal becomes a view first. -/
theorem Hold.view_lit {α : Type} {e sz : Nat} {el : α → List Value → KP} {x : α} {vs : List Value} (h : Hold w (rowH e sz A c 1 vs :: M) K) (hl : vs.length = sz) (hm : el x vs ∈ K) : Hold w M (viewK sz el A c [x] :: K) := (h.view_one hl hm).view_freeze
end
/-! ### Frames -/
def blkC (b : Fb) (A : Option Addr) (c : Nat) : List Value := [.int .i64 b.kind, .int .i64 b.epoch, .int .i64 b.seq, .int .i64 b.lba, .slice A b.body.length c]
def blkE (b : Fb) (us : List Value) : KP := ⟨fun w I => ∃ A c, us = blkC b A c ∧ (bytesK A c b.body).sat w I, fun ⟨A, c, h1, h2⟩ ha hi hb => ⟨A, c, h1, (bytesK A c b.body).mono h2 ha hi hb⟩⟩
theorem blkE_one (w : World) (I : Nat → Prop) (y : Fb) (us : List Value) (h : (blkE y us).sat w I) : ∀ u ∈ us, u.oneCell' = true := by
  obtain ⟨A, c, rfl, _⟩ := h
  intro u hu
  simp [blkC] at hu
  rcases hu with rfl | rfl | rfl | rfl | rfl <;> rfl
section
variable {w : World} {M : List HP} {K : List KP} {A : Option Addr} {c : Nat}
theorem Hold.blk_at {bs : List Fb} {b : Fb} {i : Nat} (h : Hold w M K) (hm : viewK 5 blkE A c bs ∈ K) (hi : bs[i]? = some b) : ∃ x : Option Addr × Nat, True ∧ Hold w M (cellsK A (i * 5) [.int .i64 b.kind, .int .i64 b.epoch, .int .i64 b.seq, .int .i64 b.lba, .slice x.1 b.body.length x.2] :: bytesK x.1 x.2 b.body :: K) := by
  obtain ⟨us, hl, h⟩ := h.view_at hm hi
  obtain ⟨I, D, h1, h2, h3, h4⟩ := h
  obtain ⟨B, k, h5, h6⟩ := h4 _ (List.mem_cons_of_mem _ List.mem_cons_self)
  subst h5
  refine ⟨(B, k), trivial, I, D, h1, h2, h3, fun k hk => ?_⟩
  rcases List.mem_cons.1 hk with rfl | hk
  · exact h4 _ List.mem_cons_self
  · rcases List.mem_cons.1 hk with rfl | hk
    · exact h6
    · exact h4 _ (List.mem_cons_of_mem _ (List.mem_cons_of_mem _ hk))
theorem Hold.blkE' {b : Fb} {n : Nat} (h : Hold w M K) (hb : bytesK A c b.body ∈ K) (hn : n = b.body.length) : Hold w M (blkE b [.int .i64 b.kind, .int .i64 b.epoch, .int .i64 b.seq, .int .i64 b.lba, .slice A n c] :: K) := by
  subst hn; exact h.derive1 fun I hI _ => ⟨A, c, rfl, hI _ hb⟩
theorem Hold.bytes_eq {xs ys : List Int} (h : Hold w M K) (hm : bytesK A c xs ∈ K) (he : xs = ys) : Hold w M (bytesK A c ys :: K) := by
  subst he; exact h.derive1 fun I hI _ => hI _ hm
theorem Hold.rows_eq {xs ys : List (List Int)} (h : Hold w M K) (hm : rowsK A c xs ∈ K) (he : xs = ys) : Hold w M (rowsK A c ys :: K) := by
  subst he; exact h.derive1 fun I hI _ => hI _ hm
end

theorem drop_cons {α : Type} {l : List α} {i : Nat} {x : α} (h : l[i]? = some x) : l.drop i = x :: l.drop (i + 1) := by
  obtain ⟨hlt, rfl⟩ := List.getElem?_eq_some_iff.1 h
  exact List.drop_eq_getElem_cons hlt
theorem Hold.bytes_cap {w : World} {M : List HP} {K : List KP} {A : Option Addr} {c : Nat} {xs : List Int} (h : Hold w M K) (hm : bytesK A c xs ∈ K) : xs.length ≤ c ∧ c ≤ maxLen := by
  obtain ⟨A', c', he, _, h2, h3, _⟩ := h.bytes hm
  injection he with _ _ hc
  subst hc
  exact ⟨h2, h3⟩
end Go.Proofs.Ytfpnodboebpemaa
