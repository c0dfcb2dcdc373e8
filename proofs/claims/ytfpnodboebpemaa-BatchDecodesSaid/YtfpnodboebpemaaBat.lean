/- Puts, transactions, batches: as plain data, and as they lie in memory. -/
import Derived.Test.YtfpnodboebpemaaVw
import Derived.Test.YtfpnodboebpemaaSix
namespace Go.Proofs.Ytfpnodboebpemaa
open Go.RowKit Go.Proofs.YtfpnodboebpemaaW.PrintWords
set_option linter.unusedVariables false
set_option linter.unusedSimpArgs false

structure PutL where
  lba : Int
  data : List Int
structure TxL where
  time : Int
  puts : List PutL
structure BatL where
  num : Int
  txs : List TxL
def lbaAt (ps : List PutL) (k : Nat) : Int := (ps.getD k ⟨0, []⟩).lba
def timeAt (ts : List TxL) (k : Nat) : Int := (ts.getD k ⟨0, []⟩).time
def putsAt (ts : List TxL) (k : Nat) : List PutL := (ts.getD k ⟨0, []⟩).puts
theorem lbaAt_of {ps : List PutL} {k : Nat} {p : PutL} (h : ps[k]? = some p) : lbaAt ps k = p.lba := by simp [lbaAt, h]
theorem timeAt_of {ts : List TxL} {k : Nat} {t : TxL} (h : ts[k]? = some t) : timeAt ts k = t.time := by simp [timeAt, h]
theorem putsAt_of {ts : List TxL} {k : Nat} {t : TxL} (h : ts[k]? = some t) : putsAt ts k = t.puts := by simp [putsAt, h]

def putE (p : PutL) (us : List Value) : KP := ⟨fun w I => ∃ A c, us = [.int .i64 p.lba, .slice A p.data.length c] ∧ (bytesK A c p.data).sat w I, fun ⟨A, c, h1, h2⟩ ha hi hb => ⟨A, c, h1, (bytesK A c p.data).mono h2 ha hi hb⟩⟩
def txE (t : TxL) (us : List Value) : KP := ⟨fun w I => ∃ A c, us = [.int .i64 t.time, .slice A t.puts.length c] ∧ (viewK 2 putE A c t.puts).sat w I, fun ⟨A, c, h1, h2⟩ ha hi hb => ⟨A, c, h1, (viewK 2 putE A c t.puts).mono h2 ha hi hb⟩⟩
def batE (b : BatL) (us : List Value) : KP := ⟨fun w I => ∃ A c, us = [.int .i64 b.num, .slice A b.txs.length c] ∧ (viewK 2 txE A c b.txs).sat w I, fun ⟨A, c, h1, h2⟩ ha hi hb => ⟨A, c, h1, (viewK 2 txE A c b.txs).mono h2 ha hi hb⟩⟩
section
variable {w : World} {M : List HP} {K : List KP} {A : Option Addr} {c : Nat}
theorem Hold.put_at {ps : List PutL} {p : PutL} {i : Nat} (h : Hold w M K) (hm : viewK 2 putE A c ps ∈ K) (hi : ps[i]? = some p) : ∃ x : Option Addr × Nat, True ∧ Hold w M (cellsK A (i * 2) [.int .i64 p.lba, .slice x.1 p.data.length x.2] :: bytesK x.1 x.2 p.data :: K) := by
  obtain ⟨us, hl, h⟩ := h.view_at hm hi
  obtain ⟨I, D, h1, h2, h3, h4⟩ := h
  obtain ⟨B, k, h5, h6⟩ := h4 _ (List.mem_cons_of_mem _ List.mem_cons_self)
  subst h5
  refine ⟨(B, k), trivial, I, D, h1, h2, h3, fun k hk => ?_⟩
  rcases List.mem_cons.1 hk with rfl | hk
  · exact h4 _ List.mem_cons_self
  · rcases List.mem_cons.1 hk with rfl | hk
    · exact h6
    · exact h4 _ (List.mem_cons_of_mem _ (List.mem_cons_of_mem _ hk))
theorem Hold.tx_at {ts : List TxL} {t : TxL} {i : Nat} (h : Hold w M K) (hm : viewK 2 txE A c ts ∈ K) (hi : ts[i]? = some t) : ∃ x : Option Addr × Nat, True ∧ Hold w M (cellsK A (i * 2) [.int .i64 t.time, .slice x.1 t.puts.length x.2] :: viewK 2 putE x.1 x.2 t.puts :: K) := by
  obtain ⟨us, hl, h⟩ := h.view_at hm hi
  obtain ⟨I, D, h1, h2, h3, h4⟩ := h
  obtain ⟨B, k, h5, h6⟩ := h4 _ (List.mem_cons_of_mem _ List.mem_cons_self)
  subst h5
  refine ⟨(B, k), trivial, I, D, h1, h2, h3, fun k hk => ?_⟩
  rcases List.mem_cons.1 hk with rfl | hk
  · exact h4 _ List.mem_cons_self
  · rcases List.mem_cons.1 hk with rfl | hk
    · exact h6
    · exact h4 _ (List.mem_cons_of_mem _ (List.mem_cons_of_mem _ hk))
theorem Hold.bat_at {bs : List BatL} {b : BatL} {i : Nat} (h : Hold w M K) (hm : viewK 2 batE A c bs ∈ K) (hi : bs[i]? = some b) : ∃ x : Option Addr × Nat, True ∧ Hold w M (cellsK A (i * 2) [.int .i64 b.num, .slice x.1 b.txs.length x.2] :: viewK 2 txE x.1 x.2 b.txs :: K) := by
  obtain ⟨us, hl, h⟩ := h.view_at hm hi
  obtain ⟨I, D, h1, h2, h3, h4⟩ := h
  obtain ⟨B, k, h5, h6⟩ := h4 _ (List.mem_cons_of_mem _ List.mem_cons_self)
  subst h5
  refine ⟨(B, k), trivial, I, D, h1, h2, h3, fun k hk => ?_⟩
  rcases List.mem_cons.1 hk with rfl | hk
  · exact h4 _ List.mem_cons_self
  · rcases List.mem_cons.1 hk with rfl | hk
    · exact h6
    · exact h4 _ (List.mem_cons_of_mem _ (List.mem_cons_of_mem _ hk))
/-- One struct laid down means an element. -/
theorem Hold.putE {p : PutL} (h : Hold w M K) (hb : bytesK A c p.data ∈ K) : Hold w M (putE p [.int .i64 p.lba, .slice A p.data.length c] :: K) := h.derive1 fun I hI _ => ⟨A, c, rfl, hI _ hb⟩
theorem Hold.txE {t : TxL} (h : Hold w M K) (hb : viewK 2 Go.Proofs.Ytfpnodboebpemaa.putE A c t.puts ∈ K) : Hold w M (txE t [.int .i64 t.time, .slice A t.puts.length c] :: K) := h.derive1 fun I hI _ => ⟨A, c, rfl, hI _ hb⟩
theorem putE_one (w : World) (I : Nat → Prop) (y : PutL) (us : List Value) (h : (Go.Proofs.Ytfpnodboebpemaa.putE y us).sat w I) : ∀ u ∈ us, u.oneCell' = true := by
  obtain ⟨A, c, rfl, _⟩ := h
  intro u hu
  simp at hu
  rcases hu with rfl | rfl <;> rfl
theorem txE_one (w : World) (I : Nat → Prop) (y : TxL) (us : List Value) (h : (Go.Proofs.Ytfpnodboebpemaa.txE y us).sat w I) : ∀ u ∈ us, u.oneCell' = true := by
  obtain ⟨A, c, rfl, _⟩ := h
  intro u hu
  simp at hu
  rcases hu with rfl | rfl <;> rfl
theorem Hold.txs_max {ts : List TxL} (h : Hold w M K) (hm : viewK 2 Go.Proofs.Ytfpnodboebpemaa.txE A c ts ∈ K) : ∀ t ∈ ts, t.puts.length ≤ maxLen := fun t ht => by
  obtain ⟨i, hi, rfl⟩ := List.getElem_of_mem ht
  obtain ⟨x, _, hx⟩ := h.tx_at hm (List.getElem?_eq_getElem hi)
  have := hx.view_max (xs := ts[i].puts) (A := x.1) (c := x.2) (sz := 2) (el := Go.Proofs.Ytfpnodboebpemaa.putE) (List.mem_cons_of_mem _ List.mem_cons_self)
  omega
end

/-! ### The plain law of Check -/
def PutL.ok (p : PutL) : Prop := 0 ≤ p.lba ∧ p.lba ≤ 1048576 ∧ p.data.length = 40
instance (p : PutL) : Decidable p.ok := by unfold PutL.ok; infer_instance
def rises (ps : List PutL) : Prop := ∀ k, k + 1 < ps.length → lbaAt ps k < lbaAt ps (k + 1)
def prevT (ts : List TxL) (i : Nat) : Int := if i = 0 then 0 else timeAt ts (i - 1)
def ordAt (ts : List TxL) (i : Nat) : Prop := prevT ts i < timeAt ts i ∧ timeAt ts i ≤ 1099511627776 ∧ 0 < (putsAt ts i).length ∧ rises (putsAt ts i)
def ordered (ts : List TxL) : Prop := ∀ i, i < ts.length → ordAt ts i
def sumP : List TxL → Nat
  | [] => 0
  | t :: ts => t.puts.length + sumP ts
def blocksN (ts : List TxL) : Nat := 1 + sumP ts
theorem sumP_append (a b : List TxL) : sumP (a ++ b) = sumP a + sumP b := by
  induction a with
  | nil => simp [sumP]
  | cons t a ih => simp [sumP, ih]; omega
theorem sumP_take {ts : List TxL} {i : Nat} {t : TxL} (h : ts[i]? = some t) : sumP (ts.take (i + 1)) = sumP (ts.take i) + t.puts.length := by
  obtain ⟨hlt, rfl⟩ := List.getElem?_eq_some_iff.1 h
  rw [List.take_succ_eq_append_getElem hlt, sumP_append]; simp [sumP]
theorem sumP_le {ts : List TxL} {k : Nat} (h : ∀ t ∈ ts, t.puts.length ≤ k) : sumP ts ≤ ts.length * k := by
  induction ts with
  | nil => simp [sumP]
  | cons t ts ih =>
    have h1 := h t (List.mem_cons_self)
    have h2 := ih (fun t ht => h t (List.mem_cons_of_mem _ ht))
    simp only [sumP, List.length_cons, Nat.succ_mul]; omega
def BatL.head (b : BatL) : Prop := 1 ≤ b.num ∧ b.num ≤ 1099511627776 ∧ 0 < b.txs.length ∧ b.txs.length ≤ 8 ∧ ordered b.txs ∧ blocksN b.txs ≤ 33
def stepOk (ts : List TxL) (i : Nat) : Prop := (0 < i → timeAt ts i - timeAt ts (i - 1) ≤ 65535) ∧ (putsAt ts i).length ≤ 16 ∧ ∀ p ∈ putsAt ts i, p.ok
def BatL.may (b : BatL) : Prop := b.head ∧ ∀ i, i < b.txs.length → stepOk b.txs i
open Classical in
noncomputable def ordB (ts : List TxL) : Bool := decide (ordered ts)
open Classical in
noncomputable def BatL.chk (b : BatL) : Int := if b.may then 0 else 1
theorem ordB_yes {ts : List TxL} (h : ordered ts) : ordB ts = true := by unfold ordB; exact @decide_eq_true _ (Classical.propDecidable _) h
theorem ordB_no {ts : List TxL} (h : ¬ ordered ts) : ordB ts = false := by unfold ordB; exact @decide_eq_false _ (Classical.propDecidable _) h
theorem ordB_iff {ts : List TxL} : ordB ts = true ↔ ordered ts := by unfold ordB; exact @decide_eq_true_iff _ (Classical.propDecidable _)
theorem chk_yes {b : BatL} (h : b.may) : b.chk = 0 := by unfold BatL.chk; rw [if_pos h]
theorem chk_no {b : BatL} (h : ¬ b.may) : b.chk = 1 := by unfold BatL.chk; rw [if_neg h]
theorem chk_iff {b : BatL} : b.chk = 0 ↔ b.may := by
  by_cases h : b.may
  · simp [chk_yes h, h]
  · simp [chk_no h, h]
theorem prev_zero (ts : List TxL) : prevT ts 0 = 0 := rfl
theorem prev_succ {ts : List TxL} {i : Nat} {t : TxL} (h : ts[i]? = some t) : prevT ts (i + 1) = t.time := by unfold prevT; rw [if_neg (by omega), Nat.add_sub_cancel, timeAt_of h]
theorem ordered_time {ts : List TxL} (h : ordered ts) : ∀ i, i < ts.length → 0 < timeAt ts i ∧ timeAt ts i ≤ 1099511627776 := by
  intro i
  induction i with
  | zero => intro hi; have := h 0 hi; exact ⟨by have := this.1; rwa [prev_zero] at this, this.2.1⟩
  | succ i ih =>
    intro hi
    have h1 := ih (by omega)
    have h2 := h (i + 1) hi
    have h3 := h2.1
    unfold prevT at h3
    rw [if_neg (by omega), Nat.add_sub_cancel] at h3
    exact ⟨by omega, h2.2.1⟩

/-! ### Numbers that wrap -/
theorem wrap_add (a b : Int) : IntKind.i64.wrap (IntKind.i64.wrap a + b) = IntKind.i64.wrap (a + b) := by
  rw [IntKind.wrap_i64, IntKind.wrap_i64, IntKind.wrap_i64]; omega
theorem wrap_id {a : Int} (h : -9223372036854775808 ≤ a ∧ a ≤ 9223372036854775807) : IntKind.i64.wrap a = a := by rw [IntKind.wrap_i64]; omega

/-! ### Form -/
def formGo : List TxL → Nat → Nat → Nat
  | [], n, _ => n
  | t :: q, n, k => if 8 ≤ n ∨ (0 < n ∧ 32 < k + t.puts.length) then n else formGo q (n + 1) (k + t.puts.length)
theorem drop_cons {α : Type} {l : List α} {i : Nat} {x : α} (h : l[i]? = some x) : l.drop i = x :: l.drop (i + 1) := by
  obtain ⟨hlt, rfl⟩ := List.getElem?_eq_some_iff.1 h
  exact List.drop_eq_getElem_cons hlt
theorem formGo_stop {t : TxL} {q : List TxL} {n k : Nat} (h : 8 ≤ n ∨ (0 < n ∧ 32 < k + t.puts.length)) : formGo (t :: q) n k = n := by rw [formGo, if_pos h]
theorem formGo_on {t : TxL} {q : List TxL} {n k : Nat} (h : ¬ (8 ≤ n ∨ (0 < n ∧ 32 < k + t.puts.length))) : formGo (t :: q) n k = formGo q (n + 1) (k + t.puts.length) := by rw [formGo, if_neg h]
theorem sumP_take_le (q : List TxL) (i : Nat) : sumP (q.take i) ≤ sumP q := by
  conv => rhs; rw [← List.take_append_drop i q, sumP_append]
  omega
def formN (q : List TxL) : Nat := formGo q 0 0
end Go.Proofs.Ytfpnodboebpemaa
