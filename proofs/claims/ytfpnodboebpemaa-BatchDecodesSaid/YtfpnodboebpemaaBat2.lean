/- What batch.Encode writes, as plain data; append on rows of bytes. -/
import Derived.Test.YtfpnodboebpemaaBatA
import Derived.Test.YtfpnodboebpemaaVx
namespace Go.Proofs.Ytfpnodboebpemaa
open Go.RowKit Go.Proofs.YtfpnodboebpemaaW.PrintWords
set_option linter.unusedVariables false
set_option linter.unusedSimpArgs false

def dataRow (ep num : Int) (p : PutL) : List Int := Fb.enc ⟨1, ep, num, p.lba, p.data⟩
def rowsP (ep num : Int) (ps : List PutL) : List (List Int) := ps.map (dataRow ep num)
def rowsT (ep num : Int) (ts : List TxL) : List (List Int) := rowsP ep num (ts.flatMap (·.puts))
def stepAt (ts : List TxL) (i : Nat) : Int := if i = 0 then 0 else timeAt ts i - timeAt ts (i - 1)
def headL (ts : List TxL) : List Int := le (timeAt ts 0).toNat 8 ++ [(ts.length : Int)]
def stepsTo (ts : List TxL) (i : Nat) : List Int := (List.range i).flatMap fun j => [stepAt ts j % 256, stepAt ts j / 256]
def countsTo (ts : List TxL) (i : Nat) : List Int := (List.range i).map fun j => ((putsAt ts j).length : Int)
def bodyB (ts : List TxL) : List Int := headL ts ++ stepsTo ts ts.length ++ countsTo ts ts.length
def lastRow (b : BatL) (ep : Int) : Fb := ⟨2, ep, b.num, ((rowsT ep b.num b.txs).length : Nat), bodyB b.txs⟩
def encB (b : BatL) (ep : Int) : List (List Int) := rowsT ep b.num b.txs ++ [(lastRow b ep).enc]
def BatL.can (b : BatL) (ep : Int) : Prop := b.may ∧ 0 ≤ ep ∧ ep ≤ 4294967295
open Classical in
noncomputable def encR (b : BatL) (ep : Int) : List (List Int) := if b.can ep then encB b ep else []
open Classical in
noncomputable def encE (b : BatL) (ep : Int) : Int := if b.can ep then 0 else 1
theorem encR_yes {b : BatL} {ep : Int} (h : b.can ep) : encR b ep = encB b ep := by unfold encR; rw [if_pos h]
theorem encE_yes {b : BatL} {ep : Int} (h : b.can ep) : encE b ep = 0 := by unfold encE; rw [if_pos h]
theorem encR_no {b : BatL} {ep : Int} (h : ¬ b.can ep) : encR b ep = [] := by unfold encR; rw [if_neg h]
theorem encE_no {b : BatL} {ep : Int} (h : ¬ b.can ep) : encE b ep = 1 := by unfold encE; rw [if_neg h]
theorem encE_iff {b : BatL} {ep : Int} : encE b ep = 0 ↔ b.can ep := by
  by_cases h : b.can ep
  · simp [encE_yes h, h]
  · simp [encE_no h, h]

theorem rowsT_take {ep num : Int} {ts : List TxL} {i : Nat} {t : TxL} (h : ts[i]? = some t) : rowsT ep num (ts.take i) ++ rowsP ep num t.puts = rowsT ep num (ts.take (i + 1)) := by
  obtain ⟨hlt, rfl⟩ := List.getElem?_eq_some_iff.1 h
  rw [List.take_succ_eq_append_getElem hlt]; unfold rowsT rowsP; rw [List.flatMap_append, List.map_append, List.flatMap_cons, List.flatMap_nil, List.append_nil]
theorem rowsP_take {ep num : Int} {ps : List PutL} {i : Nat} {p : PutL} (h : ps[i]? = some p) : rowsP ep num (ps.take i) ++ [dataRow ep num p] = rowsP ep num (ps.take (i + 1)) := by
  obtain ⟨hlt, rfl⟩ := List.getElem?_eq_some_iff.1 h
  rw [List.take_succ_eq_append_getElem hlt]; unfold rowsP; rw [List.map_append, List.map_cons, List.map_nil]
theorem rowsT_length {ep num : Int} {ts : List TxL} : (rowsT ep num ts).length = sumP ts := by
  unfold rowsT rowsP
  rw [List.length_map]
  induction ts with
  | nil => rfl
  | cons t ts ih => rw [List.flatMap_cons, List.length_append, ih]; rfl
theorem stepsTo_succ (ts : List TxL) (i : Nat) : stepsTo ts (i + 1) = stepsTo ts i ++ [stepAt ts i % 256, stepAt ts i / 256] := by simp [stepsTo, List.range_succ]
theorem countsTo_succ (ts : List TxL) (i : Nat) : countsTo ts (i + 1) = countsTo ts i ++ [((putsAt ts i).length : Int)] := by simp [countsTo, List.range_succ]
theorem stepsTo_length (ts : List TxL) (i : Nat) : (stepsTo ts i).length = 2 * i := by
  induction i with
  | zero => rfl
  | succ i ih => rw [stepsTo_succ, List.length_append, ih]; simp; omega
theorem countsTo_length (ts : List TxL) (i : Nat) : (countsTo ts i).length = i := by simp [countsTo]
theorem headL_length (ts : List TxL) : (headL ts).length = 9 := by simp [headL, le_length]
theorem bodyB_length (ts : List TxL) : (bodyB ts).length = 9 + 3 * ts.length := by
  unfold bodyB; rw [List.length_append, List.length_append, headL_length, stepsTo_length, countsTo_length]; omega
/-- The time that the loop keeps. -/
def lastT (ts : List TxL) (i : Nat) : Int := if i = 0 then timeAt ts 0 else timeAt ts (i - 1)
theorem lastT_step {ts : List TxL} {i : Nat} : timeAt ts i - lastT ts i = stepAt ts i := by
  unfold lastT stepAt
  by_cases h : i = 0
  · subst h; simp
  · rw [if_neg h, if_neg h]
theorem lastT_succ {ts : List TxL} {i : Nat} : lastT ts (i + 1) = timeAt ts i := by unfold lastT; rw [if_neg (by omega), Nat.add_sub_cancel]
/-- What may stands for. -/
theorem may_put {b : BatL} (h : b.may) {t : TxL} {p : PutL} {i : Nat} (ht : b.txs[i]? = some t) (hp : p ∈ t.puts) : p.ok := by
  have hlt := (List.getElem?_eq_some_iff.1 ht).1
  have := (h.2 i hlt).2.2 p
  rw [putsAt_of ht] at this
  exact this hp
theorem may_step {b : BatL} (h : b.may) {i : Nat} (hi : i < b.txs.length) : 0 ≤ stepAt b.txs i ∧ stepAt b.txs i ≤ 65535 := by
  unfold stepAt
  by_cases h0 : i = 0
  · rw [if_pos h0]; omega
  · rw [if_neg h0]
    have h1 := (h.2 i hi).1 (by omega)
    have h2 := (h.1.2.2.2.2.1 i hi).1
    unfold prevT at h2
    rw [if_neg h0] at h2
    omega
theorem may_len {b : BatL} (h : b.may) {t : TxL} {i : Nat} (ht : b.txs[i]? = some t) : 1 ≤ t.puts.length ∧ t.puts.length ≤ 16 := by
  have hlt := (List.getElem?_eq_some_iff.1 ht).1
  have h1 := (h.2 i hlt).2.1
  have h2 := (h.1.2.2.2.2.1 i hlt).2.2.1
  rw [putsAt_of ht] at h1 h2
  omega
theorem may_sum {b : BatL} (h : b.may) : sumP b.txs ≤ 32 := by
  have := h.1.2.2.2.2.2
  unfold blocksN at this; omega
theorem data_err {b : BatL} {ep : Int} (h : b.can ep) {p : PutL} (hp : p.ok) : (⟨1, ep, b.num, p.lba, p.data⟩ : Fb).err = 0 := by
  obtain ⟨hm, e1, e2⟩ := h
  obtain ⟨p1, p2, p3⟩ := hp
  have h1 := hm.1.1
  have h2 := hm.1.2.1
  refine err_of ⟨?_, ?_, ?_, ?_, ?_, ?_, ?_, ?_⟩ ?_ <;> simp only <;> omega
theorem last_err {b : BatL} {ep : Int} (h : b.can ep) : (lastRow b ep).err = 0 := by
  obtain ⟨hm, e1, e2⟩ := h
  have h1 := hm.1.1
  have h2 := hm.1.2.1
  have h3 := may_sum hm
  have h4 := hm.1.2.2.2.1
  unfold lastRow
  refine err_of ⟨?_, ?_, ?_, ?_, ?_, ?_, ?_, ?_⟩ ?_ <;> simp only [rowsT_length, bodyB_length] <;> omega
theorem stepsTo_b {b : BatL} (h : b.may) {i : Nat} (hi : i ≤ b.txs.length) : IsB (stepsTo b.txs i) := by
  induction i with
  | zero => intro x hx; cases hx
  | succ i ih =>
    rw [stepsTo_succ]
    intro x hx
    have hs := may_step h (i := i) (by omega)
    rcases List.mem_append.1 hx with hx | hx
    · exact ih (by omega) x hx
    · simp at hx
      rcases hx with rfl | rfl <;> omega
theorem countsTo_b {b : BatL} (h : b.may) {i : Nat} (hi : i ≤ b.txs.length) : IsB (countsTo b.txs i) := by
  intro x hx
  obtain ⟨j, hj, rfl⟩ := List.mem_map.1 hx
  have hj := List.mem_range.1 hj
  have := (h.2 j (by omega)).2.1
  omega
theorem headL_b {b : BatL} (h : b.may) : IsB (headL b.txs) := by
  intro x hx
  have := h.1.2.2.2.1
  rcases List.mem_append.1 hx with hx | hx
  · exact le_b _ _ x hx
  · rw [List.mem_singleton.1 hx]; omega
theorem isB_append {xs ys : List Int} (h1 : IsB xs) (h2 : IsB ys) : IsB (xs ++ ys) := fun x hx => (List.mem_append.1 hx).elim (h1 x) (h2 x)
end Go.Proofs.Ytfpnodboebpemaa
