/- Plain laws of batch: what is written is read again, whatever stands behind; what is cut or has a block that is none is not. -/
import Derived.Test.YtfpnodboebpemaaBat3A
namespace Go.Proofs.Ytfpnodboebpemaa
open Go.RowKit Go.Proofs.YtfpnodboebpemaaW.PrintWords
set_option linter.unusedVariables false
set_option linter.unusedSimpArgs false

theorem rd_get {xs : List Int} {k : Nat} : rd xs (k : Int) = xs.getD k 0 := by simp [rd]
theorem rd_get? {xs : List Int} {k : Nat} {v : Int} (h : xs[k]? = some v) : rd xs (k : Int) = v := by rw [rd_get, List.getD_eq_getElem?_getD, h]; rfl

theorem dec_data {b : BatL} {ep : Int} (h : b.can ep) {p : PutL} (hp : p.ok) : decErr (dataRow ep b.num p) = 0 ∧ decB (dataRow ep b.num p) = ⟨1, ep, b.num, p.lba, p.data⟩ := by
  have he := err_fits (data_err h hp)
  exact dec_enc _ he.1 he.2
theorem dec_last {b : BatL} {ep : Int} (h : b.can ep) : decErr (lastRow b ep).enc = 0 ∧ decB (lastRow b ep).enc = lastRow b ep := by
  have he := err_fits (last_err h)
  exact dec_enc _ he.1 he.2
theorem rows_skip {b : BatL} {ep : Int} (h : b.can ep) (l : List (List Int)) : ∀ (ps : List PutL) (f : Fb) (s : Bool) (acc : List PutL), (∀ p ∈ ps, p.ok) → (s = true ∨ (f.epoch = ep ∧ f.seq = b.num)) →
    ∃ f' s', (s' = true ∨ (f'.epoch = ep ∧ f'.seq = b.num)) ∧ rowM (rowsP ep b.num ps ++ l) f s acc = rowM l f' s' (acc ++ ps)
  | [], f, s, acc, _, hs => ⟨f, s, hs, by simp [rowsP]⟩
  | p :: ps, f, s, acc, hp, hs => by
    obtain ⟨e1, e2⟩ := dec_data h (hp p List.mem_cons_self)
    have hx : (if s then decB (dataRow ep b.num p) else f).epoch = ep ∧ (if s then decB (dataRow ep b.num p) else f).seq = b.num := by
      cases s with
      | true => rw [if_pos rfl, e2]; exact ⟨rfl, rfl⟩
      | false => rcases hs with hs | hs
                 · cases hs
                 · exact hs
    obtain ⟨f', s', h1, h2⟩ := rows_skip h l ps (if s then decB (dataRow ep b.num p) else f) false (acc ++ [⟨(decB (dataRow ep b.num p)).lba, (decB (dataRow ep b.num p)).body⟩]) (fun q hq => hp q (List.mem_cons_of_mem _ hq)) (.inr hx)
    refine ⟨f', s', h1, ?_⟩
    rw [show rowsP ep b.num (p :: ps) ++ l = dataRow ep b.num p :: (rowsP ep b.num ps ++ l) from rfl, rowM_on (by
      rw [hx.1, hx.2, e1, e2]; simp) (by rw [e2]; simp), h2, e2]
    simp
theorem row_last {b : BatL} {ep : Int} (h : b.can ep) {f : Fb} {s : Bool} {acc : List PutL} {rest : List (List Int)} (hs : s = true ∨ (f.epoch = ep ∧ f.seq = b.num)) : rowM ((lastRow b ep).enc :: rest) f s acc = (acc, lastRow b ep, true) := by
  obtain ⟨e1, e2⟩ := dec_last h
  have hx : (if s then decB (lastRow b ep).enc else f).epoch = ep ∧ (if s then decB (lastRow b ep).enc else f).seq = b.num := by
    cases s with
    | true => rw [if_pos rfl, e2]; exact ⟨rfl, rfl⟩
    | false => rcases hs with hs | hs
               · cases hs
               · exact hs
  rw [rowM_end (by rw [hx.1, hx.2, e1, e2]; simp [lastRow]) (by rw [e2]; simp [lastRow]), e2]
def allPuts (ts : List TxL) : List PutL := ts.flatMap (·.puts)
theorem allPuts_length (ts : List TxL) : (allPuts ts).length = sumP ts := by
  unfold allPuts
  induction ts with
  | nil => rfl
  | cons t ts ih => rw [List.flatMap_cons, List.length_append, ih]; rfl
theorem allPuts_ok {b : BatL} (h : b.may) : ∀ p ∈ allPuts b.txs, p.ok := fun p hp => by
  obtain ⟨t, ht, hp⟩ := List.mem_flatMap.1 hp
  obtain ⟨i, hi, rfl⟩ := List.getElem_of_mem ht
  exact may_put h (List.getElem?_eq_getElem hi) hp
theorem encB_eq (b : BatL) (ep : Int) : encB b ep = rowsP ep b.num (allPuts b.txs) ++ [(lastRow b ep).enc] := rfl
theorem encB_length (b : BatL) (ep : Int) : (encB b ep).length = sumP b.txs + 1 := by rw [encB, List.length_append, rowsT_length]; rfl
theorem row_encB {b : BatL} {ep : Int} (h : b.can ep) (rest : List (List Int)) : rowOf (encB b ep ++ rest) = (allPuts b.txs, lastRow b ep, true) := by
  unfold rowOf
  rw [encB_eq, List.append_assoc]
  obtain ⟨f', s', h1, h2⟩ := rows_skip h ([(lastRow b ep).enc] ++ rest) (allPuts b.txs) Fb.zero true [] (allPuts_ok h.1) (.inl rfl)
  rw [h2]
  exact row_last h h1

/-! ### The Commit block is read -/
theorem headL_rd (ts : List TxL) (r : List Int) : rd (headL ts ++ r) 8 = (ts.length : Int) := by
  have : (headL ts ++ r)[8]? = some (ts.length : Int) := by
    rw [List.getElem?_append_left (by rw [headL_length]; omega)]
    unfold headL; rw [List.getElem?_append_right (by rw [le_length]; omega), le_length]; rfl
  exact rd_get? this
theorem body_rd8 (ts : List TxL) : (rd (bodyB ts) 8).toNat = ts.length := by
  unfold bodyB; rw [List.append_assoc, headL_rd]; simp
theorem stepsB_body (ts : List TxL) : stepsB (bodyB ts) = stepsTo ts ts.length := by
  unfold stepsB
  rw [body_rd8]
  unfold bodyB
  rw [List.append_assoc, List.drop_append_of_le_length (by rw [headL_length]; exact Nat.le_refl _), List.drop_of_length_le (by rw [headL_length]; exact Nat.le_refl _), List.nil_append, List.take_append_of_le_length (by rw [stepsTo_length]; exact Nat.le_refl _), List.take_of_length_le (by rw [stepsTo_length]; exact Nat.le_refl _)]
theorem countsB_body (ts : List TxL) : countsB (bodyB ts) = countsTo ts ts.length := by
  unfold countsB
  rw [body_rd8]
  unfold bodyB
  have hl : (headL ts ++ stepsTo ts ts.length).length = 9 + 2 * ts.length := by rw [List.length_append, headL_length, stepsTo_length]
  rw [List.drop_append_of_le_length (by rw [hl]; exact Nat.le_refl _), List.drop_of_length_le (by rw [hl]; exact Nat.le_refl _), List.nil_append]
theorem firstB_body {b : BatL} (h : b.may) : firstB (bodyB b.txs) = timeAt b.txs 0 := by
  have ht := ordered_time h.1.2.2.2.2.1 0 h.1.2.2.1
  have hl : (bodyB b.txs).take 8 = le (timeAt b.txs 0).toNat 8 := by
    unfold bodyB headL
    rw [List.append_assoc, List.append_assoc, List.take_append_of_le_length (by rw [le_length]; exact Nat.le_refl _), List.take_of_length_le (by rw [le_length]; exact Nat.le_refl _)]
  unfold firstB
  rw [hl, ge_le _ _ (by rw [show (256 : Nat) ^ 8 = 18446744073709551616 by decide]; omega)]
  rw [if_neg (by omega)]; omega
theorem stepsTo_rd {ts : List TxL} {n j : Nat} (hj : j < n) : (stepsTo ts n)[2 * j]? = some (stepAt ts j % 256) ∧ (stepsTo ts n)[2 * j + 1]? = some (stepAt ts j / 256) := by
  induction n with
  | zero => omega
  | succ n ih =>
    rw [stepsTo_succ]
    rcases Nat.lt_or_ge j n with h | h
    · have := ih h
      rw [List.getElem?_append_left (by rw [stepsTo_length]; omega), List.getElem?_append_left (by rw [stepsTo_length]; omega)]
      exact this
    · obtain rfl : j = n := by omega
      rw [List.getElem?_append_right (by rw [stepsTo_length]; omega), List.getElem?_append_right (by rw [stepsTo_length]; omega), stepsTo_length]
      constructor
      · simp
      · rw [Nat.add_sub_cancel_left]; rfl
theorem stepOf_to {ts : List TxL} {n j : Nat} (hj : j < n) : stepOf (stepsTo ts n) j = stepAt ts j := by
  obtain ⟨h1, h2⟩ := stepsTo_rd (ts := ts) hj
  unfold stepOf; rw [rd_get? h1, rd_get? h2]; omega
theorem counts_to {ts : List TxL} {n j : Nat} (hj : j < n) : (rd (countsTo ts n) (j : Nat)).toNat = (putsAt ts j).length := by
  have : (countsTo ts n)[j]? = some ((putsAt ts j).length : Int) := by simp [countsTo, hj]
  rw [rd_get? this]; simp
theorem batGo_to {ts : List TxL} : ∀ (r i : Nat), i + r = ts.length → batGo (stepsTo ts ts.length) (countsTo ts ts.length) r i (lastT ts i) (allPuts (ts.drop i)) (ts.take i) = some (ts, [])
  | 0, i, h => by
    rw [batGo, List.drop_of_length_le (by omega), List.take_of_length_le (by omega)]; rfl
  | r + 1, i, h => by
    have ht : ts[i]? = some ts[i] := List.getElem?_eq_getElem (by omega)
    have hd : allPuts (ts.drop i) = ts[i].puts ++ allPuts (ts.drop (i + 1)) := by rw [drop_cons ht]; unfold allPuts; rw [List.flatMap_cons]
    have hp : putsAt ts i = ts[i].puts := putsAt_of ht
    rw [batGo_on (by
      rw [counts_to (by omega), hp, hd, List.length_append]
      rintro (h | ⟨h, h'⟩)
      · omega
      · subst h; rw [stepOf_to (by omega)] at h'; simp [stepAt] at h'), stepOf_to (by omega), counts_to (by omega), hp, hd]
    rw [List.drop_left, List.take_left, show lastT ts i + stepAt ts i = timeAt ts i from by rw [← lastT_step]; omega]
    have := batGo_to (ts := ts) r (i + 1) (by omega)
    rw [lastT_succ, List.take_succ_eq_append_getElem (by omega)] at this
    rw [timeAt_of ht] at this ⊢
    exact this
theorem bat_last {b : BatL} {ep : Int} (h : b.can ep) : batM (lastRow b ep) (allPuts b.txs) = some b := by
  have hb : (lastRow b ep).body = bodyB b.txs := rfl
  have hlen := bodyB_length b.txs
  rw [batM_go (by
    rw [hb, hlen]
    rintro (h1 | h1 | h1)
    · exact h1 rfl
    · exact h1 (by show (((rowsT ep b.num b.txs).length : Nat) : Int) = _; rw [rowsT_length, allPuts_length])
    · omega) (by rw [hb, body_rd8, hlen]; simp), hb, body_rd8, stepsB_body, countsB_body, firstB_body h.1]
  have := batGo_to (ts := b.txs) b.txs.length 0 (by omega)
  rw [List.drop_zero, List.take_zero] at this
  rw [show timeAt b.txs 0 = lastT b.txs 0 from rfl, this]
  exact batEnd_yes rfl (chk_yes h.1)
/-- What is written is read again, whatever stands behind. -/
theorem dec_encB {b : BatL} {ep : Int} (h : b.can ep) (rest : List (List Int)) : decE (encB b ep ++ rest) = 0 ∧ decR (encB b ep ++ rest) = (b, ep, ((encB b ep).length : Int)) := by
  have hr := row_encB h rest
  obtain ⟨e1, e2⟩ := dec_some (l := encB b ep ++ rest) (b := b) (by rw [hr]) (by unfold decM; rw [hr]; exact bat_last h)
  refine ⟨e1, ?_⟩
  rw [e2, hr, encB_length, allPuts_length]; simp [lastRow]
/-- Of its first blocks nothing is read. -/
theorem dec_cut {b : BatL} {ep : Int} (h : b.can ep) {k : Nat} (hk : k < (encB b ep).length) : decE ((encB b ep).take k) = 14 ∧ decR ((encB b ep).take k) = (⟨0, []⟩, 0, 0) := by
  refine dec_part ?_
  rw [encB_length] at hk
  have hl : (rowsP ep b.num (allPuts b.txs)).length = sumP b.txs := by unfold rowsP; rw [List.length_map, allPuts_length]
  rw [encB_eq, List.take_append_of_le_length (by omega)]
  have : (rowsP ep b.num (allPuts b.txs)).take k = rowsP ep b.num ((allPuts b.txs).take k) := by unfold rowsP; rw [List.map_take]
  rw [this]
  obtain ⟨f', s', h1, h2⟩ := rows_skip h [] ((allPuts b.txs).take k) Fb.zero true [] (fun p hp => allPuts_ok h.1 p (List.mem_of_mem_take hp)) (.inl rfl)
  rw [List.append_nil] at h2
  unfold rowOf
  rw [h2]; rfl
/-- With one block that is none it is none. -/
theorem dec_turned {b : BatL} {ep : Int} (h : b.can ep) {k : Nat} (hk : k < (encB b ep).length) {q : List Int} (hq : decErr q ≠ 0) : decE ((encB b ep).set k q) = 13 ∧ decR ((encB b ep).set k q) = (⟨0, []⟩, 0, 0) := by
  have hk' := hk
  rw [encB_length] at hk
  have hl : (rowsP ep b.num (allPuts b.txs)).length = sumP b.txs := by unfold rowsP; rw [List.length_map, allPuts_length]
  have hs : (encB b ep).set k q = rowsP ep b.num ((allPuts b.txs).take k) ++ q :: (encB b ep).drop (k + 1) := by
    rw [List.set_eq_take_append_cons_drop, if_pos hk']
    congr 1
    rw [encB_eq, List.take_append_of_le_length (by omega)]
    unfold rowsP; rw [List.map_take]
  obtain ⟨f', s', h1, h2⟩ := rows_skip h (q :: (encB b ep).drop (k + 1)) ((allPuts b.txs).take k) Fb.zero true [] (fun p hp => allPuts_ok h.1 p (List.mem_of_mem_take hp)) (.inl rfl)
  have hr : rowOf ((encB b ep).set k q) = ([] ++ (allPuts b.txs).take k, Fb.zero, true) := by
    unfold rowOf; rw [hs, h2, rowM_bad (.inl hq)]
  refine dec_none (by rw [hr]) ?_
  unfold decM; rw [hr]
  exact batM_head (.inl (by simp [Fb.zero]))
end Go.Proofs.Ytfpnodboebpemaa
