/- What scarpref11.DecodeBatch answers, as plain data; it is what batch.Decode answers. -/
import Derived.Test.YtfpnodboebpemaaBat4
namespace Go.Proofs.Ytfpnodboebpemaa
open Go.RowKit Go.Proofs.YtfpnodboebpemaaW.PrintWords
set_option linter.unusedVariables false
set_option linter.unusedSimpArgs false

def refGo (steps counts : List Int) : Nat → Nat → Int → List PutL → List TxL → Option (List TxL × List PutL)
  | 0, _, _, ps, acc => some (acc, ps)
  | r + 1, i, time, ps, acc =>
    if ps.length < (rd counts (i : Nat)).toNat then none
    else refGo steps counts r (i + 1) (time + stepOf steps i) (ps.drop (rd counts (i : Nat)).toNat) (acc ++ [⟨time + stepOf steps i, ps.take (rd counts (i : Nat)).toNat⟩])
theorem refGo_no {steps counts : List Int} {r i : Nat} {time : Int} {ps : List PutL} {acc : List TxL} (h : ps.length < (rd counts (i : Nat)).toNat) : refGo steps counts (r + 1) i time ps acc = none := by rw [refGo, if_pos h]
theorem refGo_on {steps counts : List Int} {r i : Nat} {time : Int} {ps : List PutL} {acc : List TxL} (h : ¬ ps.length < (rd counts (i : Nat)).toNat) : refGo steps counts (r + 1) i time ps acc = refGo steps counts r (i + 1) (time + stepOf steps i) (ps.drop (rd counts (i : Nat)).toNat) (acc ++ [⟨time + stepOf steps i, ps.take (rd counts (i : Nat)).toNat⟩]) := by rw [refGo, if_neg h]
def putOf (b : Fb) : PutL := ⟨b.lba, b.body⟩
def refEnd (num : Int) : Option (List TxL × List PutL) → Option BatL
  | none => none
  | some (ts, ps) => if ps.length = 0 then some ⟨num, ts⟩ else none
def refBad (c : Fb) : Prop := (rd c.body 8).toNat < 1 ∨ c.body.length ≠ 9 + 3 * (rd c.body 8).toNat ∨ 1099511627776 < ge (c.body.take 8)
instance (c : Fb) : Decidable (refBad c) := by unfold refBad; infer_instance
def madeM (data : List Fb) (c : Fb) : Option BatL :=
  if c.body.length < 9 then none
  else if refBad c then none
  else refEnd c.seq (refGo (stepsB c.body) (countsB c.body) (rd c.body 8).toNat 0 (ge (c.body.take 8)) (data.map putOf) [])
theorem made_short {data : List Fb} {c : Fb} (h : c.body.length < 9) : madeM data c = none := by unfold madeM; rw [if_pos h]
theorem made_bad {data : List Fb} {c : Fb} (h : refBad c) : madeM data c = none := by
  unfold madeM; split
  · rfl
  · rfl
theorem made_go {data : List Fb} {c : Fb} (h : ¬ c.body.length < 9) (h2 : ¬ refBad c) : madeM data c = refEnd c.seq (refGo (stepsB c.body) (countsB c.body) (rd c.body 8).toNat 0 (ge (c.body.take 8)) (data.map putOf) []) := by unfold madeM; rw [if_neg h, if_neg h2]

def refOdd (data : List Fb) (p : List Int) : Prop := decErr p ≠ 0 ∨ ((decB p).kind ≠ 1 ∧ (decB p).kind ≠ 2) ∨ (0 < data.length ∧ ((decB p).epoch ≠ (data.getD 0 ⟨0, 0, 0, 0, []⟩).epoch ∨ (decB p).seq ≠ (data.getD 0 ⟨0, 0, 0, 0, []⟩).seq))
instance (data : List Fb) (p : List Int) : Decidable (refOdd data p) := by unfold refOdd; infer_instance
open Classical in
noncomputable def refLast (l0 : List (List Int)) (data : List Fb) (c : Fb) : Option BatL :=
  match madeM data c with
  | none => none
  | some b => if encE b c.epoch = 0 ∧ encR b c.epoch = l0.take (data.length + 1) then some b else none
noncomputable def refD (l0 : List (List Int)) : List (List Int) → List Fb → (BatL × Int × Int) × Int
  | [], _ => ((⟨0, []⟩, 0, 0), 14)
  | p :: l, data =>
    if refOdd data p then ((⟨0, []⟩, 0, 0), 13)
    else if (decB p).kind = 1 then refD l0 l (data ++ [decB p])
    else match refLast l0 data (decB p) with
      | none => ((⟨0, []⟩, 0, 0), 13)
      | some b => ((b, (decB p).epoch, ((data.length : Int) + 1)), 0)
theorem refD_odd {l0 : List (List Int)} {p : List Int} {l : List (List Int)} {data : List Fb} (h : refOdd data p) : refD l0 (p :: l) data = ((⟨0, []⟩, 0, 0), 13) := by rw [refD, if_pos h]
theorem refD_on {l0 : List (List Int)} {p : List Int} {l : List (List Int)} {data : List Fb} (h : ¬ refOdd data p) (h1 : (decB p).kind = 1) : refD l0 (p :: l) data = refD l0 l (data ++ [decB p]) := by rw [refD, if_neg h, if_pos h1]
theorem refD_none {l0 : List (List Int)} {p : List Int} {l : List (List Int)} {data : List Fb} (h : ¬ refOdd data p) (h1 : ¬ (decB p).kind = 1) (h2 : refLast l0 data (decB p) = none) : refD l0 (p :: l) data = ((⟨0, []⟩, 0, 0), 13) := by rw [refD, if_neg h, if_neg h1, h2]
theorem refD_some {l0 : List (List Int)} {p : List Int} {l : List (List Int)} {data : List Fb} {b : BatL} (h : ¬ refOdd data p) (h1 : ¬ (decB p).kind = 1) (h2 : refLast l0 data (decB p) = some b) : refD l0 (p :: l) data = ((b, (decB p).epoch, ((data.length : Int) + 1)), 0) := by rw [refD, if_neg h, if_neg h1, h2]
theorem refLast_none {l0 : List (List Int)} {data : List Fb} {c : Fb} (h : madeM data c = none) : refLast l0 data c = none := by unfold refLast; rw [h]
theorem refLast_no {l0 : List (List Int)} {data : List Fb} {c : Fb} {b : BatL} (h : madeM data c = some b) (h2 : ¬ (encE b c.epoch = 0 ∧ encR b c.epoch = l0.take (data.length + 1))) : refLast l0 data c = none := by unfold refLast; rw [h]; exact if_neg h2
theorem refLast_yes {l0 : List (List Int)} {data : List Fb} {c : Fb} {b : BatL} (h : madeM data c = some b) (h2 : encE b c.epoch = 0 ∧ encR b c.epoch = l0.take (data.length + 1)) : refLast l0 data c = some b := by unfold refLast; rw [h]; exact if_pos h2
theorem refLast_some {l0 : List (List Int)} {data : List Fb} {c : Fb} {b : BatL} (h : refLast l0 data c = some b) : madeM data c = some b ∧ encE b c.epoch = 0 ∧ encR b c.epoch = l0.take (data.length + 1) := by
  cases hm : madeM data c with
  | none => rw [refLast_none hm] at h; cases h
  | some b' =>
    by_cases hc : encE b' c.epoch = 0 ∧ encR b' c.epoch = l0.take (data.length + 1)
    · rw [refLast_yes hm hc] at h; injection h with h; subst h; exact ⟨rfl, hc⟩
    · rw [refLast_no hm hc] at h; cases h

/-! ### Numbers as bytes -/
theorem le_ge : ∀ (xs : List Int), IsB xs → le (ge xs).toNat xs.length = xs
  | [], _ => rfl
  | x :: xs, h => by
    have hx := h x List.mem_cons_self
    have hb := ge_bound xs (fun y hy => h y (List.mem_cons_of_mem _ hy))
    have ih := le_ge xs (fun y hy => h y (List.mem_cons_of_mem _ hy))
    have hg : ge (x :: xs) = x + 256 * ge xs := rfl
    rw [List.length_cons, hg]
    have h1 : (x + 256 * ge xs).toNat = x.toNat + 256 * (ge xs).toNat := by omega
    rw [h1]
    show (((x.toNat + 256 * (ge xs).toNat) % 256 : Nat) : Int) :: le ((x.toNat + 256 * (ge xs).toNat) / 256) xs.length = x :: xs
    rw [show (x.toNat + 256 * (ge xs).toNat) / 256 = (ge xs).toNat by omega, ih]
    congr 1
    omega

/-! ### What batGo has made -/
theorem batGo_len {S C : List Int} : ∀ (r i : Nat) (t : Int) (ps : List PutL) (acc ts : List TxL) (ps' : List PutL), batGo S C r i t ps acc = some (ts, ps') → ts.length = acc.length + r ∧ ps.length = ps'.length + (sumP ts - sumP acc) ∧ sumP acc ≤ sumP ts ∧ allPuts acc ++ ps = allPuts ts ++ ps'
  | 0, i, t, ps, acc, ts, ps', h => by
    rw [batGo] at h; injection h with h; injection h with h1 h2
    subst h1 h2
    simp
  | r + 1, i, t, ps, acc, ts, ps', h => by
    by_cases hc : ps.length < (rd C (i : Nat)).toNat ∨ (i = 0 ∧ stepOf S 0 ≠ 0)
    · rw [batGo_no hc] at h; cases h
    · rw [batGo_on hc] at h
      obtain ⟨h1, h2, h3, h4⟩ := batGo_len r (i + 1) _ _ _ ts ps' h
      have hk : (rd C (i : Nat)).toNat ≤ ps.length := by omega
      rw [List.length_append, List.length_singleton] at h1
      rw [sumP_append] at h2 h3
      simp only [sumP, List.length_take, List.length_drop] at h2 h3
      refine ⟨by omega, by omega, by omega, ?_⟩
      rw [← h4]
      unfold allPuts
      rw [List.flatMap_append]
      simp [List.take_append_drop]
theorem ref_of_bat {S C : List Int} : ∀ (r i : Nat) (t : Int) (ps : List PutL) (acc : List TxL) {x : List TxL × List PutL}, batGo S C r i t ps acc = some x → refGo S C r i t ps acc = some x
  | 0, i, t, ps, acc, x, h => by rw [batGo] at h; rw [refGo]; exact h
  | r + 1, i, t, ps, acc, x, h => by
    by_cases hc : ps.length < (rd C (i : Nat)).toNat ∨ (i = 0 ∧ stepOf S 0 ≠ 0)
    · rw [batGo_no hc] at h; cases h
    · rw [batGo_on hc] at h
      rw [refGo_on (by omega)]
      exact ref_of_bat r (i + 1) _ _ _ h
/-- Each transaction: its time, how many Puts. -/
theorem batGo_at {S C : List Int} : ∀ (r i : Nat) (t : Int) (ps : List PutL) (acc ts : List TxL) (ps' : List PutL), acc.length = i → batGo S C r i t ps acc = some (ts, ps') → (∀ j, j < i → ts[j]? = acc[j]?) ∧ (∀ j, i ≤ j → j < i + r → timeAt ts j = (if j = i then t else timeAt ts (j - 1)) + stepOf S j ∧ ((putsAt ts j).length : Int) = ((rd C (j : Nat)).toNat : Int)) ∧ (i = 0 → 0 < r → stepOf S 0 = 0)
  | 0, i, t, ps, acc, ts, ps', ha, h => by
    rw [batGo] at h; injection h with h; injection h with h1 h2
    subst h1
    exact ⟨fun _ _ => rfl, fun j h1 h2 => by omega, fun _ h => by omega⟩
  | r + 1, i, t, ps, acc, ts, ps', ha, h => by
    by_cases hc : ps.length < (rd C (i : Nat)).toNat ∨ (i = 0 ∧ stepOf S 0 ≠ 0)
    · rw [batGo_no hc] at h; cases h
    · rw [batGo_on hc] at h
      obtain ⟨h1, h2, h3⟩ := batGo_at r (i + 1) _ _ _ ts ps' (by simp [ha]) h
      have hi : ts[i]? = some ⟨t + stepOf S i, ps.take (rd C (i : Nat)).toNat⟩ := by
        rw [h1 i (by omega), List.getElem?_append_right (by omega), ha, Nat.sub_self]; rfl
      refine ⟨fun j hj => ?_, fun j hj hj2 => ?_, fun h0 _ => ?_⟩
      · rw [h1 j (by omega), List.getElem?_append_left (by omega)]
      · rcases Nat.lt_or_ge i j with hij | hij
        · obtain ⟨g1, g2⟩ := h2 j (by omega) (by omega)
          refine ⟨?_, g2⟩
          rw [if_neg (by omega)]
          by_cases hj3 : j = i + 1
          · rw [if_pos hj3] at g1
            rw [g1, hj3, Nat.add_sub_cancel, timeAt_of hi]
          · rw [if_neg hj3] at g1; exact g1
        · obtain rfl : j = i := by omega
          rw [if_pos rfl, timeAt_of hi, putsAt_of hi]
          refine ⟨rfl, ?_⟩
          rw [List.length_take]; omega
      · subst h0
        rcases Classical.em (stepOf S 0 = 0) with g | g
        · exact g
        · exact absurd (.inr ⟨rfl, g⟩) hc
theorem bat_some {c : Fb} {ps : List PutL} {b : BatL} (h : batM c ps = some b) : ¬ (c.kind ≠ 2 ∨ c.lba ≠ ps.length ∨ c.body.length < 9) ∧ ¬ c.body.length ≠ 9 + 3 * (rd c.body 8).toNat ∧ b.num = c.seq ∧ b.may ∧ batGo (stepsB c.body) (countsB c.body) (rd c.body 8).toNat 0 (firstB c.body) ps [] = some (b.txs, []) := by
  by_cases h1 : c.kind ≠ 2 ∨ c.lba ≠ ps.length ∨ c.body.length < 9
  · rw [batM_head h1] at h; cases h
  · by_cases h2 : c.body.length ≠ 9 + 3 * (rd c.body 8).toNat
    · rw [batM_len h2] at h; cases h
    · rw [batM_go h1 h2] at h
      cases hg : batGo (stepsB c.body) (countsB c.body) (rd c.body 8).toNat 0 (firstB c.body) ps [] with
      | none => rw [hg] at h; cases h
      | some x =>
        obtain ⟨ts, q⟩ := x
        rw [hg] at h
        by_cases hc : q.length = 0 ∧ (⟨c.seq, ts⟩ : BatL).chk = 0
        · rw [batEnd_yes hc.1 hc.2] at h
          injection h with h
          subst h
          obtain rfl : q = [] := List.eq_nil_of_length_eq_zero hc.1
          exact ⟨h1, h2, rfl, chk_iff.1 hc.2, rfl⟩
        · rw [batEnd_no hc] at h; cases h

/-- The Commit block's bytes are those that Encode writes. -/
theorem body_eq {body : List Int} {n : Nat} {ts : List TxL} {ps : List PutL} (hB : IsB body) (hn : (rd body 8).toNat = n) (hl : body.length = 9 + 3 * n) (hn0 : 0 < n) (hf : firstB body = ge (body.take 8))
    (hg : batGo (stepsB body) (countsB body) n 0 (firstB body) ps [] = some (ts, [])) : bodyB ts = body := by
  obtain ⟨g1, _, _, _⟩ := batGo_len n 0 _ _ _ _ _ hg
  obtain ⟨_, g2, g3⟩ := batGo_at n 0 _ _ _ _ _ rfl hg
  have hs0 := g3 rfl hn0
  simp only [List.length_nil, Nat.zero_add] at g1 g2
  have ht0 : timeAt ts 0 = ge (body.take 8) := by have := (g2 0 (by omega) (by omega)).1; rw [if_pos rfl, hs0, hf] at this; omega
  have r8 := rd_b body 8 (by omega) hB
  have hb8 : body[8]? = some (n : Int) := by
    have h1 : body[8]? = some (body[8]'(by omega)) := List.getElem?_eq_getElem (by omega)
    rw [h1]; congr 1
    have h2 : rd body ((8 : Nat) : Int) = body[8]'(by omega) := rd_get? h1
    have h3 : rd body 8 = rd body ((8 : Nat) : Int) := rfl
    omega
  have hst : ∀ j, j < n → stepAt ts j = stepOf (stepsB body) j := fun j hj => by
    have := (g2 j (by omega) (by omega)).1
    unfold stepAt
    by_cases h0 : j = 0
    · subst h0; rw [if_pos rfl, hs0]
    · rw [if_neg h0] at this ⊢; omega
  have hsl : (stepsB body).length = 2 * n := by unfold stepsB; rw [hn, List.length_take, List.length_drop]; omega
  have hcl : (countsB body).length = n := by unfold countsB; rw [hn, List.length_drop]; omega
  have hsB : IsB (stepsB body) := by unfold stepsB; exact (hB.drop 9).take _
  have hcB : IsB (countsB body) := by unfold countsB; exact hB.drop _
  have hS : stepsTo ts n = stepsB body := by
    have : ∀ m, m ≤ n → stepsTo ts m = (stepsB body).take (2 * m) := by
      intro m
      induction m with
      | zero => intro _; simp [stepsTo]
      | succ m ih =>
        intro hm
        have e1 := rd_b (stepsB body) (2 * m) (by omega) hsB
        have e2 := rd_b (stepsB body) (2 * m + 1) (by omega) hsB
        rw [stepsTo_succ, ih (by omega), show 2 * (m + 1) = 2 * m + 1 + 1 by omega, take_rd _ _ (show 2 * m + 1 < (stepsB body).length by omega), take_rd _ _ (show 2 * m < (stepsB body).length by omega), hst m (by omega), List.append_assoc]
        congr 1
        unfold stepOf
        show [_, _] = [_, _]
        have a1 : (rd (stepsB body) ((2 * m : Nat) : Int) + rd (stepsB body) ((2 * m + 1 : Nat) : Int) * 256) % 256 = rd (stepsB body) ((2 * m : Nat) : Int) := by omega
        have a2 : (rd (stepsB body) ((2 * m : Nat) : Int) + rd (stepsB body) ((2 * m + 1 : Nat) : Int) * 256) / 256 = rd (stepsB body) ((2 * m + 1 : Nat) : Int) := by omega
        rw [a1, a2]
    rw [this n (Nat.le_refl _), List.take_of_length_le (by omega)]
  have hC : countsTo ts n = countsB body := by
    refine List.ext_getElem? fun j => ?_
    rcases Nat.lt_or_ge j n with hj | hj
    · have h1 : (countsTo ts n)[j]? = some ((putsAt ts j).length : Int) := by simp [countsTo, hj]
      have h2 : (countsB body)[j]? = some ((countsB body)[j]'(by omega)) := List.getElem?_eq_getElem (by omega)
      have h3 := rd_get? h2
      have h4 := rd_b (countsB body) j (by omega) hcB
      have h5 := (g2 j (by omega) (by omega)).2
      rw [h1, h2, ← h3, h5]
      congr 1
      omega
    · rw [List.getElem?_eq_none (by rw [countsTo_length]; exact hj), List.getElem?_eq_none (by omega)]
  unfold bodyB headL
  rw [g1, hS, hC, ht0]
  have h8 := le_ge (body.take 8) (hB.take 8)
  rw [show (body.take 8).length = 8 by rw [List.length_take]; omega] at h8
  rw [h8]
  unfold stepsB countsB
  rw [hn]
  have e1 : body.take 8 ++ [(n : Int)] = body.take 9 := by
    obtain ⟨hlt, he⟩ := List.getElem?_eq_some_iff.1 hb8
    rw [List.take_succ_eq_append_getElem hlt, he]
  rw [e1]
  have e2 : body.take 9 ++ (body.drop 9).take (2 * n) = body.take (9 + 2 * n) := by rw [List.take_add]
  rw [e2, List.take_append_drop]

/-! ### The rows ahead of it -/
/-- Data blocks of one epoch and number. -/
def Same (ep num : Int) (data : List Fb) (rows : List (List Int)) : Prop := data.length = rows.length ∧ ∀ (i : Nat) (p : List Int), rows[i]? = some p → ∃ x, data[i]? = some x ∧ decErr p = 0 ∧ x = decB p ∧ x.kind = 1 ∧ x.epoch = ep ∧ x.seq = num
theorem dec_back {p : List Int} (h : decErr p = 0) : p = (decB p).enc ∧ (decB p).fits ∧ (decB p).body.length ≤ 40 := by
  have hd : decB p = rawB p := by unfold decB; rw [if_pos h]
  unfold decErr at h
  split at h
  · split at h
    · rename_i h2; rw [hd]; exact ⟨h2.2, h2.1⟩
    · cases h
  · cases h
theorem rows_same {ep num : Int} {data : List Fb} {rows : List (List Int)} (h : Same ep num data rows) : rowsP ep num (data.map putOf) = rows := by
  refine List.ext_getElem? fun i => ?_
  unfold rowsP
  rw [List.map_map, List.getElem?_map]
  cases hr : rows[i]? with
  | none =>
    have : data[i]? = none := List.getElem?_eq_none (by have := List.getElem?_eq_none_iff.1 hr; have := h.1; omega)
    rw [this]; rfl
  | some p =>
    obtain ⟨x, h1, h2, h3, h4, h5, h6⟩ := h.2 i p hr
    rw [h1]
    simp only [Option.map_some, Function.comp, dataRow, putOf]
    congr 1
    have := (dec_back h2).1
    rw [← h3] at this
    rw [this]
    cases x
    simp only at h4 h5 h6
    subst h4 h5 h6
    rfl
theorem same_data {b : BatL} {ep : Int} (hc : b.can ep) {data : List Fb} {rows : List (List Int)} (h : Same ep b.num data rows) (hr : rows = rowsP ep b.num (allPuts b.txs)) : data.map putOf = allPuts b.txs := by
  refine List.ext_getElem? fun i => ?_
  rw [List.getElem?_map]
  cases hp : (allPuts b.txs)[i]? with
  | none =>
    have h0 := List.getElem?_eq_none_iff.1 hp
    have : data[i]? = none := List.getElem?_eq_none (by rw [h.1, hr]; unfold rowsP; rw [List.length_map]; exact h0)
    rw [this]; rfl
  | some p =>
    have h1 : rows[i]? = some (dataRow ep b.num p) := by rw [hr]; unfold rowsP; rw [List.getElem?_map, hp]; rfl
    obtain ⟨x, h2, _, h3, _⟩ := h.2 i _ h1
    rw [h2, h3, (dec_data hc (allPuts_ok hc.1 p (List.mem_of_getElem? hp))).2]; rfl
/-- At the Commit block both say the same. -/
theorem last_same {l0 : List (List Int)} {data : List Fb} {p : List Int} {ep num : Int} (hB : IsB p) (hl : l0[data.length]? = some p) (hs : Same ep num data (l0.take data.length)) (he : decErr p = 0) (h1 : (decB p).kind = 2) (h2 : (decB p).epoch = ep) (h3 : (decB p).seq = num) :
    refLast l0 data (decB p) = batM (decB p) (data.map putOf) := by
  obtain ⟨q1, q2, q3⟩ := dec_back he
  have hbB : IsB (decB p).body := dec_b p hB
  have hlt := (List.getElem?_eq_some_iff.1 hl).1
  have htk : l0.take (data.length + 1) = l0.take data.length ++ [p] := by
    obtain ⟨h4, h5⟩ := List.getElem?_eq_some_iff.1 hl
    rw [List.take_succ_eq_append_getElem h4, h5]
  cases hb : batM (decB p) (data.map putOf) with
  | some b =>
    obtain ⟨b1, b2, b3, b4, b5⟩ := bat_some hb
    obtain ⟨n, hn⟩ : ∃ n, n = (rd (decB p).body 8).toNat := ⟨_, rfl⟩
    rw [← hn] at b2 b5
    obtain ⟨g1, _, _, g4⟩ := batGo_len n 0 _ _ _ _ _ b5
    simp only [List.length_nil, Nat.zero_add] at g1
    have hn0 : 0 < n := by have := b4.1.2.2.1; omega
    obtain ⟨_, g2, g3⟩ := batGo_at n 0 _ _ _ _ _ rfl b5
    have ht := (ordered_time b4.1.2.2.2.2.1 0 (by omega)).2
    have ht0 := (g2 0 (by omega) (by omega)).1
    rw [if_pos rfl, g3 rfl hn0] at ht0
    have hf : firstB (decB p).body = ge ((decB p).body.take 8) := by
      unfold firstB at ht0 ⊢
      split at ht0
      · omega
      · rename_i h; rw [if_neg h]
    have hbody := body_eq hbB hn.symm (by omega) hn0 hf b5
    have hge : ge ((decB p).body.take 8) ≤ 1099511627776 := by rw [← hf]; omega
    have hmade : madeM data (decB p) = some b := by
      rw [made_go (by omega) (by unfold refBad; omega), ← hn, ← hf, ref_of_bat _ _ _ _ _ b5]
      simp only [refEnd, List.length_nil, if_true]
      cases b
      simp only at b3
      rw [b3]
    have hcan : b.can (decB p).epoch := ⟨b4, q2.2.2.1, q2.2.2.2.1⟩
    have hap : data.map putOf = allPuts b.txs := by
      have : allPuts [] ++ data.map putOf = allPuts b.txs ++ [] := g4
      simpa [allPuts] using this
    refine refLast_yes hmade ⟨encE_yes hcan, ?_⟩
    rw [encR_yes hcan, encB_eq, htk, ← hap]
    congr 1
    · rw [h2, b3, h3]; exact rows_same hs
    · have : lastRow b (decB p).epoch = decB p := by
        unfold lastRow
        rw [hbody, b3, rowsT_length, ← allPuts_length, ← hap]
        have hlba : (decB p).lba = (((data.map putOf).length : Nat) : Int) := Classical.not_not.1 (fun h => b1 (.inr (.inl h)))
        rw [← hlba, ← h1]
      rw [this, ← q1]
  | none =>
    cases hr : refLast l0 data (decB p) with
    | none => rfl
    | some b =>
      exfalso
      obtain ⟨r1, r2, r3⟩ := refLast_some hr
      have hcan := encE_iff.1 r2
      rw [encR_yes hcan, encB_eq, htk] at r3
      have hnum : b.num = (decB p).seq := by
        unfold madeM at r1
        split at r1
        · cases r1
        · split at r1
          · cases r1
          · revert r1
            cases refGo (stepsB (decB p).body) (countsB (decB p).body) (rd (decB p).body 8).toNat 0 (ge ((decB p).body.take 8)) (data.map putOf) [] with
            | none => intro r1; cases r1
            | some x =>
              obtain ⟨ts, q⟩ := x
              intro r1
              simp only [refEnd] at r1
              split at r1
              · injection r1 with r1; rw [← r1]
              · cases r1
      have hlen := congrArg List.length r3
      simp only [List.length_append, List.length_singleton] at hlen
      obtain ⟨r4, r5⟩ := List.append_inj r3 (by omega)
      injection r5 with r5 _
      have hdec := dec_last hcan
      rw [r5] at hdec
      have hap : data.map putOf = allPuts b.txs := by
        refine same_data hcan (rows := l0.take data.length) ?_ r4.symm
        rw [hnum, h2, h3]; exact hs
      rw [hap, hdec.2, bat_last hcan] at hb
      cases hb
/-- Both say the same. -/
theorem ref_same {l0 : List (List Int)} (hB : ∀ p ∈ l0, IsB p) : ∀ (l : List (List Int)) (data : List Fb) (ep num : Int), l = l0.drop data.length → data.length ≤ l0.length → Same ep num data (l0.take data.length) → (0 < data.length → (data.getD 0 ⟨0, 0, 0, 0, []⟩).epoch = ep ∧ (data.getD 0 ⟨0, 0, 0, 0, []⟩).seq = num) →
    ∀ f : Fb, (0 < data.length → f.epoch = ep ∧ f.seq = num) → rowOf l0 = rowM l f (decide (data.length = 0)) (data.map putOf) → refD l0 l data = (decR l0, decE l0)
  | [], data, ep, num, hl, hd, hs, h0, f, hf, hr => by
    have := dec_part (l := l0) (by rw [hr]; rfl)
    rw [this.1, this.2]; rfl
  | p :: l, data, ep, num, hl, hd, hs, h0, f, hf, hr => by
    have hp : l0[data.length]? = some p := by
      have h1 : (l0.drop data.length)[0]? = some p := by rw [← hl]; rfl
      rw [List.getElem?_drop] at h1; simpa using h1
    have hlt := (List.getElem?_eq_some_iff.1 hp).1
    have hpB := hB p (List.mem_of_getElem? hp)
    have hl' : l = l0.drop (data.length + 1) := by
      have := drop_cons hp
      rw [← hl] at this
      injection this
    have hx : (if decide (data.length = 0) = true then decB p else f).epoch = (if data.length = 0 then (decB p).epoch else ep) ∧ (if decide (data.length = 0) = true then decB p else f).seq = (if data.length = 0 then (decB p).seq else num) := by
      by_cases hz : data.length = 0
      · simp [hz]
      · have := hf (by omega)
        simp [hz, this]
    by_cases hbad : decErr p ≠ 0 ∨ (decB p).epoch ≠ (if decide (data.length = 0) = true then decB p else f).epoch ∨ (decB p).seq ≠ (if decide (data.length = 0) = true then decB p else f).seq
    · have hrow : rowOf l0 = (data.map putOf, Fb.zero, true) := by rw [hr, rowM_bad hbad]
      have hnone : decM l0 = none := by unfold decM; rw [hrow]; exact batM_head (.inl (by simp [Fb.zero]))
      have := dec_none (l := l0) (by rw [hrow]) hnone
      rw [this.1, this.2]
      refine refD_odd ?_
      rw [hx.1, hx.2] at hbad
      unfold refOdd
      rcases hbad with hb | hb | hb
      · exact .inl hb
      · by_cases hz : data.length = 0
        · rw [if_pos hz] at hb; exact absurd rfl hb
        · rw [if_neg hz] at hb
          exact .inr (.inr ⟨by omega, .inl (by rw [(h0 (by omega)).1]; exact hb)⟩)
      · by_cases hz : data.length = 0
        · rw [if_pos hz] at hb; exact absurd rfl hb
        · rw [if_neg hz] at hb
          exact .inr (.inr ⟨by omega, .inr (by rw [(h0 (by omega)).2]; exact hb)⟩)
    · have he : decErr p = 0 := Classical.not_not.1 (fun h => hbad (.inl h))
      have hep : (decB p).epoch = (if data.length = 0 then (decB p).epoch else ep) := by rw [← hx.1]; exact Classical.not_not.1 (fun h => hbad (.inr (.inl h)))
      have hsq : (decB p).seq = (if data.length = 0 then (decB p).seq else num) := by rw [← hx.2]; exact Classical.not_not.1 (fun h => hbad (.inr (.inr h)))
      have hsame : Same (decB p).epoch (decB p).seq data (l0.take data.length) := by
        by_cases hz : data.length = 0
        · exact ⟨hs.1, fun i q hq => by rw [hz] at hq; simp at hq⟩
        · rw [if_neg hz] at hep hsq
          rw [hep, hsq]; exact hs
      have h0' : 0 < data.length → (data.getD 0 ⟨0, 0, 0, 0, []⟩).epoch = (decB p).epoch ∧ (data.getD 0 ⟨0, 0, 0, 0, []⟩).seq = (decB p).seq := fun hz => by
        rw [if_neg (by omega)] at hep hsq
        rw [hep, hsq]; exact h0 hz
      have hodd12 : ((decB p).kind = 1 ∨ (decB p).kind = 2) → ¬ refOdd data p := fun hk => by
        unfold refOdd
        rintro (h | h | ⟨h, h'⟩)
        · exact h he
        · omega
        · have := h0' h
          rw [this.1, this.2] at h'
          rcases h' with h' | h' <;> exact h' rfl
      by_cases hk : (decB p).kind = 1
      · rw [refD_on (hodd12 (.inl hk)) hk]
        refine ref_same hB l (data ++ [decB p]) (decB p).epoch (decB p).seq (by rw [hl']; simp) (by simp; omega) ?_ ?_ (if decide (data.length = 0) = true then decB p else f) ?_ ?_
        · refine ⟨by simp; omega, fun i q hq => ?_⟩
          rw [List.length_append, List.length_singleton] at hq
          rcases Nat.lt_or_ge i data.length with hi | hi
          · have hq' : (l0.take data.length)[i]? = some q := by
              rw [List.getElem?_take] at hq ⊢
              rw [if_pos (by omega)] at hq
              rw [if_pos hi]; exact hq
            obtain ⟨x, x1, x2⟩ := hsame.2 i q hq'
            exact ⟨x, by rw [List.getElem?_append_left hi]; exact x1, x2⟩
          · rw [List.getElem?_take] at hq
            split at hq
            · obtain rfl : i = data.length := by omega
              rw [hp] at hq
              injection hq with hq
              subst hq
              exact ⟨decB p, by rw [List.getElem?_append_right (Nat.le_refl _), Nat.sub_self]; rfl, he, rfl, hk, rfl, rfl⟩
            · cases hq
        · intro _
          by_cases hz : data.length = 0
          · obtain rfl : data = [] := List.eq_nil_of_length_eq_zero hz
            exact ⟨rfl, rfl⟩
          · have : (data ++ [decB p]).getD 0 ⟨0, 0, 0, 0, []⟩ = data.getD 0 ⟨0, 0, 0, 0, []⟩ := by
              rw [List.getD_eq_getElem?_getD, List.getD_eq_getElem?_getD, List.getElem?_append_left (by omega)]
            rw [this]; exact h0' (by omega)
        · intro _
          rw [hx.1, hx.2, ← hep, ← hsq]; exact ⟨rfl, rfl⟩
        · rw [hr, rowM_on hbad (by simpa using hk)]
          simp [putOf]
      · have hrow : rowOf l0 = (data.map putOf, decB p, true) := by rw [hr, rowM_end hbad hk]
        by_cases hk2 : (decB p).kind = 2
        · have hls := last_same hpB hp hsame he hk2 rfl rfl
          have hdm : decM l0 = refLast l0 data (decB p) := by unfold decM; rw [hrow, hls]
          cases hrl : refLast l0 data (decB p) with
          | none =>
            rw [refD_none (hodd12 (.inr hk2)) hk hrl]
            have := dec_none (l := l0) (by rw [hrow]) (by rw [hdm, hrl])
            rw [this.1, this.2]
          | some b =>
            rw [refD_some (hodd12 (.inr hk2)) hk hrl]
            have := dec_some (l := l0) (b := b) (by rw [hrow]) (by rw [hdm, hrl])
            rw [this.1, this.2, hrow]
            simp
        · have hnone : decM l0 = none := by unfold decM; rw [hrow]; exact batM_head (.inl hk2)
          have := dec_none (l := l0) (by rw [hrow]) hnone
          rw [this.1, this.2]
          exact refD_odd (.inr (.inl ⟨hk, hk2⟩))
theorem ref_all {l0 : List (List Int)} (hB : ∀ p ∈ l0, IsB p) : refD l0 l0 [] = (decR l0, decE l0) :=
  ref_same hB l0 [] 0 0 rfl (Nat.zero_le _) ⟨rfl, fun i p hp => by simp at hp⟩ (fun h => absurd h (by simp)) Fb.zero (fun h => absurd h (by simp)) rfl
end Go.Proofs.Ytfpnodboebpemaa
