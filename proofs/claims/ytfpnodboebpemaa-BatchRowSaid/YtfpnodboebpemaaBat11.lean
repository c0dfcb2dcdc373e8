/- The law BatchRow. -/
import Derived.Test.YtfpnodboebpemaaBat9
import Derived.Test.YtfpnodboebpemaaArgB
namespace Go.Proofs.Ytfpnodboebpemaa
open Go.RowKit Go.Proofs.YtfpnodboebpemaaW.PrintWords
set_option linter.unusedVariables false
set_option linter.unusedSimpArgs false
def allB (l : List BatL) : List (List Int) := l.flatMap (fun b => encB b 1)
def endN (l : List BatL) (i : Nat) : Nat := (allB (l.take i)).length
def endsL (l : List BatL) (i : Nat) : List Int := (List.range (i + 1)).map fun j => ((endN l j : Nat) : Int)
theorem endsL_length (l : List BatL) (i : Nat) : (endsL l i).length = i + 1 := by simp [endsL]
theorem endsL_succ (l : List BatL) (i : Nat) : endsL l (i + 1) = endsL l i ++ [((endN l (i + 1) : Nat) : Int)] := by simp [endsL, List.range_succ]
theorem endsL_rd {l : List BatL} {i j : Nat} (hj : j ≤ i) : rd (endsL l i) (j : Nat) = ((endN l j : Nat) : Int) := rd_get? (by simp [endsL, show j < i + 1 by omega])
theorem allB_take {l : List BatL} {i : Nat} {b : BatL} (h : l[i]? = some b) : allB (l.take (i + 1)) = allB (l.take i) ++ encB b 1 := by
  obtain ⟨hlt, rfl⟩ := List.getElem?_eq_some_iff.1 h
  rw [List.take_succ_eq_append_getElem hlt]; unfold allB; rw [List.flatMap_append]; simp
theorem endN_succ {l : List BatL} {i : Nat} {b : BatL} (h : l[i]? = some b) : endN l (i + 1) = endN l i + (encB b 1).length := by unfold endN; rw [allB_take h, List.length_append]
theorem allB_split (l : List BatL) (i : Nat) : allB l = allB (l.take i) ++ allB (l.drop i) := by
  unfold allB; rw [← List.flatMap_append, List.take_append_drop]
theorem endN_all (l : List BatL) : endN l l.length = (allB l).length := by unfold endN; rw [List.take_length]
theorem endN_mono (l : List BatL) {i j : Nat} (h : i ≤ j) : endN l i ≤ endN l j := by
  unfold endN
  rw [allB_split (l.take j) i, List.take_take, Nat.min_eq_left h, List.length_append]
  omega
theorem allB_bound {l : List BatL} {i : Nat} (h : ∀ j b, j < i → l[j]? = some b → b.can 1) (hi : i ≤ 8) : (allB (l.take i)).length ≤ 264 := by
  have : ∀ j, j ≤ i → (allB (l.take j)).length ≤ j * 33 := by
    intro j
    induction j with
    | zero => intro _; simp [allB]
    | succ j ih =>
      intro hj
      cases hb : l[j]? with
      | none =>
        have hl : l.length ≤ j := List.getElem?_eq_none_iff.1 hb
        have h1 := ih (by omega)
        rw [List.take_of_length_le hl] at h1
        rw [List.take_of_length_le (by omega)]; omega
      | some b =>
        rw [allB_take hb, List.length_append]
        have := ih (by omega)
        have := (encB_two (h j b (by omega) hb)).2
        omega
  have := this i (Nat.le_refl _)
  omega
theorem end_lt {l : List BatL} {n x : Nat} (hn : n ≤ l.length) (h : endN l n < x ∧ x ≤ (allB l).length) : n < l.length := by
  rcases Nat.lt_or_ge n l.length with h1 | h1
  · exact h1
  · obtain rfl : n = l.length := by omega
    rw [endN_all] at h; omega
theorem end_fin {l : List BatL} {n x : Nat} (hc : ∀ j b, j < l.length → l[j]? = some b → b.can 1) (hn : n ≤ l.length) (h : x = endN l n) (hx : x ≤ (allB l).length) : n = l.length ∨ x < endN l (n + 1) := by
  rcases Nat.lt_or_ge n l.length with h1 | h1
  · right
    have hb : l[n]? = some l[n] := List.getElem?_eq_getElem h1
    rw [endN_succ hb]
    have := (encB_two (hc n _ h1 hb)).1
    omega
  · left; omega
theorem rest_case {l : List BatL} {n x : Nat} {b : BatL} (hc : ∀ j b, j < l.length → l[j]? = some b → b.can 1) (hb : l[n]? = some b) (hx : x ≤ (allB l).length) (hnx : endN l n ≤ x) :
    (endN l (n + 1) ≤ x ∧ decE (((allB l).take x).drop (endN l n)) = 0 ∧ decR (((allB l).take x).drop (endN l n)) = (b, 1, ((encB b 1).length : Int))) ∨ (x < endN l (n + 1) ∧ decE (((allB l).take x).drop (endN l n)) = 14) := by
  have hlt := (List.getElem?_eq_some_iff.1 hb).1
  have hcb := hc n b hlt hb
  have hes := endN_succ hb
  have hd : ((allB l).take x).drop (endN l n) = ((encB b 1) ++ allB (l.drop (n + 1))).take (x - endN l n) := by
    rw [List.drop_take]
    congr 1
    rw [allB_split l n]
    have : allB (l.drop n) = encB b 1 ++ allB (l.drop (n + 1)) := by rw [drop_cons hb]; unfold allB; rw [List.flatMap_cons]
    rw [this]
    exact List.drop_left
  rw [hd]
  rcases Nat.lt_or_ge x (endN l (n + 1)) with h | h
  · right
    refine ⟨h, ?_⟩
    rw [List.take_append_of_le_length (by omega)]
    exact (dec_cut hcb (by omega)).1
  · left
    refine ⟨h, ?_⟩
    rw [List.take_append, List.take_of_length_le (by omega)]
    exact dec_encB hcb _
theorem end_want {l : List BatL} {n m x : Nat} (hm : m ≤ n) (hn : n ≤ l.length) (hnx : endN l n ≤ x) (h : l.length ≤ m ∨ x < endN l (m + 1)) : m = n := by
  rcases Nat.lt_or_ge m n with h1 | h1
  · have := endN_mono l (show m + 1 ≤ n by omega)
    omega
  · omega
theorem end_step {l : List BatL} {n m x : Nat} (hm : m ≤ n) (hfin : n = l.length ∨ x < endN l (n + 1)) (h : endN l (m + 1) ≤ x ∧ m < l.length) : m + 1 ≤ n := by
  rcases Nat.lt_or_ge m n with h1 | h1
  · omega
  · obtain rfl : m = n := by omega
    omega
theorem Hold.row_ints' {w : World} {M : List HP} {K : List KP} {A : Option Addr} {c n : Nat} {xs : List Int} (h : Hold w (rowH 3 1 A c n (nums .i64 xs) :: M) K) (hn : n = xs.length) : Hold w M (intsK A c xs :: K) := by
  subst hn; exact h.row_ints
attribute [local irreducible] pt rowH slK bytesK intsK rowsK rowsH cellK rowsV oldK star exH pureH knowH starL emp devH zoneH zonesH zrest cellsK viewV viewK viewH putE txE batE

set_option maxHeartbeats 4000000 in
theorem row_law_ct {M : List HP} {K : List KP} {A : Option Addr} {c : Nat} {l : List BatL} {cut : Int} (hl : viewK 2 batE A c l ∈ K) : Fn 18 [.slice A l.length c, .int .i64 cut] M K (fun _ : Unit => True) (fun _ => .bool true) (fun _ => M) (fun _ => K) := by
 refine Fn.of (n := 140) Try.func18 rfl Try.ntmps18 rfl ?_
 refine T.seq ?_
 -- region 0 (law.go:105)
 refine T.region ?_
 refine T.y (fun w hw => Yl.assign rfl) rfl rfl ?_
 refine T.nil ?_
 refine J.sel (.cons 0 rfl (.cons 1 rfl .nil)) ?_
 refine X.then_ ?_
 refine T.seq ?_
 refine T.seq ?_
 -- region 1 (law.go:106)
 refine T.region ?_
 refine T.y (fun w hw => Yl.move rfl) rfl rfl ?_
 refine T.y (fun w hw => Yl.len Try.underlying110 rfl) rfl rfl ?_
 refine T.y (fun w hw => Yl.gtr rfl rfl) rfl rfl ?_
 refine T.nil ?_
 refine J.sel (.cons 0 rfl (.cons 1 rfl (.cons 19 rfl .nil))) ?_
 refine X.then_ ?_
 refine T.condD rfl (fun h19 => ?_) (fun h19 => ?_)
 ·skip
  refine T.seq ?_
  -- region 2 (law.go:107)
  refine T.region ?_
  refine T.o (OpW.call en_43 rfl (awake17_ct)) rfl rfl (fun x hx => ?_)
  refine T.y (fun w hw => Yl.assign rfl) rfl rfl ?_
  refine T.nil ?_
  refine J.sel (.cons 4 rfl .nil) ?_
  refine X.then_ ?_
  refine T.ret ?_
  refine X.ret_then ?_
  refine X.ret1 Try.results18 rfl (fun w hw => ?_)
  exact ⟨(), trivial, rfl, hw.f⟩
 ·skip
  refine T.skip ?_
  refine X.then_ ?_
  refine T.seq ?_
  -- region 3 (law.go:109)
  refine T.region ?_
  refine T.y (fun w hw => Yl.assign rfl) rfl rfl ?_
  refine T.nil ?_
  refine J.sel (.cons 0 rfl (.cons 1 rfl (.cons 5 rfl .nil))) ?_
  refine X.then_ ?_
  refine T.seq ?_
  -- region 4 (law.go:110)
  refine T.region ?_
  refine T.o (OpW.bsl (sz := 1) rfl bsl_37_1 rfl rfl) rfl rfl (fun b21 _ => ?_)
  refine T.y (fun w hw => Yl.assign rfl) rfl rfl ?_
  refine T.nil ?_
  refine J.sel (.cons 0 rfl (.cons 1 rfl (.cons 5 rfl (.cons 6 rfl .nil)))) ?_
  refine X.then_ ?_
  refine T.seq ?_
  refine T.seq ?_
  refine J.ent (fun w hw => hw.rows_nil) ?_
  -- region 5 (law.go:111)
  refine T.region ?_
  refine T.y (fun w hw => Yl.assign rfl) rfl rfl ?_
  refine T.nil ?_
  refine X.then_ ?_
  refine T.block ?_
  refine T.loop (α := Nat × Option Addr × Nat × Option Addr × Nat) (fun u => u.1 ≤ l.length ∧ ∀ j b, j < u.1 → l[j]? = some b → b.can 1) (fun u => [(1, .int .i64 cut), (5, .slice u.2.1 (allB (l.take u.1)).length u.2.2.1), (6, .slice u.2.2.2.1 (u.1 + 1) u.2.2.2.2), (7, .int .i64 (u.1 : Int)), (0, .slice A l.length c)]) (fun u => rowsH u.2.1 u.2.2.1 (allB (l.take u.1)) :: rowH 3 1 u.2.2.2.1 u.2.2.2.2 (u.1 + 1) (nums .i64 (endsL l u.1)) :: M) (fun u => K) (fun u => l.length - u.1) (0, none, 0, some ⟨b21, 0, none⟩, 1) ⟨Nat.zero_le _, fun j b hj => absurd hj (Nat.not_lt_zero _)⟩ (.cons 1 rfl (.cons 5 rfl (.cons 6 rfl (.num 7 rfl rfl (.cons 0 rfl .nil))))) (fun w hw => by dsimp only; show Hold w (rowsH none 0 [] :: rowH 3 1 (some ⟨b21, 0, none⟩) 1 1 [.int .i64 0] :: M) K; exact hw.f) ?_
  intro ⟨i, Aa, ca, Ae, ce⟩ ⟨hi, hcan⟩ Zk hzo
  dsimp only at hi hcan hzo ⊢
  refine T.seq ?_
  refine T.seq ?_
  -- region 6 (law.go:111)
  refine T.region ?_
  refine T.y (fun w hw => Yl.move rfl) rfl rfl ?_
  refine T.y (fun w hw => Yl.move rfl) rfl rfl ?_
  refine T.y (fun w hw => Yl.len Try.underlying110 rfl) rfl rfl ?_
  refine T.y (fun w hw => Yl.lss rfl rfl) rfl rfl ?_
  refine T.nil ?_
  refine J.sel (.cons 0 rfl (.cons 1 rfl (.cons 5 rfl (.cons 6 rfl (.cons 7 rfl (.cons 25 rfl .nil)))))) ?_
  refine X.then_ ?_
  refine T.condD rfl (fun h25 => ?_) (fun h25 => ?_)
  ·skip
   refine T.skip ?_
   refine X.then_ ?_
   refine T.seq ?_
   refine T.block ?_
   refine T.seq ?_
   refine T.seq ?_
   obtain ⟨b, hbb⟩ : ∃ b, l[i]? = some b := ⟨_, List.getElem?_eq_getElem (by omega)⟩
   refine J.open_ (fun w hw => hw.bat_at (A := A) (c := c) (bs := l) mM hbb) ?_
   rintro ⟨Ab, cb⟩ -
   dsimp only
   have hall : allB (l.take (i + 1)) = allB (l.take i) ++ encB b 1 := allB_take hbb
   -- region 8 (law.go:112)
   refine T.region ?_
   refine T.y (fun w hw => Yl.move rfl) rfl rfl ?_
   refine T.y (fun w hw => Yl.move rfl) rfl rfl ?_
   refine T.y (fun w hw => (by first | exact Yl.iaV hw mM Try.underlying110 isz_55 rfl rfl rfl (by omega) | exact Yl.ia Try.underlying110 isz_55 rfl rfl rfl (by omega) sC)) rfl rfl ?_
   refine T.y (fun w hw => Yl.fae fa_55_1 rfl) rfl rfl ?_
   refine T.y (fun w hw => (by first | exact Yl.ldC hw na_53 rfl mM | exact Yl.ldR sC na_53 rfl (by assumption) | exact Yl.ldV hw na_53 rfl mM rfl)) rfl rfl ?_
   refine T.o (OpW.call en_72 rfl (small_ct (ts := b.txs) mM)) rfl rfl (fun r _ => ?_)
   refine T.y (fun w hw => Yl.not rfl) rfl rfl ?_
   refine T.nil ?_
   refine J.sel (.cons 0 rfl (.cons 1 rfl (.cons 5 rfl (.cons 6 rfl (.cons 7 rfl (.cons 34 rfl .nil)))))) ?_
   refine X.then_ ?_
   refine T.cond rfl (fun h34 => ?_) (fun h34 => ?_)
   ·skip
    refine T.seq ?_
    -- region 9 (law.go:113)
    refine T.region ?_
    refine T.o (OpW.call en_43 rfl (awake17_ct)) rfl rfl (fun x hx => ?_)
    refine T.y (fun w hw => Yl.assign rfl) rfl rfl ?_
    refine T.nil ?_
    refine J.sel (.cons 4 rfl .nil) ?_
    refine X.then_ ?_
    refine T.ret ?_
    refine X.ret_then ?_
    refine X.ret_blk ?_
    refine X.ret_then ?_
    refine X.ret_then ?_
    refine X.ret_blk ?_
    refine X.ret_then ?_
    refine X.ret1 Try.results18 rfl (fun w hw => ?_)
    exact ⟨(), trivial, rfl, hw.f⟩
   ·skip
    refine T.skip ?_
    refine X.then_ ?_
    refine T.seq ?_
    -- region 10 (law.go:115)
    refine T.region ?_
    refine T.y (fun w hw => Yl.move rfl) rfl rfl ?_
    refine T.y (fun w hw => Yl.move rfl) rfl rfl ?_
    refine T.y (fun w hw => (by first | exact Yl.iaV hw mM Try.underlying110 isz_55 rfl rfl rfl (by omega) | exact Yl.ia Try.underlying110 isz_55 rfl rfl rfl (by omega) sC)) rfl rfl ?_
    refine T.y (fun w hw => (by first | exact Yl.ldaV hw ag_55 rfl mM rfl | exact Yl.ldaR sC ag_55 rfl sU)) rfl rfl ?_
    refine T.o (OpW.call en_45 rfl (encode_b_ct (b := b) mM)) rfl rfl (fun ⟨A41, c41⟩ _ => ?_)
    dsimp only
    refine T.y (fun w hw => Yl.move rfl) rfl rfl ?_
    refine T.y (fun w hw => Yl.extract rfl rfl) rfl rfl ?_
    refine T.y (fun w hw => Yl.extract rfl rfl) rfl rfl ?_
    refine T.y (fun w hw => Yl.assign rfl) rfl rfl ?_
    refine T.y (fun w hw => Yl.assign rfl) rfl rfl ?_
    refine T.nil ?_
    refine J.sel (.cons 0 rfl (.cons 1 rfl (.cons 5 rfl (.cons 6 rfl (.cons 7 rfl (.cons 8 rfl (.cons 9 rfl .nil))))))) ?_
    refine X.then_ ?_
    refine T.seq ?_
    refine T.seq ?_
    -- region 11 (law.go:116)
    refine T.region ?_
    refine T.y (fun w hw => Yl.move rfl) rfl rfl ?_
    refine T.y (fun w hw => Yl.neq rfl rfl) rfl rfl ?_
    refine T.nil ?_
    refine J.sel (.cons 0 rfl (.cons 1 rfl (.cons 5 rfl (.cons 6 rfl (.cons 7 rfl (.cons 8 rfl (.cons 45 rfl .nil))))))) ?_
    refine X.then_ ?_
    refine T.condD rfl (fun h45 => ?_) (fun h45 => ?_)
    ·skip
     refine T.seq ?_
     -- region 12 (law.go:117)
     refine T.region ?_
     refine T.o (OpW.call en_43 rfl (awake17_ct)) rfl rfl (fun x hx => ?_)
     refine T.y (fun w hw => Yl.assign rfl) rfl rfl ?_
     refine T.nil ?_
     refine J.sel (.cons 4 rfl .nil) ?_
     refine X.then_ ?_
     refine T.ret ?_
     refine X.ret_then ?_
     refine X.ret_blk ?_
     refine X.ret_then ?_
     refine X.ret_then ?_
     refine X.ret_blk ?_
     refine X.ret_then ?_
     refine X.ret1 Try.results18 rfl (fun w hw => ?_)
     exact ⟨(), trivial, rfl, hw.f⟩
    ·skip
     refine T.skip ?_
     refine X.then_ ?_
     refine T.seq ?_
     have hcb : b.can 1 := encE_iff.1 (Classical.not_not.1 h45)
     rw [encR_yes hcb]
     obtain ⟨hl2, hl33⟩ := encB_two hcb
     have hbd := allB_bound (l := l) (i := i) hcan (by omega)
     -- region 13 (law.go:119)
     refine T.region ?_
     refine T.y (fun w hw => Yl.move rfl) rfl rfl ?_
     refine T.y (fun w hw => Yl.move rfl) rfl rfl ?_
     refine T.o (OpW.appRR (rows := allB (l.take i)) (r2 := encB b 1) inf_23 Try.underlying62 rfl rfl mM pK (by omega)) rfl rfl (fun ⟨A49, c49⟩ _ => ?_)
     dsimp only
     refine T.y (fun w hw => Yl.assign rfl) rfl rfl ?_
     refine T.nil ?_
     refine J.sel (.cons 0 rfl (.cons 1 rfl (.cons 5 rfl (.cons 6 rfl (.cons 7 rfl .nil))))) ?_
     refine X.then_ ?_
     -- region 14 (law.go:120)
     refine T.region ?_
     refine T.y (fun w hw => Yl.move rfl) rfl rfl ?_
     refine T.y (fun w hw => Yl.move rfl) rfl rfl ?_
     refine T.y (fun w hw => Yl.len Try.underlying62 rfl) rfl rfl ?_
     refine T.o (OpW.bsl (sz := 1) rfl bsl_37_1 rfl rfl) rfl rfl (fun b53 _ => ?_)
     refine T.o (OpW.app (ys := [.int .i64 (((allB (l.take i) ++ encB b 1).length : Nat) : Int)]) Try.underlying37 inf_3 rfl rfl rfl rfl pK (fun w hw => hw.row mM) oN (by constructor <;> omega)) rfl rfl (fun ⟨A54, c54⟩ _ => ?_)
     dsimp only
     rw [show (((allB (l.take i) ++ encB b 1).length : Nat) : Int) = ((endN l (i + 1) : Nat) : Int) from by unfold endN; rw [hall]]
     refine T.y (fun w hw => Yl.assign rfl) rfl rfl ?_
     refine T.nil ?_
     refine J.sel (.cons 0 rfl (.cons 1 rfl (.cons 5 rfl (.cons 6 rfl (.cons 7 rfl .nil))))) ?_
     refine X.nm_blk ?_
     refine X.then_ ?_
     -- region 7 (law.go:111)
     refine T.region ?_
     refine T.y (fun w hw => Yl.move rfl) rfl rfl ?_
     refine T.y (fun w hw => Yl.add rfl rfl (by omega)) rfl rfl ?_
     refine T.y (fun w hw => Yl.assign rfl) rfl rfl ?_
     refine T.nil ?_
     refine J.sel (.cons 0 rfl (.cons 1 rfl (.cons 5 rfl (.cons 6 rfl (.cons 7 rfl .nil))))) ?_
     refine X.go (hzo (i + 1, A49, c49, A54, c54) ⟨by dsimp only; omega, fun j b' hj hb' => ?_⟩ (by dsimp only; omega)) (.cons 1 rfl (.eqv 5 rfl (by rw [hall]) (.cons 6 rfl (.num 7 rfl (by omega) (.cons 0 rfl .nil))))) (fun w hw => ?_)
     · rcases Nat.lt_succ_iff_lt_or_eq.1 hj with hj | rfl
       · exact hcan j b' hj hb'
       · rw [hbb] at hb'; injection hb' with hb'; subst hb'; exact hcb
     · dsimp only
       rw [hall, endsL_succ, ← nums_app]
       exact hw.f
  ·skip
   refine T.exit ?_
   refine X.exit_then ?_
   refine X.exit_then ?_
   refine X.exit_blk ?_
   refine X.then_ ?_
   refine T.seq ?_
   have hil : i = l.length := by omega
   subst hil
   rw [List.take_length]
   have hbd := allB_bound (l := l) (i := l.length) hcan (by omega)
   rw [List.take_length] at hbd
   refine J.ent (fun w hw => Hold.rows_freeze (A := Aa) (c := ca) (rows := allB l) (hw.pick pK)) ?_
   refine J.ent (fun w hw => Hold.row_ints' (A := Ae) (c := ce) (xs := endsL l l.length) (hw.pick pK) (endsL_length _ _).symm) ?_
   refine J.fact (fun w hw => hw.rows_max (A := Aa) (c := ca) (rows := allB l) mM) ?_
   intro hmx
   -- region 15 (law.go:122)
   refine T.region ?_
   refine T.y (fun w hw => Yl.move rfl) rfl rfl ?_
   refine T.y (fun w hw => Yl.move rfl) rfl rfl ?_
   refine T.y (fun w hw => Yl.len Try.underlying62 rfl) rfl rfl ?_
   refine T.y (fun w hw => Yl.add rfl rfl (by omega)) rfl rfl ?_
   refine T.o (OpW.call en_37 rfl (round_ct (by omega) (by omega))) rfl rfl (fun x hx => ?_)
   obtain ⟨x, hx, hx2⟩ : ∃ x : Nat, cut % ((((allB l).length : Nat) : Int) + 1) = x ∧ x ≤ (allB l).length := ⟨(cut % ((((allB l).length : Nat) : Int) + 1)).toNat, by have := Int.emod_nonneg cut (b := (((allB l).length : Nat) : Int) + 1) (by omega); omega, by have := Int.emod_nonneg cut (b := (((allB l).length : Nat) : Int) + 1) (by omega); have := Int.emod_lt_of_pos cut (b := (((allB l).length : Nat) : Int) + 1) (by omega); omega⟩
   rw [hx]
   refine T.y (fun w hw => Yl.assign rfl) rfl rfl ?_
   refine T.nil ?_
   refine J.sel (.cons 0 rfl (.cons 1 rfl (.cons 5 rfl (.cons 6 rfl .nil)))) ?_
   refine X.then_ ?_
   refine T.seq ?_
   -- region 16 (law.go:123)
   refine T.region ?_
   refine T.y (fun w hw => Yl.move rfl) rfl rfl ?_
   refine T.y (fun w hw => Yl.move rfl) rfl rfl ?_
   refine T.y (fun w hw => Yl.slHi Try.underlying62 sz_23 rfl rfl (l := x) rfl (by omega)) rfl rfl ?_
   refine T.y (fun w hw => Yl.assign rfl) rfl rfl ?_
   refine T.nil ?_
   rw [slA_zero]
   refine J.ent (fun w hw => hw.rows_pre (A := Aa) (c := ca) (rows := allB l) mM x hx2) ?_
   refine J.sel (.cons 0 rfl (.cons 1 rfl (.cons 6 rfl (.cons 10 rfl .nil)))) ?_
   refine X.then_ ?_
   refine T.seq ?_
   -- region 17 (law.go:124)
   refine T.region ?_
   refine T.y (fun w hw => Yl.assign rfl) rfl rfl ?_
   refine T.nil ?_
   refine X.then_ ?_
   refine T.seq ?_
   refine T.block ?_
   refine T.loop (α := Nat × Option Addr × Nat) (fun u => u.1 ≤ l.length ∧ endN l u.1 ≤ x) (fun u => [(10, .slice u.2.1 (((allB l).take x).drop (endN l u.1)).length u.2.2), (11, .int .i64 (u.1 : Int)), (0, .slice A l.length c), (1, .int .i64 (x : Int)), (6, .slice Ae (l.length + 1) ce)]) (fun u => M) (fun u => rowsK u.2.1 u.2.2 (((allB l).take x).drop (endN l u.1)) :: intsK Ae ce (endsL l l.length) :: K) (fun u => l.length - u.1) (0, Aa, ca) ⟨Nat.zero_le _, Nat.zero_le _⟩ (.eqv 10 rfl (by rw [show endN l 0 = 0 from rfl, List.drop_zero, List.length_take]; congr 1; omega) (.num 11 rfl rfl (.cons 0 rfl (.cons 1 rfl (.cons 6 rfl .nil))))) (fun w hw => by dsimp only; rw [show endN l 0 = 0 from rfl, List.drop_zero]; exact hw.f) ?_
   intro ⟨n, Ar, cr⟩ ⟨hn, hnx⟩ Zk hzq
   dsimp only at hn hnx hzq ⊢
   refine T.seq ?_
   refine T.seq ?_
   -- region 18 (law.go:125)
   refine T.region ?_
   refine T.y (fun w hw => Yl.move rfl) rfl rfl ?_
   refine T.y (fun w hw => Yl.len Try.underlying62 rfl) rfl rfl ?_
   refine T.y (fun w hw => Yl.gtr rfl rfl) rfl rfl ?_
   refine T.nil ?_
   refine J.sel (.cons 0 rfl (.cons 1 rfl (.cons 6 rfl (.cons 10 rfl (.cons 11 rfl (.cons 65 rfl .nil)))))) ?_
   refine X.then_ ?_
   refine T.condD rfl (fun h65 => ?_) (fun h65 => ?_)
   ·skip
    refine T.skip ?_
    refine X.then_ ?_
    refine T.block ?_
    refine T.seq ?_
    have hlr : (((allB l).take x).drop (endN l n)).length = x - endN l n := by rw [List.length_drop, List.length_take]; omega
    have hnl : n < l.length := end_lt (x := x) hn (by omega)
    obtain ⟨b, hbb⟩ : ∃ b, l[n]? = some b := ⟨_, List.getElem?_eq_getElem (by omega)⟩
    refine J.open_ (fun w hw => hw.bat_at (A := A) (c := c) (bs := l) mM hbb) ?_
    rintro ⟨Ab, cb⟩ -
    dsimp only
    refine J.fact (fun w hw => hw.rows_max (A := Ar) (c := cr) (rows := ((allB l).take x).drop (endN l n)) mM) ?_
    intro hmr
    have hcb := hcan n b hnl hbb
    obtain ⟨hl2, hl33⟩ := encB_two hcb
    have hcase := rest_case hcan hbb hx2 hnx
    have hes := endN_succ hbb
    -- region 19 (law.go:126)
    refine T.region ?_
    refine T.y (fun w hw => Yl.move rfl) rfl rfl ?_
    refine T.o (OpW.call en_69 rfl (decode_b_ct (l := ((allB l).take x).drop (endN l n)) mM (by omega))) rfl rfl (fun ⟨A68, c68⟩ _ => ?_)
    dsimp only
    refine T.y (fun w hw => Yl.move rfl) rfl rfl ?_
    refine T.y (fun w hw => Yl.extract rfl rfl) rfl rfl ?_
    refine T.y (fun w hw => Yl.extract rfl rfl) rfl rfl ?_
    refine T.y (fun w hw => Yl.extract rfl rfl) rfl rfl ?_
    refine T.y (fun w hw => Yl.extract rfl rfl) rfl rfl ?_
    refine T.o (OpW.alloc zr_55) rfl rfl (fun b12 _ => ?_)
    refine T.o0 (OpW.stA sz_55 rfl rfl rfl rfl sW uL) rfl (fun _ _ => ?_)
    refine T.y (fun w hw => Yl.assign rfl) rfl rfl ?_
    refine T.y (fun w hw => Yl.assign rfl) rfl rfl ?_
    refine T.y (fun w hw => Yl.assign rfl) rfl rfl ?_
    refine T.nil ?_
    refine J.sel (.cons 0 rfl (.cons 1 rfl (.cons 6 rfl (.cons 10 rfl (.cons 11 rfl (.cons 12 rfl (.cons 14 rfl (.cons 15 rfl .nil)))))))) ?_
    refine X.then_ ?_
    refine T.seq ?_
    refine T.seq ?_
    -- region 20 (law.go:127)
    refine T.region ?_
    refine T.y (fun w hw => Yl.move rfl) rfl rfl ?_
    refine T.y (fun w hw => Yl.eql rfl rfl) rfl rfl ?_
    refine T.nil ?_
    refine J.sel (.cons 0 rfl (.cons 1 rfl (.cons 6 rfl (.cons 10 rfl (.cons 11 rfl (.cons 12 rfl (.cons 14 rfl (.cons 15 rfl (.cons 74 rfl .nil))))))))) ?_
    refine X.then_ ?_
    refine T.condD rfl (fun h74 => ?_) (fun h74 => ?_)
    ·skip
     have hfin : n = l.length ∨ x < endN l (n + 1) := by
       rcases hcase with ⟨_, hE, _⟩ | ⟨hE, _⟩
       · rw [hE] at h74; cases h74
       · exact .inr hE
     refine T.exit ?_
     refine X.exit_then ?_
     refine X.exit_blk_ne rfl ?_
     refine X.exit_then ?_
     refine X.exit_blk ?_
     refine X.then_ ?_
     refine T.seq ?_
     have hlr : (((allB l).take x).drop (endN l n)).length = x - endN l n := by rw [List.length_drop, List.length_take]; omega
     replace hfin : n = l.length ∨ x < endN l (n + 1) := by
       first
         | exact hfin
         | exact end_fin hcan hn (by omega) hx2
     have hrd := fun (j : Nat) (hj : j ≤ l.length) => endsL_rd (l := l) (i := l.length) hj
     have hmono := fun (i j : Nat) (h : i ≤ j) => endN_mono l h
     have hel := endsL_length l l.length
     -- region 25 (law.go:136)
     refine T.region ?_
     refine T.y (fun w hw => Yl.assign rfl) rfl rfl ?_
     refine T.nil ?_
     refine J.sel (.cons 1 rfl (.cons 6 rfl (.cons 10 rfl (.cons 11 rfl (.cons 16 rfl .nil))))) ?_
     refine X.then_ ?_
     refine T.seq ?_
     refine T.block ?_
     refine T.loop (α := Nat) (fun m => m ≤ n) (fun m => [(16, .int .i64 (m : Int)), (1, .int .i64 (x : Int)), (6, .slice Ae (endsL l l.length).length ce), (10, .slice Ar (((allB l).take x).drop (endN l n)).length cr), (11, .int .i64 (n : Int))]) (fun m => M) (fun m => intsK Ae ce (endsL l l.length) :: K) (fun m => n - m) 0 (Nat.zero_le _) (.num 16 rfl rfl (.cons 1 rfl (.eqv 6 rfl (by rw [endsL_length]) (.cons 10 rfl (.cons 11 rfl .nil))))) (fun w hw => hw.f) ?_
     intro m hm Zk hz2
     refine T.seq ?_
     refine T.seq ?_
     -- region 26 (law.go:137)
     refine T.region ?_
     refine T.y (fun w hw => Yl.move rfl) rfl rfl ?_
     refine T.y (fun w hw => Yl.add rfl rfl (by omega)) rfl rfl ?_
     refine T.y (fun w hw => Yl.move rfl) rfl rfl ?_
     refine T.y (fun w hw => Yl.len Try.underlying37 rfl) rfl rfl ?_
     refine T.y (fun w hw => Yl.lss rfl rfl) rfl rfl ?_
     refine T.y (fun w hw => Yl.move rfl) rfl rfl ?_
     refine T.splitD 112 rfl (fun h112 => ?_) (fun h112 => ?_)
     ·skip
      refine T.y (fun w hw => Yl.move rfl) rfl rfl ?_
      refine T.y (fun w hw => Yl.move rfl) rfl rfl ?_
      refine T.y (fun w hw => Yl.add rfl rfl (by omega)) rfl rfl ?_
      refine T.y (fun w hw => Yl.ia1 (i := m + 1) sC Try.underlying37 isz_3 rfl rfl (by push_cast; rfl) (by omega)) rfl rfl ?_
      refine T.y (fun w hw => (by first | exact Yl.ldC hw na_3 rfl mM | exact Yl.ldI hw mM na_3 rfl (by omega) | exact Yl.ldR sC na_3 rfl (by assumption) | exact Yl.ldV hw na_3 rfl mM rfl)) rfl rfl ?_
      refine T.y (fun w hw => Yl.move rfl) rfl rfl ?_
      refine T.y (fun w hw => Yl.leq rfl rfl) rfl rfl ?_
      refine T.y (fun w hw => Yl.pickT rfl rfl) rfl rfl ?_
      refine T.nil ?_
      refine J.sel (.cons 1 rfl (.cons 6 rfl (.cons 10 rfl (.cons 11 rfl (.cons 16 rfl (.cons 120 rfl .nil)))))) ?_
      refine X.then_ ?_
      refine T.condD rfl (fun h120 => ?_) (fun h120 => ?_)
      ·skip
       refine T.skip ?_
       refine X.then_ ?_
       refine T.block ?_
       -- region 27 (law.go:138)
       refine T.region ?_
       refine T.y (fun w hw => Yl.move rfl) rfl rfl ?_
       refine T.y (fun w hw => Yl.add rfl rfl (by omega)) rfl rfl ?_
       refine T.y (fun w hw => Yl.assign rfl) rfl rfl ?_
       refine T.nil ?_
       refine J.sel (.cons 1 rfl (.cons 6 rfl (.cons 10 rfl (.cons 11 rfl (.cons 16 rfl .nil))))) ?_
       refine X.nm_blk ?_
       rw [hrd (m + 1) (by omega)] at h120
       refine X.go (hz2 (m + 1) (end_step hm hfin (by omega)) (by have := end_step hm hfin (show endN l (m + 1) ≤ x ∧ m < l.length by omega); omega)) (.num 16 rfl (by omega) (.cons 1 rfl (.cons 6 rfl (.cons 10 rfl (.cons 11 rfl .nil))))) (fun w hw => ?_)
       exact hw.f
      ·skip
       refine T.exit ?_
       refine X.exit_then ?_
       refine X.exit_then ?_
       refine X.exit_blk ?_
       refine X.then_ ?_
       refine T.seq ?_
       have hmn : m = n := end_want hm hn hnx (by first | (left; omega) | (right; rw [hrd (m + 1) (by omega)] at h120; omega))
       subst hmn
       have hrm := hrd m hn
       -- region 28 (law.go:140)
       refine T.region ?_
       refine T.y (fun w hw => Yl.move rfl) rfl rfl ?_
       refine T.y (fun w hw => Yl.move rfl) rfl rfl ?_
       refine T.y (fun w hw => Yl.eql rfl rfl) rfl rfl ?_
       refine T.y (fun w hw => Yl.move rfl) rfl rfl ?_
       refine T.splitD 126 rfl (fun h126 => ?_) (fun h126 => ?_)
       ·skip
        refine T.y (fun w hw => Yl.move rfl) rfl rfl ?_
        refine T.y (fun w hw => Yl.len Try.underlying62 rfl) rfl rfl ?_
        refine T.y (fun w hw => Yl.move rfl) rfl rfl ?_
        refine T.y (fun w hw => Yl.move rfl) rfl rfl ?_
        refine T.y (fun w hw => Yl.move rfl) rfl rfl ?_
        refine T.y (fun w hw => Yl.ia1 sC Try.underlying37 isz_3 rfl rfl rfl (by omega)) rfl rfl ?_
        refine T.y (fun w hw => (by first | exact Yl.ldC hw na_3 rfl mM | exact Yl.ldI hw mM na_3 rfl (by omega) | exact Yl.ldR sC na_3 rfl (by assumption) | exact Yl.ldV hw na_3 rfl mM rfl)) rfl rfl ?_
        refine T.y (fun w hw => Yl.sub rfl rfl (by omega)) rfl rfl ?_
        refine T.y (fun w hw => Yl.eql rfl rfl) rfl rfl ?_
        refine T.y (fun w hw => Yl.pickT rfl rfl) rfl rfl ?_
        refine T.y (fun w hw => Yl.move rfl) rfl rfl ?_
        refine T.splitD 137 rfl (fun h137 => ?_) (fun h137 => ?_)
        ·skip
         refine T.o (OpW.call en_43 rfl (awake17_ct)) rfl rfl (fun x hx => ?_)
         refine T.y (fun w hw => Yl.pickT rfl rfl) rfl rfl ?_
         refine T.y (fun w hw => Yl.assign rfl) rfl rfl ?_
         refine T.nil ?_
         refine J.sel (.cons 4 rfl .nil) ?_
         refine X.then_ ?_
         refine T.ret ?_
         refine X.ret1 Try.results18 rfl (fun w hw => ?_)
         exact ⟨(), trivial, rfl, hw.f⟩
        · exfalso; (first | omega | exact absurd rfl (by assumption))
       · exfalso; (first | omega | exact absurd rfl (by assumption))
     ·skip
      refine T.off rfl rfl rfl ?_
      refine T.off rfl rfl rfl ?_
      refine T.off rfl rfl rfl ?_
      refine T.off rfl rfl rfl ?_
      refine T.off rfl rfl rfl ?_
      refine T.off rfl rfl rfl ?_
      refine T.off rfl rfl rfl ?_
      refine T.y (fun w hw => Yl.pickF rfl rfl) rfl rfl ?_
      refine T.nil ?_
      refine J.sel (.cons 1 rfl (.cons 6 rfl (.cons 10 rfl (.cons 11 rfl (.cons 16 rfl (.cons 120 rfl .nil)))))) ?_
      refine X.then_ ?_
      refine T.condF rfl ?_
      refine T.exit ?_
      refine X.exit_then ?_
      refine X.exit_then ?_
      refine X.exit_blk ?_
      refine X.then_ ?_
      refine T.seq ?_
      have hmn : m = n := end_want hm hn hnx (by first | (left; omega) | (right; rw [hrd (m + 1) (by omega)] at h120; omega))
      subst hmn
      have hrm := hrd m hn
      -- region 28 (law.go:140)
      refine T.region ?_
      refine T.y (fun w hw => Yl.move rfl) rfl rfl ?_
      refine T.y (fun w hw => Yl.move rfl) rfl rfl ?_
      refine T.y (fun w hw => Yl.eql rfl rfl) rfl rfl ?_
      refine T.y (fun w hw => Yl.move rfl) rfl rfl ?_
      refine T.splitD 126 rfl (fun h126 => ?_) (fun h126 => ?_)
      ·skip
       refine T.y (fun w hw => Yl.move rfl) rfl rfl ?_
       refine T.y (fun w hw => Yl.len Try.underlying62 rfl) rfl rfl ?_
       refine T.y (fun w hw => Yl.move rfl) rfl rfl ?_
       refine T.y (fun w hw => Yl.move rfl) rfl rfl ?_
       refine T.y (fun w hw => Yl.move rfl) rfl rfl ?_
       refine T.y (fun w hw => Yl.ia1 sC Try.underlying37 isz_3 rfl rfl rfl (by omega)) rfl rfl ?_
       refine T.y (fun w hw => (by first | exact Yl.ldC hw na_3 rfl mM | exact Yl.ldI hw mM na_3 rfl (by omega) | exact Yl.ldR sC na_3 rfl (by assumption) | exact Yl.ldV hw na_3 rfl mM rfl)) rfl rfl ?_
       refine T.y (fun w hw => Yl.sub rfl rfl (by omega)) rfl rfl ?_
       refine T.y (fun w hw => Yl.eql rfl rfl) rfl rfl ?_
       refine T.y (fun w hw => Yl.pickT rfl rfl) rfl rfl ?_
       refine T.y (fun w hw => Yl.move rfl) rfl rfl ?_
       refine T.splitD 137 rfl (fun h137 => ?_) (fun h137 => ?_)
       ·skip
        refine T.o (OpW.call en_43 rfl (awake17_ct)) rfl rfl (fun x hx => ?_)
        refine T.y (fun w hw => Yl.pickT rfl rfl) rfl rfl ?_
        refine T.y (fun w hw => Yl.assign rfl) rfl rfl ?_
        refine T.nil ?_
        refine J.sel (.cons 4 rfl .nil) ?_
        refine X.then_ ?_
        refine T.ret ?_
        refine X.ret1 Try.results18 rfl (fun w hw => ?_)
        exact ⟨(), trivial, rfl, hw.f⟩
       · exfalso; (first | omega | exact absurd rfl (by assumption))
      · exfalso; (first | omega | exact absurd rfl (by assumption))
    ·skip
     obtain ⟨hle, hE, hR⟩ : endN l (n + 1) ≤ x ∧ decE (((allB l).take x).drop (endN l n)) = 0 ∧ decR (((allB l).take x).drop (endN l n)) = (b, 1, ((encB b 1).length : Int)) := by
       rcases hcase with hE | ⟨_, hE⟩
       · exact hE
       · exact absurd hE h74
     rw [hE, hR]
     dsimp only
     refine T.skip ?_
     refine X.then_ ?_
     refine T.seq ?_
     refine T.seq ?_
     -- region 21 (law.go:130)
     refine Dr.start0 [] ?_
     refine Dr.take 0 rfl (by kernel_rfl) bL sS (fun w hs => have hw := hs.h; Yl.move rfl) rfl rfl ?_
     refine Dr.take 1 rfl (by kernel_rfl) bL sS (fun w hs => have hw := hs.h; Yl.neq rfl rfl) rfl rfl ?_
     refine Dr.take 2 rfl (by kernel_rfl) bL sS (fun w hs => have hw := hs.h; Yl.move rfl) rfl rfl ?_
     refine Dr.take 3 rfl (by kernel_rfl) bL sS (fun w hs => have hw := hs.h; Yl.move rfl) rfl rfl ?_
     refine Dr.take 4 rfl (by kernel_rfl) bL sS (fun w hs => have hw := hs.h; Yl.move rfl) rfl rfl ?_
     refine Dr.take 5 rfl (by kernel_rfl) bL sS (fun w hs => have hw := hs.h; Yl.len Try.underlying110 rfl) rfl rfl ?_
     refine Dr.take 6 rfl (by kernel_rfl) bL sS (fun w hs => have hw := hs.h; Yl.geq rfl rfl) rfl rfl ?_
     refine Dr.take 7 rfl (by kernel_rfl) bL sS (fun w hs => have hw := hs.h; Yl.pickF rfl rfl) rfl rfl ?_
     refine Dr.take 8 rfl (by kernel_rfl) bL sS (fun w hs => have hw := hs.h; Yl.move rfl) rfl rfl ?_
     refine T.splitD 83 rfl (fun h83 => ?_) (fun h83 => ?_)
     · exfalso; (first | omega | exact absurd rfl (by assumption))
     ·skip
      refine Dr.take 9 rfl (by kernel_rfl) bL sS (fun w hs => have hw := hs.h; Yl.ldaP hw ag_55 rfl mM sU) rfl rfl ?_
      refine Dr.take 10 rfl (by kernel_rfl) bL sS (fun w hs => have hw := hs.h; Yl.move rfl) rfl rfl ?_
      refine Dr.take 11 rfl (by kernel_rfl) bL sS (fun w hs => have hw := hs.h; Yl.move rfl) rfl rfl ?_
      refine Dr.take 12 rfl (by kernel_rfl) bL sS (fun w hs => have hw := hs.h; (by first | exact Yl.iaV hw mM Try.underlying110 isz_55 rfl rfl rfl (by omega) | exact Yl.ia Try.underlying110 isz_55 rfl rfl rfl (by omega) sC)) rfl rfl ?_
      refine Dr.take 13 rfl (by kernel_rfl) bL sS (fun w hs => have hw := hs.h; (by first | exact Yl.ldaV hw ag_55 rfl mM rfl | exact Yl.ldaR sC ag_55 rfl sU)) rfl rfl ?_
      refine Dr.act 14 rfl (by kernel_rfl) rfl (OpW.call en_71 rfl (sameBatch_ct (a := b) (b := b) mM mM)) rfl rfl (fun _ _ _ => sS) (fun _ _ => ?_)
      rw [eqv_yes rfl]
      refine Dr.take 15 rfl (by kernel_rfl) bL sS (fun w hs => have hw := hs.h; Yl.not rfl) rfl rfl ?_
      refine Dr.take 16 rfl (by kernel_rfl) bL sS (fun w hs => have hw := hs.h; Yl.pickF rfl rfl) rfl rfl ?_
      refine Dr.take 17 rfl (by kernel_rfl) bL sS (fun w hs => have hw := hs.h; Yl.move rfl) rfl rfl ?_
      refine Dr.take 18 rfl (by kernel_rfl) bL sS (fun w hs => have hw := hs.h; Yl.move rfl) rfl rfl ?_
      refine Dr.take 19 rfl (by kernel_rfl) bL sS (fun w hs => have hw := hs.h; Yl.lss rfl rfl) rfl rfl ?_
      refine Dr.take 20 rfl (by kernel_rfl) bL sS (fun w hs => have hw := hs.h; Yl.pickF rfl rfl) rfl rfl ?_
      refine Dr.take 21 rfl (by kernel_rfl) bL sS (fun w hs => have hw := hs.h; Yl.move rfl) rfl rfl ?_
      refine T.splitD 96 rfl (fun h96 => ?_) (fun h96 => ?_)
      · exfalso; (first | omega | exact absurd rfl (by assumption))
      ·skip
       refine Dr.take 22 rfl (by kernel_rfl) bL sS (fun w hs => have hw := hs.h; Yl.move rfl) rfl rfl ?_
       refine Dr.take 23 rfl (by kernel_rfl) bL sS (fun w hs => have hw := hs.h; Yl.move rfl) rfl rfl ?_
       refine Dr.take 24 rfl (by kernel_rfl) bL sS (fun w hs => have hw := hs.h; Yl.len Try.underlying62 rfl) rfl rfl ?_
       refine Dr.take 25 rfl (by kernel_rfl) bL sS (fun w hs => have hw := hs.h; Yl.gtr rfl rfl) rfl rfl ?_
       refine Dr.take 26 rfl (by kernel_rfl) bL sS (fun w hs => have hw := hs.h; Yl.pickF rfl rfl) rfl rfl ?_
       refine Dr.done (by kernel_rfl) ?_
       refine J.sel (.cons 0 rfl (.cons 1 rfl (.cons 6 rfl (.cons 10 rfl (.cons 11 rfl (.cons 14 rfl (.cons 101 rfl .nil))))))) ?_
       refine X.then_ ?_
       refine T.condD rfl (fun h101 => ?_) (fun h101 => ?_)
       · exfalso; (first | omega | exact absurd rfl (by assumption))
       ·skip
        refine T.skip ?_
        refine X.then_ ?_
        refine T.seq ?_
        -- region 23 (law.go:133)
        refine T.region ?_
        refine T.y (fun w hw => Yl.move rfl) rfl rfl ?_
        refine T.y (fun w hw => Yl.move rfl) rfl rfl ?_
        refine T.y (fun w hw => Yl.slLo Try.underlying62 sz_23 rfl rfl (l := (encB b 1).length) rfl (by omega) (by omega)) rfl rfl ?_
        refine T.y (fun w hw => Yl.assign rfl) rfl rfl ?_
        refine T.nil ?_
        refine J.sel (.cons 0 rfl (.cons 1 rfl (.cons 6 rfl (.cons 10 rfl (.cons 11 rfl .nil))))) ?_
        refine X.then_ ?_
        -- region 24 (law.go:134)
        refine T.region ?_
        refine T.y (fun w hw => Yl.move rfl) rfl rfl ?_
        refine T.y (fun w hw => Yl.add rfl rfl (by omega)) rfl rfl ?_
        refine T.y (fun w hw => Yl.assign rfl) rfl rfl ?_
        refine T.nil ?_
        refine J.sel (.cons 0 rfl (.cons 1 rfl (.cons 6 rfl (.cons 10 rfl (.cons 11 rfl .nil))))) ?_
        refine X.nm_blk ?_
        refine X.go (hzq (n + 1, slA Ar cr (encB b 1).length 1, cr - (encB b 1).length) ⟨by dsimp only; omega, by dsimp only; omega⟩ (by dsimp only; omega)) (.eqv 10 rfl (by rw [← List.length_drop, List.drop_drop, endN_succ hbb]) (.num 11 rfl (by omega) (.cons 0 rfl (.cons 1 rfl (.cons 6 rfl .nil))))) (fun w hw => ?_)
        dsimp only
        have hw := hw.rows_suf (A := Ar) (c := cr) (rows := ((allB l).take x).drop (endN l n)) mM (encB b 1).length (by omega)
        rw [List.drop_drop, ← endN_succ hbb] at hw
        exact hw.f
   ·skip
    refine T.exit ?_
    refine X.exit_then ?_
    refine X.exit_then ?_
    refine X.exit_blk ?_
    refine X.then_ ?_
    refine T.seq ?_
    have hlr : (((allB l).take x).drop (endN l n)).length = x - endN l n := by rw [List.length_drop, List.length_take]; omega
    replace hfin : n = l.length ∨ x < endN l (n + 1) := by
      first
        | exact hfin
        | exact end_fin hcan hn (by omega) hx2
    have hrd := fun (j : Nat) (hj : j ≤ l.length) => endsL_rd (l := l) (i := l.length) hj
    have hmono := fun (i j : Nat) (h : i ≤ j) => endN_mono l h
    have hel := endsL_length l l.length
    -- region 25 (law.go:136)
    refine T.region ?_
    refine T.y (fun w hw => Yl.assign rfl) rfl rfl ?_
    refine T.nil ?_
    refine J.sel (.cons 1 rfl (.cons 6 rfl (.cons 10 rfl (.cons 11 rfl (.cons 16 rfl .nil))))) ?_
    refine X.then_ ?_
    refine T.seq ?_
    refine T.block ?_
    refine T.loop (α := Nat) (fun m => m ≤ n) (fun m => [(16, .int .i64 (m : Int)), (1, .int .i64 (x : Int)), (6, .slice Ae (endsL l l.length).length ce), (10, .slice Ar (((allB l).take x).drop (endN l n)).length cr), (11, .int .i64 (n : Int))]) (fun m => M) (fun m => intsK Ae ce (endsL l l.length) :: K) (fun m => n - m) 0 (Nat.zero_le _) (.num 16 rfl rfl (.cons 1 rfl (.eqv 6 rfl (by rw [endsL_length]) (.cons 10 rfl (.cons 11 rfl .nil))))) (fun w hw => hw.f) ?_
    intro m hm Zk hz2
    refine T.seq ?_
    refine T.seq ?_
    -- region 26 (law.go:137)
    refine T.region ?_
    refine T.y (fun w hw => Yl.move rfl) rfl rfl ?_
    refine T.y (fun w hw => Yl.add rfl rfl (by omega)) rfl rfl ?_
    refine T.y (fun w hw => Yl.move rfl) rfl rfl ?_
    refine T.y (fun w hw => Yl.len Try.underlying37 rfl) rfl rfl ?_
    refine T.y (fun w hw => Yl.lss rfl rfl) rfl rfl ?_
    refine T.y (fun w hw => Yl.move rfl) rfl rfl ?_
    refine T.splitD 112 rfl (fun h112 => ?_) (fun h112 => ?_)
    ·skip
     refine T.y (fun w hw => Yl.move rfl) rfl rfl ?_
     refine T.y (fun w hw => Yl.move rfl) rfl rfl ?_
     refine T.y (fun w hw => Yl.add rfl rfl (by omega)) rfl rfl ?_
     refine T.y (fun w hw => Yl.ia1 (i := m + 1) sC Try.underlying37 isz_3 rfl rfl (by push_cast; rfl) (by omega)) rfl rfl ?_
     refine T.y (fun w hw => (by first | exact Yl.ldC hw na_3 rfl mM | exact Yl.ldI hw mM na_3 rfl (by omega) | exact Yl.ldR sC na_3 rfl (by assumption) | exact Yl.ldV hw na_3 rfl mM rfl)) rfl rfl ?_
     refine T.y (fun w hw => Yl.move rfl) rfl rfl ?_
     refine T.y (fun w hw => Yl.leq rfl rfl) rfl rfl ?_
     refine T.y (fun w hw => Yl.pickT rfl rfl) rfl rfl ?_
     refine T.nil ?_
     refine J.sel (.cons 1 rfl (.cons 6 rfl (.cons 10 rfl (.cons 11 rfl (.cons 16 rfl (.cons 120 rfl .nil)))))) ?_
     refine X.then_ ?_
     refine T.condD rfl (fun h120 => ?_) (fun h120 => ?_)
     ·skip
      refine T.skip ?_
      refine X.then_ ?_
      refine T.block ?_
      -- region 27 (law.go:138)
      refine T.region ?_
      refine T.y (fun w hw => Yl.move rfl) rfl rfl ?_
      refine T.y (fun w hw => Yl.add rfl rfl (by omega)) rfl rfl ?_
      refine T.y (fun w hw => Yl.assign rfl) rfl rfl ?_
      refine T.nil ?_
      refine J.sel (.cons 1 rfl (.cons 6 rfl (.cons 10 rfl (.cons 11 rfl (.cons 16 rfl .nil))))) ?_
      refine X.nm_blk ?_
      rw [hrd (m + 1) (by omega)] at h120
      refine X.go (hz2 (m + 1) (end_step hm hfin (by omega)) (by have := end_step hm hfin (show endN l (m + 1) ≤ x ∧ m < l.length by omega); omega)) (.num 16 rfl (by omega) (.cons 1 rfl (.cons 6 rfl (.cons 10 rfl (.cons 11 rfl .nil))))) (fun w hw => ?_)
      exact hw.f
     ·skip
      refine T.exit ?_
      refine X.exit_then ?_
      refine X.exit_then ?_
      refine X.exit_blk ?_
      refine X.then_ ?_
      refine T.seq ?_
      have hmn : m = n := end_want hm hn hnx (by first | (left; omega) | (right; rw [hrd (m + 1) (by omega)] at h120; omega))
      subst hmn
      have hrm := hrd m hn
      -- region 28 (law.go:140)
      refine T.region ?_
      refine T.y (fun w hw => Yl.move rfl) rfl rfl ?_
      refine T.y (fun w hw => Yl.move rfl) rfl rfl ?_
      refine T.y (fun w hw => Yl.eql rfl rfl) rfl rfl ?_
      refine T.y (fun w hw => Yl.move rfl) rfl rfl ?_
      refine T.splitD 126 rfl (fun h126 => ?_) (fun h126 => ?_)
      ·skip
       refine T.y (fun w hw => Yl.move rfl) rfl rfl ?_
       refine T.y (fun w hw => Yl.len Try.underlying62 rfl) rfl rfl ?_
       refine T.y (fun w hw => Yl.move rfl) rfl rfl ?_
       refine T.y (fun w hw => Yl.move rfl) rfl rfl ?_
       refine T.y (fun w hw => Yl.move rfl) rfl rfl ?_
       refine T.y (fun w hw => Yl.ia1 sC Try.underlying37 isz_3 rfl rfl rfl (by omega)) rfl rfl ?_
       refine T.y (fun w hw => (by first | exact Yl.ldC hw na_3 rfl mM | exact Yl.ldI hw mM na_3 rfl (by omega) | exact Yl.ldR sC na_3 rfl (by assumption) | exact Yl.ldV hw na_3 rfl mM rfl)) rfl rfl ?_
       refine T.y (fun w hw => Yl.sub rfl rfl (by omega)) rfl rfl ?_
       refine T.y (fun w hw => Yl.eql rfl rfl) rfl rfl ?_
       refine T.y (fun w hw => Yl.pickT rfl rfl) rfl rfl ?_
       refine T.y (fun w hw => Yl.move rfl) rfl rfl ?_
       refine T.splitD 137 rfl (fun h137 => ?_) (fun h137 => ?_)
       ·skip
        refine T.o (OpW.call en_43 rfl (awake17_ct)) rfl rfl (fun x hx => ?_)
        refine T.y (fun w hw => Yl.pickT rfl rfl) rfl rfl ?_
        refine T.y (fun w hw => Yl.assign rfl) rfl rfl ?_
        refine T.nil ?_
        refine J.sel (.cons 4 rfl .nil) ?_
        refine X.then_ ?_
        refine T.ret ?_
        refine X.ret1 Try.results18 rfl (fun w hw => ?_)
        exact ⟨(), trivial, rfl, hw.f⟩
       · exfalso; (first | omega | exact absurd rfl (by assumption))
      · exfalso; (first | omega | exact absurd rfl (by assumption))
    ·skip
     refine T.off rfl rfl rfl ?_
     refine T.off rfl rfl rfl ?_
     refine T.off rfl rfl rfl ?_
     refine T.off rfl rfl rfl ?_
     refine T.off rfl rfl rfl ?_
     refine T.off rfl rfl rfl ?_
     refine T.off rfl rfl rfl ?_
     refine T.y (fun w hw => Yl.pickF rfl rfl) rfl rfl ?_
     refine T.nil ?_
     refine J.sel (.cons 1 rfl (.cons 6 rfl (.cons 10 rfl (.cons 11 rfl (.cons 16 rfl (.cons 120 rfl .nil)))))) ?_
     refine X.then_ ?_
     refine T.condF rfl ?_
     refine T.exit ?_
     refine X.exit_then ?_
     refine X.exit_then ?_
     refine X.exit_blk ?_
     refine X.then_ ?_
     refine T.seq ?_
     have hmn : m = n := end_want hm hn hnx (by first | (left; omega) | (right; rw [hrd (m + 1) (by omega)] at h120; omega))
     subst hmn
     have hrm := hrd m hn
     -- region 28 (law.go:140)
     refine T.region ?_
     refine T.y (fun w hw => Yl.move rfl) rfl rfl ?_
     refine T.y (fun w hw => Yl.move rfl) rfl rfl ?_
     refine T.y (fun w hw => Yl.eql rfl rfl) rfl rfl ?_
     refine T.y (fun w hw => Yl.move rfl) rfl rfl ?_
     refine T.splitD 126 rfl (fun h126 => ?_) (fun h126 => ?_)
     ·skip
      refine T.y (fun w hw => Yl.move rfl) rfl rfl ?_
      refine T.y (fun w hw => Yl.len Try.underlying62 rfl) rfl rfl ?_
      refine T.y (fun w hw => Yl.move rfl) rfl rfl ?_
      refine T.y (fun w hw => Yl.move rfl) rfl rfl ?_
      refine T.y (fun w hw => Yl.move rfl) rfl rfl ?_
      refine T.y (fun w hw => Yl.ia1 sC Try.underlying37 isz_3 rfl rfl rfl (by omega)) rfl rfl ?_
      refine T.y (fun w hw => (by first | exact Yl.ldC hw na_3 rfl mM | exact Yl.ldI hw mM na_3 rfl (by omega) | exact Yl.ldR sC na_3 rfl (by assumption) | exact Yl.ldV hw na_3 rfl mM rfl)) rfl rfl ?_
      refine T.y (fun w hw => Yl.sub rfl rfl (by omega)) rfl rfl ?_
      refine T.y (fun w hw => Yl.eql rfl rfl) rfl rfl ?_
      refine T.y (fun w hw => Yl.pickT rfl rfl) rfl rfl ?_
      refine T.y (fun w hw => Yl.move rfl) rfl rfl ?_
      refine T.splitD 137 rfl (fun h137 => ?_) (fun h137 => ?_)
      ·skip
       refine T.o (OpW.call en_43 rfl (awake17_ct)) rfl rfl (fun x hx => ?_)
       refine T.y (fun w hw => Yl.pickT rfl rfl) rfl rfl ?_
       refine T.y (fun w hw => Yl.assign rfl) rfl rfl ?_
       refine T.nil ?_
       refine J.sel (.cons 4 rfl .nil) ?_
       refine X.then_ ?_
       refine T.ret ?_
       refine X.ret1 Try.results18 rfl (fun w hw => ?_)
       exact ⟨(), trivial, rfl, hw.f⟩
      · exfalso; (first | omega | exact absurd rfl (by assumption))
     · exfalso; (first | omega | exact absurd rfl (by assumption))

theorem batchRow_walk {w : World} (l : List BatL) (v : Value) (A : Option Addr) (c : Nat) (he : v = .slice A l.length c) (hb : (viewK 2 batE A c l).sat w (fun k => k < w.heap.size)) (cut : Int) : Calls Try.prog 18 #[v, .int .i64 cut] w fun e w' => e = .returned (.bool true) ∧ Below w.heap.size w w' := by
  subst he
  exact law_of (vs := [.slice A l.length c, .int .i64 cut]) (K := [viewK 2 batE A c l]) (row_law_ct (.tail _ (.head _))) (fun k' hk' => by rw [List.mem_singleton.1 hk']; exact hb)
end Go.Proofs.Ytfpnodboebpemaa
