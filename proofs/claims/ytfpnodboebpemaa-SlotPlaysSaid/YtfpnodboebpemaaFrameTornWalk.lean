/- The walk of FrameTorn. -/
import Derived.Test.YtfpnodboebpemaaDecM
import Derived.Test.YtfpnodboebpemaaArg
namespace Go.Proofs.Ytfpnodboebpemaa
open Go.RowKit Go.Proofs.YtfpnodboebpemaaW.PrintWords
set_option linter.unusedVariables false
set_option linter.unusedSimpArgs false

/-- Torn as far as the loop has come. -/
def tornTo (p : List Int) (j : Nat) : List Int := p.take 32 ++ (((p.drop 32).take (j - 32)).map (fun x => ((x.toNat ^^^ 85 : Nat) : Int)) ++ p.drop j)
theorem tornTo_length (p : List Int) (j : Nat) (h : p.length = 64) (h1 : 32 ≤ j) (h2 : j ≤ 64) : (tornTo p j).length = 64 := by simp [tornTo]; omega
theorem tornTo_rd (p : List Int) (j : Nat) (h : p.length = 64) (h1 : 32 ≤ j) (h2 : j < 64) : rd (tornTo p j) j = rd p j := by
  unfold rd
  rw [Int.toNat_natCast]
  simp only [tornTo, List.getD_eq_getElem?_getD]
  congr 1
  rw [List.getElem?_append_right (by simp; omega), List.getElem?_append_right (by simp; omega), List.getElem?_drop]
  congr 1
  simp; omega
theorem tornTo_step (p : List Int) (j : Nat) (h : p.length = 64) (h1 : 32 ≤ j) (h2 : j < 64) : (tornTo p j).set j (((rd p j).toNat ^^^ 85 : Nat) : Int) = tornTo p (j + 1) := by
  have hp : rd p j = p[j]'(by omega) := by simp [rd, h, h2]
  unfold tornTo
  rw [List.set_append_right _ _ (by simp; omega), List.set_append_right _ _ (by simp; omega)]
  congr 1
  have e1 : p.drop j = p[j]'(by omega) :: p.drop (j + 1) := List.drop_eq_getElem_cons (by omega)
  have e2 : (p.drop 32).take (j + 1 - 32) = (p.drop 32).take (j - 32) ++ [p[j]'(by omega)] := by
    rw [show j + 1 - 32 = (j - 32) + 1 by omega, List.take_add_one, List.getElem?_drop, show 32 + (j - 32) = j by omega, List.getElem?_eq_getElem (by omega)]
    rfl
  rw [e2, e1, hp, List.map_append, List.append_assoc]
  congr 1
  have e3 : j - (p.take 32).length - (((p.drop 32).take (j - 32)).map (fun x => ((x.toNat ^^^ 85 : Nat) : Int))).length = 0 := by simp; omega
  rw [e3]; rfl
theorem tornTo_end (p : List Int) (h : p.length = 64) : tornTo p 64 = tornL p := by
  unfold tornTo tornL
  rw [List.take_of_length_le (show (p.drop 32).length ≤ 64 - 32 by simp; omega), List.drop_of_length_le (show p.length ≤ 64 by omega), List.append_nil]

set_option maxRecDepth 100000 in
set_option maxHeartbeats 4000000 in
theorem frameTorn_walk {w : World} (a : Fb) (u : Value) (hxa : Byt (fun k => k < w.heap.size) w u a.body) (hba : IsB a.body) (hint : a.ints) :
    Calls Try.prog 11 #[a.val u] w fun e w' => e = .returned (.bool true) ∧ Below w.heap.size w w' := by
  clear hint
  obtain ⟨A, ca, rfl, _⟩ := hxa.open_
  unfold Fb.val
  have hB0 : Below w.heap.size w (w.alloc (.cells #[.int .i64 a.kind, .int .i64 a.epoch, .int .i64 a.seq, .int .i64 a.lba, .slice A a.body.length ca] 31)) := (Below.refl _ _).alloc (Nat.le_refl _) _
  by_cases h1 : 300 < a.body.length
  · go_enter Try.func11, Try.ntmps11
    go_wp2_with fail
    refine (awake8 _).mono ?_
    rintro e w1 ⟨rfl, hb⟩
    go_wp2
    go_ret
    exact ⟨rfl, hB0.trans (hb.mono hB0.size)⟩
  go_enter Try.func11, Try.ntmps11
  go_wp2_with fail
  refine (made_any a A _ ca _).mono ?_
  rintro e w1 ⟨rfl, hb1⟩
  have hB1 : Below w.heap.size w w1 := hB0.trans (hb1.mono hB0.size)
  go_wp2_with fail
  refine (encode_any _ a _ _ (hxa.below hB1) hba).mono ?_
  rintro e w2 ⟨p, rfl, hop, hb2⟩
  have hB2 : Below w.heap.size w w2 := hB1.trans (hb2.mono hB1.size)
  have hs2 := hB2.size
  clear hb1 hb2 hB0 hB1
  generalize hga : w.heap.size = g at *
  by_cases he : a.err = 0
  · rw [he] at hop ⊢
    rw [if_pos rfl] at hop
    obtain ⟨fa, la⟩ := err_fits he
    have hl := enc_length a la
    have hdt := dec_torn a fa la hba
    have hbb := enc_b a fa la hba
    clear he h1
    generalize a.enc = P at *
    obtain ⟨v3, w3, hr3, ho3, hb3⟩ := append_empty _ w2 p P hop.fresh (by omega)
    obtain ⟨b, c, rfl, hbg, hbl, hc, hm⟩ := ho3.lay (by omega)
    have HL := Lib.hid hl
    rw [hl] at hr3 ho3 hc
    have H3 := Lib.hid hr3
    have HD := Lib.hid hdt
    have hB3 := hB2.trans (hb3.mono hs2)
    have hs3 : w2.heap.size ≤ w3.heap.size := hb3.size
    clear hr3 hop hb3 hdt fa la hl
    go_wp2_with (at_builtin; refine Lib.wpList_append_run _ rfl _ _ _ _ rfl _ _ rfl rfl _ _ H3.out ?_)
    go_loopw [6] (fun i wr => ∃ j : Nat, 32 ≤ j ∧ j ≤ 64 ∧ i = .int .i64 j ∧ BytO wr w2.heap.size (.slice (some ⟨b, 0, none⟩) 64 c) (tornTo P j) ∧ Below g w wr) (fun i _ => 64 - (intOf i).toNat)
    case atStart => exact ⟨32, Nat.le_refl _, by omega, rfl, by simpa [tornTo] using ho3, hB3⟩
    case round =>
      obtain ⟨j, hj1, hj2, rfl, hoj, hBj⟩ := hrel
      by_cases hlt : j < 64
      · have HT := Lib.hid (tornTo_step P j HL.out hj1 hlt)
        have htl := tornTo_length P j HL.out hj1 hj2
        have hrd := tornTo_rd P j HL.out hj1 hlt
        obtain ⟨cj, fj⟩ := hoj.get j (by omega)
        rw [hrd] at cj
        obtain ⟨r0, r1⟩ := rd_b P j (by rw [HL.out]; exact hlt) hbb
        have hx : bits .xor .u8 (rd P j) 85 = (((rd P j).toNat ^^^ 85 : Nat) : Int) := by
          obtain ⟨n, hn⟩ := Int.eq_ofNat_of_zero_le r0
          rw [hn, Int.toNat_natCast]
          exact u8_xor_nat n 85 (by omega) (by omega)
        have hj0 : (0 : Int) ≤ j := by omega
        have hset := hoj.set j (by omega) (((rd P j).toNat ^^^ 85 : Nat) : Int)
        rw [HT.out] at hset
        have HS := Lib.hid hset
        have hbj : b < wr.heap.size := by
          have := World.block_lt_of_cell? wr _ cj; exact this
        clear hset htl hrd hoj ho3
        go_wp2
        go_roundw
        case rel =>
          refine ⟨j + 1, by omega, by omega, by go_num, ?_, ?_⟩
          · exact HS.out
          · exact hBj.setCell (by show g ≤ b; omega) _
        case measure => simp [intOf]; omega
      · have hj : j = 64 := by omega
        subst hj
        rw [tornTo_end P HL.out] at hoj
        have htl := torn_length P HL.out
        have htb := torn_b hbb
        clear ho3 hB3 hbl
        go_wp2_with fail
        refine (decode_any _ (tornL P) _ _ hoj.fresh htb).mono ?_
        rintro e w4 ⟨r, rfl, hr, hb4⟩
        rw [HD.out]
        have hx : decB (tornL P) = ⟨0, 0, 0, 0, []⟩ := by unfold decB; rw [HD.out]; rfl
        rw [hx] at hr ⊢
        unfold Fb.val
        have hB4 := hBj.trans (hb4.mono (by have := hBj.size; omega))
        have hs4 : wr.heap.size ≤ w4.heap.size := hb4.size
        have hsj := hBj.size
        obtain ⟨A4, c4, rfl⟩ := hr.shape
        clear hr hx hoj htl htb
        go_wp2_with fail
        refine (awake8 _).mono ?_
        rintro e w5 ⟨rfl, hb5⟩
        go_wp2
        go_ret
        exact ⟨rfl, by rw [hga]; exact below_now (hB4.alloc (by omega) _) (by simp; omega) hb5⟩
  · have hn : (a.err != 0) = true := by simp [he]
    clear hop he
    go_wp2_with fail
    refine (awake8 _).mono ?_
    rintro e w5 ⟨rfl, hb5⟩
    go_wp2
    go_ret
    exact ⟨rfl, by rw [hga]; exact hB2.trans (hb5.mono hs2)⟩
end Go.Proofs.Ytfpnodboebpemaa
