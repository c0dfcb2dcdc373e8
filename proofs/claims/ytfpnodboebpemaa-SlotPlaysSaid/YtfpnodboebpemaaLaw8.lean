/- What the laws of chapter 8 call of their own: awake, made, same. -/
import Derived.Test.YtfpnodboebpemaaFrm
import Derived.Test.YtfpnodboebpemaaAlk
namespace Go.Proofs.Ytfpnodboebpemaa
open Go.RowKit Go.Proofs.YtfpnodboebpemaaW.PrintWords
set_option linter.unusedVariables false
set_option linter.unusedSimpArgs false

theorem core_length (b : Fb) (h : b.body.length ≤ 40) : b.core.length = 60 := by
  simp [Fb.core, Fb.head, le_length]; omega
theorem enc_length (b : Fb) (h : b.body.length ≤ 40) : b.enc.length = 64 := by
  simp [Fb.enc, core_length b h, le_length]
theorem enc_rd0 (b : Fb) : rd b.enc 0 = b.kind := by simp [Fb.enc, Fb.core, Fb.head, rd]
theorem enc_cons (b : Fb) : ∃ t, b.enc = b.kind :: t := ⟨_, rfl⟩
theorem enc_plain (b : Fb) (h : 1 ≤ b.kind) : plain b.enc = false := by
  obtain ⟨t, ht⟩ := enc_cons b
  simp [plain, ht]; intro _ h0; omega

set_option maxRecDepth 100000 in
set_option maxHeartbeats 1000000 in
theorem awake8 (w : World) : Calls Try.prog 27 #[] w fun e w' => e = .returned (.bool true) ∧ Below w.heap.size w w' := by
  have hmk : ∀ W : World, (Instr.makeSlice 23 (.int .i64 64) (.int .i64 64)).run Try.prog W = .ok (.slice (some ⟨W.heap.size, 0, none⟩) 64 64) (W.alloc (.cells (madeCells #[.int .u8 0] 64) 5)) := print_make (P := Try.prog) 23 5 .u8 1 Try.underlying23 info5 (by decide) 64 (by omega)
  go_enter Try.func27, Try.ntmps27
  go_wp2_with fail
  have hn : Byt (fun _ => True) w (.slice none 0 0) (Fb.mk 4 0 0 0 []).body := Byt.nil _ _
  refine (encode_any (fun _ => True) ⟨4, 0, 0, 0, []⟩ (.slice none 0 0) _ hn (by intro x hx; cases hx)).mono ?_
  rintro e w1 ⟨r, rfl, ho, hb1⟩
  have he : (Fb.mk 4 0 0 0 []).err = 0 := by decide
  rw [he] at ho ⊢
  rw [if_pos rfl] at ho
  have hl := enc_length ⟨4, 0, 0, 0, []⟩ (by simp)
  have h0 := enc_rd0 ⟨4, 0, 0, 0, []⟩
  have hp := enc_plain ⟨4, 0, 0, 0, []⟩ (by simp)
  generalize Fb.enc ⟨4, 0, 0, 0, []⟩ = en at *
  obtain ⟨A, c, rfl, hc, hm, hA⟩ := ho.fresh.open_
  obtain ⟨b, o, rfl, _, _, hcell⟩ := hA (by omega)
  have h1 := hcell 0 (by omega)
  simp only [Int.ofNat_zero, Nat.add_zero, h0] at h1
  rw [hl] at hc ho ⊢
  have HO := Lib.hid ho
  have HP := Lib.hid hp
  have HL := Lib.hid hl
  clear ho hp hl hcell h0 he hA
  go_wp2_with fail
  have hz : Byt (fun _ => True) (w1.alloc (.cells (madeCells #[.int .u8 0] 64) 5)) (.slice (some ⟨w1.heap.size, 0, none⟩) 64 64) (List.replicate 64 0) := by
    have h := (BA.make w1 64).o (base := 0) (Nat.zero_le _) (by simp [maxLen])
    simp only [List.length_replicate] at h
    exact h.byt (fun _ _ => trivial)
  have hzp : plain (List.replicate 64 0) = true := by decide
  refine (plain_any _ _ _ _ hz).mono ?_
  rintro e w2 ⟨rfl, rfl⟩
  rw [hzp]
  clear hz hzp
  have hB2 : Below w.heap.size w (w1.alloc (.cells (madeCells #[.int .u8 0] 64) 5)) := hb1.alloc hb1.size _
  go_wp2_with fail
  have hen : Byt (fun _ => True) (w1.alloc (.cells (madeCells #[.int .u8 0] 64) 5)) (.slice (some ⟨b, o, none⟩) 64 c) en := by
    have h := HO.out.byt (ok := fun _ => True) (fun _ _ => trivial)
    exact h.below ((Below.refl _ _).alloc (Nat.le_refl _) _)
  refine (plain_any _ _ _ _ hen).mono ?_
  rintro e w2 ⟨rfl, rfl⟩
  rw [HP.out]
  clear hen
  go_wp2
  go_ret
  exact ⟨rfl, hB2⟩

set_option maxRecDepth 100000 in
set_option maxHeartbeats 1000000 in
theorem made_any (b : Fb) (A : Option Addr) (n c : Nat) (w : World) : Calls Try.prog 30 #[b.val (.slice A n c)] w fun e w' => e = .returned (b.val (.slice A n c)) ∧ Below w.heap.size w w' := by
  unfold Fb.val
  go_enter Try.func30, Try.ntmps30
  go_wp2
  exact bodyPost_ret (v := .agg #[.int .i64 b.kind, .int .i64 b.epoch, .int .i64 b.seq, .int .i64 b.lba, .slice A n c]) (by simp [results, Try.results30, go_sem]) rfl ⟨rfl, ((Below.refl _ _).alloc (Nat.le_refl _) _).alloc (by simp) _⟩

set_option maxRecDepth 100000 in
set_option maxHeartbeats 2000000 in
theorem same_any (ok ok' : Nat → Prop) (a b : Fb) (u v : Value) (w : World) (hu : Byt ok w u a.body) (hv : Byt ok' w v b.body) :
    Calls Try.prog 32 #[a.val u, b.val v] w fun e w' => e = .returned (.bool (decide (a = b))) ∧ Below w.heap.size w w' := by
  obtain ⟨ak, ae, aq, al, ab⟩ := a
  obtain ⟨bk, be, bq, bl, bb⟩ := b
  simp only at hu hv
  obtain ⟨A, c, rfl, _⟩ := hu.open_
  obtain ⟨A', c', rfl, _⟩ := hv.open_
  unfold Fb.val
  have hB : Below w.heap.size w ((w.alloc (.cells #[.int .i64 ak, .int .i64 ae, .int .i64 aq, .int .i64 al, .slice A ab.length c] 29)).alloc (.cells #[.int .i64 bk, .int .i64 be, .int .i64 bq, .int .i64 bl, .slice A' bb.length c'] 31)) := ((Below.refl _ _).alloc (Nat.le_refl _) _).alloc (by simp) _
  by_cases h1 : ak = bk
  · by_cases h2 : ae = be
    · by_cases h3 : aq = bq
      · by_cases h4 : al = bl
        · have e1 : (ak == bk) = true := by simp [h1]
          have e2 : (ae == be) = true := by simp [h2]
          have e3 : (aq == bq) = true := by simp [h3]
          have e4 : (al == bl) = true := by simp [h4]
          have hn : decide (Fb.mk ak ae aq al ab = Fb.mk bk be bq bl bb) = decide (ab = bb) := by simp [h1, h2, h3, h4]
          have HN := Lib.hid hn
          clear hn h1 h2 h3 h4
          go_enter Try.func32, Try.ntmps32
          go_wp2_with fail
          refine (bytes_any ok ok' _ _ ab bb _ (hu.below hB) (hv.below hB)).mono ?_
          rintro e w1 ⟨rfl, n, rfl⟩
          go_wp2
          go_ret
          exact ⟨ret_of (by rw [HN.out]; rfl), hB.trans ((below_draw _ n).mono hB.size)⟩
        · have e1 : (ak == bk) = true := by simp [h1]
          have e2 : (ae == be) = true := by simp [h2]
          have e3 : (aq == bq) = true := by simp [h3]
          have e4 : (al == bl) = false := by simp [h4]
          have hn : decide (Fb.mk ak ae aq al ab = Fb.mk bk be bq bl bb) = false := by simp [h1, h2, h3, h4]
          have HN := Lib.hid hn
          clear hn h1 h2 h3 h4
          go_enter Try.func32, Try.ntmps32
          go_wp2
          go_ret
          exact ⟨ret_of (by rw [HN.out]; rfl), hB⟩
      · have e1 : (ak == bk) = true := by simp [h1]
        have e2 : (ae == be) = true := by simp [h2]
        have e3 : (aq == bq) = false := by simp [h3]
        have hn : decide (Fb.mk ak ae aq al ab = Fb.mk bk be bq bl bb) = false := by simp [h1, h2, h3]
        have HN := Lib.hid hn
        clear hn h1 h2 h3
        go_enter Try.func32, Try.ntmps32
        go_wp2
        go_ret
        exact ⟨ret_of (by rw [HN.out]; rfl), hB⟩
    · have e1 : (ak == bk) = true := by simp [h1]
      have e2 : (ae == be) = false := by simp [h2]
      have hn : decide (Fb.mk ak ae aq al ab = Fb.mk bk be bq bl bb) = false := by simp [h1, h2]
      have HN := Lib.hid hn
      clear hn h1 h2
      go_enter Try.func32, Try.ntmps32
      go_wp2
      go_ret
      exact ⟨ret_of (by rw [HN.out]; rfl), hB⟩
  · have e1 : (ak == bk) = false := by simp [h1]
    have hn : decide (Fb.mk ak ae aq al ab = Fb.mk bk be bq bl bb) = false := by simp [h1]
    have HN := Lib.hid hn
    clear hn h1
    go_enter Try.func32, Try.ntmps32
    go_wp2
    go_ret
    exact ⟨ret_of (by rw [HN.out]; rfl), hB⟩
end Go.Proofs.Ytfpnodboebpemaa
