/- The contract of scarpref6.Encode. -/
import Derived.Test.YtfpnodboebpemaaRef6
import Derived.Deep.Cut
namespace Go.Proofs.Ytfpnodboebpemaa
open Go.RowKit Go.Proofs.YtfpnodboebpemaaW.PrintWords
set_option linter.unusedVariables false
set_option linter.unusedSimpArgs false

def slLen : Value → Nat
  | .slice _ n _ => n
  | _ => 0

set_option maxRecDepth 100000 in
set_option maxHeartbeats 4000000 in
theorem encode6_ok (ok : Nat → Prop) (k e q l : Nat) (body : List Int) (v : Value) (w : World) (hx : Byt ok w v body) (hb : IsB body) (k1 : 1 ≤ k) (k2 : k ≤ 4) (e2 : e ≤ 4294967295) (s2 : q ≤ 1099511627776) (l2 : l ≤ 1048576) (hl : body.length ≤ 40) :
    Calls Try.prog 47 #[.agg #[.int .i64 k, .int .i64 e, .int .i64 q, .int .i64 l, v]] w fun en w' => ∃ r, en = .returned (.tuple #[r, .int .i64 0]) ∧ BytO w' w.heap.size r (Fb.enc ⟨k, e, q, l, body⟩) ∧ Below w.heap.size w w' := by
  obtain ⟨A, c, rfl, hc, hm, hA⟩ := hx.open_
  have hx := hx.mono (ok' := fun i => i < w.heap.size) (fun i h _ => h)
  have hg := Blk.new w 31 #[.int .i64 k, .int .i64 e, .int .i64 q, .int .i64 l, .slice A body.length c]
  have hB0 : Below w.heap.size w (w.alloc (.cells #[.int .i64 k, .int .i64 e, .int .i64 q, .int .i64 l, .slice A body.length c] 31)) := (Below.refl _ _).alloc (Nat.le_refl _) _
  have hx0 := hx.below hB0
  have hs0 : (w.alloc (.cells #[.int .i64 k, .int .i64 e, .int .i64 q, .int .i64 l, .slice A body.length c] 31)).heap.size = w.heap.size + 1 := by simp
  generalize hw0 : w.alloc (.cells #[.int .i64 k, .int .i64 e, .int .i64 q, .int .i64 l, .slice A body.length c] 31) = w0 at *
  have HW0 := Lib.hid hw0
  have hhb : IsB (Fb.head ⟨k, e, q, l, body⟩) := head_b k e q l body hb (by omega) (by omega)
  have hHead : Fb.head ⟨k, e, q, l, body⟩ = [(k : Int), (body.length : Int)] ++ (le e 4 ++ (le q 8 ++ (le l 4 ++ body))) := by simp [Fb.head]
  have hCore : Fb.core ⟨k, e, q, l, body⟩ = Fb.head ⟨k, e, q, l, body⟩ ++ List.replicate (60 - (Fb.head ⟨k, e, q, l, body⟩).length) 0 := rfl
  have hEnc : Fb.enc ⟨k, e, q, l, body⟩ = Fb.core ⟨k, e, q, l, body⟩ ++ le (crcOf (Fb.core ⟨k, e, q, l, body⟩)) 4 := rfl
  have hhl : (Fb.head ⟨k, e, q, l, body⟩).length = 18 + body.length := by simp [Fb.head, le_length]; omega
  clear hw0 hA hm
  generalize Fb.enc ⟨k, e, q, l, body⟩ = EN at *
  generalize Fb.core ⟨k, e, q, l, body⟩ = CO at *
  generalize Fb.head ⟨k, e, q, l, body⟩ = HD at *
  have y1 : IntKind.u8.wrap (k : Int) = k := by rw [IntKind.wrap_u8]; omega
  have y2 : IntKind.u8.wrap (body.length : Int) = body.length := by rw [IntKind.wrap_u8]; omega
  -- the two first bytes
  have hb1 : Below w0.heap.size w0 (w0.alloc (.cells #[.int .u8 k, .int .u8 body.length] 5)) := (Below.refl _ _).alloc (Nat.le_refl _) _
  have ho1 : BytO (w0.alloc (.cells #[.int .u8 k, .int .u8 body.length] 5)) (w.heap.size + 1) (.slice (some ⟨w0.heap.size, 0, none⟩) 2 2) [(k : Int), (body.length : Int)] :=
    (BA.o (xs := [(k : Int), (body.length : Int)]) (Blk.new w0 5 _) (by omega) (by simp [maxLen]))
  have hs1 : (w0.alloc (.cells #[.int .u8 k, .int .u8 body.length] 5)).heap.size = w0.heap.size + 1 := by simp
  have hk1 := hg.below hb1
  have hx1 := hx0.below hb1
  have hB1 := hB0.trans (hb1.mono (by omega))
  generalize hw1 : w0.alloc (.cells #[.int .u8 k, .int .u8 body.length] 5) = w1 at *
  have HW1 := Lib.hid hw1
  clear hw1
  obtain ⟨c0, c1, c2, c3, c4⟩ := hg.all5.1
  go_enter Try.func47, Try.ntmps47
  go_wp2_with fail
  rw [HW0.out, HW1.out]
  rw [hs0] at ho1
  generalize hgg : w.heap.size = g at *
  refine (put6_any e 4 _ (by omega) (by omega)).mono ?_
  rintro en w2 ⟨r2, rfl, ho2, hb2⟩
  obtain ⟨v3, w3, hr3, ho3, hb3⟩ := append_bytes _ w2 (g + 1) _ r2 _ (le e 4) (ho1.below' hb2) ho2.fresh (by have := hb2.size; omega) (by simp [le_length])
  have t2 := hb2.size
  have t3 := hb3.size
  have hk3 : Blk w3 g 31 _ := (hb3.block g (by omega)).trans (hk1.below hb2)
  have hB3 : Below g w w3 := (hB1.trans (hb2.mono (by omega))).trans (hb3.mono (by omega))
  have hB3' : Below (g + 1) w1 w3 := (hb2.mono (by omega)).trans hb3
  obtain ⟨A2, p2, rfl⟩ := ho2.shape
  rw [le_length] at ho2 hr3 ⊢
  obtain ⟨A3, p3, rfl⟩ := ho3.shape
  rw [show ([(k : Int), (body.length : Int)] ++ le e 4).length = 6 by simp [le_length]] at ho3 hr3
  have H3 := Lib.hid hr3
  obtain ⟨c0, c1, c2, c3, c4⟩ := hk3.all5.1
  clear hr3 ho1 ho2 hb2 hb3
  go_wp2_with (at_builtin; refine Lib.wpList_append_run _ rfl _ _ _ _ rfl _ _ rfl rfl _ _ H3.out ?_)
  refine (put6_any q 8 _ (by omega) (by omega)).mono ?_
  rintro en w4 ⟨r4, rfl, ho4, hb4⟩
  obtain ⟨v5, w5, hr5, ho5, hb5⟩ := append_bytes _ w4 (g + 1) _ r4 _ (le q 8) (ho3.below' hb4) ho4.fresh (by have := hb4.size; omega) (by simp [le_length])
  have t4 := hb4.size
  have t5 := hb5.size
  have hk5 : Blk w5 g 31 _ := (hb5.block g (by omega)).trans (hk3.below hb4)
  have hB5 : Below g w w5 := (hB3.trans (hb4.mono (by omega))).trans (hb5.mono (by omega))
  have hB5' : Below (g + 1) w1 w5 := hB3'.trans ((hb4.mono (by omega)).trans hb5)
  obtain ⟨A4, p4, rfl⟩ := ho4.shape
  rw [le_length] at ho4 hr5 ⊢
  obtain ⟨A5, p5, rfl⟩ := ho5.shape
  rw [show ([(k : Int), (body.length : Int)] ++ le e 4 ++ le q 8).length = 14 by simp [le_length]] at ho5 hr5
  have H5 := Lib.hid hr5
  obtain ⟨c0, c1, c2, c3, c4⟩ := hk5.all5.1
  clear hr5 ho3 ho4 hb4 hb5
  go_wp2_with (at_builtin; refine Lib.wpList_append_run _ rfl _ _ _ _ rfl _ _ rfl rfl _ _ H5.out ?_)
  refine (put6_any l 4 _ (by omega) (by omega)).mono ?_
  rintro en w6 ⟨r6, rfl, ho6, hb6⟩
  obtain ⟨v7, w7, hr7, ho7, hb7⟩ := append_bytes _ w6 (g + 1) _ r6 _ (le l 4) (ho5.below' hb6) ho6.fresh (by have := hb6.size; omega) (by simp [le_length])
  have t6 := hb6.size
  have t7 := hb7.size
  have hk7 : Blk w7 g 31 _ := (hb7.block g (by omega)).trans (hk5.below hb6)
  have hB7 : Below g w w7 := (hB5.trans (hb6.mono (by omega))).trans (hb7.mono (by omega))
  have hB7' : Below (g + 1) w1 w7 := hB5'.trans ((hb6.mono (by omega)).trans hb7)
  obtain ⟨A7, p7, rfl⟩ := ho7.shape
  rw [show ([(k : Int), (body.length : Int)] ++ le e 4 ++ le q 8 ++ le l 4).length = 18 by simp [le_length]] at ho7 hr7
  obtain ⟨v8, w8, hr8, ho8, hb8⟩ := append_bytes _ w7 (g + 1) _ (.slice A body.length c) _ body ho7 (hx1.kp (S := fun i => g + 1 ≤ i ) ⟨hB7'.os, hB7'.tape, hB7'.output, hB7'.size, fun i _ hn => hB7'.block i (by omega)⟩ (fun i _ h1 h2 => by omega)) (by omega) (by simp [le_length]; omega)
  have t8 := hb8.size
  have hk8 : Blk w8 g 31 _ := (hb8.block g (by omega)).trans hk7
  have hB8 : Below g w w8 := hB7.trans (hb8.mono (by omega))
  have hB8' : Below (g + 1) w1 w8 := hB7'.trans hb8
  obtain ⟨A6, p6, rfl⟩ := ho6.shape
  rw [le_length] at ho6 hr7 ⊢
  obtain ⟨A8, p8, rfl⟩ := ho8.shape
  have H7 := Lib.hid hr7
  have H8 := Lib.hid hr8
  obtain ⟨c0, c1, c2, c3, c4⟩ := hk7.all5.1
  have e8 : (([(k : Int), (body.length : Int)] ++ le e 4 ++ le q 8 ++ le l 4 ++ body)) = HD := by rw [hHead]; simp
  rw [e8] at ho8
  rw [e8] at H8
  clear hr7 hr8 ho5 ho6 ho7 hb6 hb7 hb8
  rw [hhl] at ho8 H8
  go_upto_region 9 with (at_builtin; refine Lib.wpList_append_run _ rfl _ _ _ _ rfl _ _ rfl rfl _ _ H7.out ?_)
  go_wp2_with (at_builtin; refine Lib.wpList_append_run _ rfl _ _ _ _ rfl _ _ rfl rfl _ _ H8.out ?_)
  clear H3 H5 H7 H8 c0 c1 c2 c3 c4 hk1 hk3 hk5 hk7 hk8 hB3 hB5 hB7 hB3' hB5' hB7' t2 t3 t4 t5 t6 t7 y1 y2 e8 hHead
  have hu8 := hB8.size
  go_loopw [4] (fun r wr => ∃ j : Nat, j ≤ 42 - body.length ∧ slLen r = 18 + body.length + j ∧ BytO wr (g + 1) r (HD ++ List.replicate j 0) ∧ Below g w wr ∧ g + 1 ≤ wr.heap.size) (fun r _ => 60 - slLen r)
  case atStart => exact ⟨0, Nat.zero_le _, rfl, by simpa [hhl] using ho8, hB8, by have := hB8'.size; omega⟩
  case round =>
    obtain ⟨j, hj, hlen, hoj, hBj, hgj⟩ := hrel
    have hll : (HD ++ List.replicate j (0 : Int)).length = 18 + body.length + j := by simp [hhl]
    have hsj := hBj.size
    obtain ⟨Aj, pj, rfl⟩ := hoj.shape
    rw [hll] at hoj hlen ⊢
    clear hlen hB8 hsj hx1
    by_cases hlt : j < 42 - body.length
    · obtain ⟨v1, w9, hr9, ho9, hb9⟩ := append_one wr (g + 1) _ _ 0 hoj hgj (by omega)
      have e9 : HD ++ List.replicate j (0 : Int) ++ [0] = HD ++ List.replicate (j + 1) 0 := by rw [List.append_assoc, ← List.replicate_succ']
      have hl9 : (HD ++ List.replicate (j + 1) (0 : Int)).length = 18 + body.length + (j + 1) := by simp [hhl]
      rw [e9] at ho9
      obtain ⟨A9, p9, rfl⟩ := ho9.shape
      rw [hl9] at ho9 hr9
      have H9 := Lib.hid hr9
      have HO := Lib.hid ho9
      have hB9 := hBj.trans (hb9.mono (by omega))
      have hs9 := hb9.size
      clear hr9 ho9 hoj e9 hl9 hll hb9 ho8
      go_wp2_with (at_builtin; refine Lib.wpList_append_run _ rfl _ _ _ _ rfl _ _ rfl rfl _ _ H9.out ?_)
      go_roundw
      case rel => exact ⟨j + 1, by omega, rfl, HO.out, hB9, by omega⟩
      case measure => simp [slLen]; omega
    · have hj2 : j = 42 - body.length := by omega
      subst hj2
      have e60 : 18 + body.length + (42 - body.length) = 60 := by omega
      have hco : HD ++ List.replicate (42 - body.length) (0 : Int) = CO := by
        rw [hCore, hhl]; congr 2; omega
      rw [hco, e60] at hoj
      rw [e60]
      have hcl : CO.length = 60 := by rw [← hco]; simp [hhl]; omega
      have hcb : IsB CO := by
        rw [← hco]; exact hhb.append (fun x hx => by rw [(List.mem_replicate.1 hx).2]; omega)
      have hcrc := crcOf_lt CO hcb
      have hby : Byt (fun k => g + 1 ≤ k ∧ k < wr.heap.size) wr (.slice Aj 60 pj) CO := hoj.fresh
      have HC := Lib.hid hcl
      have HE := Lib.hid hEnc
      clear hco hcl hCore hEnc hll ho8 hhl hhb
      go_wp2_with fail
      refine (crc6_any _ _ CO _ hby hcb).mono ?_
      rintro en w9 ⟨rfl, rfl⟩
      generalize crcOf CO = cr at *
      go_wp2_with fail
      refine (put6_any cr 4 _ (by omega) (by omega)).mono ?_
      rintro en w10 ⟨r10, rfl, ho10, hb10⟩
      have t10 := hb10.size
      obtain ⟨v11, w11, hr11, ho11, hb11⟩ := append_bytes _ w10 (g + 1) _ r10 _ (le cr 4) (hoj.below' hb10) ho10.fresh (by omega) (by rw [HC.out]; simp [le_length])
      have hl11 : (CO ++ le cr 4).length = 64 := by rw [List.length_append, HC.out, le_length]
      obtain ⟨A10, p10, rfl⟩ := ho10.shape
      obtain ⟨A11, p11, rfl⟩ := ho11.shape
      rw [le_length] at hr11 ⊢
      rw [hl11] at ho11 hr11
      rw [← HE.out] at ho11
      have H11 := Lib.hid hr11
      have HO := Lib.hid ho11
      have hB11 := (hBj.trans (hb10.mono (by omega))).trans (hb11.mono (by omega))
      clear hr11 ho11 ho10 hoj hby hl11
      go_wp2_with (at_builtin; refine Lib.wpList_append_run _ rfl _ _ _ _ rfl _ _ rfl rfl _ _ H11.out ?_)
      go_ret2
      exact ⟨_, rfl, own_weaken HO.out (by omega), by rw [hgg]; exact hB11⟩

set_option maxRecDepth 100000 in
set_option maxHeartbeats 4000000 in
theorem encode6_arg (ok : Nat → Prop) (b : Fb) (v : Value) (w : World) (hx : Byt ok w v b.body) (hf : ¬ b.fits) :
    Calls Try.prog 47 #[b.val v] w fun en w' => en = .returned (.tuple #[.slice none 0 0, .int .i64 1]) ∧ Below w.heap.size w w' := by
  obtain ⟨kind, epoch, seq, lba, body⟩ := b
  simp only [Fb.fits] at hx hf
  obtain ⟨A, c, rfl, hc, hm, hA⟩ := hx.open_
  unfold Fb.val
  have hB0 : Below w.heap.size w (w.alloc (.cells #[.int .i64 kind, .int .i64 epoch, .int .i64 seq, .int .i64 lba, .slice A body.length c] 31)) := (Below.refl _ _).alloc (Nat.le_refl _) _
  have HF := Lib.hid hf
  clear hf hA hm
  go_enter Try.func47, Try.ntmps47
  go_wp2_with fail
  all_goals first
    | (go_ret2; exact ⟨rfl, hB0⟩)
    | (exfalso; exact HF.out (by omega))

set_option maxRecDepth 100000 in
set_option maxHeartbeats 4000000 in
theorem encode6_len (ok : Nat → Prop) (b : Fb) (v : Value) (w : World) (hx : Byt ok w v b.body) (hf : b.fits) (hl : ¬ b.body.length ≤ 40) :
    Calls Try.prog 47 #[b.val v] w fun en w' => en = .returned (.tuple #[.slice none 0 0, .int .i64 3]) ∧ Below w.heap.size w w' := by
  obtain ⟨kind, epoch, seq, lba, body⟩ := b
  simp only [Fb.fits] at hx hf hl
  obtain ⟨k1, k2, e1, e2, s1, s2, l1, l2⟩ := hf
  obtain ⟨A, c, rfl, hc, hm, hA⟩ := hx.open_
  unfold Fb.val
  have hB0 : Below w.heap.size w (w.alloc (.cells #[.int .i64 kind, .int .i64 epoch, .int .i64 seq, .int .i64 lba, .slice A body.length c] 31)) := (Below.refl _ _).alloc (Nat.le_refl _) _
  clear hA hm
  go_enter Try.func47, Try.ntmps47
  go_wp2_with fail
  go_ret2
  exact ⟨rfl, hB0⟩

theorem encode6_any (ok : Nat → Prop) (b : Fb) (v : Value) (w : World) (hx : Byt ok w v b.body) (hb : IsB b.body) :
    Calls Try.prog 47 #[b.val v] w fun en w' => ∃ r, en = .returned (.tuple #[r, .int .i64 b.err]) ∧ BytO w' w.heap.size r (if b.err = 0 then b.enc else []) ∧ Below w.heap.size w w' := by
  by_cases hf : b.fits
  · by_cases hl : b.body.length ≤ 40
    · have he : b.err = 0 := err_of hf hl
      rw [he, if_pos rfl]
      obtain ⟨kind, epoch, seq, lba, body⟩ := b
      obtain ⟨k1, k2, e1, e2, s1, s2, l1, l2⟩ := hf
      simp only at k1 k2 e1 e2 s1 s2 l1 l2 hl hb hx
      obtain ⟨k, rfl⟩ := Int.eq_ofNat_of_zero_le (show 0 ≤ kind by omega)
      obtain ⟨e, rfl⟩ := Int.eq_ofNat_of_zero_le e1
      obtain ⟨q, rfl⟩ := Int.eq_ofNat_of_zero_le s1
      obtain ⟨l, rfl⟩ := Int.eq_ofNat_of_zero_le l1
      exact encode6_ok ok k e q l body v w hx hb (by omega) (by omega) (by omega) (by omega) (by omega) hl
    · have he : b.err = 3 := by simp [Fb.err, hf, hl]
      rw [he]
      refine (encode6_len ok b v w hx hf hl).mono ?_
      rintro en w' ⟨rfl, hB⟩
      exact ⟨_, rfl, World.ownsRow_nil _ _ _ _, hB⟩
  · have he : b.err = 1 := by simp [Fb.err, hf]
    rw [he]
    refine (encode6_arg ok b v w hx hf).mono ?_
    rintro en w' ⟨rfl, hB⟩
    exact ⟨_, rfl, World.ownsRow_nil _ _ _ _, hB⟩
end Go.Proofs.Ytfpnodboebpemaa
