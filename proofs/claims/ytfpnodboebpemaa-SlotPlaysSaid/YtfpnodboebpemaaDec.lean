/- frame.Decode: what it reads, and what it refuses. -/
import Derived.Test.YtfpnodboebpemaaLaw8
import Derived.Test.YtfpnodboebpemaaFrmM
import Derived.Deep.RegionHeld3
import Derived.Deep.DeepCutAuto
import Derived.WalkMore
namespace Go.Proofs.Ytfpnodboebpemaa
open Go.RowKit Go.Proofs.YtfpnodboebpemaaW.PrintWords
set_option linter.unusedVariables false
set_option linter.unusedSimpArgs false

theorem Byt.sub {ok : Nat → Prop} {w : World} {A : Option Addr} {n c : Nat} {xs : List Int} (h : Byt ok w (.slice A n c) xs) {b o : Nat} (hA : A = some ⟨b, o, none⟩) (i m c' : Nat) (him : i + m ≤ xs.length) (hc : m ≤ c') (hm : c' ≤ maxLen) :
    Byt ok w (.slice (some ⟨b, o + i, none⟩) m c') ((xs.drop i).take m) := by
  obtain ⟨A', c0, he, _, _, hA'⟩ := h.open_
  injection he with e1 e2 e3
  subst e1
  have hl : ((xs.drop i).take m).length = m := by simp; omega
  unfold Byt
  rw [hl]
  refine ⟨_, c', rfl, by simp [nums]; omega, hc, hm, fun hp => ?_⟩
  obtain ⟨b', o', hA2, h1, h2, h3⟩ := hA' (by omega)
  rw [hA] at hA2
  injection hA2 with hA2
  injection hA2 with e4 e5
  subst e4 e5
  refine ⟨b, o + i, rfl, h1, h2, fun j u hu => ?_⟩
  have hj : j < m := by
    have := (List.getElem?_eq_some_iff.1 hu).1
    simp [nums] at this; omega
  have h4 := h3 (i + j) (by omega)
  rw [Nat.add_assoc, h4, ← hu]
  have : ((xs.drop i).take m)[j]? = some (rd xs ((i + j : Nat) : Int)) := by
    rw [List.getElem?_take, if_pos hj, List.getElem?_drop]
    unfold rd; rw [Int.toNat_natCast]; simp [List.getElem?_eq_getElem (show i + j < xs.length by omega)]
  simp only [nums, List.getElem?_map, this, Option.map_some]

theorem Blk.all5 {w : World} {g t : Nat} {a b c d e : Value} (h : Blk w g t #[a, b, c, d, e]) :
    (w.cell? ⟨g, 0, none⟩ = some a ∧ w.cell? ⟨g, 1, none⟩ = some b ∧ w.cell? ⟨g, 2, none⟩ = some c ∧ w.cell? ⟨g, 3, none⟩ = some d ∧ w.cell? ⟨g, 4, none⟩ = some e) ∧
    (w.frozen? ⟨g, 0, none⟩ = false ∧ w.frozen? ⟨g, 1, none⟩ = false ∧ w.frozen? ⟨g, 2, none⟩ = false ∧ w.frozen? ⟨g, 3, none⟩ = false ∧ w.frozen? ⟨g, 4, none⟩ = false) ∧ g < w.heap.size :=
  ⟨⟨h.cell 0, h.cell 1, h.cell 2, h.cell 3, h.cell 4⟩, ⟨h.frozen 0, h.frozen 1, h.frozen 2, h.frozen 3, h.frozen 4⟩, h.lt⟩

/-- Five cells of a block, stored one behind the other. -/
def set5 (w : World) (g : Nat) (a b c d e : Value) : World := ((((w.setCell ⟨g, 0, none⟩ a).setCell ⟨g, 1, none⟩ b).setCell ⟨g, 2, none⟩ c).setCell ⟨g, 3, none⟩ d).setCell ⟨g, 4, none⟩ e
theorem Kp.set1 (w : World) (g i : Nat) (u : Value) : Kp (· = g) w (w.setCell ⟨g, i, none⟩ u) :=
  Kp.setCell (S := (· = g)) (p := ⟨g, i, none⟩) (Kp.refl _ w) (.inl rfl) u
theorem Kp.set5 (w : World) (g : Nat) (a b c d e : Value) : Kp (· = g) w (set5 w g a b c d e) := by
  unfold Ytfpnodboebpemaa.set5
  have k1 := Kp.set1 w g 0 a
  generalize w.setCell ⟨g, 0, none⟩ a = w1 at *
  have k2 := k1.then_ (Kp.set1 w1 g 1 b)
  generalize w1.setCell ⟨g, 1, none⟩ b = w2 at *
  have k3 := k2.then_ (Kp.set1 w2 g 2 c)
  generalize w2.setCell ⟨g, 2, none⟩ c = w3 at *
  have k4 := k3.then_ (Kp.set1 w3 g 3 d)
  generalize w3.setCell ⟨g, 3, none⟩ d = w4 at *
  exact k4.then_ (Kp.set1 w4 g 4 e)
theorem Blk.set5 {w : World} {g t : Nat} {a b c d e : Value} (h : Blk w g t #[a, b, c, d, e]) (a' b' c' d' e' : Value) : Blk (set5 w g a' b' c' d' e') g t #[a', b', c', d', e'] := by
  have h := ((((h.set 0 a').set 1 b').set 2 c').set 3 d').set 4 e'
  unfold Ytfpnodboebpemaa.set5
  simpa using h
theorem size_set5 (w : World) (g : Nat) (a b c d e : Value) : (set5 w g a b c d e).heap.size = w.heap.size := by simp [set5]
theorem own_kp {S : Nat → Prop} {w w' : World} {B e size n : Nat} {v : Value} {xs : List Value} (h : w.ownsRow B e size v n xs) (k : Kp S w w') (hS : ∀ i, i < w.heap.size → B ≤ i → ¬ S i) : w'.ownsRow B e size v n xs := by
  refine ⟨h.1, ?_⟩
  rcases h.2 with hn | ⟨g, cap, cur, rfl, hg, hgg, rest⟩
  · exact .inl hn
  · have hl : g < w.heap.size := (Array.getElem?_eq_some_iff.1 hgg).1
    exact .inr ⟨g, cap, cur, rfl, hg, by rw [k.block g hl (hS g hl hg)]; exact hgg, rest⟩

/-- What Decode says of bytes. -/
def decErr (p : List Int) : Int := if p.length = 64 then (if ((rawB p).fits ∧ (rawB p).body.length ≤ 40) ∧ p = (rawB p).enc then 0 else 13) else 3
def decB (p : List Int) : Fb := if decErr p = 0 then rawB p else ⟨0, 0, 0, 0, []⟩

theorem bytes_b (ok ok' : Nat → Prop) (v v' : Value) (xs ys : List Int) (w : World) (hx : Byt ok w v xs) (hy : Byt ok' w v' ys) :
    Calls Try.prog 31 #[v, v'] w fun e w' => e = .returned (.bool (decide (xs = ys))) ∧ Below w.heap.size w w' :=
  (bytes_any ok ok' v v' xs ys w hx hy).mono fun e w' h => ⟨h.1, by obtain ⟨n, rfl⟩ := h.2; exact below_draw _ n⟩

theorem equal_b (ok ok' : Nat → Prop) (v v' : Value) (xs ys : List Int) (w : World) (hx : Byt ok w v xs) (hy : Byt ok' w v' ys) :
    Calls Try.prog 101 #[v, v'] w fun e w' => e = .returned (.bool (decide (xs = ys))) ∧ Below w.heap.size w w' :=
  (equalB ok ok' v v' xs ys w hx hy).mono fun e w' h => ⟨h.1, by obtain ⟨n, rfl⟩ := h.2; exact below_draw _ n⟩

set_option maxRecDepth 100000 in
set_option maxHeartbeats 4000000 in
theorem decode_len (ok : Nat → Prop) (p : List Int) (v : Value) (w : World) (hx : Byt ok w v p) (h : p.length ≠ 64) :
    Calls Try.prog 48 #[v] w fun e w' => e = .returned (.tuple #[Fb.val ⟨0, 0, 0, 0, []⟩ (.slice none 0 0), .int .i64 3]) ∧ Below w.heap.size w w' := by
  obtain ⟨A, c, rfl, hc, hm, hA⟩ := hx.open_
  have hb : ((p.length : Int) != 64) = true := by simp; omega
  have hB : Below w.heap.size w (w.alloc (.cells #[.int .i64 0, .int .i64 0, .int .i64 0, .int .i64 0, .slice none 0 0] 29)) := (Below.refl _ _).alloc (Nat.le_refl _) _
  clear hc hm hA h
  go_enter Try.func48, Try.ntmps48
  go_wp2_with fail
  go_step3
  go_wp2_with fail
  try rw [Exit.noGoto_ret]
  exact bodyPost_ret (v := .tuple #[.agg #[.int .i64 0, .int .i64 0, .int .i64 0, .int .i64 0, .slice none 0 0], .int .i64 3]) (by simp [results, Try.results48, go_sem]) rfl ⟨rfl, hB⟩

set_option maxRecDepth 100000 in
set_option maxHeartbeats 4000000 in
theorem decode_64 (ok : Nat → Prop) (p : List Int) (v : Value) (w : World) (hx : Byt ok w v p) (hb : IsB p) (h : p.length = 64) :
    Calls Try.prog 48 #[v] w fun e w' => ∃ r, e = .returned (.tuple #[(decB p).val r, .int .i64 (decErr p)]) ∧ Byt (fun k => w.heap.size ≤ k ∧ k < w'.heap.size) w' r (decB p).body ∧ Below w.heap.size w w' := by
  obtain ⟨A, c, rfl, hc, hm, hA⟩ := hx.open_
  obtain ⟨b, o, rfl, hok, hbw, hcell⟩ := hA (by omega)
  obtain ⟨n0, n1⟩ : 0 ≤ rd p 1 ∧ rd p 1 ≤ 255 := rd_b p 1 (by omega) hb
  obtain ⟨k0, k1⟩ : 0 ≤ rd p 0 ∧ rd p 0 ≤ 255 := rd_b p 0 (by omega) hb
  have hraw : rawB p = ⟨rd p 0, ge ((p.drop 2).take 4), ge ((p.drop 6).take 8), ge ((p.drop 14).take 4), (p.drop 18).take (rd p 1).toNat⟩ := rfl
  have p0 : w.cell? ⟨b, o, none⟩ = some (.int .u8 (rd p 0)) := hcell 0 (by omega)
  have p1 : w.cell? ⟨b, o + 1, none⟩ = some (.int .u8 (rd p 1)) := hcell 1 (by omega)
  have hdec : decErr p = if ((rawB p).fits ∧ (rawB p).body.length ≤ 40) ∧ p = (rawB p).enc then 0 else 13 := by unfold decErr; rw [if_pos h]
  obtain ⟨n, hn⟩ := Int.eq_ofNat_of_zero_le (show 0 ≤ rd p 1 from n0)
  obtain ⟨k, hk⟩ := Int.eq_ofNat_of_zero_le (show 0 ≤ rd p 0 from k0)
  obtain ⟨e2a, e2b⟩ := ge_bound ((p.drop 2).take 4) ((hb.drop 2).take 4)
  obtain ⟨e6a, e6b⟩ := ge_bound ((p.drop 6).take 8) ((hb.drop 6).take 8)
  obtain ⟨e14a, e14b⟩ := ge_bound ((p.drop 14).take 4) ((hb.drop 14).take 4)
  rw [show ((p.drop 2).take 4).length = 4 by simp; omega] at e2b
  rw [show ((p.drop 6).take 8).length = 8 by simp; omega] at e6b
  rw [show ((p.drop 14).take 4).length = 4 by simp; omega] at e14b
  rw [hn] at hraw p1 n1
  rw [hk] at hraw p0 k1
  rw [Int.toNat_natCast] at hraw
  obtain ⟨E, hE⟩ := Int.eq_ofNat_of_zero_le e2a
  obtain ⟨S, hS⟩ := Int.eq_ofNat_of_zero_le e6a
  obtain ⟨L, hLb⟩ := Int.eq_ofNat_of_zero_le e14a
  rw [hE] at hraw e2b
  rw [hS] at hraw e6b
  rw [hLb] at hraw e14b
  have e2c : E < 4294967296 := by have : (256 : Int) ^ 4 = 4294967296 := by decide
                                  omega
  have e6c : S < 18446744073709551616 := by have : (256 : Int) ^ 8 = 18446744073709551616 := by decide
                                            omega
  have e14c : L < 4294967296 := by have : (256 : Int) ^ 4 = 4294967296 := by decide
                                   omega
  clear n0 k0 e2a e2b e6a e6b e14a e14b hn hk
  have hx1 := hx
  have hx := hx.mono (ok' := fun i => i < w.heap.size) (fun i h _ => h)
  have HL := Lib.hid h
  rw [h] at hc hx ⊢
  clear h
  clear hcell hA
  unfold maxLen at hm
  generalize hW : (w.alloc (.cells #[.int .i64 0, .int .i64 0, .int .i64 0, .int .i64 0, .slice none 0 0] 29)).alloc (.cells #[.int .i64 0, .int .i64 0, .int .i64 0, .int .i64 0, .slice none 0 0] 29) = w0
  have hB0 : Below w.heap.size w w0 := by rw [← hW]; exact ((Below.refl _ _).alloc (Nat.le_refl _) _).alloc (by simp) _
  have hg0 : Blk w0 w.heap.size 29 #[.int .i64 0, .int .i64 0, .int .i64 0, .int .i64 0, .slice none 0 0] := by
    rw [← hW]; exact (Blk.new w 29 _).below ((Below.refl _ _).alloc (Nat.le_refl _) _)
  have hk0 : Blk w0 (w.heap.size + 1) 29 #[.int .i64 0, .int .i64 0, .int .i64 0, .int .i64 0, .slice none 0 0] := by
    rw [← hW]; have h := Blk.new (w.alloc (.cells #[.int .i64 0, .int .i64 0, .int .i64 0, .int .i64 0, .slice none 0 0] 29)) 29 #[.int .i64 0, .int .i64 0, .int .i64 0, .int .i64 0, .slice none 0 0]
    simpa using h
  have HW := Lib.hid hW
  clear hW
  have hx0 := hx.below hB0
  have q0 := pw_cell_below hB0 p0
  have q1 := pw_cell_below hB0 p1
  have hsz := hB0.size
  go_enter Try.func48, Try.ntmps48
  go_wp2_with fail
  go_step3
  go_wp2_with fail
  go_step3
  go_wp2_with fail
  rw [HW.out]
  generalize hga : w.heap.size = g at *
  go_loopw [5] (fun i wr => i = .bool false ∧ wr = w0) (fun _ _ => 0)
  case atStart => exact ⟨rfl, rfl⟩
  case round =>
    obtain ⟨rfl, rfl⟩ := hrel
    obtain ⟨⟨x0, x1, x2, x3, x4⟩, ⟨z0, z1, z2, z3, z4⟩, glt⟩ := hg0.all5
    obtain ⟨⟨y0, y1, y2, y3, y4⟩, ⟨v0, v1, v2, v3, v4⟩, klt⟩ := hk0.all5
    go_wp2_with fail
    refine (get64_yes _ _ ((p.drop 6).take 58) _ (hx0.sub rfl 6 58 _ (by have := HL.out; omega) (by omega) (by unfold maxLen; omega)) ((hb.drop 6).take 58) (by have := HL.out; simp; omega)).mono ?_
    rintro e w1 ⟨rfl, rfl⟩
    have e6 : ((p.drop 6).take 58).take 8 = (p.drop 6).take 8 := by rw [List.take_take]; rfl
    rw [e6, hS]
    clear e6
    have hbl : (rawB p).body.length = min n 46 := by rw [hraw]; have := HL.out; simp; omega
    by_cases h40 : n ≤ 40
    · by_cases hs40 : S ≤ 1099511627776
      · have HD := Lib.hid hdec
        have HE := Lib.hid hE
        have HS := Lib.hid hS
        have HLb := Lib.hid hLb
        have HR := Lib.hid hraw
        have HBL := Lib.hid hbl
        clear hdec hE hS hLb hraw hbl
        go_wp2_with fail
        refine (get32_yes _ _ ((p.drop 2).take 62) _ (hx0.sub rfl 2 62 _ (by have := HL.out; omega) (by omega) (by unfold maxLen; omega)) ((hb.drop 2).take 62) (by have := HL.out; simp; omega)).mono ?_
        rintro e w1 ⟨rfl, rfl⟩
        have e2 : ((p.drop 2).take 62).take 4 = (p.drop 2).take 4 := by rw [List.take_take]; rfl
        rw [e2, HE.out]
        clear e2
        go_wp2_with fail
        refine (get32_yes _ _ ((p.drop 14).take 50) _ (hx0.sub rfl 14 50 _ (by have := HL.out; omega) (by omega) (by unfold maxLen; omega)) ((hb.drop 14).take 50) (by have := HL.out; simp; omega)).mono ?_
        rintro e w1 ⟨rfl, rfl⟩
        have e14 : ((p.drop 14).take 50).take 4 = (p.drop 14).take 4 := by rw [List.take_take]; rfl
        rw [e14, HLb.out]
        clear e14
        go_wp2_with fail
        have s1 : IntKind.i64.wrap (18 + (n : Int)) = 18 + (n : Int) := by rw [IntKind.wrap_i64]; omega
        have t1 : (18 : Int) ≤ 18 + (n : Int) := by omega
        have t2 : 18 + (n : Int) ≤ (c : Int) := by omega
        have t3 : (18 + (n : Int)).toNat = 18 + n := by omega
        have t4 : (0 : Int) ≤ 18 + (n : Int) := by omega
        have hxb := hx0.sub rfl 18 n (c - 18) (by have := HL.out; omega) (by omega) (by unfold maxLen; omega)
        have hzb : ((p.drop 18).take n).length = n := by have := HL.out; simp; omega
        have t5 : ¬ c = 18 := by omega
        have hxc : SlC (fun i => i < g) wr 1 (.slice (some ⟨b, o + 18, none⟩) n (c - 18)) n (nums .u8 ((p.drop 18).take n)) := by
          have h1 := hxb
          unfold Byt at h1; rw [hzb] at h1; exact h1
        have hdr : Below wr.heap.size wr wr.drew := (Below.refl _ _).drew
        have m1 : IntKind.i64.wrap (k : Int) = k := by rw [IntKind.wrap_i64]; omega
        have m2 : IntKind.i64.wrap (E : Int) = E := by rw [IntKind.wrap_i64]; omega
        have m3 : IntKind.i64.wrap (S : Int) = S := by rw [IntKind.wrap_i64]; omega
        have m4 : IntKind.i64.wrap (L : Int) = L := by rw [IntKind.wrap_i64]; omega
        have m5 : b ≠ g + 1 := by omega
        have m6 : g + 1 ≠ b := by omega
        go_region_held3 (fun W => W.cell? ⟨b, o, none⟩ = some (.int .u8 k))
          (go_keep)
          (first
            | (go_at_call 91; refine (cloneB _ _ n _ _ (hxc.below hdr) (nums_one _ _) (by omega)).mono ?_; rintro ew w2 ⟨r2, rfl, ho2, hb2⟩; obtain ⟨A2, c2, rfl⟩ := own_shape ho2; have HB2 := Below.from_drew hb2; have hk2 := hk0.below HB2; have q2 := pw_cell_below HB2 q0; obtain ⟨⟨y0, y1, y2, y3, y4⟩, ⟨v0, v1, v2, v3, v4⟩, klt⟩ := hk2.all5))
        go_wp2_with fail
        have hk3 := hk2.set5 (.int .i64 k) (.int .i64 E) (.int .i64 S) (.int .i64 L) (.slice A2 n c2)
        have hK3 := Kp.set5 w2 (g + 1) (.int .i64 k) (.int .i64 E) (.int .i64 S) (.int .i64 L) (.slice A2 n c2)
        have hs3 := size_set5 w2 (g + 1) (.int .i64 k) (.int .i64 E) (.int .i64 S) (.int .i64 L) (.slice A2 n c2)
        have hlt : g + 1 < wr.drew.heap.size := hk0.lt
        have ho3 := own_kp ho2 hK3 (fun i _ h1 h2 => by omega)
        unfold set5 at hk3 hK3 hs3 ho3
        generalize ((((w2.setCell ⟨g + 1, 0, none⟩ (.int .i64 k)).setCell ⟨g + 1, 1, none⟩ (.int .i64 E)).setCell ⟨g + 1, 2, none⟩ (.int .i64 S)).setCell ⟨g + 1, 3, none⟩ (.int .i64 L)).setCell ⟨g + 1, 4, none⟩ (.slice A2 n c2) = w3 at *
        have ho4 : BytO w3 (g + 2) (.slice A2 n c2) ((p.drop 18).take n) := by
          unfold BytO; rw [hzb]; exact own_weaken ho3 hlt
        have hg3 : Blk w3 g 29 #[.int .i64 0, .int .i64 0, .int .i64 0, .int .i64 0, .slice none 0 0] := (hg0.below HB2).kp hK3 (by omega)
        have hx3 : Byt (fun i => i < g) w3 (.slice (some ⟨b, o, none⟩) 64 c) p := (hx0.below HB2).kp hK3 (fun i _ h1 h2 => by omega)
        have hB3 : Below g w w3 := (hB0.trans (HB2.mono hsz)).trans (hK3.below (by have := HB2.size; omega) (fun i h1 h2 => by omega))
        clear x0 x1 x2 x3 x4 y0 y1 y2 y3 y4 z0 z1 z2 z3 z4 v0 v1 v2 v3 v4 q0 q1 q2 p0 p1 m1 m2 m3 m4 s1 t1 t2 t3 t4 t5 hxc hxb hk2 ho2 ho3 hx0
        refine (encode_any _ ⟨k, E, S, L, (p.drop 18).take n⟩ _ _ ho4.fresh ((hb.drop 18).take n)).mono ?_
        rintro e w4 ⟨r4, rfl, ho5, hb4⟩
        obtain ⟨A4, c4, rfl⟩ := BytO.shape ho5
        have hB4 : Below g w w4 := hB3.trans (hb4.mono (by omega))
        have hs4 : w3.heap.size ≤ w4.heap.size := hb4.size
        have hg4 := hg3.below hb4
        have hk4 := hk3.below hb4
        have hx4 := hx3.below hb4
        have ho6 := pw_own_below ho4 hb4
        by_cases he : (Fb.mk k E S L ((p.drop 18).take n)).err = 0
        · rw [he] at ho5 ⊢
          rw [if_pos rfl] at ho5
          have HEr := Lib.hid he
          have HH := Lib.hid ho6
          obtain ⟨⟨x0, x1, x2, x3, x4⟩, ⟨z0, z1, z2, z3, z4⟩, glt⟩ := hg4.all5
          obtain ⟨⟨y0, y1, y2, y3, y4⟩, ⟨v0, v1, v2, v3, v4⟩, klt⟩ := hk4.all5
          clear he ho6 ho4
          go_wp2_with fail
          refine (equal_b _ _ _ _ p _ _ hx4 ho5.fresh).mono ?_
          rintro e w5 ⟨rfl, hb5⟩
          have hB5 : Below g w w5 := hB4.trans (hb5.mono (by omega))
          have hg5 := hg4.below hb5
          have hk5 := hk4.below hb5
          obtain ⟨⟨x0, x1, x2, x3, x4⟩, ⟨z0, z1, z2, z3, z4⟩, glt⟩ := hg5.all5
          obtain ⟨⟨y0, y1, y2, y3, y4⟩, ⟨v0, v1, v2, v3, v4⟩, klt⟩ := hk5.all5
          by_cases hq : p = (Fb.mk k E S L ((p.drop 18).take n)).enc
          · have hd : decide (p = (Fb.mk k E S L ((p.drop 18).take n)).enc) = true := by simpa using hq
            have hno : decErr p = 0 := by
              rw [HD.out, HR.out, if_pos]; exact ⟨err_fits HEr.out, hq⟩
            have hno2 : decB p = ⟨k, E, S, L, (p.drop 18).take n⟩ := by unfold decB; rw [if_pos hno, HR.out]
            rw [hd]
            have HN := Lib.hid hno
            have HN2 := Lib.hid hno2
            clear hq hd hno hno2 ho5
            have hfin : Byt (fun i => w.heap.size ≤ i ∧ i < (set5 w5 g (.int .i64 k) (.int .i64 E) (.int .i64 S) (.int .i64 L) (.slice A2 n c2)).heap.size) (set5 w5 g (.int .i64 k) (.int .i64 E) (.int .i64 S) (.int .i64 L) (.slice A2 n c2)) (.slice A2 n c2) ((p.drop 18).take n) ∧ Below w.heap.size w (set5 w5 g (.int .i64 k) (.int .i64 E) (.int .i64 S) (.int .i64 L) (.slice A2 n c2)) := by
              have h5 := pw_own_below HH.out hb5
              have hK := Kp.set5 w5 g (.int .i64 k) (.int .i64 E) (.int .i64 S) (.int .i64 L) (.slice A2 n c2)
              have h6 : BytO w5 (g + 2) (.slice A2 n c2) ((p.drop 18).take n) := h5
              refine ⟨(h6.fresh.kp hK (fun i _ h1 h2 => by omega)).mono (fun i h1 h2 => ⟨by omega, h1⟩), ?_⟩
              rw [hga]
              exact hB5.trans (hK.below (by have := hB5.size; omega) (fun i h1 h2 => by omega))
            have HF := Lib.hid hfin
            clear hfin
            go_wp2_with fail
            try rw [Exit.noGoto_ret]
            exact bodyPost_ret (v := .tuple #[.agg #[.int .i64 k, .int .i64 E, .int .i64 S, .int .i64 L, .slice A2 n c2], .int .i64 0]) (by simp [results, Try.results48, go_sem, glt, x0, x1, x2, x3, x4, z0, z1, z2, z3, z4]) rfl ⟨_, ret_of (by rw [HN.out, HN2.out]; rfl), by rw [HN2.out]; exact HF.out.1, HF.out.2⟩
          · have hd : decide (p = (Fb.mk k E S L ((p.drop 18).take n)).enc) = false := by simpa using hq
            have hno : decErr p = 13 := by
              rw [HD.out, HR.out, if_neg]; rintro ⟨_, h⟩; exact hq h
            have hno2 : decB p = ⟨0, 0, 0, 0, []⟩ := by unfold decB; rw [hno]; rfl
            rw [hd]
            have HN := Lib.hid hno
            have HN2 := Lib.hid hno2
            clear hq hd hno hno2 ho5
            go_wp2_with fail
            try rw [Exit.noGoto_ret]
            exact bodyPost_ret (v := .tuple #[.agg #[.int .i64 0, .int .i64 0, .int .i64 0, .int .i64 0, .slice none 0 0], .int .i64 13]) (by simp [results, Try.results48, go_sem, glt, x0, x1, x2, x3, x4, z0, z1, z2, z3, z4]) rfl ⟨.slice none 0 0, ret_of (by rw [HN.out, HN2.out]; rfl), by rw [HN2.out]; exact Byt.nil _ _, by rw [hga]; exact ((((hB5.setCell (Nat.le_refl _) _).setCell (Nat.le_refl _) _).setCell (Nat.le_refl _) _).setCell (Nat.le_refl _) _).setCell (Nat.le_refl _) _⟩
        · have hno : decErr p = 13 := by
            rw [HD.out, HR.out, if_neg]; rintro ⟨⟨h1, h2⟩, _⟩; exact he (err_of h1 h2)
          have hno2 : decB p = ⟨0, 0, 0, 0, []⟩ := by unfold decB; rw [hno]; rfl
          have hne : ((Fb.mk k E S L ((p.drop 18).take n)).err == 0) = false := by simpa using he
          have HN := Lib.hid hno
          have HN2 := Lib.hid hno2
          have hB5 := hB4
          obtain ⟨⟨x0, x1, x2, x3, x4⟩, ⟨z0, z1, z2, z3, z4⟩, glt⟩ := hg4.all5
          obtain ⟨⟨y0, y1, y2, y3, y4⟩, ⟨v0, v1, v2, v3, v4⟩, klt⟩ := hk4.all5
          generalize (Fb.mk k E S L ((p.drop 18).take n)).err = er at *
          clear he hno hno2 ho5 ho6
          go_wp2_with fail
          all_goals (try rw [Exit.noGoto_ret])
          all_goals exact bodyPost_ret (v := .tuple #[.agg #[.int .i64 0, .int .i64 0, .int .i64 0, .int .i64 0, .slice none 0 0], .int .i64 13]) (by simp [results, Try.results48, go_sem, glt, x0, x1, x2, x3, x4, z0, z1, z2, z3, z4]) rfl ⟨.slice none 0 0, ret_of (by rw [HN.out, HN2.out]; rfl), by rw [HN2.out]; exact Byt.nil _ _, by rw [hga]; exact ((((hB5.setCell (Nat.le_refl _) _).setCell (Nat.le_refl _) _).setCell (Nat.le_refl _) _).setCell (Nat.le_refl _) _).setCell (Nat.le_refl _) _⟩
      · have hno : decErr p = 13 := by
          rw [hdec, if_neg]; rintro ⟨⟨hf, _⟩, _⟩
          rw [hraw] at hf
          have := hf.2.2.2.2.2.1
          simp only at this
          omega
        have hno2 : decB p = ⟨0, 0, 0, 0, []⟩ := by unfold decB; rw [hno]; rfl
        have HN := Lib.hid hno
        have HN2 := Lib.hid hno2
        clear hdec hbl hraw hE hS hLb hno hno2
        go_wp2_with fail
        try rw [Exit.noGoto_ret]
        exact bodyPost_ret (v := .tuple #[.agg #[.int .i64 0, .int .i64 0, .int .i64 0, .int .i64 0, .slice none 0 0], .int .i64 13]) (by simp [results, Try.results48, go_sem, glt, x0, x1, x2, x3, x4, z0, z1, z2, z3, z4]) rfl ⟨.slice none 0 0, ret_of (by rw [HN.out, HN2.out]; rfl), by rw [HN2.out]; exact Byt.nil _ _, by rw [hga]; exact ((((hB0.setCell (Nat.le_refl _) _).setCell (Nat.le_refl _) _).setCell (Nat.le_refl _) _).setCell (Nat.le_refl _) _).setCell (Nat.le_refl _) _⟩
    · have hno : decErr p = 13 := by
        rw [hdec, if_neg]; rintro ⟨⟨_, hf⟩, _⟩
        omega
      have hno2 : decB p = ⟨0, 0, 0, 0, []⟩ := by unfold decB; rw [hno]; rfl
      have HN := Lib.hid hno
      have HN2 := Lib.hid hno2
      clear hdec hbl hraw hE hS hLb hno hno2
      go_wp2_with fail
      try rw [Exit.noGoto_ret]
      exact bodyPost_ret (v := .tuple #[.agg #[.int .i64 0, .int .i64 0, .int .i64 0, .int .i64 0, .slice none 0 0], .int .i64 13]) (by simp [results, Try.results48, go_sem, glt, x0, x1, x2, x3, x4, z0, z1, z2, z3, z4]) rfl ⟨.slice none 0 0, ret_of (by rw [HN.out, HN2.out]; rfl), by rw [HN2.out]; exact Byt.nil _ _, by rw [hga]; exact ((((hB0.setCell (Nat.le_refl _) _).setCell (Nat.le_refl _) _).setCell (Nat.le_refl _) _).setCell (Nat.le_refl _) _).setCell (Nat.le_refl _) _⟩

theorem decode_any (ok : Nat → Prop) (p : List Int) (v : Value) (w : World) (hx : Byt ok w v p) (hb : IsB p) :
    Calls Try.prog 48 #[v] w fun e w' => ∃ r, e = .returned (.tuple #[(decB p).val r, .int .i64 (decErr p)]) ∧ Byt (fun k => w.heap.size ≤ k ∧ k < w'.heap.size) w' r (decB p).body ∧ Below w.heap.size w w' := by
  by_cases h : p.length = 64
  · exact decode_64 ok p v w hx hb h
  · refine (decode_len ok p v w hx h).mono ?_
    rintro e w' ⟨rfl, hB⟩
    have h3 : decErr p = 3 := by unfold decErr; rw [if_neg h]
    have hB0 : decB p = ⟨0, 0, 0, 0, []⟩ := by unfold decB; rw [h3]; rfl
    rw [h3, hB0]
    exact ⟨_, rfl, Byt.nil _ _, hB⟩
end Go.Proofs.Ytfpnodboebpemaa
