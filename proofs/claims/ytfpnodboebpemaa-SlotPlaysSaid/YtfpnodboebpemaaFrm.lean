/- The contracts of package frame: within, Encode, Plain, Decode. -/
import Derived.Test.YtfpnodboebpemaaSl
import Derived.Deep.RegionHeld3
import Derived.Deep.DrawnRows
import Derived.Deep.DeepCutAuto
import Derived.Test.YtfpnodboebpemaaWZeros
namespace Go.Proofs.Ytfpnodboebpemaa
open Go.RowKit Go.Proofs.YtfpnodboebpemaaW.PrintWords
set_option linter.unusedVariables false
set_option linter.unusedSimpArgs false

theorem within_yes (n lo hi : Int) (w : World) (h1 : lo ≤ n) (h2 : n ≤ hi) : Calls Try.prog 82 #[.int .i64 n, .int .i64 lo, .int .i64 hi] w fun e w' => e = .returned (.bool true) ∧ w = w' := by
  go_enter Try.func82, Try.ntmps82
  go_wp2
  go_ret
  exact ⟨ret_of rfl, rfl⟩
theorem within_no (n lo hi : Int) (w : World) (h : ¬ (lo ≤ n ∧ n ≤ hi)) : Calls Try.prog 82 #[.int .i64 n, .int .i64 lo, .int .i64 hi] w fun e w' => e = .returned (.bool false) ∧ w = w' := by
  by_cases h1 : lo ≤ n
  · have h2 : ¬ n ≤ hi := fun h2 => h ⟨h1, h2⟩
    have h3 : decide (n ≤ hi) = false := decide_eq_false h2
    have h4 : decide (lo ≤ n) = true := decide_eq_true h1
    clear h h1 h2
    go_enter Try.func82, Try.ntmps82
    go_wp2
    go_ret
    exact ⟨ret_of rfl, rfl⟩
  · have h4 : decide (lo ≤ n) = false := decide_eq_false h1
    clear h h1
    go_enter Try.func82, Try.ntmps82
    go_wp2
    go_ret
    exact ⟨ret_of rfl, rfl⟩

/-! ### What is known of bytes that were made, whatever is made since -/
theorem Below.from_alloc {w w' : World} {o : Obj} (h : Below (w.alloc o).heap.size (w.alloc o) w') : Below w.heap.size w w' :=
  ((Below.refl w.heap.size w).alloc (Nat.le_refl _) o).trans (h.mono (by simp))
theorem Below.from_drew {w w' : World} (h : Below w.drew.heap.size w.drew w') : Below w.heap.size w w' := ⟨h.os, h.tape, h.output, h.size, h.block⟩
/-- The values of L read as they say. -/
def Kn (w : World) (L : List (Value × List Int)) : Prop := ∀ p ∈ L, Byt (fun _ => True) w p.1 p.2
theorem Kn.empty (w : World) : Kn w [] := fun p h => by cases h
theorem Kn.below {w w' : World} {L : List (Value × List Int)} (h : Kn w L) (k : Below w.heap.size w w') : Kn w' L := fun p hp => (h p hp).below k
theorem Kn.add {ok : Nat → Prop} {w : World} {L : List (Value × List Int)} {v : Value} {xs : List Int} (h : Kn w L) (hv : Byt ok w v xs) : Kn w ((v, xs) :: L) := fun p hp => by
  rcases List.mem_cons.1 hp with rfl | hp
  · exact hv.mono (fun _ _ _ => trivial)
  · exact h p hp
theorem Kn.next {ok : Nat → Prop} {w w' : World} {L : List (Value × List Int)} {v : Value} {xs : List Int} (h : Kn w L) (k : Below w.heap.size w w') (hv : Byt ok w' v xs) : Kn w' ((v, xs) :: L) := (h.below k).add hv
/-- Two bytes laid into a block of their own. -/
theorem Byt.two (w : World) (a b : Int) : Byt (fun _ => True) (w.alloc (.cells #[.int .u8 a, .int .u8 b] 5)) (.slice (some ⟨w.heap.size, 0, none⟩) 2 2) [a, b] :=
  (BA.q (base := 0) (xs := [a, b]) (Blk.new w 5 #[.int .u8 a, .int .u8 b]) (Nat.zero_le _) (by simp [maxLen])).byt (fun _ _ => trivial)
theorem Kn.two {w : World} {L : List (Value × List Int)} (h : Kn w L) (a b : Int) : Kn (w.alloc (.cells #[.int .u8 a, .int .u8 b] 5)) ((.slice (some ⟨w.heap.size, 0, none⟩) 2 2, [a, b]) :: L) :=
  (h.below ((Below.refl _ _).alloc (Nat.le_refl _) _)).add (Byt.two w a b)
theorem Kn.drew {w : World} {L : List (Value × List Int)} (h : Kn w L) : Kn w.drew L := h.below ⟨rfl, rfl, rfl, Nat.le_refl _, fun _ _ => rfl⟩
/-- Five rows laid into a block of their own. -/
theorem BytO.lower {w : World} {base base' : Nat} {v : Value} {xs : List Int} (h : BytO w base v xs) (hb : base' ≤ base) : BytO w base' v xs := own_weaken h hb
theorem Row.drew {ok : Nat → Prop} {w : World} {v : Value} {rows : List (List Int)} (h : Row ok w v rows) : Row ok w.drew v rows := h.below ⟨rfl, rfl, rfl, Nat.le_refl _, fun _ _ => rfl⟩
theorem Row.five {w : World} {L : List (Value × List Int)} (h : Kn w L) (v1 v2 v3 v4 v5 : Value) (x1 x2 x3 x4 x5 : List Int) (h1 : (v1, x1) ∈ L) (h2 : (v2, x2) ∈ L) (h3 : (v3, x3) ∈ L) (h4 : (v4, x4) ∈ L) (h5 : (v5, x5) ∈ L) :
    Row (fun _ => True) (w.alloc (.cells #[v1, v2, v3, v4, v5] 23)) (.slice (some ⟨w.heap.size, 0, none⟩) 5 5) [x1, x2, x3, x4, x5] := by
  have hB : Below w.heap.size w (w.alloc (.cells #[v1, v2, v3, v4, v5] 23)) := (Below.refl _ _).alloc (Nat.le_refl _) _
  have hb := Blk.new w 23 #[v1, v2, v3, v4, v5]
  refine ⟨[v1, v2, v3, v4, v5], ⟨_, 5, rfl, rfl, Nat.le_refl _, by decide, fun _ => ⟨_, _, rfl, trivial, hb.lt, fun i u hu => ?_⟩⟩, fun i r hr => ?_⟩
  · rw [Nat.zero_add, hb.cell]; simpa using hu
  · match i, hr with
    | 0, hr => cases hr; exact ⟨_, rfl, (h _ h1).below hB⟩
    | 1, hr => cases hr; exact ⟨_, rfl, (h _ h2).below hB⟩
    | 2, hr => cases hr; exact ⟨_, rfl, (h _ h3).below hB⟩
    | 3, hr => cases hr; exact ⟨_, rfl, (h _ h4).below hB⟩
    | 4, hr => cases hr; exact ⟨_, rfl, (h _ h5).below hB⟩
    | n + 5, hr => simp at hr

theorem Row.five_at {w : World} {L : List (Value × List Int)} {N : Nat} {v1 v2 v3 v4 v5 : Value} {x1 x2 x3 x4 x5 : List Int} (hN : w.heap.size = N) (h : Kn w L) (hm : (v1, x1) ∈ L ∧ (v2, x2) ∈ L ∧ (v3, x3) ∈ L ∧ (v4, x4) ∈ L ∧ (v5, x5) ∈ L) :
    Row (fun _ => True) (w.alloc (.cells #[v1, v2, v3, v4, v5] 23)) (.slice (some ⟨N, 0, none⟩) 5 5) [x1, x2, x3, x4, x5] := by
  subst hN; exact Row.five h _ _ _ _ _ _ _ _ _ _ hm.1 hm.2.1 hm.2.2.1 hm.2.2.2.1 hm.2.2.2.2

/-- A block, as plain data. -/
structure Fb where
  kind : Int
  epoch : Int
  seq : Int
  lba : Int
  body : List Int
deriving DecidableEq

def Fb.val (b : Fb) (v : Value) : Value := .agg #[.int .i64 b.kind, .int .i64 b.epoch, .int .i64 b.seq, .int .i64 b.lba, v]
def Fb.fits (b : Fb) : Prop := 1 ≤ b.kind ∧ b.kind ≤ 4 ∧ 0 ≤ b.epoch ∧ b.epoch ≤ 4294967295 ∧ 0 ≤ b.seq ∧ b.seq ≤ 1099511627776 ∧ 0 ≤ b.lba ∧ b.lba ≤ 1048576
instance (b : Fb) : Decidable b.fits := by unfold Fb.fits; infer_instance
def Fb.head (b : Fb) : List Int := [b.kind, (b.body.length : Int)] ++ (le b.epoch.toNat 4 ++ (le b.seq.toNat 8 ++ (le b.lba.toNat 4 ++ b.body)))
def Fb.core (b : Fb) : List Int := b.head ++ List.replicate (60 - b.head.length) 0
def Fb.enc (b : Fb) : List Int := b.core ++ le (crcOf b.core) 4

theorem le_b (v n : Nat) : IsB (le v n) := by
  induction n generalizing v with
  | zero => intro x hx; cases hx
  | succ n ih =>
    intro x hx
    rcases List.mem_cons.1 hx with rfl | hx
    · omega
    · exact ih _ x hx
theorem IsB.append {xs ys : List Int} (h : IsB xs) (h' : IsB ys) : IsB (xs ++ ys) := fun x hx => (List.mem_append.1 hx).elim (h x) (h' x)
theorem head_b (k e q l : Nat) (body : List Int) (hb : IsB body) (hk : k ≤ 255) (hl : body.length ≤ 255) : IsB (Fb.head ⟨k, e, q, l, body⟩) := by
  refine IsB.append (fun x hx => ?_) (IsB.append (le_b _ _) (IsB.append (le_b _ _) (IsB.append (le_b _ _) hb)))
  simp at hx
  omega

set_option maxRecDepth 100000 in
set_option maxHeartbeats 4000000 in
theorem encode_ok (ok : Nat → Prop) (k e q l : Nat) (body : List Int) (v : Value) (w : World) (hx : Byt ok w v body) (hb : IsB body) (k1 : 1 ≤ k) (k2 : k ≤ 4) (e2 : e ≤ 4294967295) (s2 : q ≤ 1099511627776) (l2 : l ≤ 1048576) (hl : body.length ≤ 40) :
    Calls Try.prog 28 #[.agg #[.int .i64 k, .int .i64 e, .int .i64 q, .int .i64 l, v]] w fun en w' => ∃ r, en = .returned (.tuple #[r, .int .i64 0]) ∧ BytO w' w.heap.size r (Fb.enc ⟨k, e, q, l, body⟩) ∧ Below w.heap.size w w' := by
  obtain ⟨A, c, rfl, hc, hm, hA⟩ := hx.open_
  go_enter Try.func28, Try.ntmps28
  go_wp2_with fail
  refine (within_yes k 1 4 _ (by omega) (by omega)).mono ?_
  rintro ew w1 ⟨rfl, rfl⟩
  go_wp2_with fail
  refine (within_yes e 0 4294967295 _ (by omega) (by omega)).mono ?_
  rintro ew w1 ⟨rfl, rfl⟩
  go_wp2_with fail
  refine (within_yes q 0 1099511627776 _ (by omega) (by omega)).mono ?_
  rintro ew w1 ⟨rfl, rfl⟩
  go_wp2_with fail
  refine (within_yes l 0 1048576 _ (by omega) (by omega)).mono ?_
  rintro ew w1 ⟨rfl, rfl⟩
  go_wp2_with fail
  have hg := Blk.new w 29 #[.int .i64 k, .int .i64 e, .int .i64 q, .int .i64 l, .slice A body.length c]
  have hB0 : Below w.heap.size w (w.alloc (.cells #[.int .i64 k, .int .i64 e, .int .i64 q, .int .i64 l, .slice A body.length c] 29)) := (Below.refl _ _).alloc (Nat.le_refl _) _
  have hx0 := hx.below hB0
  generalize w.alloc (.cells #[.int .i64 k, .int .i64 e, .int .i64 q, .int .i64 l, .slice A body.length c] 29) = w0 at *
  generalize hgg : w.heap.size = g at *
  have c0 : w0.cell? ⟨g, 0, none⟩ = some (.int .i64 k) := hg.cell 0
  have c1 : w0.cell? ⟨g, 1, none⟩ = some (.int .i64 e) := hg.cell 1
  have c2 : w0.cell? ⟨g, 2, none⟩ = some (.int .i64 q) := hg.cell 2
  have c3 : w0.cell? ⟨g, 3, none⟩ = some (.int .i64 l) := hg.cell 3
  have c4 : w0.cell? ⟨g, 4, none⟩ = some (.slice A body.length c) := hg.cell 4
  have HK0 : Kn w0 [(.slice A body.length c, body)] := (Kn.empty w0).add hx0
  have HB0 : Below w0.heap.size w0 w0 := Below.refl _ _
  have y1 : IntKind.u8.wrap (k : Int) = k := by rw [IntKind.wrap_u8]; omega
  have y2 : IntKind.u8.wrap (body.length : Int) = body.length := by rw [IntKind.wrap_u8]; omega
  have y3 : IntKind.u32.wrap (e : Int) = e := by rw [IntKind.wrap_u32]; omega
  have y4 : IntKind.u64.wrap (q : Int) = q := by simp only [IntKind.wrap, IntKind.bits, IntKind.signed, Bool.false_and, Bool.false_eq_true, if_false]; omega
  have y5 : IntKind.u32.wrap (l : Int) = l := by rw [IntKind.wrap_u32]; omega
  go_cut [4] (fun s4 wx => BytO wx w0.heap.size s4 (Fb.head ⟨k, e, q, l, body⟩) ∧ Below w0.heap.size w0 wx)
  case first =>
    go_region_held3 (fun w' => w'.cell? ⟨g, 0, none⟩ = some (.int .i64 k) ∧ w'.cell? ⟨g, 1, none⟩ = some (.int .i64 e) ∧ w'.cell? ⟨g, 2, none⟩ = some (.int .i64 q) ∧ w'.cell? ⟨g, 3, none⟩ = some (.int .i64 l) ∧ w'.cell? ⟨g, 4, none⟩ = some (.slice A body.length c))
      (go_keep)
      (first
        | (go_at_call_of 84 (Value.int IntKind.u32 (e : Int)); refine (put32_any e _ (by omega)).mono ?_; rintro ew w1 ⟨r1, rfl, ho1, hb1⟩; obtain ⟨A1, p1, rfl⟩ := BytO.shape ho1; (first | (have HK1 := Kn.next (Kn.drew HK0) hb1 ho1.fresh; have HB1 := HB0.trans ((Below.from_drew hb1).mono HB0.size)) | (have HK1 := Kn.next HK0 hb1 ho1.fresh; have HB1 := HB0.trans (hb1.mono HB0.size)) | (have HK1 := Kn.next (Kn.drew (Kn.two HK0 _ _)) hb1 ho1.fresh; have HB1 := HB0.trans ((Below.from_alloc (Below.from_drew hb1)).mono HB0.size)) | (have HK1 := Kn.next (Kn.two HK0 _ _) hb1 ho1.fresh; have HB1 := HB0.trans ((Below.from_alloc hb1).mono HB0.size))); have d0 := pw_cell_below HB1 c0; have d1 := pw_cell_below HB1 c1; have d2 := pw_cell_below HB1 c2; have d3 := pw_cell_below HB1 c3; have d4 := pw_cell_below HB1 c4)
        | (go_at_call_of 85 (Value.int IntKind.u64 (q : Int)); refine (put64_any q _ (by omega)).mono ?_; rintro ew w2 ⟨r2, rfl, ho2, hb2⟩; obtain ⟨A2, p2, rfl⟩ := BytO.shape ho2; (first | (have HK2 := Kn.next (Kn.drew HK1) hb2 ho2.fresh; have HB2 := HB1.trans ((Below.from_drew hb2).mono HB1.size)) | (have HK2 := Kn.next HK1 hb2 ho2.fresh; have HB2 := HB1.trans (hb2.mono HB1.size)) | (have HK2 := Kn.next (Kn.drew (Kn.two HK1 _ _)) hb2 ho2.fresh; have HB2 := HB1.trans ((Below.from_alloc (Below.from_drew hb2)).mono HB1.size)) | (have HK2 := Kn.next (Kn.two HK1 _ _) hb2 ho2.fresh; have HB2 := HB1.trans ((Below.from_alloc hb2).mono HB1.size))); have d0 := pw_cell_below HB2 c0; have d1 := pw_cell_below HB2 c1; have d2 := pw_cell_below HB2 c2; have d3 := pw_cell_below HB2 c3; have d4 := pw_cell_below HB2 c4)
        | (go_at_call_of 84 (Value.int IntKind.u32 (l : Int)); refine (put32_any l _ (by omega)).mono ?_; rintro ew w3 ⟨r3, rfl, ho3, hb3⟩; obtain ⟨A3, p3, rfl⟩ := BytO.shape ho3; (first | (have HK3 := Kn.next (Kn.drew HK2) hb3 ho3.fresh; have HB3 := HB2.trans ((Below.from_drew hb3).mono HB2.size)) | (have HK3 := Kn.next HK2 hb3 ho3.fresh; have HB3 := HB2.trans (hb3.mono HB2.size)) | (have HK3 := Kn.next (Kn.drew (Kn.two HK2 _ _)) hb3 ho3.fresh; have HB3 := HB2.trans ((Below.from_alloc (Below.from_drew hb3)).mono HB2.size)) | (have HK3 := Kn.next (Kn.two HK2 _ _) hb3 ho3.fresh; have HB3 := HB2.trans ((Below.from_alloc hb3).mono HB2.size))); have d0 := pw_cell_below HB3 c0; have d1 := pw_cell_below HB3 c1; have d2 := pw_cell_below HB3 c2; have d3 := pw_cell_below HB3 c3; have d4 := pw_cell_below HB3 c4)
        | (go_at_call 83; refine (concatB (fun _ => True) _ [[(k : Int), (body.length : Int)], le e 4, le q 8, le l 4, body] _ (by first | exact Row.five_at (by simp) HK3 (by simp) | exact Row.five_at (by simp) (Kn.two HK3 _ _) (by simp)) (by simp [total, le_length]; omega)).mono ?_; rintro ew w4 ⟨r4, rfl, ho4, hb4⟩; have HB4 : Below w0.heap.size w0 w4 := (by first | exact HB3.trans ((Below.from_alloc hb4).mono HB3.size) | exact HB3.trans ((Below.from_alloc (Below.from_alloc hb4)).mono HB3.size)); have ho5 : BytO w4 w0.heap.size r4 (Fb.head ⟨k, e, q, l, body⟩) := (by have h3 := HB3.size; have h := BytO.lower (base' := w0.heap.size) ho4 (by simp; omega); simpa [Fb.head] using h); have d0 := pw_cell_below HB4 c0; have d1 := pw_cell_below HB4 c1; have d2 := pw_cell_below HB4 c2; have d3 := pw_cell_below HB4 c3; have d4 := pw_cell_below HB4 c4))
    all_goals (go_wp2_with fail; go_meet; exact ⟨ho5, HB4⟩)
  case rest =>
    obtain ⟨ho, hB1⟩ := hcut
    clear hg c0 c1 c2 c3 c4 HK0 HB0 y1 y2 y3 y4 y5 hx0 hx
    have hB2 : Below g w wc := hB0.trans (hB1.mono (by have := hB0.size; omega))
    have hgs : g ≤ wc.heap.size := by rw [← hgg]; exact hB2.size
    have hgs0 : g ≤ w0.heap.size := by rw [← hgg]; exact hB0.size
    have ho1 : BytO wc g _ (Fb.head ⟨k, e, q, l, body⟩) := ho.lower hgs0
    have hn : (Fb.head ⟨k, e, q, l, body⟩).length = 18 + body.length := by simp [Fb.head, le_length]; omega
    have hE : Fb.enc ⟨k, e, q, l, body⟩ = Fb.core ⟨k, e, q, l, body⟩ ++ le (crcOf (Fb.core ⟨k, e, q, l, body⟩)) 4 := rfl
    have hC : Fb.core ⟨k, e, q, l, body⟩ = Fb.head ⟨k, e, q, l, body⟩ ++ List.replicate (60 - (Fb.head ⟨k, e, q, l, body⟩).length) 0 := rfl
    have hhb : IsB (Fb.head ⟨k, e, q, l, body⟩) := head_b k e q l body hb (by omega) (by omega)
    generalize hEn : Fb.enc ⟨k, e, q, l, body⟩ = en at *
    have HEn := Lib.hid hEn
    clear hEn
    generalize Fb.core ⟨k, e, q, l, body⟩ = co at *
    generalize Fb.head ⟨k, e, q, l, body⟩ = hd at *
    obtain ⟨A4, c4, rfl⟩ := BytO.shape ho1
    have ho1' : wc.ownsRow g 5 1 (.slice A4 hd.length c4) hd.length (nums .u8 hd) := ho1
    clear ho ho1
    generalize hn1 : hd.length = n at *
    obtain ⟨i, hi, hz, hsz, hby⟩ := info_of info5
    obtain ⟨v5, w5, hr5, ho5, hg5, hat5⟩ := run_append_zeros (P := Try.prog) wc g 23 3 23 5 i (.int .u8 0) 1 1 Try.underlying23 Try.underlying3 hi hz hsz hby rfl (by decide) (by decide) (.slice A4 n c4) n (nums .u8 hd) ho1' .i64 (60 - n) (by
      intro u hu
      simp [Builtin.zeroCells, Value.cells, Nat.mod_one] at hu
      obtain ⟨_, _, rfl⟩ := hu
      rfl) (by omega) hgs
    have e60 : ((60 - n : Nat) : Int) = 60 - (n : Int) := by omega
    rw [e60] at hr5
    have hz5 : nums .u8 hd ++ (Builtin.zeroCells (Value.int .u8 0).cells (60 - n)).toList = nums .u8 co := by
      rw [hC, nums_append]
      congr 1
      apply List.ext_getElem
      · simp [Builtin.zeroCells, Value.cells, nums]
      · intro j h1 h2
        simp [Builtin.zeroCells, Value.cells, nums, Nat.mod_one]
    rw [hz5] at ho5
    have hco : co.length = 60 := by rw [hC]; simp; omega
    have hcb : IsB co := by
      rw [hC]; intro x hx
      rcases List.mem_append.1 hx with h | h
      · exact hhb x h
      · rw [(List.mem_replicate.1 h).2]; omega
    have ho6 : w5.ownsRow g 5 1 v5 60 (nums .u8 co) := by
      have : n + (60 - n) = 60 := by omega
      rw [this] at ho5; exact ho5
    have hB5 : Below g w w5 := below_app hB2 hgs ho1' hg5
    have hgs5 : g ≤ w5.heap.size := by rw [← hgg]; exact hB5.size
    obtain ⟨A5, c5, rfl⟩ := own_shape ho6
    have hby5 : Byt (fun k => g ≤ k ∧ k < w5.heap.size) w5 (.slice A5 60 c5) co := by
      have := SlC.of_own ho6
      unfold Byt; rw [hco]; exact this
    have hcrc : crcOf co < 4294967296 := Nat.xor_lt_two_pow (n := 32) (crcReg_lt _ _ (by decide) hcb) (by decide)
    have hel : en.length = 64 := by rw [hE]; simp [hco, le_length]
    have hn2 : n ≤ 60 := by omega
    have H5 := Lib.hid hr5
    have HE := Lib.hid hE
    have HCO := Lib.hid hco
    have HCB := Lib.hid hcb
    have HEL := Lib.hid hel
    clear hr5 hE hC hco hcb hn hz5 ho5 hat5 hhb e60 hi hz hsz hby i hn1 hel
    go_wp2_with (at_builtin; refine Lib.wpList_append_run _ rfl _ _ _ _ rfl _ _ rfl rfl _ _ H5.out ?_)
    go_wp2_with fail
    refine (of_any _ _ co _ hby5 HCB.out).mono ?_
    rintro ew w6 ⟨rfl, hb6⟩
    go_wp2_with fail
    refine (put32_any _ _ hcrc).mono ?_
    rintro ew w7 ⟨r7, rfl, ho7, hb7⟩
    have hB67 : Below w5.heap.size w5 w7 := hb6.trans (hb7.mono hb6.size)
    have ho8 : w7.ownsRow g 5 1 (.slice A5 60 c5) 60 (nums .u8 co) := pw_own_below ho6 hB67
    have hgs7 : g ≤ w7.heap.size := Nat.le_trans hgs5 hB67.size
    obtain ⟨v9, w9, hr9, ho9, hg9, hat9⟩ := run_append_o (P := Try.prog) w7 g 23 23 5 (.int .u8 0) 1 1 Try.underlying23 info5 rfl (by decide) _ _ _ ho8 _ _ _ ho7.fresh (nums_one _ _) (by simp only [maxLen, le_length]; omega) (by simp only [le_length]; omega) hgs7
    have hB9 : Below g w w9 := below_app (hB5.trans (hB67.mono hgs5)) hgs7 ho8 hg9
    have ho10 : BytO w9 g v9 en := by
      unfold BytO
      rw [HEL.out, HE.out, nums_append]
      simp only [le_length] at ho9
      exact ho9
    have H9 := Lib.hid hr9
    clear hr9 ho9 hg9 hat9
    go_wp2_with (at_builtin; refine Lib.wpList_append_run _ rfl _ _ _ _ rfl _ _ rfl rfl _ _ H9.out ?_)
    go_ret2
    rw [HEn.out, hgg]
    exact ⟨_, rfl, ho10, hB9⟩

/-- The number by which a block is refused; 0: it is not. -/
def Fb.err (b : Fb) : Int := if b.fits then (if b.body.length ≤ 40 then 0 else 3) else 1

set_option maxRecDepth 100000 in
set_option maxHeartbeats 2000000 in
theorem encode_arg (ok : Nat → Prop) (b : Fb) (v : Value) (w : World) (hx : Byt ok w v b.body) (hf : ¬ b.fits) :
    Calls Try.prog 28 #[b.val v] w fun en w' => en = .returned (.tuple #[.slice none 0 0, .int .i64 1]) ∧ Below w.heap.size w w' := by
  obtain ⟨kind, epoch, seq, lba, body⟩ := b
  simp only [Fb.fits] at hx hf
  obtain ⟨A, c, rfl, hc, hm, hA⟩ := hx.open_
  clear hA hm hc
  unfold Fb.val
  have hB0 : Below w.heap.size w (w.alloc (.cells #[.int .i64 kind, .int .i64 epoch, .int .i64 seq, .int .i64 lba, .slice A body.length c] 29)) := (Below.refl _ _).alloc (Nat.le_refl _) _
  by_cases h1 : 1 ≤ kind ∧ kind ≤ 4
  · by_cases h2 : 0 ≤ epoch ∧ epoch ≤ 4294967295
    · by_cases h3 : 0 ≤ seq ∧ seq ≤ 1099511627776
      · have h4 : ¬ (0 ≤ lba ∧ lba ≤ 1048576) := by omega
        clear hf
        go_enter Try.func28, Try.ntmps28
        go_wp2_with fail
        refine (within_yes kind 1 4 _ (by omega) (by omega)).mono ?_
        rintro ew w1 ⟨rfl, rfl⟩
        go_wp2_with fail
        refine (within_yes epoch 0 4294967295 _ (by omega) (by omega)).mono ?_
        rintro ew w1 ⟨rfl, rfl⟩
        go_wp2_with fail
        refine (within_yes seq 0 1099511627776 _ (by omega) (by omega)).mono ?_
        rintro ew w1 ⟨rfl, rfl⟩
        go_wp2_with fail
        refine (within_no lba 0 1048576 _ (by omega)).mono ?_
        rintro ew w1 ⟨rfl, rfl⟩
        go_wp2
        go_ret2
        exact ⟨rfl, hB0⟩
      · clear hf
        go_enter Try.func28, Try.ntmps28
        go_wp2_with fail
        refine (within_yes kind 1 4 _ (by omega) (by omega)).mono ?_
        rintro ew w1 ⟨rfl, rfl⟩
        go_wp2_with fail
        refine (within_yes epoch 0 4294967295 _ (by omega) (by omega)).mono ?_
        rintro ew w1 ⟨rfl, rfl⟩
        go_wp2_with fail
        refine (within_no seq 0 1099511627776 _ (by omega)).mono ?_
        rintro ew w1 ⟨rfl, rfl⟩
        go_wp2
        go_ret2
        exact ⟨rfl, hB0⟩
    · clear hf
      go_enter Try.func28, Try.ntmps28
      go_wp2_with fail
      refine (within_yes kind 1 4 _ (by omega) (by omega)).mono ?_
      rintro ew w1 ⟨rfl, rfl⟩
      go_wp2_with fail
      refine (within_no epoch 0 4294967295 _ (by omega)).mono ?_
      rintro ew w1 ⟨rfl, rfl⟩
      go_wp2
      go_ret2
      exact ⟨rfl, hB0⟩
  · clear hf
    go_enter Try.func28, Try.ntmps28
    go_wp2_with fail
    refine (within_no kind 1 4 _ (by omega)).mono ?_
    rintro ew w1 ⟨rfl, rfl⟩
    go_wp2
    go_ret2
    exact ⟨rfl, hB0⟩

set_option maxRecDepth 100000 in
set_option maxHeartbeats 2000000 in
theorem encode_len (ok : Nat → Prop) (b : Fb) (v : Value) (w : World) (hx : Byt ok w v b.body) (hf : b.fits) (hl : ¬ b.body.length ≤ 40) :
    Calls Try.prog 28 #[b.val v] w fun en w' => en = .returned (.tuple #[.slice none 0 0, .int .i64 3]) ∧ Below w.heap.size w w' := by
  obtain ⟨kind, epoch, seq, lba, body⟩ := b
  simp only [Fb.fits] at hx hf hl
  obtain ⟨A, c, rfl, hc, hm, hA⟩ := hx.open_
  clear hA hm hc
  unfold Fb.val
  have hB0 : Below w.heap.size w (w.alloc (.cells #[.int .i64 kind, .int .i64 epoch, .int .i64 seq, .int .i64 lba, .slice A body.length c] 29)) := (Below.refl _ _).alloc (Nat.le_refl _) _
  have hl2 : 40 < body.length := by omega
  clear hl
  go_enter Try.func28, Try.ntmps28
  go_wp2_with fail
  refine (within_yes kind 1 4 _ (by omega) (by omega)).mono ?_
  rintro ew w1 ⟨rfl, rfl⟩
  go_wp2_with fail
  refine (within_yes epoch 0 4294967295 _ (by omega) (by omega)).mono ?_
  rintro ew w1 ⟨rfl, rfl⟩
  go_wp2_with fail
  refine (within_yes seq 0 1099511627776 _ (by omega) (by omega)).mono ?_
  rintro ew w1 ⟨rfl, rfl⟩
  go_wp2_with fail
  refine (within_yes lba 0 1048576 _ (by omega) (by omega)).mono ?_
  rintro ew w1 ⟨rfl, rfl⟩
  go_wp2
  go_ret2
  exact ⟨rfl, hB0⟩

/-- Encode, whatever it is given. -/
theorem encode_any (ok : Nat → Prop) (b : Fb) (v : Value) (w : World) (hx : Byt ok w v b.body) (hb : IsB b.body) :
    Calls Try.prog 28 #[b.val v] w fun en w' => ∃ r, en = .returned (.tuple #[r, .int .i64 b.err]) ∧ BytO w' w.heap.size r (if b.err = 0 then b.enc else []) ∧ Below w.heap.size w w' := by
  by_cases hf : b.fits
  · by_cases hl : b.body.length ≤ 40
    · have he : b.err = 0 := by simp [Fb.err, hf, hl]
      rw [he]
      obtain ⟨kind, epoch, seq, lba, body⟩ := b
      obtain ⟨k1, k2, e1, e2, s1, s2, l1, l2⟩ := hf
      simp only at k1 k2 e1 e2 s1 s2 l1 l2 hl hx hb
      obtain ⟨k, rfl⟩ := Int.eq_ofNat_of_zero_le (show 0 ≤ kind by omega)
      obtain ⟨e, rfl⟩ := Int.eq_ofNat_of_zero_le e1
      obtain ⟨q, rfl⟩ := Int.eq_ofNat_of_zero_le s1
      obtain ⟨l, rfl⟩ := Int.eq_ofNat_of_zero_le l1
      exact encode_ok ok k e q l body v w hx hb (by omega) (by omega) (by omega) (by omega) (by omega) hl
    · have he : b.err = 3 := by simp [Fb.err, hf, hl]
      rw [he]
      refine (encode_len ok b v w hx hf hl).mono ?_
      rintro en w' ⟨rfl, hb⟩
      exact ⟨_, rfl, World.ownsRow_nil _ _ _ _, hb⟩
  · have he : b.err = 1 := by simp [Fb.err, hf]
    rw [he]
    refine (encode_arg ok b v w hx hf).mono ?_
    rintro en w' ⟨rfl, hb⟩
    exact ⟨_, rfl, World.ownsRow_nil _ _ _ _, hb⟩

def plain (xs : List Int) : Bool := decide (xs.length = 64) && !(xs.any (· != 0))
set_option maxRecDepth 100000 in
set_option maxHeartbeats 1000000 in
theorem plain_any (ok : Nat → Prop) (v : Value) (xs : List Int) (w : World) (hx : Byt ok w v xs) :
    Calls Try.prog 33 #[v] w fun e w' => e = .returned (.bool (plain xs)) ∧ w = w' := by
  obtain ⟨A, c, rfl, hc, hm, hA⟩ := hx.open_
  clear hc hm hA
  by_cases hl : xs.length = 64
  · have h1 : ((xs.length : Int) == 64) = true := by simp [hl]
    have hp : plain xs = !(xs.any (· != 0)) := by simp [plain, hl]
    have HP := Lib.hid hp
    clear hp hl
    go_enter Try.func33, Try.ntmps33
    go_wp2_with fail
    refine (containsB ok _ xs _ hx).mono ?_
    rintro e w1 ⟨rfl, rfl⟩
    go_wp2
    go_ret
    exact ⟨ret_of (by rw [HP.out]; rfl), rfl⟩
  · have h1 : ((xs.length : Int) == 64) = false := by simp; omega
    have hp : plain xs = false := by simp [plain, hl]
    have HP := Lib.hid hp
    clear hp hl
    go_enter Try.func33, Try.ntmps33
    go_wp2
    go_ret
    exact ⟨ret_of (by rw [HP.out]; rfl), rfl⟩

end Go.Proofs.Ytfpnodboebpemaa
