/- Slots: Save and Open, what stays whatever happens, as plain data; contracts of blocks and write for either slot. -/
import Derived.Test.YtfpnodboebpemaaSltC
namespace Go.Proofs.Ytfpnodboebpemaa
open Go.RowKit Go.Proofs.YtfpnodboebpemaaW.PrintWords
set_option linter.unusedVariables false
set_option linter.unusedSimpArgs false
section

def Slt.room (s : Slt) (S : Nat) : Int := 40 * (((min (s.mid - s.lo) (s.hi - s.mid) : Nat) : Int) * (S : Int) - 2)
structure Slt.ok (s : Slt) (D : Dev) : Prop where
  low : s.lo < s.mid
  high : s.mid < s.hi
  top : s.hi ≤ D.zones.length
  inn : s.inn ≤ 1
  text : s.text.length ≤ 1000000
  count : s.count ≤ 1000000000
def Slt.wr (s : Slt) (D : Dev) (t : List Int) : Dev × Int := sltWrite D (s.from (1 - s.inn)) (s.to (1 - s.inn)) ((s.count + 1 : Nat) : Int) t
def Slt.save (s : Slt) (D : Dev) (t : List Int) : Slt × Dev × Int :=
  if s.room D.size < t.length then (s, D, 7)
  else if s.off = true then (s, D, 12)
  else if (s.wr D t).2 ≠ 0 then ({ s with off := true }, (s.wr D t).1, (s.wr D t).2)
  else ({ s with inn := 1 - s.inn, text := t, count := s.count + 1 }, (s.wr D t).1, 0)
theorem save_big {s : Slt} {D : Dev} {t : List Int} (h : s.room D.size < t.length) : s.save D t = (s, D, 7) := by unfold Slt.save; rw [if_pos h]
theorem save_off {s : Slt} {D : Dev} {t : List Int} (h : ¬ s.room D.size < t.length) (h2 : s.off = true) : s.save D t = (s, D, 12) := by unfold Slt.save; rw [if_neg h, if_pos h2]
theorem save_no {s : Slt} {D : Dev} {t : List Int} (h : ¬ s.room D.size < t.length) (h2 : ¬ s.off = true) (h3 : (s.wr D t).2 ≠ 0) : s.save D t = ({ s with off := true }, (s.wr D t).1, (s.wr D t).2) := by unfold Slt.save; rw [if_neg h, if_neg h2, if_pos h3]
theorem save_yes {s : Slt} {D : Dev} {t : List Int} (h : ¬ s.room D.size < t.length) (h2 : ¬ s.off = true) (h3 : ¬ (s.wr D t).2 ≠ 0) : s.save D t = ({ s with inn := 1 - s.inn, text := t, count := s.count + 1 }, (s.wr D t).1, 0) := by unfold Slt.save; rw [if_neg h, if_neg h2, if_neg h3]

/-- Where a slot begins. -/
def fr (a b i : Nat) : Nat := if i = 0 then a else b
def blkI (D : Dev) (lo mid hi i : Nat) : List (List Int) := zb D.size (D.reg (fr lo mid i) (fr mid hi i - fr lo mid i))
def slotPick (s : Nat × List Int × Int) (i : Nat) (r : List Int × Int) : Nat × List Int × Int := if s.2.2 < r.2 then (i, r.1, r.2) else s
def pickTo (D : Dev) (lo mid hi : Nat) : Nat → Nat × List Int × Int
  | 0 => (1, [], 0)
  | k + 1 => slotPick (pickTo D lo mid hi k) k (sread (blkI D lo mid hi k))
theorem pick_yes {D : Dev} {lo mid hi k : Nat} (h : (pickTo D lo mid hi k).2.2 < (sread (blkI D lo mid hi k)).2) : pickTo D lo mid hi (k + 1) = (k, (sread (blkI D lo mid hi k)).1, (sread (blkI D lo mid hi k)).2) := by unfold pickTo slotPick; rw [if_pos h]
theorem pick_no {D : Dev} {lo mid hi k : Nat} (h : ¬ (pickTo D lo mid hi k).2.2 < (sread (blkI D lo mid hi k)).2) : pickTo D lo mid hi (k + 1) = pickTo D lo mid hi k := by rw [pickTo]; unfold slotPick; rw [if_neg h]
theorem pick_inn {D : Dev} {lo mid hi : Nat} : ∀ k, k ≤ 2 → (pickTo D lo mid hi k).1 ≤ 1 ∧ 0 ≤ (pickTo D lo mid hi k).2.2
  | 0, _ => ⟨Nat.le_refl _, Int.le_refl _⟩
  | k + 1, h => by
    have ih := pick_inn (D := D) (lo := lo) (mid := mid) (hi := hi) k (by omega)
    by_cases hc : (pickTo D lo mid hi k).2.2 < (sread (blkI D lo mid hi k)).2
    · rw [pick_yes hc]; exact ⟨by simp only; omega, by simp only; omega⟩
    · rw [pick_no hc]; exact ih
def slotOf (D : Dev) (lo mid hi : Nat) : Slt := ⟨lo, mid, hi, (pickTo D lo mid hi 2).1, (pickTo D lo mid hi 2).2.1, (pickTo D lo mid hi 2).2.2.toNat, false⟩
def slotOpen (D : Dev) (lo mid hi : Nat) : Option Slt × Dev × Int :=
  if (blkI D lo mid hi 0).any (odd 3) = true ∨ (blkI D lo mid hi 1).any (odd 3) = true then (none, D, 13)
  else if D.flush.2 ≠ 0 then (none, D.flush.1, D.flush.2)
  else (some (slotOf D lo mid hi), D.flush.1, 0)
theorem open_odd {D : Dev} {lo mid hi k : Nat} (hk : k ≤ 1) (h : (blkI D lo mid hi k).any (odd 3) = true) : slotOpen D lo mid hi = (none, D, 13) := by
  unfold slotOpen
  rw [if_pos]
  rcases (show k = 0 ∨ k = 1 by omega) with rfl | rfl
  · exact .inl h
  · exact .inr h
theorem open_off {D : Dev} {lo mid hi : Nat} (h : ∀ j, j < 2 → (blkI D lo mid hi j).any (odd 3) = false) (h2 : D.flush.2 ≠ 0) : slotOpen D lo mid hi = (none, D.flush.1, D.flush.2) := by
  unfold slotOpen
  rw [if_neg (by rw [h 0 (by omega), h 1 (by omega)]; simp), if_pos h2]
theorem open_yes {D : Dev} {lo mid hi : Nat} (h : ∀ j, j < 2 → (blkI D lo mid hi j).any (odd 3) = false) (h2 : ¬ D.flush.2 ≠ 0) : slotOpen D lo mid hi = (some (slotOf D lo mid hi), D.flush.1, 0) := by
  unfold slotOpen
  rw [if_neg (by rw [h 0 (by omega), h 1 (by omega)]; simp), if_neg h2]

/-! ### Bounds -/
theorem zb_len {S : Nat} {Zs : List Zn} {m : Nat} (h : ∀ Z ∈ Zs, Z.blocks.length ≤ m) : (zb S Zs).length ≤ Zs.length * m := by
  induction Zs with
  | nil => simp [zb]
  | cons Z Zs ih =>
    have h1 := h Z List.mem_cons_self
    have h2 := ih (fun Y hY => h Y (List.mem_cons_of_mem _ hY))
    rw [List.length_cons, Nat.succ_mul]
    rw [zb, List.length_append]
    split
    · rw [List.length_nil]; omega
    · omega
theorem zb_mem {S : Nat} {Zs : List Zn} {p : List Int} (h : p ∈ zb S Zs) : ∃ Z ∈ Zs, p ∈ Z.blocks := by
  induction Zs with
  | nil => simp [zb] at h
  | cons Z Zs ih =>
    rw [zb] at h
    rcases List.mem_append.1 h with h | h
    · exact ⟨Z, List.mem_cons_self, h⟩
    · split at h
      · cases h
      · obtain ⟨Y, h1, h2⟩ := ih h
        exact ⟨Y, List.mem_cons_of_mem _ h1, h2⟩
theorem reg_mem {D : Dev} {lo m : Nat} {Z : Zn} (h : Z ∈ D.reg lo m) : Z ∈ D.zones := List.mem_of_mem_drop (List.mem_of_mem_take h)
theorem blkI_len {D : Dev} (hD : D.ok) (lo mid hi i : Nat) : (blkI D lo mid hi i).length ≤ 12288 := by
  have h1 := zb_len (S := D.size) (Zs := D.reg (fr lo mid i) (fr mid hi i - fr lo mid i)) (m := 192) (fun Z hZ => by
    have := (hD.full Z (reg_mem hZ)).1
    have := hD.size
    omega)
  have h2 : (D.reg (fr lo mid i) (fr mid hi i - fr lo mid i)).length ≤ D.zones.length := by unfold Dev.reg; rw [List.length_take, List.length_drop]; omega
  have h3 := hD.zones
  unfold blkI
  have : (D.reg (fr lo mid i) (fr mid hi i - fr lo mid i)).length * 192 ≤ 64 * 192 := Nat.mul_le_mul_right _ (by omega)
  omega
theorem blkI_64 {D : Dev} (hD : D.ok) {lo mid hi i : Nat} {p : List Int} (h : p ∈ blkI D lo mid hi i) : p.length = 64 := by
  obtain ⟨Z, h1, h2⟩ := zb_mem h
  exact ((hD.full Z (reg_mem h1)).2.2 p h2).1
theorem sreadG_len : ∀ (l : List (List Int)) (i : Nat) (n : Int) (t : List Int), (sreadG l i n t).1.length ≤ t.length + 40 * l.length
  | [], i, n, t => by simp [sreadG]
  | p :: l, i, n, t => by
    rw [sreadG]
    have h1 := sreadG_len l (i + 1) (decB p).seq t
    have h2 := sreadG_len l (i + 1) n (t ++ (decB p).body)
    have h3 := dec_len40 p
    rw [List.length_append] at h2
    rw [List.length_cons]
    repeat' split
    all_goals first
      | omega
      | exact Nat.zero_le _
      | (simp only [List.length_nil]; omega)
theorem sread_len (l : List (List Int)) : (sread l).1.length ≤ 40 * l.length := by
  have := sreadG_len l 0 0 []
  rw [List.length_nil, Nat.zero_add] at this
  exact this
theorem pick_len {D : Dev} (hD : D.ok) {lo mid hi : Nat} : ∀ k, (pickTo D lo mid hi k).2.1.length ≤ 500000
  | 0 => Nat.zero_le _
  | k + 1 => by
    by_cases hc : (pickTo D lo mid hi k).2.2 < (sread (blkI D lo mid hi k)).2
    · rw [pick_yes hc]
      have h1 := sread_len (blkI D lo mid hi k)
      have h2 := blkI_len hD lo mid hi k
      simp only; omega
    · rw [pick_no hc]; exact pick_len hD k

section
variable {M : List HP} {K : List KP} {p d lo mid hi i : Nat} {D : Dev} {e f g h : Value}
theorem blocksI_ct {a : Int} (hD : D.ok) (h1 : lo ≤ mid) (h2 : mid ≤ hi) (h3 : hi ≤ D.zones.length) (ha : a = (i : Int)) (hi' : i ≤ 1) :
    Fn 124 [ptr p 0, .int .i64 a] (pt p 175 [ptr d 0, .int .i64 lo, .int .i64 mid, .int .i64 hi, .int .i64 D.size, e, f, g, h] :: devH d D :: M) K (fun _ : Option Addr × Nat => True) (fun r => .slice r.1 (blkI D lo mid hi i).length r.2) (fun _ => pt p 175 [ptr d 0, .int .i64 lo, .int .i64 mid, .int .i64 hi, .int .i64 D.size, e, f, g, h] :: devH d D :: M) (fun r => rowsK r.1 r.2 (blkI D lo mid hi i) :: K) := by
  subst ha
  rcases (show i = 0 ∨ i = 1 by omega) with rfl | rfl
  · exact blocks0_ct hD h1 (by omega)
  · exact blocks1_ct hD h2 h3
theorem writeI_ct {a n : Int} {A : Option Addr} {c : Nat} {t : List Int} (hD : D.ok) (h1 : lo ≤ mid) (h2 : mid ≤ hi) (h3 : hi ≤ D.zones.length) (ha : a = (i : Int)) (hi' : i ≤ 1) (hn : seqOk n) (ht : bytesK A c t ∈ K) (htl : t.length ≤ 1000000) :
    Fn 127 [ptr p 0, .int .i64 a, .int .i64 n, .slice A t.length c] (pt p 175 [ptr d 0, .int .i64 lo, .int .i64 mid, .int .i64 hi, .int .i64 D.size, e, f, g, h] :: devH d D :: M) K (fun _ : Unit => True) (fun _ => .int .i64 (sltWrite D (fr lo mid i) (fr mid hi i) n t).2) (fun _ => pt p 175 [ptr d 0, .int .i64 lo, .int .i64 mid, .int .i64 hi, .int .i64 D.size, e, f, g, h] :: devH d (sltWrite D (fr lo mid i) (fr mid hi i) n t).1 :: M) (fun _ => K) := by
  subst ha
  rcases (show i = 0 ∨ i = 1 by omega) with rfl | rfl
  · exact write0_ct hD h1 (by omega) hn ht htl
  · exact write1_ct hD h2 h3 hn ht htl
end
end

section

def Has (R : Nat → List Int × Int) (inn : Nat) (t : List Int) (n : Nat) : Prop :=
  (n = 0 ∧ t = [] ∧ inn = 1 ∧ (R 0).2 ≤ 0 ∧ (R 1).2 ≤ 0) ∨ (0 < n ∧ inn ≤ 1 ∧ R inn = (t, (n : Int)) ∧ (R (1 - inn)).2 < n)
theorem Has.inn {R : Nat → List Int × Int} {inn n : Nat} {t : List Int} (h : Has R inn t n) : inn ≤ 1 := by
  rcases h with ⟨_, _, rfl, _⟩ | ⟨_, h, _⟩
  · exact Nat.le_refl _
  · exact h
theorem Has.next {R R' : Nat → List Int × Int} {inn n : Nat} {t t' : List Int} (h : Has R inn t n) (h1 : R' inn = R inn) (h2 : R' (1 - inn) = (t', ((n + 1 : Nat) : Int))) : Has R' (1 - inn) t' (n + 1) := by
  have hi := h.inn
  refine .inr ⟨by omega, by omega, h2, ?_⟩
  rw [show 1 - (1 - inn) = inn by omega, h1]
  rcases h with ⟨rfl, _, rfl, _, h⟩ | ⟨_, _, h, _⟩
  · push_cast; omega
  · rw [h]; push_cast; omega
theorem Has.same {R R' : Nat → List Int × Int} {inn n : Nat} {t : List Int} (h : Has R inn t n) (h1 : R' inn = R inn) (h2 : R' (1 - inn) = ([], 0)) : Has R' inn t n := by
  rcases h with ⟨rfl, rfl, rfl, h3, h4⟩ | ⟨h3, h4, h5, h6⟩
  · exact .inl ⟨rfl, rfl, rfl, by rw [show R' 0 = ([], 0) from h2]; exact Int.le_refl _, by rw [h1]; exact h4⟩
  · exact .inr ⟨h3, h4, by rw [h1, h5], by rw [h2]; simp only; omega⟩
theorem Has.congr {R R' : Nat → List Int × Int} {inn n : Nat} {t : List Int} (h : Has R inn t n) (h1 : ∀ i, i ≤ 1 → R' i = R i) : Has R' inn t n := by
  rcases h with ⟨rfl, rfl, rfl, h3, h4⟩ | ⟨h3, h4, h5, h6⟩
  · exact .inl ⟨rfl, rfl, rfl, by rw [h1 0 (by omega)]; exact h3, by rw [h1 1 (by omega)]; exact h4⟩
  · exact .inr ⟨h3, h4, by rw [h1 _ h4, h5], by rw [h1 _ (by omega)]; exact h6⟩
theorem Has.pick {D : Dev} {lo mid hi inn n : Nat} {t : List Int} (h : Has (fun i => sread (blkI D lo mid hi i)) inn t n) : pickTo D lo mid hi 2 = (inn, t, (n : Int)) := by
  obtain ⟨R, hR⟩ : ∃ R : Nat → List Int × Int, R = fun i => sread (blkI D lo mid hi i) := ⟨_, rfl⟩
  have h2 : pickTo D lo mid hi 2 = slotPick (slotPick (1, [], 0) 0 (R 0)) 1 (R 1) := by rw [hR]; rfl
  rw [← hR] at h
  rw [h2]
  have hy : ∀ (s : Nat × List Int × Int) (i : Nat) (r : List Int × Int), s.2.2 < r.2 → slotPick s i r = (i, r.1, r.2) := fun s i r h => by unfold slotPick; rw [if_pos h]
  have hn : ∀ (s : Nat × List Int × Int) (i : Nat) (r : List Int × Int), ¬ s.2.2 < r.2 → slotPick s i r = s := fun s i r h => by unfold slotPick; rw [if_neg h]
  rcases h with ⟨rfl, rfl, rfl, h3, h4⟩ | ⟨h3, h4, h5, h6⟩
  · rw [hn (1, [], 0) 0 (R 0) (by simp only; omega), hn _ 1 (R 1) (by simp only; omega)]; rfl
  · rcases (show inn = 0 ∨ inn = 1 by omega) with rfl | rfl
    · rw [show 1 - 0 = 1 from rfl] at h6
      rw [h5, hy (1, [], 0) 0 (t, (n : Int)) (by simp only; omega), hn _ 1 (R 1) (by simp only; omega)]
    · rw [show 1 - 1 = 0 from rfl] at h6
      rw [h5]
      by_cases h7 : (0 : Int) < (R 0).2
      · rw [hy (1, [], 0) 0 (R 0) h7, hy _ 1 (t, (n : Int)) (by simp only; omega)]
      · rw [hn (1, [], 0) 0 (R 0) h7, hy _ 1 (t, (n : Int)) (by simp only; omega)]

/-! ### Regions -/
def rg (D : Dev) (lo mid hi i : Nat) : List Zn := D.reg (fr lo mid i) (fr mid hi i - fr lo mid i)
theorem blkI_rg (D : Dev) (lo mid hi i : Nat) : blkI D lo mid hi i = zb D.size (rg D lo mid hi i) := rfl
structure Inv (D : Dev) (lo mid hi inn : Nat) (t : List Int) (n : Nat) : Prop where
  still : ∀ i, i ≤ 1 → Go.Proofs.Ytfpnodboebpemaa.still (rg D lo mid hi i)
  has : Has (fun i => sread (blkI D lo mid hi i)) inn t n
  fine : ∀ i, i ≤ 1 → (blkI D lo mid hi i).any (odd 3) = false
theorem Inv.congr {D D' : Dev} {lo mid hi inn n : Nat} {t : List Int} (h : Inv D lo mid hi inn t n) (hs : D'.size = D.size) (hr : ∀ i, i ≤ 1 → rg D' lo mid hi i = rg D lo mid hi i) : Inv D' lo mid hi inn t n := by
  have hb : ∀ i, i ≤ 1 → blkI D' lo mid hi i = blkI D lo mid hi i := fun i hi => by rw [blkI_rg, blkI_rg, hs, hr i hi]
  exact ⟨fun i hi => by rw [hr i hi]; exact h.still i hi, h.has.congr (fun i hi => by show sread _ = sread _; rw [hb i hi]), fun i hi => by rw [hb i hi]; exact h.fine i hi⟩
theorem reg_map {D D' : Dev} {lo m : Nat} {f : Zn → Zn} (hl : D'.zones.length = D.zones.length) (hm : lo + m ≤ D.zones.length) (h : ∀ j, j < m → D'.at (lo + j) = f (D.at (lo + j))) : D'.reg lo m = (D.reg lo m).map f := by
  apply List.ext_getElem?
  intro j
  rw [List.getElem?_map]
  rcases Nat.lt_or_ge j m with hj | hj
  · rw [reg_at (by omega) hj, reg_at (by omega) hj, h j hj]; rfl
  · rw [List.getElem?_eq_none (by rw [reg_length (by omega)]; exact hj), List.getElem?_eq_none (by rw [reg_length (by omega)]; exact hj)]; rfl
theorem still_at {D : Dev} {lo m j : Nat} (hm : lo + m ≤ D.zones.length) (h : still (D.reg lo m)) (hj : j < m) : D.at (lo + j) = ⟨(D.at (lo + j)).blocks, (D.at (lo + j)).blocks.length⟩ := by
  have := h _ (List.mem_of_getElem? (reg_at hm hj))
  rw [← this]
theorem still_flush {D D' : Dev} {lo m : Nat} (hl : D'.zones.length = D.zones.length) (hm : lo + m ≤ D.zones.length) (h : still (D.reg lo m)) (hf : ∀ j, D'.at j = ⟨(D.at j).blocks, (D.at j).blocks.length⟩) : D'.reg lo m = D.reg lo m :=
  reg_congr hl (fun j hj => by rw [hf, ← still_at hm h hj]) hm
theorem fr_le {D : Dev} {lo mid hi i : Nat} (h1 : lo < mid) (h2 : mid < hi) (h3 : hi ≤ D.zones.length) (hi' : i ≤ 1) : fr lo mid i < fr mid hi i ∧ fr mid hi i ≤ D.zones.length ∧ fr lo mid i + (fr mid hi i - fr lo mid i) ≤ D.zones.length := by
  rcases (show i = 0 ∨ i = 1 by omega) with rfl | rfl
  · simp only [fr, if_true]; omega
  · simp [fr]; omega

/-! ### A crash of what is for good, and opening -/
section
variable {D : Dev} {lo mid hi inn n : Nat} {t : List Int}
theorem Inv.crash (h : Inv D lo mid hi inn t n) (picks torn : List Int) : Inv (D.crash picks torn) lo mid hi inn t n :=
  h.congr rfl fun i hi => (reg_crashed D picks torn _ _).still (h.still i hi)
theorem Inv.flush (hD : D.ok) (h : Inv D lo mid hi inn t n) (h1 : lo < mid) (h2 : mid < hi) (h3 : hi ≤ D.zones.length) : Inv D.flush.1 lo mid hi inn t n := by
  rcases flush_cases hD with ⟨D', e, hok, hl, hs, hlv, hat⟩ | ⟨D', e, hok, hl, hs, ho, hat, hn⟩
  · rw [e]; exact h.congr hs fun i hi => still_flush hl (fr_le h1 h2 h3 hi).2.2 (h.still i hi) hat
  · rw [e]; exact h.congr hs fun i hi => reg_congr hl (fun j hj => hat _) (fr_le h1 h2 h3 hi).2.2
theorem Inv.open_ (hD : D.ok) (h : Inv D lo mid hi inn t n) : slotOpen D lo mid hi = if D.flush.2 ≠ 0 then (none, D.flush.1, D.flush.2) else (some ⟨lo, mid, hi, inn, t, n, false⟩, D.flush.1, 0) := by
  by_cases hf : D.flush.2 ≠ 0
  · rw [if_pos hf, open_off (fun j hj => h.fine j (by omega)) hf]
  · rw [if_neg hf, open_yes (fun j hj => h.fine j (by omega)) hf]
    unfold slotOf
    rw [h.has.pick]
    rfl
end

/-! ### Blocks that a slot may hold are not odd -/
theorem enc_kind {b : Fb} (h : b.err = 0) : rd b.enc 0 = b.kind := by
  have h1 := (enc_dec h).1
  have h2 := (enc_dec h).2
  have h3 : (decB b.enc).kind = rd b.enc 0 := by
    unfold decB
    rw [if_pos h1]
    rfl
  rw [← h3, h2]
theorem slotB_odd {n : Int} {t : List Int} (hn : seqOk n) (ht : t.length ≤ 1000000) {p : List Int} (h : p ∈ slotB n t) : odd 3 p = false ∧ odd 3 (tornL p) = false := by
  obtain ⟨b, hb, rfl⟩ := slotB_mem h
  have he := slotF_err hn ht b hb
  have hk := slotF_kind b hb
  have hr := enc_kind he
  have ht0 := torn_rd0 (p := b.enc) (by rw [enc_len he]; omega)
  unfold odd
  rw [ht0, hr]
  constructor <;> exact decide_eq_false (by omega)
theorem any_false {l : List (List Int)} (h : ∀ p ∈ l, odd 3 p = false) : l.any (odd 3) = false := by
  rw [List.any_eq_false]; intro p hp; rw [h p hp]; simp
end

section

section
variable {D C : Dev} {lo mid hi inn n : Nat} {t t' : List Int}
theorem Inv.other (h : Inv D lo mid hi inn t n) (hs : C.size = D.size) (hin : rg C lo mid hi inn = rg D lo mid hi inn) (hst : Go.Proofs.Ytfpnodboebpemaa.still (rg C lo mid hi (1 - inn))) (hodd : (blkI C lo mid hi (1 - inn)).any (odd 3) = false)
    (hr : sread (blkI C lo mid hi (1 - inn)) = ([], 0) ∨ sread (blkI C lo mid hi (1 - inn)) = (t', ((n + 1 : Nat) : Int))) : Inv C lo mid hi inn t n ∨ Inv C lo mid hi (1 - inn) t' (n + 1) := by
  have hi' := h.has.inn
  have hb : blkI C lo mid hi inn = blkI D lo mid hi inn := by rw [blkI_rg, blkI_rg, hs, hin]
  have hS : ∀ i, i ≤ 1 → Go.Proofs.Ytfpnodboebpemaa.still (rg C lo mid hi i) := fun i hi2 => by
    rcases (show i = inn ∨ i = 1 - inn by omega) with rfl | rfl
    · rw [hin]; exact h.still _ hi2
    · exact hst
  have hO : ∀ i, i ≤ 1 → (blkI C lo mid hi i).any (odd 3) = false := fun i hi2 => by
    rcases (show i = inn ∨ i = 1 - inn by omega) with rfl | rfl
    · rw [hb]; exact h.fine _ hi2
    · exact hodd
  have hR : sread (blkI C lo mid hi inn) = sread (blkI D lo mid hi inn) := by rw [hb]
  rcases hr with hr | hr
  · exact .inl ⟨hS, h.has.same hR hr, hO⟩
  · exact .inr ⟨hS, h.has.next hR hr, hO⟩
theorem zb_none {S : Nat} (hS : 0 < S) {Zs : List Zn} (h : ∀ Z, Zs[0]? = some Z → Z.blocks = []) : zb S Zs = [] := by
  cases Zs with
  | nil => rfl
  | cons Z Zs =>
    have := h Z rfl
    rw [zb_cons_short (by rw [this]; exact hS), this]
theorem Crashed.first {Zs Ys : List Zn} (h : Crashed Zs Ys) (h0 : ∀ Z, Zs[0]? = some Z → Z.blocks = []) : ∀ Z, Ys[0]? = some Z → Z.blocks = [] := by
  cases h with
  | nil => intro Z hZ; cases hZ
  | @cons Z Zs Ys x t h =>
    intro Y hY
    have hz := h0 Z rfl
    simp only [List.getElem?_cons_zero, Option.some.injEq] at hY
    subst hY
    obtain ⟨b, g⟩ := Z
    dsimp only at hz
    subst hz
    unfold crashZ Zn.crash Zn.cutAt
    cases t <;> simp
/-- What a crash leaves of the region that is written. -/
theorem slot_crash {S k : Nat} (hS : 0 < S) (hn : seqOk n) (ht : t.length ≤ 1000000) (hB : IsB t) {Zs Ys : List Zn} (hl : laidOn S ((slotB n t).take k) 0 Zs) (hc : Crashed Zs Ys) :
    (zb S Ys).any (odd 3) = false ∧ (sread (zb S Ys) = ([], 0) ∨ sread (zb S Ys) = (t, (n : Int))) := by
  obtain ⟨p, _, hp, h⟩ := crash_laid hS hl (Nat.zero_le _) hc
  have hm : ∀ q ∈ (slotB (n : Int) t).take k, odd 3 q = false ∧ odd 3 (tornL q) = false := fun q hq => slotB_odd hn ht (List.mem_of_mem_take hq)
  constructor
  · refine any_false fun q hq => ?_
    rcases h with h | ⟨x, hx, j, hj, h⟩
    · rw [h] at hq; exact (hm q (List.mem_of_mem_take hq)).1
    · rw [h] at hq
      rcases List.mem_append.1 hq with hq | hq
      · exact (hm q (List.mem_of_mem_take hq)).1
      · rcases List.mem_cons.1 hq with rfl | hq
        · exact (hm x (List.mem_of_getElem? hx)).2
        · obtain ⟨y, hy, he⟩ := hj.mem q hq
          have := hm y (List.mem_of_mem_drop hy)
          rcases he with rfl | rfl
          · exact this.1
          · exact this.2
  · refine sread_crash hn ht hB hp ?_
    rcases h with h | ⟨x, hx, j, hj, h⟩
    · exact .inl h
    · exact .inr ⟨x, hx, j, h⟩
theorem slotB_len {n : Int} {t : List Int} (hn : seqOk n) (ht : t.length ≤ 1000000) (hB : IsB t) : ∀ p ∈ slotB n t, p.length = 64 ∧ IsB p := fun p hp => by
  obtain ⟨b, hb, rfl⟩ := slotB_mem hp
  have he := slotF_err hn ht b hb
  exact ⟨enc_len he, enc_b b (err_fits he).1 (err_fits he).2 (slotF_b hB b hb)⟩
theorem write_law (hD : D.ok) (h : Inv D lo mid hi inn t n) (h1 : lo < mid) (h2 : mid < hi) (h3 : hi ≤ D.zones.length) (hn : n ≤ 1000000) (ht : t'.length ≤ 1000000) (hB : IsB t') (hr : partsC t' + 2 ≤ (fr mid hi (1 - inn) - fr lo mid (1 - inn)) * D.size) :
    (∃ D', sltWrite D (fr lo mid (1 - inn)) (fr mid hi (1 - inn)) ((n + 1 : Nat) : Int) t' = (D', 0) ∧ Inv D' lo mid hi (1 - inn) t' (n + 1) ∧ D'.ok ∧ D'.zones.length = D.zones.length ∧ D'.size = D.size ∧ (D.live → D'.live) ∧ ∀ j, (j < fr lo mid (1 - inn) ∨ fr mid hi (1 - inn) ≤ j) → D'.at j = ⟨(D.at j).blocks, (D.at j).blocks.length⟩) ∨
    (∃ D', sltWrite D (fr lo mid (1 - inn)) (fr mid hi (1 - inn)) ((n + 1 : Nat) : Int) t' = (D', 12) ∧ ¬ D.live ∧ D'.ok ∧ D'.zones.length = D.zones.length ∧ D'.size = D.size ∧ ∀ picks torn, Inv (D'.crash picks torn) lo mid hi inn t n ∨ Inv (D'.crash picks torn) lo mid hi (1 - inn) t' (n + 1)) := by
  have hinn := h.has.inn
  have hS : 0 < D.size := by have := hD.size; omega
  have hsq : seqOk ((n + 1 : Nat) : Int) := ⟨by omega, by omega⟩
  obtain ⟨f1, f2, f3⟩ := fr_le h1 h2 h3 (show 1 - inn ≤ 1 by omega)
  obtain ⟨g1, g2, g3⟩ := fr_le h1 h2 h3 hinn
  have hap : ∀ j, j < fr mid hi inn - fr lo mid inn → (fr lo mid inn + j < fr lo mid (1 - inn) ∨ fr mid hi (1 - inn) ≤ fr lo mid inn + j) := by
    rcases (show inn = 0 ∨ inn = 1 by omega) with rfl | rfl
    · intro j hj; simp [fr] at hj ⊢ <;> omega
    · intro j hj; simp [fr] at hj ⊢ <;> omega
  obtain ⟨a, ha⟩ : ∃ a, fr lo mid (1 - inn) = a := ⟨_, rfl⟩
  obtain ⟨b, hb⟩ : ∃ b, fr mid hi (1 - inn) = b := ⟨_, rfl⟩
  have hrg : ∀ X : Dev, rg X lo mid hi (1 - inn) = X.reg a (b - a) := fun X => by unfold rg; rw [ha, hb]
  simp only [ha, hb] at hap f1 f2 f3 hr ⊢
  -- a device that failed
  have fail : ∀ D' : Dev, D'.zones.length = D.zones.length → D'.size = D.size → (∀ j, (j < a ∨ a + (b - a) ≤ j) → D'.at j = D.at j) →
      (∀ Ys, Crashed (D'.reg a (b - a)) Ys → (zb D.size Ys).any (odd 3) = false ∧ (sread (zb D.size Ys) = ([], 0) ∨ sread (zb D.size Ys) = (t', ((n + 1 : Nat) : Int)))) →
      ∀ picks torn, Inv (D'.crash picks torn) lo mid hi inn t n ∨ Inv (D'.crash picks torn) lo mid hi (1 - inn) t' (n + 1) := fun D' hl hs ho hc picks torn => by
    have hcr := reg_crashed D' picks torn a (b - a)
    have hin : rg D' lo mid hi inn = rg D lo mid hi inn := reg_congr hl (fun j hj => ho _ (by have := hap j hj; omega)) g3
    have hcs := hc _ hcr
    have hbk : blkI (D'.crash picks torn) lo mid hi (1 - inn) = zb D.size ((D'.crash picks torn).reg a (b - a)) := by rw [blkI_rg, hrg]; show zb D'.size _ = _; rw [hs]
    refine h.other (C := D'.crash picks torn) hs ?_ ?_ ?_ ?_
    · rw [← hin]; exact (reg_crashed D' picks torn _ _).still (by rw [show D'.reg _ _ = rg D lo mid hi inn from hin]; exact h.still _ hinn)
    · rw [hrg]; exact hcr.good
    · rw [hbk]; exact hcs.1
    · rw [hbk]; exact hcs.2
  rcases resets_cases (b - a) hD (z := a) f3 with ⟨D1, e1, n1, z1⟩ | ⟨D1, e1, o1, n1, l1, z1, w1⟩
  · have hlaid0 : laidOn D1.size [] 0 (D1.reg a (b - a)) := laid_empty (m := 0) fun Z hZ => by
      obtain ⟨j, hj⟩ := List.getElem?_of_mem hZ
      have hjl : j < b - a := by
        have := (List.getElem?_eq_some_iff.1 hj).1
        rwa [reg_length (by rw [n1.len]; exact f3)] at this
      rw [reg_at (by rw [n1.len]; exact f3) hjl] at hj
      injection hj with hj
      rw [← hj]; exact z1 j hjl
    rcases appends_cases (base := a) (m := b - a) (slotB ((n + 1 : Nat) : Int) t') n1.ok (by rw [n1.len]; exact f3) hlaid0 (Nat.le_refl _) (by rw [slotB_length, n1.size]; simp; exact hr) (slotB_len hsq ht hB) with ⟨D2, e2, n2, d2⟩ | ⟨D2, e2, o2, n2, l2, j, hj, d2⟩
    · rw [List.nil_append, n1.size] at d2
      rw [n1.size, List.length_nil] at e2
      have nn := n1.trans n2
      rcases flush_cases nn.ok with ⟨D3, e3, k3, len3, s3, v3, a3⟩ | ⟨D3, e3, k3, len3, s3, o3, a3, l3⟩
      · left
        have hreg : D3.reg a (b - a) = (D2.reg a (b - a)).map fun Z => ⟨Z.blocks, Z.blocks.length⟩ := reg_map len3 (by rw [nn.len]; exact f3) (fun j hj => a3 _)
        have hld := laid_blocks d2 hreg
        have hz : blkI D3 lo mid hi (1 - inn) = slotB ((n + 1 : Nat) : Int) t' := by rw [blkI_rg, hrg, s3, nn.size]; exact zb_laid hS hld
        have hout : ∀ j, (j < a ∨ b ≤ j) → D3.at j = ⟨(D.at j).blocks, (D.at j).blocks.length⟩ := fun j hj => by rw [a3, nn.out j (by omega)]
        have hin : rg D3 lo mid hi inn = rg D lo mid hi inn := reg_congr (by rw [len3, nn.len]) (fun j hj => by rw [hout _ (hap j hj), ← still_at g3 (h.still inn hinn) hj]) g3
        have hsr : sread (slotB ((n + 1 : Nat) : Int) t') = (t', ((n + 1 : Nat) : Int)) := by
          have := sread_slotB hsq ht []
          rwa [List.append_nil] at this
        refine ⟨D3, ?_, ?_, k3, by rw [len3, nn.len], by rw [s3, nn.size], fun hl => v3 (nn.live hl), hout⟩
        · rw [write_3 (by rw [e1]; simp) (by rw [e1, e2]; simp), e1, e2, e3]
        · have hst : still (rg D3 lo mid hi (1 - inn)) := by
            rw [hrg, hreg]
            intro Z hZ
            obtain ⟨Y, _, rfl⟩ := List.mem_map.1 hZ
            rfl
          have hodd : (blkI D3 lo mid hi (1 - inn)).any (odd 3) = false := by rw [hz]; exact any_false fun p hp => (slotB_odd hsq ht hp).1
          have hbin : blkI D3 lo mid hi inn = blkI D lo mid hi inn := by rw [blkI_rg, blkI_rg, hin, s3, nn.size]
          refine ⟨fun i hi2 => ?_, h.has.next (by show sread _ = sread _; rw [hbin]) (by show sread _ = _; rw [hz]; exact hsr), fun i hi2 => ?_⟩
          · rcases (show i = inn ∨ i = 1 - inn by omega) with rfl | rfl
            · rw [hin]; exact h.still _ hi2
            · exact hst
          · rcases (show i = inn ∨ i = 1 - inn by omega) with rfl | rfl
            · rw [hbin]; exact h.fine _ hi2
            · exact hodd
      · right
        refine ⟨D3, ?_, fun hl => l3 (nn.live hl), k3, by rw [len3, nn.len], by rw [s3, nn.size], fail D3 (by rw [len3, nn.len]) (by rw [s3, nn.size]) (fun j hj => by rw [a3, nn.out j hj]) fun Ys hY => ?_⟩
        · rw [write_3 (by rw [e1]; simp) (by rw [e1, e2]; simp), e1, e2, e3]
        · have hreg : D3.reg a (b - a) = D2.reg a (b - a) := reg_congr len3 (fun j hj => a3 _) (by rw [nn.len]; exact f3)
          rw [hreg] at hY
          exact slot_crash (k := (slotB ((n + 1 : Nat) : Int) t').length) hS hsq ht hB (by rw [List.take_length]; exact d2) hY
    · right
      rw [List.nil_append, n1.size] at d2
      rw [n1.size, List.length_nil] at e2
      have nn := n1.trans n2
      refine ⟨D2, ?_, fun hl => l2 (n1.live hl), nn.ok, nn.len, nn.size, fail D2 nn.len nn.size (fun j hj => nn.out j hj) fun Ys hY => slot_crash (k := j) hS hsq ht hB d2 hY⟩
      rw [write_2 (by rw [e1]; simp) (by rw [e1, e2]; simp), e1, e2]
  · right
    have hw : sltWrite D a b ((n + 1 : Nat) : Int) t' = (D1, 12) := by rw [write_1 (by rw [e1]; simp), e1]
    rcases w1 with w1 | ⟨hm, w1⟩
    · refine ⟨D1, hw, l1, n1.ok, n1.len, n1.size, fun picks torn => .inl ?_⟩
      have : Inv D1 lo mid hi inn t n := h.congr n1.size fun i hi2 => reg_congr n1.len (fun j _ => w1 _) (fr_le h1 h2 h3 hi2).2.2
      exact this.crash picks torn
    · refine ⟨D1, hw, l1, n1.ok, n1.len, n1.size, fail D1 n1.len n1.size n1.out fun Ys hY => ?_⟩
      have hz : zb D.size Ys = [] := zb_none hS (hY.first fun Z hZ => by
        rw [reg_at (by rw [n1.len]; exact f3) hm] at hZ
        injection hZ with hZ
        rw [← hZ]; exact w1)
      rw [hz]
      exact ⟨rfl, .inl rfl⟩
end
end
end Go.Proofs.Ytfpnodboebpemaa
