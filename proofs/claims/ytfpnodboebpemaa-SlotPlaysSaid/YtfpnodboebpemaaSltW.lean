/- Slots as the laws use them. -/
import Derived.Test.YtfpnodboebpemaaSltO
import Derived.Test.YtfpnodboebpemaaCvb
import Derived.Test.YtfpnodboebpemaaFine
import Derived.Test.YtfpnodboebpemaaSltM
namespace Go.Proofs.Ytfpnodboebpemaa
open Go.RowKit Go.Proofs.YtfpnodboebpemaaW.PrintWords
set_option linter.unusedVariables false
set_option linter.unusedSimpArgs false
section

/-- Where a slot may lie. -/
def geo (D : Dev) (lo mid hi : Nat) : Prop := lo < mid ∧ mid < hi ∧ hi ≤ D.zones.length
def slt (lo mid hi inn : Nat) (t : List Int) (n : Nat) : Slt := ⟨lo, mid, hi, inn, t, n, false⟩
/-- D', behind D: as good, nothing lost, all for good outside of the zones from a to b. -/
structure After (D D' : Dev) (a b : Nat) : Prop where
  ok : D'.ok
  len : D'.zones.length = D.zones.length
  size : D'.size = D.size
  live : D.live → D'.live
  out : ∀ j, (j < a ∨ b ≤ j) → D'.at j = ⟨(D.at j).blocks, (D.at j).blocks.length⟩
theorem room_parts {D : Dev} {lo mid hi inn : Nat} {t : List Int} (hD : D.ok) (hg : geo D lo mid hi) (hi' : inn ≤ 1) (h : (t.length : Int) ≤ 40 * (((min (mid - lo) (hi - mid) : Nat) : Int) * (D.size : Int) - 2)) : partsC t + 2 ≤ (fr mid hi (1 - inn) - fr lo mid (1 - inn)) * D.size ∧ t.length ≤ 1000000 := by
  obtain ⟨h1, h2, h3⟩ := hg
  have hz := hD.zones
  have hs := hD.size
  obtain ⟨m, hm⟩ : ∃ m, m = min (mid - lo) (hi - mid) := ⟨_, rfl⟩
  rw [← hm] at h
  have e1 : (m : Int) * (D.size : Int) = ((m * D.size : Nat) : Int) := by push_cast; rfl
  rw [e1] at h
  have h4 : m * D.size ≤ 64 * 192 := Nat.mul_le_mul (by omega) (by omega)
  have h5 : m * D.size ≤ (fr mid hi (1 - inn) - fr lo mid (1 - inn)) * D.size := Nat.mul_le_mul_right _ (by
    rcases (show inn = 0 ∨ inn = 1 by omega) with rfl | rfl
    · simp [fr]; omega
    · simp [fr]; omega)
  have h6 : 1 ≤ m := by omega
  have h7 : 1 * D.size ≤ m * D.size := Nat.mul_le_mul_right _ h6
  unfold partsC
  omega
section
variable {M : List HP} {K : List KP} {p d c lo mid hi inn n : Nat} {A : Option Addr} {D : Dev} {t t' : List Int}
theorem new_inv {Z S : Nat} (lo mid hi : Nat) : Inv (newDev Z S) lo mid hi 1 [] 0 := by
  have hm : ∀ i, ∀ Z' ∈ rg (newDev Z S) lo mid hi i, Z' = ⟨[], 0⟩ := fun i Z' h => by
    have := List.mem_of_mem_drop (List.mem_of_mem_take h)
    simp only [newDev] at this
    exact List.eq_of_mem_replicate this
  have hz : ∀ i, blkI (newDev Z S) lo mid hi i = [] := fun i => by
    rw [blkI_rg]
    have := hm i
    generalize rg (newDev Z S) lo mid hi i = Zs at this
    induction Zs with
    | nil => rfl
    | cons Y Ys ih =>
      rw [zb, this Y List.mem_cons_self, ih (fun X hX => this X (List.mem_cons_of_mem _ hX))]
      simp
  refine ⟨fun i _ Y hY => by rw [hm i Y hY]; rfl, .inl ⟨rfl, rfl, rfl, ?_, ?_⟩, fun i _ => by rw [hz]; rfl⟩
  · show (sread (blkI _ _ _ _ 0)).2 ≤ 0; rw [hz]; exact Int.le_refl _
  · show (sread (blkI _ _ _ _ 1)).2 ≤ 0; rw [hz]; exact Int.le_refl _
theorem openL_ct (hD : D.ok) (hl : D.live) (h : Inv D lo mid hi inn t n) (hg : geo D lo mid hi) {a b e : Int} (ha : a = lo) (hb : b = mid) (he : e = hi) : Fn 75 [ptr d 0, .int .i64 a, .int .i64 b, .int .i64 e] (devH d D :: M) K (fun x : Nat × Dev => After D x.2 0 0 ∧ Inv x.2 lo mid hi inn t n) (fun x => .tuple [ptr x.1 0, .int .i64 0].toArray) (fun x => slotH x.1 d D.size (slt lo mid hi inn t n) :: devH d x.2 :: M) (fun _ => K) := by
  subst ha hb he
  obtain ⟨h1, h2, h3⟩ := hg
  have hi' := h.flush hD h1 h2 h3
  rcases flush_cases hD with ⟨D', e, hok, hl', hs, hlv, hat⟩ | ⟨D', e, hok, hl', hs, ho, hat, hn⟩
  · have he : slotOpen D lo mid hi = (some (slt lo mid hi inn t n), D', 0) := by rw [h.open_ hD, e]; rfl
    have := open_ct (d := d) (M := M) (K := K) hD h1 h2 h3
    rw [he] at this
    rw [e] at hi'
    exact this.pure fun x _ => ⟨(x, D'), ⟨⟨hok, hl', hs, hlv, fun j _ => hat j⟩, hi'⟩, rfl, rfl, rfl⟩
  · exact absurd hl hn
theorem slt_ok (hg : geo D lo mid hi) (hi' : inn ≤ 1) (ht : t.length ≤ 1000000) (hn : n ≤ 1000000) : (slt lo mid hi inn t n).ok D := ⟨hg.1, hg.2.1, hg.2.2, hi', ht, by show n ≤ 1000000000; omega⟩
theorem roomL_ct (hD : D.ok) (hg : geo D lo mid hi) (hi' : inn ≤ 1) (ht : t.length ≤ 1000000) (hn : n ≤ 1000000) : Fn 76 [ptr p 0] (slotH p d D.size (slt lo mid hi inn t n) :: M) K (fun _ : Unit => True) (fun _ => .int .i64 (40 * (((min (mid - lo) (hi - mid) : Nat) : Int) * (D.size : Int) - 2))) (fun _ => slotH p d D.size (slt lo mid hi inn t n) :: M) (fun _ => K) :=
  room_ct (slt_ok hg hi' ht hn) hD rfl
theorem saveBigL_ct (hD : D.ok) (hi' : inn ≤ 1) (hg : geo D lo mid hi) (ht : t.length ≤ 1000000) (hn : n ≤ 1000000) (ht' : t'.length ≤ 1000000) (hp : bytesK A c t' ∈ K) (hb : 40 * (((min (mid - lo) (hi - mid) : Nat) : Int) * (D.size : Int) - 2) < t'.length) :
    Fn 77 [ptr p 0, .slice A t'.length c] (slotH p d D.size (slt lo mid hi inn t n) :: devH d D :: M) K (fun _ : Unit => True) (fun _ => .int .i64 7) (fun _ => slotH p d D.size (slt lo mid hi inn t n) :: devH d D :: M) (fun _ => K) := by
  have := save_ct (p := p) (d := d) (M := M) (s := slt lo mid hi inn t n) (slt_ok hg hi' ht hn) hn hD hp ht'
  rwa [save_big (show (slt lo mid hi inn t n).room D.size < t'.length from hb)] at this
/-- A save, cut off or not. -/
theorem saveC_ct (hD : D.ok) (h : Inv D lo mid hi inn t n) (hg : geo D lo mid hi) (ht : t.length ≤ 1000000) (hn : n < 1000000) (hp : bytesK A c t' ∈ K) (hB : IsB t') (hb : (t'.length : Int) ≤ 40 * (((min (mid - lo) (hi - mid) : Nat) : Int) * (D.size : Int) - 2)) :
    Fn 77 [ptr p 0, .slice A t'.length c] (slotH p d D.size (slt lo mid hi inn t n) :: devH d D :: M) K (fun x : Slt × Dev × Int => (x.2.2 = 0 ∧ x.1 = slt lo mid hi (1 - inn) t' (n + 1) ∧ After D x.2.1 (fr lo mid (1 - inn)) (fr mid hi (1 - inn)) ∧ Inv x.2.1 lo mid hi (1 - inn) t' (n + 1)) ∨ (x.2.2 = 12 ∧ x.1.off = true ∧ ¬ D.live ∧ x.2.1.ok ∧ x.2.1.zones.length = D.zones.length ∧ x.2.1.size = D.size ∧ ∀ picks torn, Inv (x.2.1.crash picks torn) lo mid hi inn t n ∨ Inv (x.2.1.crash picks torn) lo mid hi (1 - inn) t' (n + 1))) (fun x => .int .i64 x.2.2) (fun x => slotH p d D.size x.1 :: devH d x.2.1 :: M) (fun _ => K) := by
  obtain ⟨hr, hl⟩ := room_parts hD hg h.has.inn hb
  have hs := save_ct (p := p) (d := d) (M := M) (s := slt lo mid hi inn t n) (slt_ok hg h.has.inn ht (by omega)) (by show n ≤ 1000000; omega) hD hp hl
  have hw : (slt lo mid hi inn t n).wr D t' = sltWrite D (fr lo mid (1 - inn)) (fr mid hi (1 - inn)) ((n + 1 : Nat) : Int) t' := rfl
  have hnb : ¬ (slt lo mid hi inn t n).room D.size < t'.length := Int.not_lt.2 hb
  have hno : ¬ (slt lo mid hi inn t n).off = true := by simp [slt]
  rcases write_law hD h hg.1 hg.2.1 hg.2.2 (by omega) hl hB hr with ⟨D', e, k1, k2, k3, k4, k5, k6⟩ | ⟨D', e, k1, k2, k3, k4, k5⟩
  · have he : (slt lo mid hi inn t n).save D t' = (slt lo mid hi (1 - inn) t' (n + 1), D', 0) := by
      rw [save_yes hnb hno (by rw [hw, e]; simp), hw, e]; rfl
    rw [he] at hs
    exact hs.pure fun x _ => ⟨(_, D', 0), .inl ⟨rfl, rfl, ⟨k2, k3, k4, k5, k6⟩, k1⟩, rfl, rfl, rfl⟩
  · have he : (slt lo mid hi inn t n).save D t' = ({ slt lo mid hi inn t n with off := true }, D', 12) := by
      rw [save_no hnb hno (by rw [hw, e]; simp), hw, e]
    rw [he] at hs
    exact hs.pure fun x _ => ⟨(_, D', 12), .inr ⟨rfl, rfl, k1, k2, k3, k4, k5⟩, rfl, rfl, rfl⟩
theorem saveL_ct (hD : D.ok) (hv : D.live) (h : Inv D lo mid hi inn t n) (hg : geo D lo mid hi) (ht : t.length ≤ 1000000) (hn : n < 1000000) (hp : bytesK A c t' ∈ K) (hB : IsB t') (hb : (t'.length : Int) ≤ 40 * (((min (mid - lo) (hi - mid) : Nat) : Int) * (D.size : Int) - 2)) :
    Fn 77 [ptr p 0, .slice A t'.length c] (slotH p d D.size (slt lo mid hi inn t n) :: devH d D :: M) K (fun D' : Dev => After D D' (fr lo mid (1 - inn)) (fr mid hi (1 - inn)) ∧ Inv D' lo mid hi (1 - inn) t' (n + 1)) (fun _ => .int .i64 0) (fun D' => slotH p d D.size (slt lo mid hi (1 - inn) t' (n + 1)) :: devH d D' :: M) (fun _ => K) :=
  (saveC_ct hD h hg ht hn hp hB hb).pure fun x hx => by
    rcases hx with ⟨e1, e2, h1, h2⟩ | ⟨_, _, h3, _⟩
    · exact ⟨x.2.1, ⟨h1, h2⟩, by rw [e1], by rw [e2], rfl⟩
    · exact absurd hv h3
theorem loadL_ct (ht : t.length ≤ 1000000) : Fn 78 [ptr p 0] (slotH p d D.size (slt lo mid hi inn t n) :: M) K (fun _ : Option Addr × Nat => True) (fun x => .tuple [.slice x.1 t.length x.2, .int .i64 n].toArray) (fun _ => slotH p d D.size (slt lo mid hi inn t n) :: M) (fun x => bytesK x.1 x.2 t :: K) :=
  load_ct (s := slt lo mid hi inn t n) ht
end
end

section

structure Fit0 (D : Dev) : Prop where
  ok : D.ok
  len : D.zones.length = 8
  size : D.size = 96
structure Fit (D : Dev) : Prop extends Fit0 D where
  live : D.live
theorem Fit.crash {D : Dev} (h : Fit0 D) (picks torn : List Int) : Fit (D.crash picks torn) := ⟨⟨crash_ok h.ok picks torn, by rw [crash_len]; exact h.len, h.size⟩, ⟨rfl, rfl⟩⟩
theorem Fit.new : Fit (newDev 8 96) := ⟨⟨(newDev_fine (by omega) (by omega)).ok, by simp [newDev], rfl⟩, ⟨rfl, rfl⟩⟩
theorem Fit.geo {D : Dev} {lo mid hi : Nat} (h : Fit0 D) (hg : lo < mid ∧ mid < hi ∧ hi ≤ 8) : geo D lo mid hi := ⟨hg.1, hg.2.1, by rw [h.len]; exact hg.2.2⟩
theorem isB1 {x : Int} (h : 0 ≤ x ∧ x ≤ 255) : IsB [x] := fun y hy => by rw [List.mem_singleton.1 hy]; exact ⟨h.1, by omega⟩
def flushed (D D' : Dev) (a b : Nat) : Prop := ∀ j, (j < a ∨ b ≤ j) → D'.at j = ⟨(D.at j).blocks, (D.at j).blocks.length⟩
section
variable {M : List HP} {K : List KP} {p d c lo mid hi inn n : Nat} {A : Option Addr} {D : Dev} {t t' : List Int}
theorem openW_ct (hF : Fit D) (h : Inv D lo mid hi inn t n) (hg : lo < mid ∧ mid < hi ∧ hi ≤ 8) {a b e : Int} (ha : a = lo) (hb : b = mid) (he : e = hi) : Fn 75 [ptr d 0, .int .i64 a, .int .i64 b, .int .i64 e] (devH d D :: M) K (fun x : Nat × Dev => Fit x.2 ∧ Inv x.2 lo mid hi inn t n ∧ flushed D x.2 0 0) (fun x => .tuple [ptr x.1 0, .int .i64 0].toArray) (fun x => slotH x.1 d 96 (slt lo mid hi inn t n) :: devH d x.2 :: M) (fun _ => K) := by
  have := openL_ct (d := d) (M := M) (K := K) hF.ok hF.live h (Fit.geo hF.toFit0 hg) ha hb he
  rw [hF.size] at this
  exact this.pure fun x hx => ⟨x, ⟨⟨⟨hx.1.ok, by rw [hx.1.len, hF.len], by rw [hx.1.size, hF.size]⟩, hx.1.live hF.live⟩, hx.2, hx.1.out⟩, rfl, rfl, rfl⟩
theorem saveW_ct (hF : Fit D) (h : Inv D lo mid hi inn t n) (hg : lo < mid ∧ mid < hi ∧ hi ≤ 8) (ht : t.length ≤ 1000000) (hn : n < 1000000) (hp : bytesK A c t' ∈ K) (hB : IsB t') (hb : t'.length ≤ 40 * (min (mid - lo) (hi - mid) * 96 - 2)) :
    Fn 77 [ptr p 0, .slice A t'.length c] (slotH p d 96 (slt lo mid hi inn t n) :: devH d D :: M) K (fun D' : Dev => Fit D' ∧ Inv D' lo mid hi (1 - inn) t' (n + 1) ∧ flushed D D' (fr lo mid (1 - inn)) (fr mid hi (1 - inn))) (fun _ => .int .i64 0) (fun D' => slotH p d 96 (slt lo mid hi (1 - inn) t' (n + 1)) :: devH d D' :: M) (fun _ => K) := by
  have := saveL_ct (p := p) (d := d) (M := M) hF.ok hF.live h (Fit.geo hF.toFit0 hg) ht hn hp hB (by rw [hF.size]; omega)
  rw [hF.size] at this
  exact this.pure fun x hx => ⟨x, ⟨⟨⟨hx.1.ok, by rw [hx.1.len, hF.len], by rw [hx.1.size, hF.size]⟩, hx.1.live hF.live⟩, hx.2, hx.1.out⟩, rfl, rfl, rfl⟩
theorem saveBigW_ct (hF : Fit D) (hi' : inn ≤ 1) (hg : lo < mid ∧ mid < hi ∧ hi ≤ 8) (ht : t.length ≤ 1000000) (hn : n ≤ 1000000) (ht' : t'.length ≤ 1000000) (hp : bytesK A c t' ∈ K) (hb : 40 * (min (mid - lo) (hi - mid) * 96 - 2) < t'.length) :
    Fn 77 [ptr p 0, .slice A t'.length c] (slotH p d 96 (slt lo mid hi inn t n) :: devH d D :: M) K (fun _ : Unit => True) (fun _ => .int .i64 7) (fun _ => slotH p d 96 (slt lo mid hi inn t n) :: devH d D :: M) (fun _ => K) := by
  have := saveBigL_ct (p := p) (d := d) (M := M) (D := D) (inn := inn) (t := t) (n := n) hF.ok hi' (Fit.geo hF.toFit0 hg) ht hn ht' hp (by rw [hF.size]; omega)
  rwa [hF.size] at this
theorem roomW_ct (hF : Fit D) (hg : lo < mid ∧ mid < hi ∧ hi ≤ 8) (hi' : inn ≤ 1) (ht : t.length ≤ 1000000) (hn : n ≤ 1000000) : Fn 76 [ptr p 0] (slotH p d 96 (slt lo mid hi inn t n) :: M) K (fun _ : Unit => True) (fun _ => .int .i64 ((40 * (min (mid - lo) (hi - mid) * 96 - 2) : Nat) : Int)) (fun _ => slotH p d 96 (slt lo mid hi inn t n) :: M) (fun _ => K) := by
  have := roomL_ct (p := p) (d := d) (M := M) (K := K) (t := t) (n := n) hF.ok (Fit.geo hF.toFit0 hg) hi' ht hn
  rw [hF.size] at this
  exact this.pure fun x _ => ⟨x, trivial, by congr 1; omega, rfl, rfl⟩
theorem loadW_ct (ht : t.length ≤ 1000000) : Fn 78 [ptr p 0] (slotH p d 96 (slt lo mid hi inn t n) :: M) K (fun _ : Option Addr × Nat => True) (fun x => .tuple [.slice x.1 t.length x.2, .int .i64 n].toArray) (fun _ => slotH p d 96 (slt lo mid hi inn t n) :: M) (fun x => bytesK x.1 x.2 t :: K) :=
  load_ct (s := slt lo mid hi inn t n) ht
end
end
end Go.Proofs.Ytfpnodboebpemaa
