/- The device, as plain data, and as it lies in memory. -/
import Derived.Test.YtfpnodboebpemaaFacts
import Derived.Test.YtfpnodboebpemaaAlk
namespace Go.Proofs.Ytfpnodboebpemaa
open Go.RowKit Go.Proofs.YtfpnodboebpemaaW.PrintWords
set_option linter.unusedVariables false
set_option linter.unusedSimpArgs false

theorem cv_u8 {a : Int} (h : 0 ≤ a ∧ a ≤ 255) : IntKind.u8.wrap a = a := by rw [IntKind.wrap_u8]; omega
theorem cv_u32 {a : Int} (h : 0 ≤ a ∧ a ≤ 4294967295) : IntKind.u32.wrap a = a := by rw [IntKind.wrap_u32]; omega
theorem cv_u64 {a : Int} (h : 0 ≤ a ∧ a ≤ 18446744073709551615) : IntKind.u64.wrap a = a := by rw [IntKind.wrap_u64]; omega
theorem cv_i64 {a : Int} (h : -9223372036854775808 ≤ a ∧ a ≤ 9223372036854775807) : IntKind.i64.wrap a = a := by rw [IntKind.wrap_i64]; omega

/-! ### The model -/
structure Zn where
  blocks : List (List Int)
  good : Nat
structure Dev where
  size : Nat
  zones : List Zn
  ops : Int
  cut : Bool
  left : Nat
  off : Bool

/-- One op begins, if the power lets it. -/
def Dev.begin (D : Dev) : Dev × Bool :=
  let o := IntKind.i64.wrap (D.ops + 1)
  if D.off = true ∨ (D.cut = true ∧ D.left < 1) then ({ D with ops := o, off := true }, false)
  else ({ D with ops := o, off := false, left := if D.cut then D.left - 1 else D.left }, true)
theorem begin_no {D : Dev} (h : D.off = true ∨ (D.cut = true ∧ D.left < 1)) : D.begin = ({ D with ops := IntKind.i64.wrap (D.ops + 1), off := true }, false) := by unfold Dev.begin; rw [if_pos h]
theorem begin_yes {D : Dev} (h : ¬ (D.off = true ∨ (D.cut = true ∧ D.left < 1))) : D.begin = ({ D with ops := IntKind.i64.wrap (D.ops + 1), off := false, left := if D.cut then D.left - 1 else D.left }, true) := by unfold Dev.begin; rw [if_neg h]
def Dev.zone? (D : Dev) (i : Int) : Option Nat := if 0 ≤ i ∧ i < D.zones.length then some i.toNat else none
def Dev.set (D : Dev) (i : Nat) (Z : Zn) : Dev := { D with zones := D.zones.set i Z }
def Dev.at (D : Dev) (i : Nat) : Zn := D.zones.getD i ⟨[], 0⟩
def Dev.append (D : Dev) (i : Int) (p : List Int) : Dev × Int × Int :=
  match D.zone? i with
  | none => (D, 0, 1)
  | some k =>
    if p.length ≠ 64 then (D, 0, 3)
    else if D.begin.2 = false then (D.begin.1, 0, 12)
    else if D.size ≤ (D.at k).blocks.length then (D.begin.1, 0, 9)
    else (D.begin.1.set k ⟨(D.at k).blocks ++ [p], (D.at k).good⟩, (D.at k).blocks.length, 0)
def Dev.reset (D : Dev) (i : Int) : Dev × Int :=
  match D.zone? i with
  | none => (D, 1)
  | some k => if D.begin.2 = false then (D.begin.1, 12) else (D.begin.1.set k ⟨[], 0⟩, 0)
def Dev.flush (D : Dev) : Dev × Int :=
  if D.begin.2 = false then (D.begin.1, 12) else ({ D.begin.1 with zones := D.zones.map fun Z => ⟨Z.blocks, Z.blocks.length⟩ }, 0)
def Dev.pointer (D : Dev) (i : Int) : Int × Int :=
  match D.zone? i with
  | none => (0, 1)
  | some k => ((D.at k).blocks.length, 0)
def Dev.read (D : Dev) (i at_ : Int) : List Int × Int :=
  match D.zone? i with
  | none => ([], 1)
  | some k => if at_ < 0 ∨ (D.at k).blocks.length ≤ at_ then ([], 14) else ((D.at k).blocks.getD at_.toNat [], 0)
def Dev.doCut (D : Dev) (n : Int) : Dev := { D with cut := true, left := n.toNat }
/-- A device that may be. -/
structure Dev.ok (D : Dev) : Prop where
  zones : 8 ≤ D.zones.length ∧ D.zones.length ≤ 64
  size : 96 ≤ D.size ∧ D.size ≤ 192
  ops : -9223372036854775808 ≤ D.ops ∧ D.ops ≤ 9223372036854775807
  left : D.left ≤ 9223372036854775807
  full : ∀ Z ∈ D.zones, Z.blocks.length ≤ D.size ∧ Z.good ≤ Z.blocks.length ∧ ∀ p ∈ Z.blocks, p.length = 64 ∧ IsB p

/-! ### In memory -/
def zoneH (z : Nat) (Z : Zn) : HP := exH fun x : Option Addr × Nat => star (pt z 136 [.slice x.1 Z.blocks.length x.2, .int .i64 Z.good]) (rowsH x.1 x.2 Z.blocks)
def zonesH (zs : List Nat) (Zs : List Zn) : HP := starL (List.zipWith zoneH zs Zs)
/-- All zones but one. -/
def zrest (zs : List Nat) (Zs : List Zn) (i : Nat) : HP := starL ((List.zipWith zoneH zs Zs).eraseIdx i)
def devCells (D : Dev) (A : Option Addr) (c : Nat) (r : Int) : List Value :=
  [.int .i64 D.zones.length, .int .i64 D.size, .slice A D.zones.length c, .int .i64 D.ops, .int .i64 r, .bool D.cut, .int .i64 D.left, .bool D.off]
def devH (d : Nat) (D : Dev) : HP := exH fun x : List Nat × Option Addr × Nat × Int => pureH (x.1.length = D.zones.length ∧ -9223372036854775808 ≤ x.2.2.2 ∧ x.2.2.2 ≤ 9223372036854775807)
  (star (pt d 133 (devCells D x.2.1 x.2.2.1 x.2.2.2)) (star (rowH 134 1 x.2.1 x.2.2.1 D.zones.length (x.1.map fun z => ptr z 0)) (zonesH x.1 D.zones)))

/-- Where a zone lies. -/
def zat (zs : List Nat) (i : Int) : Option Addr := if 0 ≤ i then (zs[i.toNat]?).map (fun z => ⟨z, 0, none⟩) else none
theorem pick_at {L M : List HP} {i : Nat} {p : HP} (h : L[i]? = some p) : Pick (L ++ M) p (L.eraseIdx i ++ M) := by
  induction L generalizing i with
  | nil => simp at h
  | cons q L ih =>
    cases i with
    | zero => simp at h; subst h; exact .head
    | succ i => exact .tail (ih (by simpa using h))
theorem zip_at {zs : List Nat} {Zs : List Zn} {i z : Nat} {Z : Zn} (hz : zs[i]? = some z) (hZ : Zs[i]? = some Z) : (List.zipWith zoneH zs Zs)[i]? = some (zoneH z Z) := by
  rw [List.getElem?_zipWith, hz, hZ]
theorem Hold.zfocus {w : World} {M : List HP} {K : List KP} {zs : List Nat} {Zs : List Zn} {i z : Nat} {Z : Zn} (h : Hold w (zonesH zs Zs :: M) K) (hz : zs[i]? = some z) (hZ : Zs[i]? = some Z) : Hold w (zoneH z Z :: zrest zs Zs i :: M) K := by
  have h1 := (Hold.starL.1 h).pick (pick_at (zip_at hz hZ))
  have h2 : Hold w ((List.zipWith zoneH zs Zs).eraseIdx i ++ zoneH z Z :: M) K := h1.unpick (pick_mid _) |> fun h => h
  exact (Hold.starL.2 h2).pick (.tail .head)
theorem zip_set {zs : List Nat} {Zs : List Zn} {i z : Nat} {Z' : Zn} (hz : zs[i]? = some z) : List.zipWith zoneH zs (Zs.set i Z') = (List.zipWith zoneH zs Zs).set i (zoneH z Z') := by
  induction zs generalizing Zs i with
  | nil => simp at hz
  | cons y zs ih =>
    cases Zs with
    | nil => simp
    | cons Y Zs =>
      cases i with
      | zero => simp at hz; subst hz; simp
      | succ i => simp; exact ih (by simpa using hz)
theorem erase_set {L : List HP} {i : Nat} {p : HP} : (L.set i p).eraseIdx i = L.eraseIdx i := by
  induction L generalizing i with
  | nil => simp
  | cons q L ih => cases i with
    | zero => simp
    | succ i => simp [ih]
theorem Hold.zback {w : World} {M : List HP} {K : List KP} {zs : List Nat} {Zs : List Zn} {i z : Nat} {Z Z' : Zn} (h : Hold w (zoneH z Z' :: zrest zs Zs i :: M) K) (hz : zs[i]? = some z) (hZ : Zs[i]? = some Z) : Hold w (zonesH zs (Zs.set i Z') :: M) K := by
  have h2 := Hold.starL.1 (h.pick (.tail .head))
  have h3 : Hold w (zoneH z Z' :: ((List.zipWith zoneH zs Zs).eraseIdx i ++ M)) K := h2.pick (pick_mid _)
  refine Hold.starL.2 (h3.unpick (M := List.zipWith zoneH zs (Zs.set i Z') ++ M) ?_)
  rw [zip_set hz]
  have hlt : i < (List.zipWith zoneH zs Zs).length := (List.getElem?_eq_some_iff.1 (zip_at hz hZ)).1
  have := pick_at (M := M) (L := (List.zipWith zoneH zs Zs).set i (zoneH z Z')) (i := i) (p := zoneH z Z') (by rw [List.getElem?_set_self hlt])
  rwa [erase_set] at this
theorem zback_same {w : World} {M : List HP} {K : List KP} {zs : List Nat} {Zs : List Zn} {i z : Nat} {Z : Zn} (h : Hold w (zoneH z Z :: zrest zs Zs i :: M) K) (hz : zs[i]? = some z) (hZ : Zs[i]? = some Z) : Hold w (zonesH zs Zs :: M) K := by
  have := h.zback hz hZ
  rwa [show Zs.set i Z = Zs from by
    obtain ⟨hlt, rfl⟩ := List.getElem?_eq_some_iff.1 hZ
    exact List.set_getElem_self hlt] at this
theorem Hold.zopen {w : World} {M : List HP} {K : List KP} {z : Nat} {Z : Zn} (h : Hold w (zoneH z Z :: M) K) : ∃ x : Option Addr × Nat, True ∧ Hold w (pt z 136 [.slice x.1 Z.blocks.length x.2, .int .i64 Z.good] :: rowsH x.1 x.2 Z.blocks :: M) K := by
  obtain ⟨x, hx⟩ := Hold.ex.1 h; exact ⟨x, trivial, Hold.star.1 hx⟩
theorem Hold.zshut {w : World} {M : List HP} {K : List KP} {z : Nat} {bs : List (List Int)} {g c : Nat} {A : Option Addr} (h : Hold w (pt z 136 [.slice A bs.length c, .int .i64 g] :: rowsH A c bs :: M) K) : Hold w (zoneH z ⟨bs, g⟩ :: M) K := Hold.ex.2 ⟨(A, c), Hold.star.2 h⟩
theorem begin_zones (D : Dev) : D.begin.1.zones = D.zones := by unfold Dev.begin; simp only; split <;> rfl
theorem begin_size (D : Dev) : D.begin.1.size = D.size := by unfold Dev.begin; simp only; split <;> rfl
/-- A zone that is there. -/
theorem zat_some {zs : List Nat} {i : Int} {D : Dev} (hl : zs.length = D.zones.length) (h : (zat zs i).isNone = false) : ∃ (k z : Nat) (Z : Zn), i = k ∧ zat zs i = some ⟨z, 0, none⟩ ∧ zs[k]? = some z ∧ D.zones[k]? = some Z ∧ D.zone? i = some k ∧ D.at k = Z := by
  unfold zat at h ⊢
  by_cases h0 : 0 ≤ i
  · rw [if_pos h0] at h ⊢
    cases hz : zs[i.toNat]? with
    | none => rw [hz] at h; simp at h
    | some z =>
      have hlt := (List.getElem?_eq_some_iff.1 hz).1
      have hZ : D.zones[i.toNat]? = some (D.zones[i.toNat]'(by omega)) := List.getElem?_eq_getElem (by omega)
      refine ⟨i.toNat, z, _, by omega, rfl, hz, hZ, ?_, ?_⟩
      · unfold Dev.zone?; rw [if_pos ⟨h0, by omega⟩]
      · unfold Dev.at; rw [List.getD_eq_getElem?_getD, hZ]; rfl
  · rw [if_neg h0] at h; simp at h
theorem zat_none {zs : List Nat} {i : Int} {D : Dev} (hl : zs.length = D.zones.length) (h : (zat zs i).isNone = true) : D.zone? i = none := by
  unfold zat at h
  unfold Dev.zone?
  by_cases h0 : 0 ≤ i
  · rw [if_pos h0] at h
    cases hz : zs[i.toNat]? with
    | none => have := List.getElem?_eq_none_iff.1 hz; rw [if_neg (by omega)]
    | some z => rw [hz] at h; simp at h
  · rw [if_neg (by omega)]
/-- The device, laid open. -/
theorem Hold.dev {w : World} {M : List HP} {K : List KP} {d : Nat} {D : Dev} (h : Hold w (devH d D :: M) K) : ∃ x : List Nat × Option Addr × Nat × Int, (x.1.length = D.zones.length ∧ -9223372036854775808 ≤ x.2.2.2 ∧ x.2.2.2 ≤ 9223372036854775807) ∧
    Hold w (pt d 133 (devCells D x.2.1 x.2.2.1 x.2.2.2) :: rowH 134 1 x.2.1 x.2.2.1 D.zones.length (x.1.map fun z => ptr z 0) :: zonesH x.1 D.zones :: M) K := by
  obtain ⟨x, hx⟩ := Hold.ex.1 h
  obtain ⟨h1, h2⟩ := Hold.pure.1 hx
  have h3 := Hold.star.1 h2
  exact ⟨x, h1, (Hold.star.1 (h3.pick (.tail .head))).pick (.tail (.tail .head))⟩
theorem Hold.dev' {w : World} {M : List HP} {K : List KP} {d : Nat} {D : Dev} {zs : List Nat} {A : Option Addr} {c : Nat} {r : Int} (hl : zs.length = D.zones.length) (hr : -9223372036854775808 ≤ r ∧ r ≤ 9223372036854775807)
    (h : Hold w (pt d 133 (devCells D A c r) :: rowH 134 1 A c D.zones.length (zs.map fun z => ptr z 0) :: zonesH zs D.zones :: M) K) : Hold w (devH d D :: M) K := by
  refine Hold.ex.2 ⟨(zs, A, c, r), Hold.pure.2 ⟨⟨hl, hr⟩, Hold.star.2 ?_⟩⟩
  exact (Hold.star.2 (h.pick (.tail .head) |>.pick (.tail (.tail .head)) |>.pick (.tail .head))).pick (.tail .head)
theorem reset_none {D : Dev} {i : Int} (h : D.zone? i = none) : D.reset i = (D, 1) := by unfold Dev.reset; rw [h]
theorem reset_off {D : Dev} {i : Int} {k : Nat} (h : D.zone? i = some k) (hb : D.begin.2 = false) : D.reset i = (D.begin.1, 12) := by unfold Dev.reset; rw [h]; simp only; rw [if_pos hb]
theorem reset_ok {D : Dev} {i : Int} {k : Nat} (h : D.zone? i = some k) (hb : D.begin.2 = true) : D.reset i = (D.begin.1.set k ⟨[], 0⟩, 0) := by unfold Dev.reset; rw [h]; simp only; rw [if_neg (by simp [hb])]
theorem pointer_none {D : Dev} {i : Int} (h : D.zone? i = none) : D.pointer i = (0, 1) := by unfold Dev.pointer; rw [h]
theorem pointer_ok {D : Dev} {i : Int} {k : Nat} {Z : Zn} (h : D.zone? i = some k) (hZ : D.at k = Z) : D.pointer i = ((Z.blocks.length : Int), 0) := by unfold Dev.pointer; rw [h]; simp only; rw [hZ]
theorem read_none {D : Dev} {i j : Int} (h : D.zone? i = none) : D.read i j = ([], 1) := by unfold Dev.read; rw [h]
theorem read_out {D : Dev} {i j : Int} {k : Nat} {Z : Zn} (h : D.zone? i = some k) (hZ : D.at k = Z) (hj : j < 0 ∨ (Z.blocks.length : Int) ≤ j) : D.read i j = ([], 14) := by unfold Dev.read; rw [h]; simp only; rw [hZ, if_pos hj]
theorem read_ok {D : Dev} {i j : Int} {k n : Nat} {Z : Zn} {p : List Int} (h : D.zone? i = some k) (hZ : D.at k = Z) (hj : j = n) (hp : Z.blocks[n]? = some p) : D.read i j = (p, 0) := by
  have hlt := (List.getElem?_eq_some_iff.1 hp).1
  unfold Dev.read; rw [h]; simp only; rw [hZ, if_neg (by omega), hj, Int.toNat_natCast, List.getD_eq_getElem?_getD, hp]; rfl
def flushTo (j : Nat) (Zs : List Zn) : List Zn := (Zs.take j).map (fun Z => ⟨Z.blocks, Z.blocks.length⟩) ++ Zs.drop j
theorem flushTo_length (j : Nat) (Zs : List Zn) : (flushTo j Zs).length = Zs.length := by simp [flushTo]; omega
theorem flushTo_at {j : Nat} {Zs : List Zn} {Z : Zn} (h : Zs[j]? = some Z) : (flushTo j Zs)[j]? = some Z := by
  have hlt := (List.getElem?_eq_some_iff.1 h).1
  have hl : ((Zs.take j).map (fun Z : Zn => (⟨Z.blocks, Z.blocks.length⟩ : Zn))).length = j := by simp; omega
  unfold flushTo; rw [List.getElem?_append_right (by rw [hl]; exact Nat.le_refl _), hl, Nat.sub_self, List.getElem?_drop]; simpa using h
theorem flushTo_succ {j : Nat} {Zs : List Zn} {Z : Zn} (h : Zs[j]? = some Z) : (flushTo j Zs).set j ⟨Z.blocks, Z.blocks.length⟩ = flushTo (j + 1) Zs := by
  obtain ⟨hlt, rfl⟩ := List.getElem?_eq_some_iff.1 h
  have hl : ((Zs.take j).map (fun Z : Zn => (⟨Z.blocks, Z.blocks.length⟩ : Zn))).length = j := by simp; omega
  unfold flushTo
  rw [List.set_append_right _ _ (by rw [hl]; exact Nat.le_refl _), hl, Nat.sub_self, List.take_succ_eq_append_getElem hlt, List.map_append, List.append_assoc]
  congr 1
  rw [List.drop_eq_getElem_cons hlt]
  rfl
theorem flushTo_end (Zs : List Zn) : flushTo Zs.length Zs = Zs.map fun Z => ⟨Z.blocks, Z.blocks.length⟩ := by simp [flushTo]
theorem flush_off {D : Dev} (hb : D.begin.2 = false) : D.flush = (D.begin.1, 12) := by unfold Dev.flush; rw [if_pos hb]
theorem flush_ok {D : Dev} (hb : D.begin.2 = true) : D.flush = ({ D.begin.1 with zones := flushTo D.zones.length D.zones }, 0) := by unfold Dev.flush; rw [if_neg (by simp [hb]), flushTo_end]
theorem devCells_set (D : Dev) (k : Nat) (Z : Zn) (A : Option Addr) (c : Nat) (r : Int) : devCells (D.set k Z) A c r = devCells D A c r := by simp [devCells, Dev.set]
/-- One zone laid open is shut again. -/
theorem Hold.dev_set {w : World} {M : List HP} {K : List KP} {D1 : Dev} {zs : List Nat} {A B : Option Addr} {c kb k z d g : Nat} {r : Int} {bs : List (List Int)} {Z : Zn} (hl : zs.length = D1.zones.length) (hr : -9223372036854775808 ≤ r ∧ r ≤ 9223372036854775807) (hz : zs[k]? = some z) (hZ : D1.zones[k]? = some Z)
    (h : Hold w (pt z 136 [.slice B bs.length kb, .int .i64 g] :: rowsH B kb bs :: zrest zs D1.zones k :: pt d 133 (devCells D1 A c r) :: rowH 134 1 A c D1.zones.length (zs.map fun z => ptr z 0) :: M) K) : Hold w (devH d (D1.set k ⟨bs, g⟩) :: M) K := by
  have h1 := (h.zshut).zback hz hZ
  refine Hold.dev' (D := D1.set k ⟨bs, g⟩) (zs := zs) (A := A) (c := c) (r := r) (by simp [Dev.set, hl]) hr ?_
  rw [devCells_set]
  simp only [Dev.set, List.length_set]
  exact Hold.mono (.cons (.tail .head) (.cons (.tail .head) (.cons .head .refl))) (fun _ h => h) h1
theorem set_self {D : Dev} {k : Nat} {Z : Zn} (h : D.zones[k]? = some Z) : D.set k Z = D := by
  obtain ⟨hlt, rfl⟩ := List.getElem?_eq_some_iff.1 h
  unfold Dev.set; rw [List.set_getElem_self hlt]
theorem append_none {D : Dev} {i : Int} {p : List Int} (h : D.zone? i = none) : D.append i p = (D, 0, 1) := by unfold Dev.append; rw [h]
theorem append_len {D : Dev} {i : Int} {p : List Int} {k : Nat} (h : D.zone? i = some k) (hp : p.length ≠ 64) : D.append i p = (D, 0, 3) := by unfold Dev.append; rw [h]; simp only; rw [if_pos hp]
theorem append_off {D : Dev} {i : Int} {p : List Int} {k : Nat} (h : D.zone? i = some k) (hp : p.length = 64) (hb : D.begin.2 = false) : D.append i p = (D.begin.1, 0, 12) := by unfold Dev.append; rw [h]; simp only; rw [if_neg (by omega), if_pos hb]
theorem append_full {D : Dev} {i : Int} {p : List Int} {k : Nat} {Z : Zn} (h : D.zone? i = some k) (hp : p.length = 64) (hb : D.begin.2 = true) (hZ : D.at k = Z) (hs : D.size ≤ Z.blocks.length) : D.append i p = (D.begin.1, 0, 9) := by unfold Dev.append; rw [h]; simp only; rw [if_neg (by omega), if_neg (by simp [hb]), hZ, if_pos hs]
theorem append_ok {D : Dev} {i : Int} {p : List Int} {k : Nat} {Z : Zn} (h : D.zone? i = some k) (hp : p.length = 64) (hb : D.begin.2 = true) (hZ : D.at k = Z) (hs : ¬ D.size ≤ Z.blocks.length) : D.append i p = (D.begin.1.set k ⟨Z.blocks ++ [p], Z.good⟩, (Z.blocks.length : Int), 0) := by unfold Dev.append; rw [h]; simp only; rw [if_neg (by omega), if_neg (by simp [hb]), hZ, if_neg hs]
end Go.Proofs.Ytfpnodboebpemaa
