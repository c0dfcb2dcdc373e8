/- Blocks as they lie over zones; what resets, appends, flushes and crashes make of them. -/
import Derived.Test.YtfpnodboebpemaaFine
namespace Go.Proofs.Ytfpnodboebpemaa
open Go.RowKit Go.Proofs.YtfpnodboebpemaaW.PrintWords
set_option linter.unusedVariables false
set_option linter.unusedSimpArgs false
section

/-- Blocks up to the first zone that is not full. -/
def zb (S : Nat) : List Zn → List (List Int)
  | [] => []
  | Z :: Zs => Z.blocks ++ if Z.blocks.length < S then [] else zb S Zs
/-- L lies over the zones, block behind block; its first g are for good. -/
def laidOn (S : Nat) : List (List Int) → Nat → List Zn → Prop
  | L, _, [] => L = []
  | L, g, Z :: Zs => Z.blocks = L.take S ∧ min g S ≤ Z.good ∧ Z.good ≤ Z.blocks.length ∧ laidOn S (L.drop S) (g - S) Zs
theorem zb_cons_short {S : Nat} {Z : Zn} {Zs : List Zn} (h : Z.blocks.length < S) : zb S (Z :: Zs) = Z.blocks := by rw [zb, if_pos h, List.append_nil]
theorem zb_cons_full {S : Nat} {Z : Zn} {Zs : List Zn} (h : S ≤ Z.blocks.length) : zb S (Z :: Zs) = Z.blocks ++ zb S Zs := by rw [zb, if_neg (by omega)]
theorem zb_laid {S : Nat} (hS : 0 < S) : ∀ {L : List (List Int)} {g : Nat} {Zs : List Zn}, laidOn S L g Zs → zb S Zs = L
  | L, g, [], h => by simp only [laidOn] at h; rw [h]; rfl
  | L, g, Z :: Zs, h => by
    obtain ⟨h1, h2, h3, h4⟩ := h
    have hl : Z.blocks.length = min S L.length := by rw [h1, List.length_take]
    rcases Nat.lt_or_ge Z.blocks.length S with hc | hc
    · rw [zb_cons_short hc, h1, List.take_of_length_le (by omega)]
    · rw [zb_cons_full hc, zb_laid hS h4, h1, List.take_append_drop]

/-- What may stand behind a torn block: some of those that come, torn or whole. -/
inductive Junk : List (List Int) → List (List Int) → Prop
  | nil {l : List (List Int)} : Junk l []
  | keep {x : List Int} {l j : List (List Int)} : Junk l j → Junk (x :: l) (x :: j)
  | torn {x : List Int} {l j : List (List Int)} : Junk l j → Junk (x :: l) (tornL x :: j)
theorem Junk.take : ∀ (l : List (List Int)) (p : Nat), Junk l (l.take p)
  | l, 0 => by rw [List.take_zero]; exact .nil
  | [], p + 1 => .nil
  | x :: l, p + 1 => .keep (Junk.take l p)
theorem Junk.more : ∀ {l : List (List Int)} {p : Nat} {q : List Int} {j : List (List Int)}, l[p]? = some q → Junk (l.drop (p + 1)) j → Junk l (l.take p ++ tornL q :: j)
  | [], p, q, j, h, _ => by simp at h
  | x :: l, 0, q, j, h, hj => by simp at h; subst h; exact .torn (by simpa using hj)
  | x :: l, p + 1, q, j, h, hj => .keep (Junk.more (by simpa using h) (by simpa using hj))

/-- Each zone of the second list is what a crash may leave of the first one's. -/
inductive Crashed : List Zn → List Zn → Prop
  | nil : Crashed [] []
  | cons {Z : Zn} {Zs Ys : List Zn} (x t : Option Int) (h : Crashed Zs Ys) : Crashed (Z :: Zs) (crashZ Z x t :: Ys)
theorem Crashed.mapIdx (picks torn : List Int) : ∀ (Zs : List Zn) (n : Nat), Crashed Zs (Zs.mapIdx fun k Z => crashZ Z (pickL picks (k + n)) (pickL torn (k + n)))
  | [], n => by simp; exact .nil
  | Z :: Zs, n => by
    rw [List.mapIdx_cons]
    have := Crashed.mapIdx picks torn Zs (n + 1)
    refine .cons _ _ ?_
    rw [show (fun (i : Nat) (Z : Zn) => crashZ Z (pickL picks (i + 1 + n)) (pickL torn (i + 1 + n))) = fun (k : Nat) (Z : Zn) => crashZ Z (pickL picks (k + (n + 1))) (pickL torn (k + (n + 1))) from by
      funext i Z; rw [show i + 1 + n = i + (n + 1) by omega]]
    exact this
theorem crashed_dev (D : Dev) (picks torn : List Int) : Crashed D.zones (D.crash picks torn).zones := Crashed.mapIdx picks torn D.zones 0
theorem Crashed.take {Zs Ys : List Zn} (h : Crashed Zs Ys) : ∀ n : Nat, Crashed (Zs.take n) (Ys.take n) := by
  induction h with
  | nil => intro n; simp; exact .nil
  | cons x t h ih =>
    intro n
    cases n with
    | zero => exact .nil
    | succ n => exact .cons x t (ih n)
theorem Crashed.drop {Zs Ys : List Zn} (h : Crashed Zs Ys) : ∀ n : Nat, Crashed (Zs.drop n) (Ys.drop n) := by
  induction h with
  | nil => intro n; simp; exact .nil
  | cons x t h ih =>
    intro n
    cases n with
    | zero => exact .cons x t h
    | succ n => exact ih n
/-- All of it is for good. -/
def still (Zs : List Zn) : Prop := ∀ Z ∈ Zs, Z.good = Z.blocks.length
theorem crashZ_still {Z : Zn} (h : Z.good = Z.blocks.length) (x t : Option Int) : crashZ Z x t = Z := by
  have hc : Z.cutAt x = Z.blocks.length := by
    have := cutAt_le (Z := Z) (by omega) x
    omega
  have hz : Z.crash x t = Z.blocks := by
    unfold Zn.crash
    rw [hc, List.take_length]
    cases t with
    | none => simp
    | some v => simp only; rw [if_neg (by omega), List.append_nil]
  unfold crashZ
  rw [hz, ← h]
theorem Crashed.still {Zs Ys : List Zn} (h : Crashed Zs Ys) : Go.Proofs.Ytfpnodboebpemaa.still Zs → Ys = Zs := by
  induction h with
  | nil => intro _; rfl
  | cons x t h ih =>
    intro hs
    rw [crashZ_still (hs _ List.mem_cons_self), ih (fun Z hZ => hs Z (List.mem_cons_of_mem _ hZ))]
theorem Crashed.good {Zs Ys : List Zn} (h : Crashed Zs Ys) : Go.Proofs.Ytfpnodboebpemaa.still Ys := by
  induction h with
  | nil => intro Z hZ; cases hZ
  | cons x t h ih =>
    intro Z hZ
    rcases List.mem_cons.1 hZ with rfl | hZ
    · rfl
    · exact ih Z hZ
theorem Crashed.length {Zs Ys : List Zn} (h : Crashed Zs Ys) : Ys.length = Zs.length := by
  induction h with
  | nil => rfl
  | cons x t h ih => simp [ih]
theorem crash_cases {Z : Zn} (h : Z.good ≤ Z.blocks.length) (x t : Option Int) : ∃ c, Z.good ≤ c ∧ c ≤ Z.blocks.length ∧ (Z.crash x t = Z.blocks.take c ∨ ∃ q, Z.blocks[c]? = some q ∧ Z.crash x t = Z.blocks.take c ++ [tornL q]) := by
  obtain ⟨h1, h2⟩ := cutAt_le h x
  refine ⟨Z.cutAt x, h1, h2, ?_⟩
  unfold Zn.crash
  cases t with
  | none => left; simp
  | some v =>
    simp only
    split
    · rename_i hc
      right
      have he := List.getElem?_eq_getElem hc.1
      refine ⟨_, he, ?_⟩
      rw [List.getD_eq_getElem?_getD, he]; rfl
    · left; simp
theorem crash_laid {S : Nat} (hS : 0 < S) : ∀ {Zs Ys : List Zn} {L : List (List Int)} {g : Nat}, laidOn S L g Zs → g ≤ L.length → Crashed Zs Ys →
    ∃ p, g ≤ p ∧ p ≤ L.length ∧ (zb S Ys = L.take p ∨ ∃ q, L[p]? = some q ∧ ∃ j, Junk (L.drop (p + 1)) j ∧ zb S Ys = L.take p ++ tornL q :: j) := by
  intro Zs Ys L g hl hg hc
  induction hc generalizing L g with
  | nil =>
    simp only [laidOn] at hl
    subst hl
    exact ⟨0, hg, Nat.le_refl _, .inl rfl⟩
  | @cons Z Zs Ys x t hc ih =>
    obtain ⟨h1, h2, h3, h4⟩ := hl
    have hlen : Z.blocks.length = min S L.length := by rw [h1, List.length_take]
    obtain ⟨c, c1, c2, c3⟩ := crash_cases h3 x t
    have hcz : (crashZ Z x t).blocks = Z.crash x t := rfl
    have htk : ∀ k, k ≤ Z.blocks.length → Z.blocks.take k = L.take k := fun k hk => by rw [h1, List.take_take, Nat.min_eq_left (by omega)]
    rcases c3 with c3 | ⟨q, c4, c3⟩
    · rcases Nat.lt_or_ge c S with hcS | hcS
      · refine ⟨c, by omega, by omega, .inl ?_⟩
        rw [zb_cons_short (by rw [hcz, c3, List.length_take]; omega), hcz, c3, htk c c2]
      · have hcS' : c = S := by omega
        obtain ⟨p, p1, p2, p3⟩ := ih h4 (by rw [List.length_drop]; omega)
        rw [List.length_drop] at p2
        have hz : zb S (crashZ Z x t :: Ys) = L.take S ++ zb S Ys := by
          rw [zb_cons_full (by rw [hcz, c3, List.length_take]; omega), hcz, c3, htk c c2, hcS']
        refine ⟨S + p, by omega, by omega, ?_⟩
        rw [hz, List.take_add]
        rcases p3 with p3 | ⟨q, p4, j, p5, p3⟩
        · left; rw [p3]
        · right
          refine ⟨q, by rw [List.getElem?_drop] at p4; exact p4, j, by rw [List.drop_drop] at p5; rw [show S + p + 1 = S + (p + 1) by omega]; exact p5, ?_⟩
          rw [p3, List.append_assoc]
    · have hcl : c < Z.blocks.length := (List.getElem?_eq_some_iff.1 c4).1
      have hq : L[c]? = some q := by
        rw [h1, List.getElem?_take, if_pos (by omega)] at c4; exact c4
      rcases Nat.lt_or_ge (c + 1) S with hcS | hcS
      · refine ⟨c, by omega, by omega, .inr ⟨q, hq, [], .nil, ?_⟩⟩
        rw [zb_cons_short (by rw [hcz, c3, List.length_append, List.length_take]; simp; omega), hcz, c3, htk c c2]
      · have hcS' : c + 1 = S := by omega
        refine ⟨c, by omega, by omega, .inr ⟨q, hq, zb S Ys, ?_, ?_⟩⟩
        · obtain ⟨p, p1, p2, p3⟩ := ih h4 (by rw [List.length_drop]; omega)
          rw [hcS']
          rcases p3 with p3 | ⟨q', p4, j, p5, p3⟩
          · rw [p3]; exact Junk.take _ _
          · rw [p3]; exact Junk.more p4 p5
        · rw [zb_cons_full (by rw [hcz, c3, List.length_append, List.length_take]; simp; omega), hcz, c3, htk c c2, List.append_assoc]; rfl
/-- A region of the device. -/
def Dev.reg (D : Dev) (lo m : Nat) : List Zn := (D.zones.drop lo).take m
theorem reg_crashed (D : Dev) (picks torn : List Int) (lo m : Nat) : Crashed (D.reg lo m) ((D.crash picks torn).reg lo m) := ((crashed_dev D picks torn).drop lo).take m
theorem reg_length {D : Dev} {lo m : Nat} (h : lo + m ≤ D.zones.length) : (D.reg lo m).length = m := by unfold Dev.reg; rw [List.length_take, List.length_drop]; omega
theorem reg_at {D : Dev} {lo m j : Nat} (h : lo + m ≤ D.zones.length) (hj : j < m) : (D.reg lo m)[j]? = some (D.at (lo + j)) := by
  unfold Dev.reg Dev.at
  rw [List.getElem?_take, if_pos hj, List.getElem?_drop, List.getD_eq_getElem?_getD, List.getElem?_eq_getElem (by omega)]; rfl
theorem reg_congr {D D' : Dev} {lo m : Nat} (hl : D'.zones.length = D.zones.length) (h : ∀ j, j < m → D'.at (lo + j) = D.at (lo + j)) (hm : lo + m ≤ D.zones.length) : D'.reg lo m = D.reg lo m := by
  refine List.ext_getElem? fun j => ?_
  rcases Nat.lt_or_ge j m with hj | hj
  · rw [reg_at (by omega) hj, reg_at hm hj, h j hj]
  · rw [List.getElem?_eq_none (by rw [reg_length (by omega)]; exact hj), List.getElem?_eq_none (by rw [reg_length hm]; exact hj)]
theorem torn_rd0 {p : List Int} (h : 0 < p.length) : rd (tornL p) 0 = rd p 0 := by
  unfold tornL
  cases p with
  | nil => simp at h
  | cons x p => rfl
theorem Junk.mem {l j : List (List Int)} (h : Junk l j) : ∀ p ∈ j, ∃ q ∈ l, p = q ∨ p = tornL q := by
  induction h with
  | nil => intro p hp; cases hp
  | keep h ih =>
    intro p hp
    rcases List.mem_cons.1 hp with rfl | hp
    · exact ⟨_, List.mem_cons_self, .inl rfl⟩
    · obtain ⟨q, h1, h2⟩ := ih p hp; exact ⟨q, List.mem_cons_of_mem _ h1, h2⟩
  | torn h ih =>
    intro p hp
    rcases List.mem_cons.1 hp with rfl | hp
    · exact ⟨_, List.mem_cons_self, .inr rfl⟩
    · obtain ⟨q, h1, h2⟩ := ih p hp; exact ⟨q, List.mem_cons_of_mem _ h1, h2⟩
end

section

/-- m zones from z on are emptied, those that are not empty. -/
def resets (D : Dev) (z : Nat) : Nat → Dev × Int
  | 0 => (D, 0)
  | m + 1 => if 0 < (D.at z).blocks.length then (if (D.reset (z : Nat)).2 ≠ 0 then D.reset (z : Nat) else resets (D.reset (z : Nat)).1 (z + 1) m) else resets D (z + 1) m
/-- Blocks are appended, the first at the k-th place of zones from base on. -/
def appends (base S : Nat) : Dev → Nat → List (List Int) → Dev × Int
  | D, _, [] => (D, 0)
  | D, k, p :: l => if (D.append ((base + k / S : Nat) : Int) p).2.2 ≠ 0 then ((D.append ((base + k / S : Nat) : Int) p).1, (D.append ((base + k / S : Nat) : Int) p).2.2) else appends base S (D.append ((base + k / S : Nat) : Int) p).1 (k + 1) l

/-- The power is on for good. -/
def Dev.live (D : Dev) : Prop := D.cut = false ∧ D.off = false
/-- Nothing but the zones from lo on, m of them, may have changed. -/
structure Near (D D' : Dev) (lo m : Nat) : Prop where
  len : D'.zones.length = D.zones.length
  size : D'.size = D.size
  ok : D'.ok
  out : ∀ j, (j < lo ∨ lo + m ≤ j) → D'.at j = D.at j
  live : D.live → D'.live
theorem Near.refl {D : Dev} (h : D.ok) (lo m : Nat) : Near D D lo m := ⟨rfl, rfl, h, fun _ _ => rfl, fun h => h⟩
theorem Near.trans {D D' D'' : Dev} {lo m : Nat} (h : Near D D' lo m) (h' : Near D' D'' lo m) : Near D D'' lo m :=
  ⟨h'.len.trans h.len, h'.size.trans h.size, h'.ok, fun j hj => (h'.out j hj).trans (h.out j hj), fun hl => h'.live (h.live hl)⟩
theorem Near.sub {D D' : Dev} {lo m lo' m' : Nat} (h : Near D D' lo m) (h1 : lo' ≤ lo) (h2 : lo + m ≤ lo' + m') : Near D D' lo' m' :=
  ⟨h.len, h.size, h.ok, fun j hj => h.out j (by omega), h.live⟩
theorem begin_live {D : Dev} (h : D.live) : D.begin.2 = true ∧ D.begin.1.live := by
  rw [begin_yes (by rw [h.1, h.2]; simp)]
  exact ⟨rfl, h.1, rfl⟩
theorem begin_off {D : Dev} (h : D.begin.2 = false) : D.begin.1.off = true := by
  by_cases hc : D.off = true ∨ (D.cut = true ∧ D.left < 1)
  · rw [begin_no hc]
  · rw [begin_yes hc] at h; cases h
theorem begin_at (D : Dev) (j : Nat) : D.begin.1.at j = D.at j := by unfold Dev.at; rw [begin_zones]
theorem live_set {D : Dev} (h : D.live) (k : Nat) (Z : Zn) : (D.set k Z).live := h

theorem reset_cases {D : Dev} (h : D.ok) {z : Nat} (hz : z < D.zones.length) :
    (∃ D', D.reset (z : Nat) = (D', 0) ∧ Near D D' z 1 ∧ D'.at z = ⟨[], 0⟩) ∨ (∃ D', D.reset (z : Nat) = (D', 12) ∧ D'.off = true ∧ (∀ j, D'.at j = D.at j) ∧ Near D D' z 1 ∧ ¬ D.live) := by
  have hzn := zone_of (D := D) (i := (z : Nat)) rfl hz
  cases hb : D.begin.2 with
  | true =>
    left
    refine ⟨_, Go.Proofs.Ytfpnodboebpemaa.reset_ok hzn hb, ⟨by rw [set_len, begin_zones], begin_size D, Dev.set_ok (Dev.begin_ok h) z (Nat.zero_le _) (Nat.le_refl _) (fun q hq => by cases hq), fun j hj => ?_, fun hl => live_set (begin_live hl).2 _ _⟩, ?_⟩
    · rw [at_set (by rw [begin_zones]; exact hz), if_neg (by omega), begin_at]
    · rw [at_set (by rw [begin_zones]; exact hz), if_pos rfl]
  | false =>
    right
    exact ⟨_, reset_off hzn hb, begin_off hb, begin_at D, ⟨by rw [begin_zones], begin_size D, Dev.begin_ok h, fun j _ => begin_at D j, fun hl => (begin_live hl).2⟩, fun hl => by rw [(begin_live hl).1] at hb; cases hb⟩
theorem append_cases {D : Dev} (h : D.ok) {k : Nat} {p : List Int} (hk : k < D.zones.length) (hp : p.length = 64) (hB : IsB p) (hs : (D.at k).blocks.length < D.size) :
    (∃ D', D.append (k : Nat) p = (D', ((D.at k).blocks.length : Int), 0) ∧ Near D D' k 1 ∧ D'.at k = ⟨(D.at k).blocks ++ [p], (D.at k).good⟩) ∨ (∃ D', D.append (k : Nat) p = (D', 0, 12) ∧ D'.off = true ∧ (∀ j, D'.at j = D.at j) ∧ Near D D' k 1 ∧ ¬ D.live) := by
  have hzn := zone_of (D := D) (i := (k : Nat)) rfl hk
  cases hb : D.begin.2 with
  | true =>
    left
    have ho := Dev.append_ok h (k : Nat) hB
    have he := Go.Proofs.Ytfpnodboebpemaa.append_ok hzn hp hb rfl (by omega : ¬ D.size ≤ (D.at k).blocks.length)
    rw [he] at ho
    refine ⟨_, he, ⟨by rw [set_len, begin_zones], begin_size D, ho, fun j hj => ?_, fun hl => live_set (begin_live hl).2 _ _⟩, ?_⟩
    · rw [at_set (by rw [begin_zones]; exact hk), if_neg (by omega), begin_at]
    · rw [at_set (by rw [begin_zones]; exact hk), if_pos rfl]
  | false =>
    right
    exact ⟨_, append_off hzn hp hb, begin_off hb, begin_at D, ⟨by rw [begin_zones], begin_size D, Dev.begin_ok h, fun j _ => begin_at D j, fun hl => (begin_live hl).2⟩, fun hl => by rw [(begin_live hl).1] at hb; cases hb⟩
/-- Made good, all of it, or not. -/
theorem flush_cases {D : Dev} (h : D.ok) :
    (∃ D', D.flush = (D', 0) ∧ D'.ok ∧ D'.zones.length = D.zones.length ∧ D'.size = D.size ∧ (D.live → D'.live) ∧ ∀ j, D'.at j = ⟨(D.at j).blocks, (D.at j).blocks.length⟩) ∨
    (∃ D', D.flush = (D', 12) ∧ D'.ok ∧ D'.zones.length = D.zones.length ∧ D'.size = D.size ∧ D'.off = true ∧ (∀ j, D'.at j = D.at j) ∧ ¬ D.live) := by
  have ho := Dev.flush_ok h
  cases hb : D.begin.2 with
  | true =>
    left
    have he : D.flush = ({ D.begin.1 with zones := D.zones.map fun Z => ⟨Z.blocks, Z.blocks.length⟩ }, 0) := by unfold Dev.flush; rw [if_neg (by simp [hb])]
    rw [he] at ho
    exact ⟨_, he, ho, by simp, begin_size D, fun hl => (begin_live hl).2, fun j => at_flush rfl j⟩
  | false =>
    right
    have he := flush_off (D := D) hb
    rw [he] at ho
    exact ⟨_, he, ho, by rw [begin_zones], begin_size D, begin_off hb, begin_at D, fun hl => by rw [(begin_live hl).1] at hb; cases hb⟩

theorem resets_cases : ∀ (m : Nat) {D : Dev} {z : Nat}, D.ok → z + m ≤ D.zones.length →
    (∃ D', resets D z m = (D', 0) ∧ Near D D' z m ∧ ∀ j, j < m → D'.at (z + j) = ⟨[], 0⟩) ∨
    (∃ D', resets D z m = (D', 12) ∧ D'.off = true ∧ Near D D' z m ∧ ¬ D.live ∧ (∀ j, D'.at j = D.at j ∨ D'.at j = ⟨[], 0⟩) ∧ ((∀ j, D'.at j = D.at j) ∨ (0 < m ∧ (D'.at z).blocks = [])))
  | 0, D, z, h, _ => .inl ⟨D, rfl, Near.refl h _ _, fun j hj => by omega⟩
  | m + 1, D, z, h, hz => by
    by_cases hc : 0 < (D.at z).blocks.length
    · rcases reset_cases h (show z < D.zones.length by omega) with ⟨D1, e1, n1, a1⟩ | ⟨D1, e1, o1, a1, n1, l1⟩
      · have hr : resets D z (m + 1) = resets D1 (z + 1) m := by rw [resets, if_pos hc, e1]; rfl
        rw [hr]
        rcases resets_cases m (D := D1) (z := z + 1) n1.ok (by rw [n1.len]; omega) with ⟨D2, e2, n2, a2⟩ | ⟨D2, e2, o2, n2, l2, a2, b2⟩
        · refine .inl ⟨D2, e2, (n1.sub (by omega) (by omega)).trans (n2.sub (by omega) (by omega)), fun j hj => ?_⟩
          cases j with
          | zero => rw [Nat.add_zero, n2.out z (by omega)]; exact a1
          | succ j => rw [show z + (j + 1) = z + 1 + j by omega]; exact a2 j (by omega)
        · refine .inr ⟨D2, e2, o2, (n1.sub (by omega) (by omega)).trans (n2.sub (by omega) (by omega)), fun hl => l2 (n1.live hl), fun j => ?_, .inr ⟨by omega, by rw [n2.out z (by omega), a1]⟩⟩
          rcases a2 j with h3 | h3
          · by_cases hj : j = z
            · subst hj; right; rw [h3]; exact a1
            · left; rw [h3]; exact n1.out j (by omega)
          · exact .inr h3
      · right
        refine ⟨D1, by rw [resets, if_pos hc, e1]; rfl, o1, n1.sub (by omega) (by omega), l1, fun j => .inl (a1 j), .inl a1⟩
    · have h0 : (D.at z) = ⟨[], 0⟩ := by
        obtain ⟨f1, f2, f3⟩ := at_full h z
        have hb : (D.at z).blocks = [] := List.eq_nil_of_length_eq_zero (by omega)
        rw [hb] at f2
        have hg : (D.at z).good = 0 := by simpa using f2
        cases hz : D.at z with
        | mk b g => rw [hz] at hb hg; simp only at hb hg; rw [hb, hg]
      have hr : resets D z (m + 1) = resets D (z + 1) m := by rw [resets, if_neg hc]
      rw [hr]
      rcases resets_cases m (D := D) (z := z + 1) h (by omega) with ⟨D2, e2, n2, a2⟩ | ⟨D2, e2, o2, n2, l2, a2, b2⟩
      · refine .inl ⟨D2, e2, n2.sub (by omega) (by omega), fun j hj => ?_⟩
        cases j with
        | zero => rw [Nat.add_zero, n2.out z (by omega)]; exact h0
        | succ j => rw [show z + (j + 1) = z + 1 + j by omega]; exact a2 j (by omega)
      · exact .inr ⟨D2, e2, o2, n2.sub (by omega) (by omega), l2, a2, .inr ⟨by omega, by rw [n2.out z (by omega), h0]⟩⟩

/-! ### Append -/
theorem laid_len {S : Nat} : ∀ {Zs : List Zn} {L : List (List Int)} {g : Nat}, laidOn S L g Zs → L.length ≤ Zs.length * S
  | [], L, g, h => by simp only [laidOn] at h; simp [h]
  | Z :: Zs, L, g, h => by
    have := laid_len h.2.2.2
    rw [List.length_drop] at this
    rw [List.length_cons, Nat.succ_mul]; omega
theorem laid_at {S : Nat} : ∀ {Zs : List Zn} {L : List (List Int)} {g j : Nat} {Z : Zn}, laidOn S L g Zs → Zs[j]? = some Z → Z.blocks = (L.drop (j * S)).take S
  | [], L, g, j, Z, h, hj => by simp at hj
  | Y :: Zs, L, g, 0, Z, h, hj => by simp at hj; subst hj; simpa using h.1
  | Y :: Zs, L, g, j + 1, Z, h, hj => by
    have := laid_at h.2.2.2 (by simpa using hj)
    rw [this, List.drop_drop, show S + j * S = (j + 1) * S by rw [Nat.succ_mul]; omega]
theorem laid_snoc {S : Nat} (hS : 0 < S) : ∀ {Zs : List Zn} {L : List (List Int)} {g : Nat} (p : List Int) {Z : Zn}, laidOn S L g Zs → Zs[L.length / S]? = some Z → g ≤ L.length → laidOn S (L ++ [p]) g (Zs.set (L.length / S) ⟨Z.blocks ++ [p], Z.good⟩)
  | [], L, g, p, Z, h, hz, _ => by simp at hz
  | Y :: Zs, L, g, p, Z, h, hz, hg => by
    obtain ⟨h1, h2, h3, h4⟩ := h
    rcases Nat.lt_or_ge L.length S with hc | hc
    · have h0 : L.length / S = 0 := Nat.div_eq_of_lt hc
      rw [h0] at hz ⊢
      simp at hz
      subst hz
      rw [List.set_cons_zero]
      refine ⟨?_, h2, by simp; omega, ?_⟩
      · simp only
        rw [h1, List.take_of_length_le (by omega), List.take_of_length_le (by simp; omega)]
      · rw [List.drop_of_length_le (by simp; omega)]
        rw [List.drop_of_length_le (by omega)] at h4
        exact h4
    · have h0 : L.length / S = (L.drop S).length / S + 1 := by
        rw [List.length_drop, ← Nat.sub_add_cancel hc, Nat.add_sub_cancel, Nat.add_div_right _ hS]
      rw [h0] at hz ⊢
      rw [List.set_cons_succ]
      have := laid_snoc hS p (Z := Z) h4 (by simpa using hz) (by rw [List.length_drop]; omega)
      refine ⟨by rw [h1, List.take_append_of_le_length hc], h2, h3, ?_⟩
      rw [List.drop_append_of_le_length hc]; exact this
theorem reg_set {D D' : Dev} {lo m k : Nat} {Z : Zn} (hl : D'.zones.length = D.zones.length) (hk : k < m) (hm : lo + m ≤ D.zones.length) (ho : ∀ j, (j < lo + k ∨ lo + k + 1 ≤ j) → D'.at j = D.at j) (hZ : D'.at (lo + k) = Z) : D'.reg lo m = (D.reg lo m).set k Z := by
  refine List.ext_getElem? fun j => ?_
  rcases Nat.lt_or_ge j m with hj | hj
  · rw [reg_at (by omega) hj]
    by_cases he : k = j
    · subst he
      rw [List.getElem?_set_self (by rw [reg_length hm]; exact hk), hZ]
    · rw [List.getElem?_set_ne he, reg_at hm hj, ho _ (by omega)]
  · rw [List.getElem?_eq_none (by rw [reg_length (by omega)]; exact hj), List.getElem?_eq_none (by rw [List.length_set, reg_length hm]; exact hj)]
theorem div_lt {k S m : Nat} (hS : 0 < S) (h : k < m * S) : k / S < m := Nat.div_lt_of_lt_mul (by rw [Nat.mul_comm]; exact h)
theorem appends_cases {base m : Nat} : ∀ (l : List (List Int)) {D : Dev} {L : List (List Int)} {g : Nat}, D.ok → base + m ≤ D.zones.length → laidOn D.size L g (D.reg base m) → g ≤ L.length → L.length + l.length ≤ m * D.size → (∀ p ∈ l, p.length = 64 ∧ IsB p) →
    (∃ D', appends base D.size D L.length l = (D', 0) ∧ Near D D' base m ∧ laidOn D.size (L ++ l) g (D'.reg base m)) ∨
    (∃ D', appends base D.size D L.length l = (D', 12) ∧ D'.off = true ∧ Near D D' base m ∧ ¬ D.live ∧ ∃ j, j < l.length ∧ laidOn D.size (L ++ l.take j) g (D'.reg base m))
  | [], D, L, g, h, hm, hl, hg, hr, hp => .inl ⟨D, rfl, Near.refl h _ _, by rw [List.append_nil]; exact hl⟩
  | p :: l, D, L, g, h, hm, hl, hg, hr, hp => by
    have hS : 0 < D.size := by have := h.size; omega
    rw [List.length_cons] at hr
    have hk : L.length / D.size < m := div_lt hS (by omega)
    have hat := reg_at hm hk
    have hbl := laid_at hl hat
    have hlen : (D.at (base + L.length / D.size)).blocks.length < D.size := by
      rw [hbl, List.length_take, List.length_drop]
      have := Nat.div_add_mod L.length D.size
      have h2 := Nat.mod_lt L.length hS
      rw [Nat.mul_comm] at this
      omega
    obtain ⟨p1, p2⟩ := hp p List.mem_cons_self
    rcases append_cases h (show base + L.length / D.size < D.zones.length by omega) p1 p2 hlen with ⟨D1, e1, n1, a1⟩ | ⟨D1, e1, o1, a1, n1, l1⟩
    · have hreg : D1.reg base m = (D.reg base m).set (L.length / D.size) ⟨(D.at (base + L.length / D.size)).blocks ++ [p], (D.at (base + L.length / D.size)).good⟩ := reg_set n1.len hk hm n1.out a1
      have hl1 : laidOn D1.size (L ++ [p]) g (D1.reg base m) := by rw [n1.size, hreg]; exact laid_snoc hS p hl hat hg
      have hstep : appends base D.size D L.length (p :: l) = appends base D1.size D1 (L ++ [p]).length l := by
        rw [appends, e1, n1.size, List.length_append]; rfl
      rw [hstep]
      have hn1 : Near D D1 base m := n1.sub (Nat.le_add_right _ _) (Nat.add_le_add_left hk base)
      rcases appends_cases l (D := D1) (L := L ++ [p]) n1.ok (by rw [n1.len]; exact hm) hl1 (by simp; omega) (by rw [n1.size, List.length_append, List.length_singleton]; omega) (fun q hq => hp q (List.mem_cons_of_mem _ hq)) with ⟨D2, e2, n2, a2⟩ | ⟨D2, e2, o2, n2, l2, j, j1, j2⟩
      · exact .inl ⟨D2, e2, hn1.trans n2, by rw [n1.size, List.append_assoc] at a2; exact a2⟩
      · exact .inr ⟨D2, e2, o2, hn1.trans n2, fun hl' => l2 (n1.live hl'), j + 1, by simp; omega, by rw [n1.size, List.append_assoc] at j2; exact j2⟩
    · right
      refine ⟨D1, by rw [appends, e1]; rfl, o1, n1.sub (Nat.le_add_right _ _) (Nat.add_le_add_left hk base), l1, 0, by simp, ?_⟩
      rw [List.take_zero, List.append_nil, reg_congr n1.len (fun j _ => a1 _) hm]; exact hl
theorem laid_more {S : Nat} : ∀ {Zs : List Zn} {L : List (List Int)} {g g' : Nat}, laidOn S L g Zs → g' ≤ g → laidOn S L g' Zs
  | [], L, g, g', h, _ => h
  | Z :: Zs, L, g, g', h, hg => ⟨h.1, by have := h.2.1; omega, h.2.2.1, laid_more h.2.2.2 (by omega)⟩
/-- All that lies there is for good. -/
theorem laid_still {S : Nat} : ∀ {Zs : List Zn} {L : List (List Int)} {g : Nat}, laidOn S L g Zs → still Zs → laidOn S L L.length Zs
  | [], L, g, h, _ => h
  | Z :: Zs, L, g, h, hs => by
    obtain ⟨h1, h2, h3, h4⟩ := h
    have hg := hs Z List.mem_cons_self
    refine ⟨h1, by rw [hg, h1, List.length_take]; omega, h3, ?_⟩
    have := laid_still h4 (fun Y hY => hs Y (List.mem_cons_of_mem _ hY))
    rwa [List.length_drop] at this
/-- Blocks as they lie, whatever is good of them. -/
theorem laid_blocks {S : Nat} : ∀ {Zs Ys : List Zn} {L : List (List Int)} {g : Nat}, laidOn S L g Zs → Ys = Zs.map (fun Z => ⟨Z.blocks, Z.blocks.length⟩) → laidOn S L L.length Ys
  | [], Ys, L, g, h, he => by subst he; exact h
  | Z :: Zs, Ys, L, g, h, he => by
    subst he
    obtain ⟨h1, h2, h3, h4⟩ := h
    have hl : Z.blocks.length = min S L.length := by rw [h1, List.length_take]
    refine ⟨h1, by simp only; omega, Nat.le_refl _, ?_⟩
    have := laid_blocks h4 rfl
    rwa [List.length_drop] at this
theorem laid_empty {S m : Nat} : ∀ {Zs : List Zn}, (∀ Z ∈ Zs, Z = ⟨[], 0⟩) → laidOn S [] 0 Zs
  | [], _ => rfl
  | Z :: Zs, h => by
    have := h Z List.mem_cons_self
    subst this
    exact ⟨by simp, Nat.min_le_left _ _, Nat.le_refl _, by rw [List.drop_nil, Nat.zero_sub]; exact laid_empty (m := m) (fun Y hY => h Y (List.mem_cons_of_mem _ hY))⟩
end
end Go.Proofs.Ytfpnodboebpemaa
