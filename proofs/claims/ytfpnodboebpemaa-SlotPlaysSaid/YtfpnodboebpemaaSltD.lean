/- Slots, as plain data, and as they lie in memory. -/
import Derived.Test.YtfpnodboebpemaaLaid
import Derived.Test.YtfpnodboebpemaaVx
namespace Go.Proofs.Ytfpnodboebpemaa
open Go.RowKit Go.Proofs.YtfpnodboebpemaaW.PrintWords
set_option linter.unusedVariables false
set_option linter.unusedSimpArgs false
section

def slotTail (t : List Int) : List Int := le t.length 4 ++ le (crcOf t) 4
def partsN (t : List Int) (m : Nat) : List (List Int) := (List.range m).map fun k => (t.drop (40 * k)).take 40
def partsC (t : List Int) : Nat := (t.length + 39) / 40
def parts (t : List Int) : List (List Int) := partsN t (partsC t)
theorem partsN_length (t : List Int) (m : Nat) : (partsN t m).length = m := by simp [partsN]
theorem partsN_succ (t : List Int) (m : Nat) : partsN t (m + 1) = partsN t m ++ [(t.drop (40 * m)).take 40] := by simp [partsN, List.range_succ]
theorem partsN_flat (t : List Int) (m : Nat) : (partsN t m).flatten = t.take (40 * m) := by
  induction m with
  | zero => simp [partsN]
  | succ m ih => rw [partsN_succ, List.flatten_append, ih, show 40 * (m + 1) = 40 * m + 40 by omega, List.take_add]; simp
theorem parts_flat (t : List Int) : (parts t).flatten = t := by
  unfold parts; rw [partsN_flat, List.take_of_length_le (by unfold partsC; omega)]
theorem parts_length (t : List Int) : (parts t).length = partsC t := partsN_length _ _
theorem parts_body {t b : List Int} (h : b ∈ parts t) : b.length ≤ 40 ∧ (IsB t → IsB b) := by
  obtain ⟨k, _, rfl⟩ := List.mem_map.1 h
  exact ⟨by rw [List.length_take]; omega, fun hB => (hB.drop _).take _⟩

def headF (n : Int) : Fb := ⟨3, 0, n, 0, []⟩
def dataF (n : Int) (b : List Int) : Fb := ⟨1, 0, n, 0, b⟩
def endF (n : Int) (k : Nat) (t : List Int) : Fb := ⟨2, 0, n, (k : Nat), slotTail t⟩
def slotF (n : Int) (t : List Int) : List Fb := headF n :: ((parts t).map (dataF n) ++ [endF n (parts t).length t])
def slotB (n : Int) (t : List Int) : List (List Int) := (slotF n t).map Fb.enc
theorem slotF_length (n : Int) (t : List Int) : (slotF n t).length = partsC t + 2 := by simp [slotF, parts_length]
theorem slotB_length (n : Int) (t : List Int) : (slotB n t).length = partsC t + 2 := by rw [slotB, List.length_map, slotF_length]
/-- A number that a slot may have. -/
def seqOk (n : Int) : Prop := 0 ≤ n ∧ n ≤ 1099511627776
theorem tail_length (t : List Int) : (slotTail t).length = 8 := by simp [slotTail, le_length]
theorem tail_b (t : List Int) : IsB (slotTail t) := (le_b _ _).append (le_b _ _)
theorem slotF_err {n : Int} {t : List Int} (hn : seqOk n) (ht : t.length ≤ 1000000) : ∀ b ∈ slotF n t, b.err = 0 := fun b hb => by
  obtain ⟨h1, h2⟩ := hn
  rcases List.mem_cons.1 hb with rfl | hb
  · refine err_of ⟨?_, ?_, ?_, ?_, ?_, ?_, ?_, ?_⟩ ?_ <;> simp only [headF, List.length_nil] <;> omega
  · rcases List.mem_append.1 hb with hb | hb
    · obtain ⟨x, hx, rfl⟩ := List.mem_map.1 hb
      have := (parts_body hx).1
      refine err_of ⟨?_, ?_, ?_, ?_, ?_, ?_, ?_, ?_⟩ ?_ <;> simp only [dataF] <;> omega
    · rw [List.mem_singleton.1 hb]
      have hp := parts_length t
      have hc : partsC t ≤ 30000 := by unfold partsC; omega
      refine err_of ⟨?_, ?_, ?_, ?_, ?_, ?_, ?_, ?_⟩ ?_ <;> simp only [endF, tail_length] <;> omega
theorem slotF_b {n : Int} {t : List Int} (hB : IsB t) : ∀ b ∈ slotF n t, IsB b.body := fun b hb => by
  rcases List.mem_cons.1 hb with rfl | hb
  · exact fun x hx => by cases hx
  · rcases List.mem_append.1 hb with hb | hb
    · obtain ⟨x, hx, rfl⟩ := List.mem_map.1 hb
      exact (parts_body hx).2 hB
    · rw [List.mem_singleton.1 hb]; exact tail_b t
theorem slotF_kind {n : Int} {t : List Int} : ∀ b ∈ slotF n t, 1 ≤ b.kind ∧ b.kind ≤ 3 := fun b hb => by
  rcases List.mem_cons.1 hb with rfl | hb
  · exact ⟨by simp [headF], by simp [headF]⟩
  · rcases List.mem_append.1 hb with hb | hb
    · obtain ⟨x, hx, rfl⟩ := List.mem_map.1 hb
      exact ⟨by simp [dataF], by simp [dataF]⟩
    · rw [List.mem_singleton.1 hb]; exact ⟨by simp [endF], by simp [endF]⟩
theorem enc_dec {b : Fb} (h : b.err = 0) : decErr b.enc = 0 ∧ decB b.enc = b := dec_enc b (err_fits h).1 (err_fits h).2
theorem enc_len {b : Fb} (h : b.err = 0) : b.enc.length = 64 := enc_length b (err_fits h).2
theorem torn_bad {b : Fb} (h : b.err = 0) (hb : IsB b.body) : decErr (tornL b.enc) ≠ 0 := by rw [dec_torn b (err_fits h).1 (err_fits h).2 hb]; decide

/-! ### read -/
def sreadG : List (List Int) → Nat → Int → List Int → List Int × Int
  | [], _, _, _ => ([], 0)
  | p :: l, i, n, text =>
    if decErr p ≠ 0 then ([], 0)
    else if i = 0 ∧ (decB p).kind = 3 then sreadG l (i + 1) (decB p).seq text
    else if i = 0 ∨ (decB p).seq ≠ n then ([], 0)
    else if (decB p).kind = 1 then sreadG l (i + 1) n (text ++ (decB p).body)
    else if (decB p).kind = 2 ∧ (decB p).lba = (i : Int) - 1 ∧ (decB p).body = slotTail text then (text, n)
    else ([], 0)
def sread (l : List (List Int)) : List Int × Int := sreadG l 0 0 []
theorem sread_nil : sread [] = ([], 0) := rfl
theorem sreadG_bad {p : List Int} {l : List (List Int)} {i : Nat} {n : Int} {text : List Int} (h : decErr p ≠ 0) : sreadG (p :: l) i n text = ([], 0) := by rw [sreadG, if_pos h]
theorem sreadG_head {p : List Int} {l : List (List Int)} {i : Nat} {n : Int} {text : List Int} (h : ¬ decErr p ≠ 0) (h1 : i = 0 ∧ (decB p).kind = 3) : sreadG (p :: l) i n text = sreadG l (i + 1) (decB p).seq text := by rw [sreadG, if_neg h, if_pos h1]
theorem sreadG_out {p : List Int} {l : List (List Int)} {i : Nat} {n : Int} {text : List Int} (h1 : ¬ (i = 0 ∧ (decB p).kind = 3)) (h2 : i = 0 ∨ (decB p).seq ≠ n) : sreadG (p :: l) i n text = ([], 0) := by
  rw [sreadG]
  split
  · rfl
  · first | rw [if_neg h1, if_pos h2] | rfl
theorem sreadG_data {p : List Int} {l : List (List Int)} {i : Nat} {n : Int} {text : List Int} (h : ¬ decErr p ≠ 0) (h1 : ¬ (i = 0 ∧ (decB p).kind = 3)) (h2 : ¬ (i = 0 ∨ (decB p).seq ≠ n)) (h3 : (decB p).kind = 1) : sreadG (p :: l) i n text = sreadG l (i + 1) n (text ++ (decB p).body) := by rw [sreadG, if_neg h, if_neg h1, if_neg h2, if_pos h3]
theorem sreadG_end {p : List Int} {l : List (List Int)} {i : Nat} {n : Int} {text : List Int} (h : ¬ decErr p ≠ 0) (h1 : ¬ (i = 0 ∧ (decB p).kind = 3)) (h2 : ¬ (i = 0 ∨ (decB p).seq ≠ n)) (h3 : ¬ (decB p).kind = 1) (h4 : (decB p).kind = 2 ∧ (decB p).lba = (i : Int) - 1 ∧ (decB p).body = slotTail text) : sreadG (p :: l) i n text = (text, n) := by rw [sreadG, if_neg h, if_neg h1, if_neg h2, if_neg h3, if_pos h4]
theorem sreadG_no {p : List Int} {l : List (List Int)} {i : Nat} {n : Int} {text : List Int} (h1 : ¬ (i = 0 ∧ (decB p).kind = 3)) (h3 : ¬ (decB p).kind = 1) (h4 : ¬ ((decB p).kind = 2 ∧ (decB p).lba = (i : Int) - 1 ∧ (decB p).body = slotTail text)) : sreadG (p :: l) i n text = ([], 0) := by
  simp only [sreadG, if_neg h1, if_neg h3, if_neg h4, ite_self]
theorem sread_skip {n : Int} (hn : seqOk n) (l : List (List Int)) : ∀ (bs : List (List Int)) (i : Nat) (text : List Int), 0 < i → (∀ b ∈ bs, b.length ≤ 40) → sreadG (bs.map (fun b => (dataF n b).enc) ++ l) i n text = sreadG l (i + bs.length) n (text ++ bs.flatten)
  | [], i, text, _, _ => by simp
  | b :: bs, i, text, hi, hb => by
    have he : (dataF n b).err = 0 := by
      obtain ⟨h1, h2⟩ := hn
      have := hb b List.mem_cons_self
      refine err_of ⟨?_, ?_, ?_, ?_, ?_, ?_, ?_, ?_⟩ ?_ <;> simp only [dataF] <;> omega
    obtain ⟨e1, e2⟩ := enc_dec he
    rw [List.map_cons, List.cons_append, sreadG_data (by rw [e1]; simp) (by rintro ⟨h, _⟩; omega) (by rw [e2]; rintro (h | h); omega; exact h rfl) (by rw [e2]; rfl), e2]
    rw [sread_skip hn l bs (i + 1) _ (by omega) (fun b hb' => hb b (List.mem_cons_of_mem _ hb'))]
    simp [dataF, Nat.add_assoc, Nat.add_comm 1]
theorem slotB_eq (n : Int) (t : List Int) : slotB n t = (headF n).enc :: ((parts t).map (fun b => (dataF n b).enc) ++ [(endF n (parts t).length t).enc]) := by
  simp [slotB, slotF, List.map_map]
theorem slotB_mem {n : Int} {t : List Int} {p : List Int} (h : p ∈ slotB n t) : ∃ b ∈ slotF n t, p = b.enc := by
  obtain ⟨b, hb, rfl⟩ := List.mem_map.1 h; exact ⟨b, hb, rfl⟩
theorem sread_head {n : Int} {t : List Int} (hn : seqOk n) (ht : t.length ≤ 1000000) (l : List (List Int)) : sread ((headF n).enc :: l) = sreadG l 1 n [] := by
  obtain ⟨e1, e2⟩ := enc_dec (slotF_err hn ht (headF n) List.mem_cons_self)
  unfold sread
  rw [sreadG_head (by rw [e1]; simp) ⟨rfl, by rw [e2]; rfl⟩, e2]; rfl
/-- What is written is read. -/
theorem sread_slotB {n : Int} {t : List Int} (hn : seqOk n) (ht : t.length ≤ 1000000) (l : List (List Int)) : sread (slotB n t ++ l) = (t, n) := by
  rw [slotB_eq, List.cons_append, sread_head hn ht, List.append_assoc, sread_skip hn _ _ _ _ (by omega) (fun b hb => (parts_body hb).1)]
  obtain ⟨e1, e2⟩ := enc_dec (slotF_err hn ht (endF n (parts t).length t) (by simp [slotF]))
  rw [List.nil_append, parts_flat]
  exact sreadG_end (by rw [e1]; simp) (by rintro ⟨h, _⟩; omega) (by rw [e2]; rintro (h | h); omega; exact h rfl) (by rw [e2]; simp [endF]) (by rw [e2]; exact ⟨rfl, by simp [endF]; omega, rfl⟩)
theorem slotB_take {n : Int} {t : List Int} {p : Nat} (hp : p + 1 < (slotB n t).length) : (slotB n t).take (p + 1) = (headF n).enc :: ((parts t).take p).map (fun b => (dataF n b).enc) := by
  have hl := parts_length t
  rw [slotB_length] at hp
  rw [slotB_eq, List.take_succ_cons, List.take_append_of_le_length (by rw [List.length_map]; omega), List.map_take]
/-- Of less than all of it nothing is read. -/
theorem sread_less {n : Int} {t : List Int} (hn : seqOk n) (ht : t.length ≤ 1000000) {p : Nat} (hp : p < (slotB n t).length) : sread ((slotB n t).take p) = ([], 0) := by
  cases p with
  | zero => rfl
  | succ p =>
    rw [slotB_take hp, sread_head hn ht]
    have := sread_skip hn [] ((parts t).take p) 1 [] (by omega) (fun b hb => (parts_body (List.mem_of_mem_take hb)).1)
    rw [List.append_nil] at this
    rw [this]; rfl
theorem sread_torn {n : Int} {t : List Int} (hn : seqOk n) (ht : t.length ≤ 1000000) (hB : IsB t) {p : Nat} {q : List Int} (hp : (slotB n t)[p]? = some q) (j : List (List Int)) : sread ((slotB n t).take p ++ tornL q :: j) = ([], 0) := by
  have hlt := (List.getElem?_eq_some_iff.1 hp).1
  obtain ⟨b, hb, rfl⟩ := slotB_mem (List.mem_of_getElem? hp)
  have hbad := torn_bad (slotF_err hn ht b hb) (slotF_b hB b hb)
  cases p with
  | zero => unfold sread; exact sreadG_bad hbad
  | succ p =>
    rw [slotB_take hlt, List.cons_append, sread_head hn ht, sread_skip hn _ _ _ _ (by omega) (fun b hb => (parts_body (List.mem_of_mem_take hb)).1)]
    exact sreadG_bad hbad
/-- What a crash leaves of a slot that was being written. -/
theorem sread_crash {n : Int} {t : List Int} (hn : seqOk n) (ht : t.length ≤ 1000000) (hB : IsB t) {k : Nat} {p : Nat} {l : List (List Int)} (hp : p ≤ ((slotB n t).take k).length)
    (h : l = ((slotB n t).take k).take p ∨ ∃ q, ((slotB n t).take k)[p]? = some q ∧ ∃ j, l = ((slotB n t).take k).take p ++ tornL q :: j) : sread l = ([], 0) ∨ sread l = (t, n) := by
  rw [List.length_take] at hp
  have htk : ((slotB n t).take k).take p = (slotB n t).take p := by rw [List.take_take, Nat.min_eq_left (by omega)]
  rcases h with rfl | ⟨q, hq, j, rfl⟩
  · rw [htk]
    rcases Nat.lt_or_ge p (slotB n t).length with h | h
    · exact .inl (sread_less hn ht h)
    · right; rw [List.take_of_length_le h]
      have := sread_slotB hn ht []
      rwa [List.append_nil] at this
  · left
    rw [htk]
    rw [List.getElem?_take] at hq
    split at hq
    · exact sread_torn hn ht hB hq j
    · cases hq
end

section

/-! ### Slots -/
structure Slt where
  lo : Nat
  mid : Nat
  hi : Nat
  inn : Nat
  text : List Int
  count : Nat
  off : Bool
def sltCells (s : Slt) (d S : Nat) (A : Option Addr) (c : Nat) : List Value := [ptr d 0, .int .i64 s.lo, .int .i64 s.mid, .int .i64 s.hi, .int .i64 S, .int .i64 s.inn, .slice A s.text.length c, .int .i64 s.count, .bool s.off]
def slotH (p d S : Nat) (s : Slt) : HP := exH fun x : Option Addr × Nat => knowH (bytesK x.1 x.2 s.text) (pt p 175 (sltCells s d S x.1 x.2))
section
variable {w : World} {M : List HP} {K : List KP} {p d S : Nat} {s : Slt}
theorem Hold.slotO (h : Hold w (slotH p d S s :: M) K) : ∃ x : Option Addr × Nat, True ∧ Hold w (pt p 175 (sltCells s d S x.1 x.2) :: M) (bytesK x.1 x.2 s.text :: K) := by
  obtain ⟨x, hx⟩ := Hold.ex.1 h; exact ⟨x, trivial, Hold.knowH.1 hx⟩
theorem Hold.slotC {A : Option Addr} {c : Nat} (h : Hold w (pt p 175 (sltCells s d S A c) :: M) K) (hm : bytesK A c s.text ∈ K) : Hold w (slotH p d S s :: M) K :=
  Hold.ex.2 ⟨(A, c), Hold.knowH.2 (h.know (fun k hk => (List.mem_cons.1 hk).elim (fun e => e ▸ hm) id))⟩
end
/-- Where a slot begins. -/
def Slt.from (s : Slt) (i : Nat) : Nat := if i = 0 then s.lo else s.mid
def Slt.to (s : Slt) (i : Nat) : Nat := if i = 0 then s.mid else s.hi
def slotBlocks (D : Dev) (a b : Nat) : List (List Int) := zb D.size (D.reg a (b - a))
theorem reg_cons {D : Dev} {z b : Nat} (h : z < b) (hb : b ≤ D.zones.length) : D.reg z (b - z) = D.at z :: D.reg (z + 1) (b - (z + 1)) := by
  have hz : D.zones[z]? = some (D.at z) := (zone_at (zone_of (D := D) (i := (z : Nat)) rfl (by omega))).2.1
  obtain ⟨hlt, he⟩ := List.getElem?_eq_some_iff.1 hz
  unfold Dev.reg
  rw [List.drop_eq_getElem_cons hlt, he, show b - z = (b - (z + 1)) + 1 by omega, List.take_succ_cons]
theorem reg_none {D : Dev} {z b : Nat} (h : b ≤ z) : D.reg z (b - z) = [] := by unfold Dev.reg; rw [show b - z = 0 by omega]; rfl
/-- An odd block. -/
def odd (most : Int) (p : List Int) : Bool := decide (¬ (1 ≤ rd p 0 ∧ rd p 0 ≤ most))
/-- write -/
def sltWrite (D : Dev) (a b : Nat) (n : Int) (t : List Int) : Dev × Int :=
  if (resets D a (b - a)).2 ≠ 0 then resets D a (b - a)
  else if (appends a D.size (resets D a (b - a)).1 0 (slotB n t)).2 ≠ 0 then appends a D.size (resets D a (b - a)).1 0 (slotB n t)
  else (appends a D.size (resets D a (b - a)).1 0 (slotB n t)).1.flush
theorem write_1 {D : Dev} {a b : Nat} {n : Int} {t : List Int} (h : (resets D a (b - a)).2 ≠ 0) : sltWrite D a b n t = resets D a (b - a) := by unfold sltWrite; rw [if_pos h]
theorem write_2 {D : Dev} {a b : Nat} {n : Int} {t : List Int} (h : ¬ (resets D a (b - a)).2 ≠ 0) (h2 : (appends a D.size (resets D a (b - a)).1 0 (slotB n t)).2 ≠ 0) : sltWrite D a b n t = appends a D.size (resets D a (b - a)).1 0 (slotB n t) := by unfold sltWrite; rw [if_neg h, if_pos h2]
theorem write_3 {D : Dev} {a b : Nat} {n : Int} {t : List Int} (h : ¬ (resets D a (b - a)).2 ≠ 0) (h2 : ¬ (appends a D.size (resets D a (b - a)).1 0 (slotB n t)).2 ≠ 0) : sltWrite D a b n t = (appends a D.size (resets D a (b - a)).1 0 (slotB n t)).1.flush := by unfold sltWrite; rw [if_neg h, if_neg h2]
theorem resets_skip {D : Dev} {z m : Nat} (h : ¬ 0 < (D.at z).blocks.length) : resets D z (m + 1) = resets D (z + 1) m := by rw [resets, if_neg h]
theorem resets_no {D : Dev} {z m : Nat} (h : 0 < (D.at z).blocks.length) (h2 : (D.reset (z : Nat)).2 ≠ 0) : resets D z (m + 1) = D.reset (z : Nat) := by rw [resets, if_pos h, if_pos h2]
theorem resets_on {D : Dev} {z m : Nat} (h : 0 < (D.at z).blocks.length) (h2 : ¬ (D.reset (z : Nat)).2 ≠ 0) : resets D z (m + 1) = resets (D.reset (z : Nat)).1 (z + 1) m := by rw [resets, if_pos h, if_neg h2]
theorem appends_no {base S : Nat} {D : Dev} {k : Nat} {p : List Int} {l : List (List Int)} (h : (D.append ((base + k / S : Nat) : Int) p).2.2 ≠ 0) : appends base S D k (p :: l) = ((D.append ((base + k / S : Nat) : Int) p).1, (D.append ((base + k / S : Nat) : Int) p).2.2) := by rw [appends, if_pos h]
theorem appends_on {base S : Nat} {D : Dev} {k : Nat} {p : List Int} {l : List (List Int)} (h : ¬ (D.append ((base + k / S : Nat) : Int) p).2.2 ≠ 0) : appends base S D k (p :: l) = appends base S (D.append ((base + k / S : Nat) : Int) p).1 (k + 1) l := by rw [appends, if_neg h]
/-- What does not change whoever writes. -/
theorem reset_same {D : Dev} (h : D.ok) (i : Int) : (D.reset i).1.ok ∧ (D.reset i).1.size = D.size ∧ (D.reset i).1.zones.length = D.zones.length := by
  refine ⟨Dev.reset_ok h i, ?_, reset_len' D i⟩
  unfold Dev.reset
  split
  · rfl
  · split
    · exact begin_size D
    · exact begin_size D
theorem append_same {D : Dev} (h : D.ok) (i : Int) {p : List Int} (hB : IsB p) : (D.append i p).1.ok ∧ (D.append i p).1.size = D.size ∧ (D.append i p).1.zones.length = D.zones.length := ⟨Dev.append_ok h i hB, append_size' D i p, append_len' D i p⟩
end
end Go.Proofs.Ytfpnodboebpemaa
