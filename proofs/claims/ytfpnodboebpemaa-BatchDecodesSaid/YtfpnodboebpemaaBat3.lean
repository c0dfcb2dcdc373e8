/- What batch.Decode reads, as plain data. -/
import Derived.Test.YtfpnodboebpemaaBat2A
namespace Go.Proofs.Ytfpnodboebpemaa
open Go.RowKit Go.Proofs.YtfpnodboebpemaaW.PrintWords
set_option linter.unusedVariables false
set_option linter.unusedSimpArgs false

def Fb.zero : Fb := ⟨0, 0, 0, 0, []⟩
/-- row -/
def rowM : List (List Int) → Fb → Bool → List PutL → List PutL × Fb × Bool
  | [], _, _, acc => (acc, Fb.zero, false)
  | p :: l, first, start, acc =>
    if decErr p ≠ 0 ∨ (decB p).epoch ≠ (if start then decB p else first).epoch ∨ (decB p).seq ≠ (if start then decB p else first).seq then (acc, Fb.zero, true)
    else if (decB p).kind ≠ 1 then (acc, decB p, true)
    else rowM l (if start then decB p else first) false (acc ++ [⟨(decB p).lba, (decB p).body⟩])
def rowOf (l : List (List Int)) : List PutL × Fb × Bool := rowM l Fb.zero true []
theorem rowM_bad {p : List Int} {l : List (List Int)} {f : Fb} {s : Bool} {acc : List PutL} (h : decErr p ≠ 0 ∨ (decB p).epoch ≠ (if s then decB p else f).epoch ∨ (decB p).seq ≠ (if s then decB p else f).seq) : rowM (p :: l) f s acc = (acc, Fb.zero, true) := by rw [rowM, if_pos h]
theorem rowM_end {p : List Int} {l : List (List Int)} {f : Fb} {s : Bool} {acc : List PutL} (h : ¬ (decErr p ≠ 0 ∨ (decB p).epoch ≠ (if s then decB p else f).epoch ∨ (decB p).seq ≠ (if s then decB p else f).seq)) (hk : (decB p).kind ≠ 1) : rowM (p :: l) f s acc = (acc, decB p, true) := by rw [rowM, if_neg h, if_pos hk]
theorem rowM_on {p : List Int} {l : List (List Int)} {f : Fb} {s : Bool} {acc : List PutL} (h : ¬ (decErr p ≠ 0 ∨ (decB p).epoch ≠ (if s then decB p else f).epoch ∨ (decB p).seq ≠ (if s then decB p else f).seq)) (hk : ¬ (decB p).kind ≠ 1) : rowM (p :: l) f s acc = rowM l (if s then decB p else f) false (acc ++ [⟨(decB p).lba, (decB p).body⟩]) := by rw [rowM, if_neg h, if_neg hk]

theorem rowM_len (l : List (List Int)) : ∀ (f : Fb) (s : Bool) (acc : List PutL), (rowM l f s acc).1.length ≤ acc.length + l.length := by
  induction l with
  | nil => intro f s acc; simp [rowM]
  | cons p l ih =>
    intro f s acc
    by_cases h : decErr p ≠ 0 ∨ (decB p).epoch ≠ (if s then decB p else f).epoch ∨ (decB p).seq ≠ (if s then decB p else f).seq
    · rw [rowM_bad h]; simp
    · by_cases hk : (decB p).kind ≠ 1
      · rw [rowM_end h hk]; simp
      · rw [rowM_on h hk]
        have := ih (if s then decB p else f) false (acc ++ [⟨(decB p).lba, (decB p).body⟩])
        rw [List.length_append, List.length_singleton] at this
        rw [List.length_cons]; omega
/-! ### batch -/
def stepOf (steps : List Int) (i : Nat) : Int := rd steps ((2 * i : Nat) : Int) + rd steps ((2 * i + 1 : Nat) : Int) * 256
def batGo (steps counts : List Int) : Nat → Nat → Int → List PutL → List TxL → Option (List TxL × List PutL)
  | 0, _, _, ps, acc => some (acc, ps)
  | r + 1, i, time, ps, acc =>
    if ps.length < (rd counts (i : Nat)).toNat ∨ (i = 0 ∧ stepOf steps 0 ≠ 0) then none
    else batGo steps counts r (i + 1) (time + stepOf steps i) (ps.drop (rd counts (i : Nat)).toNat) (acc ++ [⟨time + stepOf steps i, ps.take (rd counts (i : Nat)).toNat⟩])
theorem batGo_no {steps counts : List Int} {r i : Nat} {time : Int} {ps : List PutL} {acc : List TxL} (h : ps.length < (rd counts (i : Nat)).toNat ∨ (i = 0 ∧ stepOf steps 0 ≠ 0)) : batGo steps counts (r + 1) i time ps acc = none := by rw [batGo, if_pos h]
theorem batGo_on {steps counts : List Int} {r i : Nat} {time : Int} {ps : List PutL} {acc : List TxL} (h : ¬ (ps.length < (rd counts (i : Nat)).toNat ∨ (i = 0 ∧ stepOf steps 0 ≠ 0))) : batGo steps counts (r + 1) i time ps acc = batGo steps counts r (i + 1) (time + stepOf steps i) (ps.drop (rd counts (i : Nat)).toNat) (acc ++ [⟨time + stepOf steps i, ps.take (rd counts (i : Nat)).toNat⟩]) := by rw [batGo, if_neg h]
def stepsB (body : List Int) : List Int := (body.drop 9).take (2 * (rd body 8).toNat)
def countsB (body : List Int) : List Int := body.drop (9 + 2 * (rd body 8).toNat)
def firstB (body : List Int) : Int := if 4611686018427387904 < ge (body.take 8) then 4611686018427387904 else ge (body.take 8)
open Classical in
noncomputable def batEnd (num : Int) : Option (List TxL × List PutL) → Option BatL
  | none => none
  | some (ts, ps) => if ps.length = 0 ∧ (⟨num, ts⟩ : BatL).chk = 0 then some ⟨num, ts⟩ else none
theorem batEnd_yes {num : Int} {ts : List TxL} {ps : List PutL} (h : ps.length = 0) (h2 : (⟨num, ts⟩ : BatL).chk = 0) : batEnd num (some (ts, ps)) = some ⟨num, ts⟩ := by
  unfold batEnd; exact if_pos ⟨h, h2⟩
theorem batEnd_no {num : Int} {ts : List TxL} {ps : List PutL} (h : ¬ (ps.length = 0 ∧ (⟨num, ts⟩ : BatL).chk = 0)) : batEnd num (some (ts, ps)) = none := by
  unfold batEnd; exact if_neg h
theorem stepOf_zero (S : List Int) : stepOf S 0 = rd S ((0 : Nat) : Int) + rd S ((1 : Nat) : Int) * 256 := rfl
noncomputable def batM (c : Fb) (ps : List PutL) : Option BatL :=
  if c.kind ≠ 2 ∨ c.lba ≠ ps.length ∨ c.body.length < 9 then none
  else if c.body.length ≠ 9 + 3 * (rd c.body 8).toNat then none
  else batEnd c.seq (batGo (stepsB c.body) (countsB c.body) (rd c.body 8).toNat 0 (firstB c.body) ps [])
theorem batM_head {c : Fb} {ps : List PutL} (h : c.kind ≠ 2 ∨ c.lba ≠ ps.length ∨ c.body.length < 9) : batM c ps = none := by unfold batM; rw [if_pos h]
theorem batM_len {c : Fb} {ps : List PutL} (h : c.body.length ≠ 9 + 3 * (rd c.body 8).toNat) : batM c ps = none := by
  unfold batM; split
  · rfl
  · rfl
theorem batM_go {c : Fb} {ps : List PutL} (h : ¬ (c.kind ≠ 2 ∨ c.lba ≠ ps.length ∨ c.body.length < 9)) (h2 : ¬ c.body.length ≠ 9 + 3 * (rd c.body 8).toNat) : batM c ps = batEnd c.seq (batGo (stepsB c.body) (countsB c.body) (rd c.body 8).toNat 0 (firstB c.body) ps []) := by
  unfold batM; rw [if_neg h, if_neg h2]

/-! ### Decode -/
noncomputable def decM (l : List (List Int)) : Option BatL := batM (rowOf l).2.1 (rowOf l).1
noncomputable def decE (l : List (List Int)) : Int := if (rowOf l).2.2 = false then 14 else if (decM l).isNone then 13 else 0
/-- What Decode answers. -/
noncomputable def decR (l : List (List Int)) : BatL × Int × Int :=
  if (rowOf l).2.2 = false then (⟨0, []⟩, 0, 0) else match decM l with
    | none => (⟨0, []⟩, 0, 0)
    | some b => (b, (rowOf l).2.1.epoch, (rowOf l).1.length + 1)
theorem dec_part {l : List (List Int)} (h : (rowOf l).2.2 = false) : decE l = 14 ∧ decR l = (⟨0, []⟩, 0, 0) := by
  unfold decE decR; rw [if_pos h, if_pos h]; exact ⟨rfl, rfl⟩
theorem dec_none {l : List (List Int)} (h : (rowOf l).2.2 = true) (h2 : decM l = none) : decE l = 13 ∧ decR l = (⟨0, []⟩, 0, 0) := by
  have hn : ¬ (rowOf l).2.2 = false := by simp [h]
  constructor
  · unfold decE; rw [if_neg hn, h2]; rfl
  · unfold decR; rw [if_neg hn, h2]
theorem dec_some {l : List (List Int)} {b : BatL} (h : (rowOf l).2.2 = true) (h2 : decM l = some b) : decE l = 0 ∧ decR l = (b, (rowOf l).2.1.epoch, ((rowOf l).1.length : Int) + 1) := by
  have hn : ¬ (rowOf l).2.2 = false := by simp [h]
  constructor
  · unfold decE; rw [if_neg hn, h2]; rfl
  · unfold decR; rw [if_neg hn, h2]
section
variable {w : World} {M : List HP} {K : List KP} {A : Option Addr} {c : Nat}
theorem Hold.putE' {p : PutL} {n : Nat} (h : Hold w M K) (hb : bytesK A c p.data ∈ K) (hn : n = p.data.length) : Hold w M (Go.Proofs.Ytfpnodboebpemaa.putE p [.int .i64 p.lba, .slice A n c] :: K) := by subst hn; exact h.putE hb
theorem Hold.txE' {t : TxL} {n : Nat} (h : Hold w M K) (hb : viewK 2 Go.Proofs.Ytfpnodboebpemaa.putE A c t.puts ∈ K) (hn : n = t.puts.length) : Hold w M (Go.Proofs.Ytfpnodboebpemaa.txE t [.int .i64 t.time, .slice A n c] :: K) := by subst hn; exact h.txE hb
end
theorem run_or8 (a b : Nat) (ha : a < 256) (hb : b < 256) (w : World) : (Op.intBits .or .u8 (a : Int) (b : Int)).run Try.prog w = .ok (.int .u8 ((a ||| b : Nat) : Int)) w := by
  have := u8_or_nat a b ha hb
  show Sem.run Try.prog (pure (Value.int .u8 (bits .or .u8 (a : Int) (b : Int)))) w = _
  rw [this]; rfl
theorem Yl.or8 {E : Env} {w : World} {dst : Option Tmp} {ty : Nat} {ps : String} {af : Array Edge} {g : Option (Nat × Bool)} {t t' : TypeId} {x y : Operand} {a b : Int} (hx : ev E x = some (.int .u8 a)) (hy : ev E y = some (.int .u8 b)) (ha : 0 ≤ a ∧ a ≤ 255) (hb : 0 ≤ b ∧ b ≤ 255) :
    Yl ⟨dst, .binOp .or t x y t', ty, ps, af, g⟩ E (.int .u8 ((a.toNat ||| b.toNat : Nat) : Int)) w := Yl.mk fun ρ hρ => by
  have := run_or8 a.toNat b.toNat (by omega) (by omega) w
  rw [Int.toNat_of_nonneg ha.1, Int.toNat_of_nonneg hb.1] at this
  simp only [execOp, hρ x _ hx, hρ y _ hy, eqGuard, binOp, Sem.run_bind, Sem.run_pure, Result.andThen_ok]
  simp [this]
theorem or_zero (a b : Nat) : (a ||| b) = 0 ↔ a = 0 ∧ b = 0 := by
  constructor
  · intro h
    have h1 := Nat.left_le_or (n := a) (m := b)
    have h2 := Nat.right_le_or (n := a) (m := b)
    omega
  · rintro ⟨rfl, rfl⟩; rfl
theorem stepOf_zero_iff {S : List Int} (h0 : 0 ≤ rd S ((0 : Nat) : Int)) (h1 : 0 ≤ rd S ((1 : Nat) : Int)) : stepOf S 0 = 0 ↔ (((rd S ((0 : Nat) : Int)).toNat ||| (rd S ((1 : Nat) : Int)).toNat : Nat) : Int) = 0 := by
  rw [stepOf_zero]
  generalize rd S ((0 : Nat) : Int) = a at *
  generalize rd S ((1 : Nat) : Int) = b at *
  have h := or_zero a.toNat b.toNat
  constructor
  · intro he
    have := h.2 ⟨by omega, by omega⟩
    rw [this]; rfl
  · intro he
    have := h.1 (by exact_mod_cast he)
    omega
end Go.Proofs.Ytfpnodboebpemaa
