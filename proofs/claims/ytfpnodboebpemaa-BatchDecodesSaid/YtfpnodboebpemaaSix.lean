/- scarpref6 in the second logic: Encode, get, made, alike, plain; strings of bytes. -/
import Derived.Test.YtfpnodboebpemaaOpn
import Derived.Test.YtfpnodboebpemaaRef6E
import Derived.Laws.BytesArg
namespace Go.Proofs.Ytfpnodboebpemaa
open Go.RowKit Go.Proofs.YtfpnodboebpemaaW.PrintWords
set_option linter.unusedVariables false
set_option linter.unusedSimpArgs false

theorem str_inj {xs ys : List Int} (hx : IsB xs) (hy : IsB ys) (h : strOfNums xs = strOfNums ys) : xs = ys := by
  have h1 : xs.map (fun n => UInt8.ofNat n.toNat) = ys.map (fun n => UInt8.ofNat n.toNat) := by
    rw [← strOfNums_data, ← strOfNums_data, h]
  clear h
  induction xs generalizing ys with
  | nil => cases ys with
    | nil => rfl
    | cons y ys => simp at h1
  | cons x xs ih => cases ys with
    | nil => simp at h1
    | cons y ys =>
      simp only [List.map_cons, List.cons.injEq] at h1
      have bx := hx x (by simp)
      have by_ := hy y (by simp)
      have h2 := congrArg UInt8.toNat h1.1
      simp only [UInt8.toNat_ofNat'] at h2
      have : x = y := by omega
      rw [this, ih (fun z hz => hx z (by simp [hz])) (fun z hz => hy z (by simp [hz])) h1.2]
theorem conv_byt (ok : Nat → Prop) (w : World) (v : Value) (xs : List Int) (hx : Byt ok w v xs) : (convert 23 9 v).run Try.prog w = .ok (.string (strOfNums xs)) w := by
  obtain ⟨A, c, rfl, hc, hm, hA⟩ := hx.open_
  cases A with
  | none =>
    have h0 : xs.length = 0 := by
      rcases Nat.eq_zero_or_pos xs.length with h | h
      · exact h
      · obtain ⟨b, o, he, _⟩ := hA h; cases he
    have : xs = [] := List.eq_nil_of_length_eq_zero h0
    subst this
    rw [run_convert_bytes_nil w 23 5 Try.underlying23 Try.underlying5 _ _ 9 Try.underlying9]
    rfl
  | some ad =>
    rcases Nat.eq_zero_or_pos xs.length with h | h
    · have : xs = [] := List.eq_nil_of_length_eq_zero h
      subst this
      obtain ⟨b, o, s⟩ := ad
      cases s with
      | none => exact run_convert_bytes_arg w 23 5 Try.underlying23 Try.underlying5 b o 0 c [] rfl (fun i h => absurd h (Nat.not_lt_zero _)) 9 Try.underlying9
      | some q =>
        rw [run_convert_bytes_string w 23 9 5 _ _ _ Try.underlying23 Try.underlying5 Try.underlying9]
        exact run_bytesToString w _ _ _ [] (by simp [loadCells, loadCellsFrom, Sem.run_pure])
    · obtain ⟨b, o, he, _, _, hcell⟩ := hA h
      cases he
      exact run_convert_bytes_arg w 23 5 Try.underlying23 Try.underlying5 b o _ c xs rfl (fun i hi => by rw [hcell i hi]; simp [rd, List.getD]) 9 Try.underlying9
section
variable {M : List HP} {K : List KP} {A : Option Addr} {c : Nat} {xs : List Int}
theorem Yl.convS {E : Env} {w : World} {dst : Option Tmp} {ty : Nat} {ps : String} {af : Array Edge} {g : Option (Nat × Bool)} {x : Operand} (hh : Hold w M K) (hm : bytesK A c xs ∈ K) (hx : ev E x = some (.slice A xs.length c)) : Yl ⟨dst, .convert 23 9 x, ty, ps, af, g⟩ E (.string (strOfNums xs)) w := Yl.mk fun ρ hρ => by
  simp only [execOp, hρ x _ hx, Sem.run_bind, conv_byt _ w _ xs (hh.byt hm), Result.andThen_ok]; rfl
theorem get6_ct {m n : Nat} {a : Int} (hp : bytesK A c xs ∈ K) (hm : m = xs.length) (ha : a = (n : Int)) (hn : 0 < n ∧ n ≤ 8) (hl : n ≤ xs.length) : Fn 102 [.slice A m c, .int .i64 a] M K (fun _ : Unit => True) (fun _ => .tuple #[.int .u64 (ge (xs.take n)), .bool true]) (fun _ => M) (fun _ => K) := by
  subst hm ha
  exact Fn.same fun w hh => (get6_any _ _ _ n w (hh.byt hp) (hh.isB hp) hn.2 hl hn.1).mono fun e w' ⟨he, hw⟩ => ⟨he, by rw [← hw]; exact Below.refl _ _⟩
theorem encode6_ct (b : Fb) {n : Nat} (hn : n = b.body.length) (hp : bytesK A c b.body ∈ K) : Fn 47 [.agg [.int .i64 b.kind, .int .i64 b.epoch, .int .i64 b.seq, .int .i64 b.lba, .slice A n c].toArray] M K (fun _ : Option Addr × Nat => True) (fun r => .tuple [.slice r.1 (if b.err = 0 then b.enc else []).length r.2, .int .i64 b.err].toArray) (fun _ => M) (fun r => bytesK r.1 r.2 (if b.err = 0 then b.enc else []) :: K) := by
  subst hn
  refine Fn.intro fun w hh => ?_
  have hB := hh.isB hp
  have hb' : IsB (if b.err = 0 then b.enc else []) := by
    split
    · rename_i h; exact enc_b b (err_fits h).1 (err_fits h).2 hB
    · exact fun x hx => by cases hx
  refine (encode6_any _ b _ w (hh.byt hp) hB).mono fun e w' ⟨r, he, ho, hb⟩ => ?_
  obtain ⟨A', c', rfl⟩ := ho.shape
  refine ⟨(A', c'), trivial, he, ?_⟩
  refine hh.fresh hb fun I hI hI' => ⟨?_, hb'⟩
  exact Byt.mono ho.fresh (fun k _ hk => hI k hk)
theorem made_ct (b : Fb) {n : Nat} : Fn 30 [.agg [.int .i64 b.kind, .int .i64 b.epoch, .int .i64 b.seq, .int .i64 b.lba, .slice A n c].toArray] M K (fun _ : Unit => True) (fun _ => .agg [.int .i64 b.kind, .int .i64 b.epoch, .int .i64 b.seq, .int .i64 b.lba, .slice A n c].toArray) (fun _ => M) (fun _ => K) :=
  Fn.same fun w hh => made_any b A n c w
theorem sameB_ct (a b : Fb) {B : Option Addr} {k : Nat} (ha : bytesK A c a.body ∈ K) (hb : bytesK B k b.body ∈ K) : Fn 32 [.agg [.int .i64 a.kind, .int .i64 a.epoch, .int .i64 a.seq, .int .i64 a.lba, .slice A a.body.length c].toArray, .agg [.int .i64 b.kind, .int .i64 b.epoch, .int .i64 b.seq, .int .i64 b.lba, .slice B b.body.length k].toArray] M K (fun _ : Unit => True) (fun _ => .bool (decide (a = b))) (fun _ => M) (fun _ => K) :=
  Fn.same fun w hh => same_any _ _ a b _ _ w (hh.byt ha) (hh.byt hb)
theorem plain_ct (hp : bytesK A c xs ∈ K) : Fn 33 [.slice A xs.length c] M K (fun _ : Unit => True) (fun _ => .bool (plain xs)) (fun _ => M) (fun _ => K) :=
  Fn.same fun w hh => (plain_any _ _ xs w (hh.byt hp)).mono fun e w' ⟨he, hw⟩ => ⟨he, by rw [← hw]; exact Below.refl _ _⟩
theorem awake8_ct : Fn 27 [] M K (fun _ : Unit => True) (fun _ => .bool true) (fun _ => M) (fun _ => K) := Fn.same fun w hh => awake8 w
end
theorem Hold.bytes_cap {w : World} {M : List HP} {K : List KP} {A : Option Addr} {c : Nat} {xs : List Int} (h : Hold w M K) (hm : bytesK A c xs ∈ K) : xs.length ≤ c ∧ c ≤ maxLen := by
  obtain ⟨A', c', he, _, h2, h3, _⟩ := h.bytes hm
  injection he with _ _ hc
  subst hc
  exact ⟨h2, h3⟩
theorem dec_no {p : List Int} {x : Int} (h : decErr p = x) (hx : x ≠ 0) : decB p = ⟨0, 0, 0, 0, []⟩ := by unfold decB; rw [if_neg (by rw [h]; exact hx)]
theorem dec_13 {p : List Int} (hl : p.length = 64) (h : ¬ (((rawB p).fits ∧ (rawB p).body.length ≤ 40) ∧ p = (rawB p).enc)) : decErr p = 13 := by unfold decErr; rw [if_pos hl, if_neg h]
theorem dec_0 {p : List Int} (hl : p.length = 64) (h : ((rawB p).fits ∧ (rawB p).body.length ≤ 40) ∧ p = (rawB p).enc) : decErr p = 0 ∧ decB p = rawB p := by
  have : decErr p = 0 := by unfold decErr; rw [if_pos hl, if_pos h]
  exact ⟨this, by unfold decB; rw [if_pos this]⟩
theorem dec_3 {p : List Int} (hl : p.length ≠ 64) : decErr p = 3 := by unfold decErr; rw [if_neg hl]
/-- Blank as far as i. -/
def plainTo (o : List Int) (i : Nat) : Bool := decide (o.length = 64) && !((o.take i).any (· != 0))
theorem plainTo_zero (o : List Int) : plainTo o 0 = decide (o.length = 64) := by simp [plainTo]
theorem plainTo_succ (o : List Int) (i : Nat) (h : i < o.length) : plainTo o (i + 1) = (plainTo o i && decide (rd o i = 0)) := by
  unfold plainTo
  rw [take_rd o i h, List.any_append]
  by_cases h0 : rd o i = 0 <;> simp [h0, Bool.and_assoc]
theorem plainTo_end (o : List Int) : plainTo o o.length = plain o := by unfold plainTo plain; rw [List.take_length]
end Go.Proofs.Ytfpnodboebpemaa
