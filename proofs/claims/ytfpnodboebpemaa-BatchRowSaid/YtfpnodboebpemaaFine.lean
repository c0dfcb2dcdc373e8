/- Contracts over a device whose power is on for good; how a law's walk starts. -/
import Derived.Test.YtfpnodboebpemaaDevOk
import Derived.Test.YtfpnodboebpemaaDevC
namespace Go.Proofs.Ytfpnodboebpemaa
open Go.RowKit Go.Proofs.YtfpnodboebpemaaW.PrintWords
set_option linter.unusedVariables false
set_option linter.unusedSimpArgs false

section
variable {M : List HP} {K : List KP} {d n c : Nat} {D : Dev} {A : Option Addr} {p : List Int}
theorem Fn.pure {f : FuncId} {vs : List Value} {α β : Type} {φ : α → Prop} {V : α → Value} {Mc : α → List HP} {Kc : α → List KP} {ψ : β → Prop} {V' : β → Value} {Md : β → List HP} {Kd : β → List KP} (h : Fn f vs M K φ V Mc Kc) (hh : ∀ x, φ x → ∃ y, ψ y ∧ V x = V' y ∧ Mc x = Md y ∧ Kc x = Kd y) : Fn f vs M K ψ V' Md Kd :=
  Fn.intro fun w hw => (h.go w hw).mono fun e w' ⟨x, h1, h2, h3⟩ => by
    obtain ⟨y, h4, h5, h6, h7⟩ := hh x h1
    exact ⟨y, h4, by rw [h2, h5], by rw [← h6, ← h7]; exact h3⟩
theorem appendF_ct {i : Int} {k : Nat} (h : D.fine n) (hn : n < 1000000) (hi : i = k) (hk : k < D.zones.length) (hp : bytesK A c p ∈ K) (hl : p.length = 64) (hs : (D.at k).blocks.length < D.size) :
    Fn 39 [ptr d 0, .int .i64 i, .slice A p.length c] (devH d D :: M) K (fun D' : Dev => D'.fine (n + 1) ∧ D'.zones = D.zones.set k ⟨(D.at k).blocks ++ [p], (D.at k).good⟩ ∧ D'.size = D.size) (fun _ => .tuple #[.int .i64 (((D.at k).blocks.length : Nat) : Int), .int .i64 0]) (fun D' => devH d D' :: M) (fun _ => K) :=
  Fn.intro fun w hw => by
    have hB : IsB p := hw.isB hp
    subst hi
    obtain ⟨D', h1, h2⟩ := fine_append h hn hk hl hB hs
    have := (append_ct (d := d) (i := (k : Int)) (M := M) h.ok hp (by omega)).go w hw
    rw [h1] at this
    exact this.mono fun e w' ⟨x, _, he, hw'⟩ => ⟨D', h2, he, hw'⟩
theorem appendFull_ct {i : Int} {k : Nat} (h : D.fine n) (hn : n < 1000000) (hi : i = k) (hk : k < D.zones.length) (hp : bytesK A c p ∈ K) (hl : p.length = 64) (hs : D.size ≤ (D.at k).blocks.length) :
    Fn 39 [ptr d 0, .int .i64 i, .slice A p.length c] (devH d D :: M) K (fun D' : Dev => D'.fine (n + 1) ∧ D'.zones = D.zones ∧ D'.size = D.size) (fun _ => .tuple #[.int .i64 0, .int .i64 9]) (fun D' => devH d D' :: M) (fun _ => K) :=
  Fn.intro fun w hw => by
    subst hi
    obtain ⟨D', h1, h2⟩ := fine_append_full h hn hk hl hs
    have := (append_ct (d := d) (i := (k : Int)) (M := M) h.ok hp (by omega)).go w hw
    rw [h1] at this
    exact this.mono fun e w' ⟨x, _, he, hw'⟩ => ⟨D', h2, he, hw'⟩
theorem appendAny_ct {i : Int} {k : Nat} (h : D.fine n) (hn : n < 1000000) (hi : i = k) (hk : k < D.zones.length) (hp : bytesK A c p ∈ K) (hl : p.length = 64) :
    Fn 39 [ptr d 0, .int .i64 i, .slice A p.length c] (devH d D :: M) K (fun r : Dev × Int × Int => r.1.fine (n + 1) ∧ r.1.size = D.size ∧ ((r.2.2 = 0 ∧ r.2.1 = ((D.at k).blocks.length : Int) ∧ (D.at k).blocks.length < D.size ∧ r.1.zones = D.zones.set k ⟨(D.at k).blocks ++ [p], (D.at k).good⟩) ∨ (r.2.2 = 9 ∧ r.2.1 = 0 ∧ D.size ≤ (D.at k).blocks.length ∧ r.1.zones = D.zones))) (fun r => .tuple #[.int .i64 r.2.1, .int .i64 r.2.2]) (fun r => devH d r.1 :: M) (fun _ => K) := by
  by_cases hs : (D.at k).blocks.length < D.size
  · exact (appendF_ct h hn hi hk hp hl hs).pure fun D' ⟨h1, h2, h3⟩ => ⟨(D', _, _), ⟨h1, h3, .inl ⟨rfl, rfl, hs, h2⟩⟩, rfl, rfl, rfl⟩
  · exact (appendFull_ct h hn hi hk hp hl (by omega)).pure fun D' ⟨h1, h2, h3⟩ => ⟨(D', _, _), ⟨h1, h3, .inr ⟨rfl, rfl, by omega, h2⟩⟩, rfl, rfl, rfl⟩
theorem resetF_ct {i : Int} {k : Nat} (h : D.fine n) (hn : n < 1000000) (hi : i = k) (hk : k < D.zones.length) :
    Fn 38 [ptr d 0, .int .i64 i] (devH d D :: M) K (fun D' : Dev => D'.fine (n + 1) ∧ D'.zones = D.zones.set k ⟨[], 0⟩ ∧ D'.size = D.size) (fun _ => .int .i64 0) (fun D' => devH d D' :: M) (fun _ => K) :=
  Fn.intro fun w hw => by
    subst hi
    obtain ⟨D', h1, h2⟩ := fine_reset h hn hk
    have := (reset_ct (d := d) (i := (k : Int)) (M := M) (K := K) h.ok).go w hw
    rw [h1] at this
    exact this.mono fun e w' ⟨x, _, he, hw'⟩ => ⟨D', h2, he, hw'⟩
theorem flushF_ct (h : D.fine n) (hn : n < 1000000) :
    Fn 67 [ptr d 0] (devH d D :: M) K (fun D' : Dev => D'.fine (n + 1) ∧ D'.zones = (D.zones.map fun Z => ⟨Z.blocks, Z.blocks.length⟩) ∧ D'.size = D.size) (fun _ => .int .i64 0) (fun D' => devH d D' :: M) (fun _ => K) :=
  Fn.intro fun w hw => by
    obtain ⟨D', h1, h2⟩ := fine_flush h hn
    have := (flush_ct (d := d) (M := M) (K := K) h.ok).go w hw
    rw [h1] at this
    exact this.mono fun e w' ⟨x, _, he, hw'⟩ => ⟨D', h2, he, hw'⟩
theorem pointerF_ct {i : Int} {k : Nat} (h : D.ok) (hi : i = k) (hk : k < D.zones.length) :
    Fn 40 [ptr d 0, .int .i64 i] (devH d D :: M) K (fun _ : Unit => True) (fun _ => .tuple #[.int .i64 (((D.at k).blocks.length : Nat) : Int), .int .i64 0]) (fun _ => devH d D :: M) (fun _ => K) := by
  subst hi
  have := pointer_ct (d := d) (M := M) (K := K) (i := (k : Int)) h
  rwa [pointer_at hk] at this
theorem opsF_ct (h : D.fine n) : Fn 41 [ptr d 0] (devH d D :: M) K (fun _ : Unit => True) (fun _ => .int .i64 (n : Int)) (fun _ => devH d D :: M) (fun _ => K) := by
  have := ops_ct (d := d) (M := M) (K := K) h.ok
  rwa [h.ops] at this
theorem offF_ct (h : D.fine n) : Fn 62 [ptr d 0] (devH d D :: M) K (fun _ : Unit => True) (fun _ => .bool false) (fun _ => devH d D :: M) (fun _ => K) := by
  have := off_ct (d := d) (M := M) (K := K) h.ok
  rwa [h.off] at this
theorem readF_ct {i j : Int} {k m : Nat} {q : List Int} (h : D.ok) (hi : i = k) (hk : k < D.zones.length) (hj : j = m) (hq : (D.at k).blocks[m]? = some q) :
    Fn 42 [ptr d 0, .int .i64 i, .int .i64 j] (devH d D :: M) K (fun _ : Option Addr × Nat => True) (fun r => .tuple #[.slice r.1 q.length r.2, .int .i64 0]) (fun _ => devH d D :: M) (fun r => bytesK r.1 r.2 q :: K) := by
  subst hi
  have := read_ct (d := d) (M := M) (K := K) (i := (k : Int)) (j := j) h
  rwa [read_ok (zone_of rfl hk) rfl hj hq] at this
theorem readOut_ct {i j : Int} {k : Nat} (h : D.ok) (hi : i = k) (hk : k < D.zones.length) (hj : j < 0 ∨ ((D.at k).blocks.length : Int) ≤ j) :
    Fn 42 [ptr d 0, .int .i64 i, .int .i64 j] (devH d D :: M) K (fun _ : Option Addr × Nat => True) (fun r => .tuple #[.slice r.1 0 r.2, .int .i64 14]) (fun _ => devH d D :: M) (fun r => bytesK r.1 r.2 [] :: K) := by
  subst hi
  have := read_ct (d := d) (M := M) (K := K) (i := (k : Int)) (j := j) h
  rwa [read_out (zone_of rfl hk) rfl hj] at this
theorem block64_ct {k : Int} : Fn 29 [.int .i64 64, .int .i64 k] M K (fun _ : Option Addr × Nat => True) (fun r => .slice r.1 (bk 64 k).length r.2) (fun _ => M) (fun r => bytesK r.1 r.2 (bk 64 k) :: K) := block_ct 64 rfl (by omega)
end

theorem Hold.intsK_nil {w : World} {M : List HP} {K : List KP} (h : Hold w M K) : Hold w M (intsK none 0 [] :: K) := h.derive1 fun I _ _ => SlC.nil _ _ _

theorem rd_i (xs : List Int) (k : Nat) (h : k < xs.length) (hI : IsI xs) : -9223372036854775808 ≤ rd xs k ∧ rd xs k ≤ 9223372036854775807 := by
  have : rd xs k = xs[k] := by simp [rd, h]
  rw [this]; exact hI _ (List.getElem_mem h)
theorem tdiv_i (a b : Int) (hb : 1 ≤ b) (h : -9223372036854775808 ≤ a ∧ a ≤ 9223372036854775807) : -9223372036854775808 ≤ a.tdiv b ∧ a.tdiv b ≤ 9223372036854775807 := by
  by_cases h0 : 0 ≤ a
  · rw [Int.tdiv_eq_ediv_of_nonneg h0]
    have h1 := Int.ediv_nonneg h0 (show 0 ≤ b by omega)
    have h2 := Int.ediv_le_self b h0
    omega
  · obtain ⟨m, rfl⟩ : ∃ m, a = -m := ⟨-a, by omega⟩
    rw [Int.neg_tdiv, Int.tdiv_eq_ediv_of_nonneg (by omega)]
    have h1 := Int.ediv_nonneg (show 0 ≤ m by omega) (show 0 ≤ b by omega)
    have h2 := Int.ediv_le_self b (show 0 ≤ m by omega)
    omega

theorem Hold.row_ints {w : World} {M : List HP} {K : List KP} {A : Option Addr} {c : Nat} {xs : List Int} (h : Hold w (rowH 3 1 A c xs.length (nums .i64 xs) :: M) K) : Hold w M (intsK A c xs :: K) := h.freeze
/-- The first n blocks of bk. -/
def bks (n : Nat) : List (List Int) := (List.range n).map fun i => bk 64 (i : Nat)
theorem bks_length (n : Nat) : (bks n).length = n := by simp [bks]
theorem bks_succ (n : Nat) : bks (n + 1) = bks n ++ [bk 64 n] := by simp [bks, List.range_succ]
theorem bks_at {n i : Nat} (h : i < n) : (bks n)[i]? = some (bk 64 i) := by simp [bks, h]

/-! ### A law's walk -/
theorem law_of {f : FuncId} {vs : List Value} {w : World} {K K' : List KP} (h : Fn f vs [] (oldK w :: K) (fun _ : Unit => True) (fun _ => .bool true) (fun _ => []) (fun _ => oldK w :: K')) (hk : ∀ k ∈ K, k.sat w (fun b => b < w.heap.size)) :
    Calls Try.prog f vs.toArray w fun e w' => e = .returned (.bool true) ∧ Below w.heap.size w w' :=
  (h.go w (Hold.start w K hk)).mono fun e w' ⟨_, _, he, hw⟩ => ⟨he, hw.old List.mem_cons_self⟩
theorem ints_open {w : World} {v : Value} {xs : List Int} (h : Ints (fun k => k < w.heap.size) w v xs) : ∃ A c, v = .slice A xs.length c ∧ (intsK A c xs).sat w (fun k => k < w.heap.size) := by
  have h' := h
  obtain ⟨A, c, rfl, _⟩ := h
  exact ⟨A, c, rfl, h'⟩
theorem byt_open {w : World} {v : Value} {xs : List Int} (h : Byt (fun k => k < w.heap.size) w v xs) (hb : IsB xs) : ∃ A c, v = .slice A xs.length c ∧ (bytesK A c xs).sat w (fun k => k < w.heap.size) := by
  have h' := h
  obtain ⟨A, c, rfl, _⟩ := h
  exact ⟨A, c, rfl, h', hb⟩
theorem row_open {w : World} {v : Value} {rows : List (List Int)} (h : Row (fun k => k < w.heap.size) w v rows) (hb : ∀ r ∈ rows, IsB r) : ∃ A c, v = .slice A rows.length c ∧ (rowsK A c rows).sat w (fun k => k < w.heap.size) := by
  obtain ⟨vs, h1, h2⟩ := h
  have h1' := h1
  obtain ⟨A, c, rfl, hl, _⟩ := h1
  refine ⟨A, c, rfl, vs, h1', by simpa using hl, fun i r hr => ?_⟩
  obtain ⟨u, h3, h4⟩ := h2 i r hr
  obtain ⟨B, k, rfl, h5⟩ := byt_open h4 (hb r (List.mem_of_getElem? hr))
  exact ⟨B, k, h3, h5⟩
end Go.Proofs.Ytfpnodboebpemaa
