/- Contracts over a device whose power is on for good; how a law's walk starts. -/
import Derived.Test.YtfpnodboebpemaaOpn
import Derived.Test.YtfpnodboebpemaaDevOk
import Derived.Test.YtfpnodboebpemaaDevC
namespace Go.Proofs.Ytfpnodboebpemaa
open Go.RowKit Go.Proofs.YtfpnodboebpemaaW.PrintWords
set_option linter.unusedVariables false
set_option linter.unusedSimpArgs false

section
variable {M : List HP} {K : List KP} {d n c : Nat} {D : Dev} {A : Option Addr} {p : List Int}
theorem appendF_ct {i : Int} {k : Nat} (h : D.fine n) (hn : n < 1000000) (hi : i = k) (hk : k < D.zones.length) (hp : bytesK A c p ∈ K) (hl : p.length = 64) (hs : (D.at k).blocks.length < D.size) :
    Fn 39 [ptr d 0, .int .i64 i, .slice A p.length c] (devH d D :: M) K (fun D' : Dev => D'.fine (n + 1) ∧ D'.zones = D.zones.set k ⟨(D.at k).blocks ++ [p], (D.at k).good⟩ ∧ D'.size = D.size) (fun _ => .tuple #[.int .i64 (((D.at k).blocks.length : Nat) : Int), .int .i64 0]) (fun D' => devH d D' :: M) (fun _ => K) :=
  Fn.intro fun w hw => by
    have hB : IsB p := hw.isB hp
    subst hi
    obtain ⟨D', h1, h2⟩ := fine_append h hn hk hl hB hs
    have := (append_ct (d := d) (i := (k : Int)) (M := M) h.ok hp (by omega)).go w hw
    rw [h1] at this
    exact this.mono fun e w' ⟨x, _, he, hw'⟩ => ⟨D', h2, he, hw'⟩
theorem appendFull_ct {i : Int} {k : Nat} (h : D.fine n) (hn : n < 1000000) (hi : i = k) (hk : k < D.zones.length) (hp : bytesK A c p ∈ K) (hl : p.length = 64) (hs : D.size ≤ (D.at k).blocks.length) :
    Fn 39 [ptr d 0, .int .i64 i, .slice A p.length c] (devH d D :: M) K (fun D' : Dev => D'.fine (n + 1) ∧ D'.zones = D.zones ∧ D'.size = D.size) (fun _ => .tuple #[.int .i64 0, .int .i64 9]) (fun D' => devH d D' :: M) (fun _ => K) :=
  Fn.intro fun w hw => by
    subst hi
    obtain ⟨D', h1, h2⟩ := fine_append_full h hn hk hl hs
    have := (append_ct (d := d) (i := (k : Int)) (M := M) h.ok hp (by omega)).go w hw
    rw [h1] at this
    exact this.mono fun e w' ⟨x, _, he, hw'⟩ => ⟨D', h2, he, hw'⟩
theorem appendAny_ct {i : Int} {k : Nat} (h : D.fine n) (hn : n < 1000000) (hi : i = k) (hk : k < D.zones.length) (hp : bytesK A c p ∈ K) (hl : p.length = 64) :
    Fn 39 [ptr d 0, .int .i64 i, .slice A p.length c] (devH d D :: M) K (fun r : Dev × Int × Int => r.1.fine (n + 1) ∧ r.1.size = D.size ∧ ((r.2.2 = 0 ∧ r.2.1 = ((D.at k).blocks.length : Int) ∧ (D.at k).blocks.length < D.size ∧ r.1.zones = D.zones.set k ⟨(D.at k).blocks ++ [p], (D.at k).good⟩) ∨ (r.2.2 = 9 ∧ r.2.1 = 0 ∧ D.size ≤ (D.at k).blocks.length ∧ r.1.zones = D.zones))) (fun r => .tuple #[.int .i64 r.2.1, .int .i64 r.2.2]) (fun r => devH d r.1 :: M) (fun _ => K) := by
  by_cases hs : (D.at k).blocks.length < D.size
  · exact (appendF_ct h hn hi hk hp hl hs).pure fun D' ⟨h1, h2, h3⟩ => ⟨(D', _, _), ⟨h1, h3, .inl ⟨rfl, rfl, hs, h2⟩⟩, rfl, rfl, rfl⟩
  · exact (appendFull_ct h hn hi hk hp hl (by omega)).pure fun D' ⟨h1, h2, h3⟩ => ⟨(D', _, _), ⟨h1, h3, .inr ⟨rfl, rfl, by omega, h2⟩⟩, rfl, rfl, rfl⟩
theorem resetF_ct {i : Int} {k : Nat} (h : D.fine n) (hn : n < 1000000) (hi : i = k) (hk : k < D.zones.length) :
    Fn 38 [ptr d 0, .int .i64 i] (devH d D :: M) K (fun D' : Dev => D'.fine (n + 1) ∧ D'.zones = D.zones.set k ⟨[], 0⟩ ∧ D'.size = D.size) (fun _ => .int .i64 0) (fun D' => devH d D' :: M) (fun _ => K) :=
  Fn.intro fun w hw => by
    subst hi
    obtain ⟨D', h1, h2⟩ := fine_reset h hn hk
    have := (reset_ct (d := d) (i := (k : Int)) (M := M) (K := K) h.ok).go w hw
    rw [h1] at this
    exact this.mono fun e w' ⟨x, _, he, hw'⟩ => ⟨D', h2, he, hw'⟩
theorem flushF_ct (h : D.fine n) (hn : n < 1000000) :
    Fn 67 [ptr d 0] (devH d D :: M) K (fun D' : Dev => D'.fine (n + 1) ∧ D'.zones = (D.zones.map fun Z => ⟨Z.blocks, Z.blocks.length⟩) ∧ D'.size = D.size) (fun _ => .int .i64 0) (fun D' => devH d D' :: M) (fun _ => K) :=
  Fn.intro fun w hw => by
    obtain ⟨D', h1, h2⟩ := fine_flush h hn
    have := (flush_ct (d := d) (M := M) (K := K) h.ok).go w hw
    rw [h1] at this
    exact this.mono fun e w' ⟨x, _, he, hw'⟩ => ⟨D', h2, he, hw'⟩
theorem pointerF_ct {i : Int} {k : Nat} (h : D.ok) (hi : i = k) (hk : k < D.zones.length) :
    Fn 40 [ptr d 0, .int .i64 i] (devH d D :: M) K (fun _ : Unit => True) (fun _ => .tuple #[.int .i64 (((D.at k).blocks.length : Nat) : Int), .int .i64 0]) (fun _ => devH d D :: M) (fun _ => K) := by
  subst hi
  have := pointer_ct (d := d) (M := M) (K := K) (i := (k : Int)) h
  rwa [pointer_at hk] at this
theorem opsF_ct (h : D.fine n) : Fn 41 [ptr d 0] (devH d D :: M) K (fun _ : Unit => True) (fun _ => .int .i64 (n : Int)) (fun _ => devH d D :: M) (fun _ => K) := by
  have := ops_ct (d := d) (M := M) (K := K) h.ok
  rwa [h.ops] at this
theorem offF_ct (h : D.fine n) : Fn 62 [ptr d 0] (devH d D :: M) K (fun _ : Unit => True) (fun _ => .bool false) (fun _ => devH d D :: M) (fun _ => K) := by
  have := off_ct (d := d) (M := M) (K := K) h.ok
  rwa [h.off] at this
theorem readF_ct {i j : Int} {k m : Nat} {q : List Int} (h : D.ok) (hi : i = k) (hk : k < D.zones.length) (hj : j = m) (hq : (D.at k).blocks[m]? = some q) :
    Fn 42 [ptr d 0, .int .i64 i, .int .i64 j] (devH d D :: M) K (fun _ : Option Addr × Nat => True) (fun r => .tuple #[.slice r.1 q.length r.2, .int .i64 0]) (fun _ => devH d D :: M) (fun r => bytesK r.1 r.2 q :: K) := by
  subst hi
  have := read_ct (d := d) (M := M) (K := K) (i := (k : Int)) (j := j) h
  rwa [read_ok (zone_of rfl hk) rfl hj hq] at this
theorem readOut_ct {i j : Int} {k : Nat} (h : D.ok) (hi : i = k) (hk : k < D.zones.length) (hj : j < 0 ∨ ((D.at k).blocks.length : Int) ≤ j) :
    Fn 42 [ptr d 0, .int .i64 i, .int .i64 j] (devH d D :: M) K (fun _ : Option Addr × Nat => True) (fun r => .tuple #[.slice r.1 0 r.2, .int .i64 14]) (fun _ => devH d D :: M) (fun r => bytesK r.1 r.2 [] :: K) := by
  subst hi
  have := read_ct (d := d) (M := M) (K := K) (i := (k : Int)) (j := j) h
  rwa [read_out (zone_of rfl hk) rfl hj] at this
theorem block64_ct {k : Int} : Fn 29 [.int .i64 64, .int .i64 k] M K (fun _ : Option Addr × Nat => True) (fun r => .slice r.1 (bk 64 k).length r.2) (fun _ => M) (fun r => bytesK r.1 r.2 (bk 64 k) :: K) := block_ct 64 rfl (by omega)
end

/-- The first n blocks of bk. -/
def bks (n : Nat) : List (List Int) := (List.range n).map fun i => bk 64 (i : Nat)
theorem bks_length (n : Nat) : (bks n).length = n := by simp [bks]
theorem bks_succ (n : Nat) : bks (n + 1) = bks n ++ [bk 64 n] := by simp [bks, List.range_succ]
theorem bks_at {n i : Nat} (h : i < n) : (bks n)[i]? = some (bk 64 i) := by simp [bks, h]

end Go.Proofs.Ytfpnodboebpemaa
