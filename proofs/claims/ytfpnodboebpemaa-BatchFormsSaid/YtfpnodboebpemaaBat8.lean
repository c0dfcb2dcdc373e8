/- BatchForms. -/
import Derived.Test.YtfpnodboebpemaaBat7
namespace Go.Proofs.Ytfpnodboebpemaa
open Go.RowKit Go.Proofs.YtfpnodboebpemaaW.PrintWords
set_option linter.unusedVariables false
set_option linter.unusedSimpArgs false
def lastOk (q : List TxL) (m : Nat) : Prop := m < q.length → m < 8 → ∃ t, q[m]? = some t ∧ 32 < sumP (q.take m) + t.puts.length
theorem sumP_drop_le (q : List TxL) (i : Nat) : sumP (q.drop i) ≤ sumP q := by
  conv => rhs; rw [← List.take_append_drop i q, sumP_append]
  omega
theorem Hold.view_pre' {α : Type} {w : World} {M : List HP} {K : List KP} {A : Option Addr} {c sz : Nat} {el : α → List Value → KP} {xs : List α} (h : Hold w M K) (hm : viewK sz el A c xs ∈ K) (k : Nat) (hk : k ≤ xs.length) : Hold w M (viewK sz el A c (xs.take k) :: K) := by
  have h1 := h.view_cut hm 0 k (Nat.zero_le _) hk
  rwa [slA_zero, List.drop_zero, Nat.sub_zero, Nat.sub_zero] at h1
theorem check_ct' {M : List HP} {K : List KP} {A : Option Addr} {c n : Nat} {b : BatL} (hb : viewK 2 txE A c b.txs ∈ K) (hn : n = b.txs.length) : Fn 46 [.agg [.int .i64 b.num, .slice A n c].toArray] M K (fun _ : Unit => True) (fun _ => .int .i64 b.chk) (fun _ => M) (fun _ => K) := by
  subst hn; exact check_ct hb
theorem blocks_ct' {M : List HP} {K : List KP} {A : Option Addr} {c n : Nat} {num : Int} {ts : List TxL} (ht : viewK 2 txE A c ts ∈ K) (hl : ts.length ≤ 1000000) (hn : n = ts.length) : Fn 66 [.agg [.int .i64 num, .slice A n c].toArray] M K (fun _ : Unit => True) (fun _ => .int .i64 (IntKind.i64.wrap ((blocksN ts : Nat) : Int))) (fun _ => M) (fun _ => K) := by
  subst hn; exact blocks_ct ht hl
attribute [local irreducible] pt rowH slK bytesK intsK rowsK rowsH cellK rowsV oldK star exH pureH knowH starL emp devH zoneH zonesH zrest cellsK viewV viewK viewH putE txE batE

set_option maxHeartbeats 4000000 in
theorem forms_ct {M : List HP} {K : List KP} {A : Option Addr} {c : Nat} {s : List Int} (hp : intsK A c s ∈ K) : Fn 14 [.slice A s.length c] M K (fun _ : Unit => True) (fun _ => .bool true) (fun _ => M) (fun _ => K) := by
 refine Fn.of (n := 106) Try.func14 rfl Try.ntmps14 rfl ?_
 refine T.seq ?_
 -- region 0 (law.go:73)
 refine T.region ?_
 refine T.y (fun w hw => Yl.assign rfl) rfl rfl ?_
 refine T.nil ?_
 refine J.sel (.cons 0 rfl .nil) ?_
 refine X.then_ ?_
 refine T.seq ?_
 refine T.seq ?_
 -- region 1 (law.go:74)
 refine T.region ?_
 refine T.y (fun w hw => Yl.move rfl) rfl rfl ?_
 refine T.y (fun w hw => Yl.len Try.underlying37 rfl) rfl rfl ?_
 refine T.y (fun w hw => Yl.gtr rfl rfl) rfl rfl ?_
 refine T.nil ?_
 refine J.sel (.cons 0 rfl (.cons 12 rfl .nil)) ?_
 refine X.then_ ?_
 refine T.condD rfl (fun h12 => ?_) (fun h12 => ?_)
 ·skip
  refine T.seq ?_
  -- region 2 (law.go:75)
  refine T.region ?_
  refine T.o (OpW.call en_43 rfl (awake17_ct)) rfl rfl (fun x hx => ?_)
  refine T.y (fun w hw => Yl.assign rfl) rfl rfl ?_
  refine T.nil ?_
  refine J.sel (.cons 2 rfl .nil) ?_
  refine X.then_ ?_
  refine T.ret ?_
  refine X.ret_then ?_
  refine X.ret1 Try.results14 rfl (fun w hw => ?_)
  exact ⟨(), trivial, rfl, hw.f⟩
 ·skip
  refine T.skip ?_
  refine X.then_ ?_
  refine T.seq ?_
  -- region 3 (law.go:77)
  refine T.region ?_
  refine T.y (fun w hw => Yl.assign rfl) rfl rfl ?_
  refine T.nil ?_
  refine J.sel (.cons 0 rfl (.cons 3 rfl .nil)) ?_
  refine X.then_ ?_
  refine T.seq ?_
  refine T.seq ?_
  refine J.ent (fun w hw => hw.view_nil 58 2 txE) ?_
  -- region 4 (law.go:78)
  refine T.region ?_
  refine T.y (fun w hw => Yl.assign rfl) rfl rfl ?_
  refine T.nil ?_
  refine X.then_ ?_
  refine T.block ?_
  refine T.loop (α := Nat × Option Addr × Nat) (fun u => u.1 ≤ s.length) (fun u => [(3, .slice u.2.1 (qTs s u.1).length u.2.2), (4, .int .i64 (u.1 : Int)), (0, .slice A s.length c)]) (fun u => viewH 58 2 txE u.2.1 u.2.2 (qTs s u.1) :: M) (fun u => K) (fun u => s.length - u.1) (0, none, 0) (Nat.zero_le _) (.cons 3 rfl (.num 4 rfl rfl (.cons 0 rfl .nil))) (fun w hw => hw.f) ?_
  intro ⟨i, Aq, cq⟩ hi Zk hzo
  dsimp only at hi hzo ⊢
  refine T.seq ?_
  refine T.seq ?_
  -- region 5 (law.go:78)
  refine T.region ?_
  refine T.y (fun w hw => Yl.move rfl) rfl rfl ?_
  refine T.y (fun w hw => Yl.move rfl) rfl rfl ?_
  refine T.y (fun w hw => Yl.len Try.underlying37 rfl) rfl rfl ?_
  refine T.y (fun w hw => Yl.lss rfl rfl) rfl rfl ?_
  refine T.nil ?_
  refine J.sel (.cons 0 rfl (.cons 3 rfl (.cons 4 rfl (.cons 17 rfl .nil)))) ?_
  refine X.then_ ?_
  refine T.condD rfl (fun h17 => ?_) (fun h17 => ?_)
  ·skip
   refine T.skip ?_
   refine X.then_ ?_
   refine T.seq ?_
   refine T.block ?_
   refine T.seq ?_
   -- region 7 (law.go:79)
   refine T.region ?_
   refine T.y (fun w hw => Yl.move rfl) rfl rfl ?_
   refine T.y (fun w hw => Yl.add rfl rfl (by omega)) rfl rfl ?_
   refine T.y (fun w hw => Yl.build rfl (bld_58_0 _)) rfl rfl ?_
   refine T.o (OpW.alloc zr_58) rfl rfl (fun b5 _ => ?_)
   refine T.o0 (OpW.stA sz_58 rfl rfl rfl rfl sW uL) rfl (fun _ _ => ?_)
   refine T.nil ?_
   rw [show (i : Int) + 1 = ((i + 1 : Nat) : Int) from by push_cast; rfl]
   refine J.sel (.cons 0 rfl (.cons 3 rfl (.cons 4 rfl (.cons 5 rfl .nil)))) ?_
   refine X.then_ ?_
   refine T.seq ?_
   refine T.seq ?_
   refine J.ent (fun w hw => hw.view_nil 61 2 putE) ?_
   -- region 8 (law.go:80)
   refine T.region ?_
   refine T.y (fun w hw => Yl.assign rfl) rfl rfl ?_
   refine T.nil ?_
   refine X.then_ ?_
   refine T.block ?_
   refine T.loop (α := Nat × Option Addr × Nat) (fun u => u.1 ≤ (rd s i % 16).toNat + 1) (fun u => [(6, .int .i64 (u.1 : Int)), (0, .slice A s.length c), (3, .slice Aq (qTs s i).length cq), (4, .int .i64 (i : Int)), (5, ptr b5 0)]) (fun u => pt b5 58 [.int .i64 ((i + 1 : Nat) : Int), .slice u.2.1 (puN u.1).length u.2.2] :: viewH 61 2 putE u.2.1 u.2.2 (puN u.1) :: viewH 58 2 txE Aq cq (qTs s i) :: M) (fun u => K) (fun u => (rd s i % 16).toNat + 1 - u.1) (0, none, 0) (Nat.zero_le _) (.num 6 rfl rfl (.cons 0 rfl (.cons 3 rfl (.cons 4 rfl (.cons 5 rfl .nil))))) (fun w hw => hw.f) ?_
   intro ⟨k, Ap, cp⟩ hk Zk hz2
   dsimp only at hk hz2 ⊢
   refine T.seq ?_
   refine T.seq ?_
   -- region 9 (law.go:80)
   refine T.region ?_
   refine T.y (fun w hw => Yl.move rfl) rfl rfl ?_
   refine T.y (fun w hw => Yl.move rfl) rfl rfl ?_
   refine T.y (fun w hw => Yl.move rfl) rfl rfl ?_
   refine T.y (fun w hw => Yl.ia1 sC Try.underlying37 isz_3 rfl rfl rfl (by omega)) rfl rfl ?_
   refine T.y (fun w hw => (by first | exact Yl.ldC hw na_3 rfl mM | exact Yl.ldI hw mM na_3 rfl (by omega) | exact Yl.ldR sC na_3 rfl (by assumption) | exact Yl.ldV hw na_3 rfl mM rfl)) rfl rfl ?_
   refine T.o (OpW.call en_37 rfl (round_ct (by omega) (by omega))) rfl rfl (fun x hx => ?_)
   refine T.y (fun w hw => Yl.leq rfl rfl) rfl rfl ?_
   refine T.nil ?_
   refine J.sel (.cons 0 rfl (.cons 3 rfl (.cons 4 rfl (.cons 5 rfl (.cons 6 rfl (.cons 29 rfl .nil)))))) ?_
   refine X.then_ ?_
   refine T.condD rfl (fun h29 => ?_) (fun h29 => ?_)
   ·skip
    refine T.skip ?_
    refine X.then_ ?_
    refine T.seq ?_
    refine T.block ?_
    have hpl := puN_length k
    -- region 11 (law.go:81)
    refine Dr.start1 [9] (p := viewH 61 2 putE Ap cp (puN k)) pK ?_
    refine Dr.take 0 rfl (by kernel_rfl) bL sS (fun w hs => have hw := hs.h; Yl.fa fa_58_1 rfl) rfl rfl ?_
    refine Dr.take 1 rfl (by kernel_rfl) bL sS (fun w hs => have hw := hs.h; Yl.ldP hw na_56 rfl mM rfl) rfl rfl ?_
    refine Dr.take 2 rfl (by kernel_rfl) bL sS (fun w hs => have hw := hs.h; Yl.move rfl) rfl rfl ?_
    refine Dr.take 3 rfl (by kernel_rfl) bL sS (fun w hs => have hw := hs.h; Yl.move rfl) rfl rfl ?_
    refine Dr.act 4 rfl (by kernel_rfl) rfl (OpW.call en_44 rfl (data_ct)) rfl rfl (fun _ _ _ => sS) (fun ⟨A36, c36⟩ _ => ?_)
    dsimp only
    refine Dr.take 5 rfl (by kernel_rfl) bL sS (fun w hs => have hw := hs.h; Yl.build rfl (bld_61_0_1 _)) rfl rfl ?_
    refine Dr.act 6 rfl (by kernel_rfl) rfl (OpW.bsl (sz := 2) rfl bsl_56_1 rfl rfl) rfl rfl (fun _ _ _ => sS) (fun b38 _ => ?_)
    refine J.ent (fun w hw => hw.putE' (A := A36) (c := c36) (p := ⟨(k : Nat), bk 40 (k : Nat)⟩) mM rfl) ?_
    refine J.ent (fun w hw => Hold.view_lit (e := 61) (sz := 2) (el := putE) (x := ⟨(k : Nat), bk 40 (k : Nat)⟩) (vs := [.int .i64 (⟨(k : Nat), bk 40 (k : Nat)⟩ : PutL).lba, .slice A36 (⟨(k : Nat), bk 40 (k : Nat)⟩ : PutL).data.length c36]) (A := some ⟨b38, 0, none⟩) (c := 1) (hw.pick pK) rfl mM) ?_
    refine Dr.act 7 rfl (by kernel_rfl) rfl (OpW.appV (el := putE) (ys := [⟨(k : Nat), bk 40 (k : Nat)⟩]) Try.underlying56 inf_61 rfl rfl rfl rfl mM putE_one pK (by constructor <;> simp <;> omega)) rfl rfl (fun _ _ _ => sS) (fun ⟨A39, c39⟩ _ => ?_)
    dsimp only
    refine Dr.take 8 rfl (by kernel_rfl) bL sS (fun w hs => have hw := hs.h; Yl.fa fa_58_1 rfl) rfl rfl ?_
    refine Dr.act0 9 rfl (by kernel_rfl) rfl (OpW.st1 sz_56 rfl rfl rfl rfl sW uP) rfl (fun hB => absurd (List.elem_iff.1 rfl) hB) (fun _ _ => ?_)
    refine Dr.done (by kernel_rfl) ?_
    refine J.sel (.cons 0 rfl (.cons 3 rfl (.cons 4 rfl (.cons 5 rfl (.cons 6 rfl .nil))))) ?_
    refine X.nm_blk ?_
    refine X.then_ ?_
    -- region 10 (law.go:80)
    refine T.region ?_
    refine T.y (fun w hw => Yl.move rfl) rfl rfl ?_
    refine T.y (fun w hw => Yl.add rfl rfl (by omega)) rfl rfl ?_
    refine T.y (fun w hw => Yl.assign rfl) rfl rfl ?_
    refine T.nil ?_
    refine J.sel (.cons 0 rfl (.cons 3 rfl (.cons 4 rfl (.cons 5 rfl (.cons 6 rfl .nil))))) ?_
    refine X.go (hz2 (k + 1, A39, c39) (by dsimp only; omega) (by dsimp only; omega)) (.num 6 rfl (by omega) (.cons 0 rfl (.cons 3 rfl (.cons 4 rfl (.cons 5 rfl .nil))))) (fun w hw => ?_)
    dsimp only
    rw [puN_succ]
    exact hw.f
   ·skip
    refine T.exit ?_
    refine X.exit_then ?_
    refine X.exit_then ?_
    refine X.exit_blk ?_
    refine X.then_ ?_
    have hkP : k = (rd s i % 16).toNat + 1 := by omega
    subst hkP
    have hll := qTs_length s i
    refine J.ent (fun w hw => Hold.view_freeze (e := 61) (sz := 2) (el := putE) (A := Ap) (c := cp) (xs := (puN ((rd s i % 16).toNat + 1))) (hw.pick pK)) ?_
    -- region 12 (law.go:83)
    refine T.region ?_
    refine T.y (fun w hw => Yl.move rfl) rfl rfl ?_
    refine T.y (fun w hw => Yl.ldaP hw ag_58 rfl mM sU) rfl rfl ?_
    refine T.o (OpW.bsl (sz := 2) rfl bsl_53_1 rfl rfl) rfl rfl (fun b43 _ => ?_)
    refine J.ent (fun w hw => hw.txE' (A := Ap) (c := cp) (t := (qTx s i)) mM rfl) ?_
    refine J.ent (fun w hw => Hold.view_lit (e := 58) (sz := 2) (el := txE) (x := (qTx s i)) (vs := [.int .i64 ((qTx s i) : TxL).time, .slice Ap ((qTx s i) : TxL).puts.length cp]) (A := some ⟨b43, 0, none⟩) (c := 1) (hw.pick pK) rfl mM) ?_
    refine T.o (OpW.appV (el := txE) (ys := [qTx s i]) Try.underlying53 inf_58 rfl rfl rfl rfl mM txE_one pK (by constructor <;> simp <;> omega)) rfl rfl (fun ⟨A44, c44⟩ _ => ?_)
    dsimp only
    refine T.y (fun w hw => Yl.assign rfl) rfl rfl ?_
    refine T.nil ?_
    refine J.sel (.cons 0 rfl (.cons 3 rfl (.cons 4 rfl .nil))) ?_
    refine X.nm_blk ?_
    refine X.then_ ?_
    -- region 6 (law.go:78)
    refine T.region ?_
    refine T.y (fun w hw => Yl.move rfl) rfl rfl ?_
    refine T.y (fun w hw => Yl.add rfl rfl (by omega)) rfl rfl ?_
    refine T.y (fun w hw => Yl.assign rfl) rfl rfl ?_
    refine T.nil ?_
    refine J.sel (.cons 0 rfl (.cons 3 rfl (.cons 4 rfl .nil))) ?_
    refine X.go (hzo (i + 1, A44, c44) (by dsimp only; omega) (by dsimp only; omega)) (.eqv 3 rfl (by rw [← qTs_succ]) (.num 4 rfl (by omega) (.cons 0 rfl .nil))) (fun w hw => ?_)
    dsimp only
    rw [qTs_succ]
    exact hw.f
  ·skip
   refine T.exit ?_
   refine X.exit_then ?_
   refine X.exit_then ?_
   refine X.exit_blk ?_
   refine X.then_ ?_
   refine T.seq ?_
   have hiN : i = s.length := by omega
   subst hiN
   refine J.ent (fun w hw => Hold.view_freeze (e := 58) (sz := 2) (el := txE) (A := Aq) (c := cq) (xs := (qTs s s.length)) (hw.pick pK)) ?_
   -- region 13 (law.go:85)
   refine T.region ?_
   refine T.y (fun w hw => Yl.assign rfl) rfl rfl ?_
   refine T.nil ?_
   refine J.sel (.cons 3 rfl (.cons 7 rfl .nil)) ?_
   refine X.then_ ?_
   refine T.seq ?_
   refine T.block ?_
   refine T.loop (α := Nat × Int × Option Addr × Nat) (fun u => u.1 ≤ s.length ∧ 1 ≤ u.2.1 ∧ u.2.1 ≤ (u.1 : Int) + 1) (fun u => [(3, .slice u.2.2.1 ((qTs s s.length).drop u.1).length u.2.2.2), (7, .int .i64 u.2.1)]) (fun u => M) (fun u => viewK 2 txE u.2.2.1 u.2.2.2 ((qTs s s.length).drop u.1) :: K) (fun u => s.length - u.1) (0, 1, Aq, cq) ⟨Nat.zero_le _, by dsimp only; omega, by dsimp only; omega⟩ (.cons 3 rfl (.num 7 rfl rfl .nil)) (fun w hw => hw.f) ?_
   intro ⟨o, num, Aq, cq⟩ ⟨ho, hn1, hn2⟩ Zk hzq
   dsimp only at ho hn1 hn2 hzq ⊢
   refine T.seq ?_
   refine T.seq ?_
   -- region 14 (law.go:86)
   refine T.region ?_
   refine T.y (fun w hw => Yl.move rfl) rfl rfl ?_
   refine T.y (fun w hw => Yl.len Try.underlying53 rfl) rfl rfl ?_
   refine T.y (fun w hw => Yl.gtr rfl rfl) rfl rfl ?_
   refine T.nil ?_
   refine J.sel (.cons 3 rfl (.cons 7 rfl (.cons 47 rfl .nil))) ?_
   refine X.then_ ?_
   refine T.condD rfl (fun h47 => ?_) (fun h47 => ?_)
   ·skip
    refine T.skip ?_
    refine X.then_ ?_
    refine T.block ?_
    refine T.seq ?_
    have hlq : ((qTs s s.length).drop o).length = s.length - o := by rw [List.length_drop, qTs_length]
    have hsq : sumP ((qTs s s.length).drop o) ≤ 1000000 := Nat.le_trans (sumP_drop_le _ _) (Nat.le_trans (qTs_sum s s.length) (by omega))
    obtain ⟨f1, f2, f3, f4, f5⟩ := formN_spec ((qTs s s.length).drop o)
    replace f5 : lastOk ((qTs s s.length).drop o) (formN ((qTs s s.length).drop o)) := f5
    have f3 := f3 (fun e => by have h0 := congrArg List.length e; rw [List.length_nil] at h0; omega)
    obtain ⟨m, hm⟩ : ∃ m, m = formN ((qTs s s.length).drop o) := ⟨_, rfl⟩
    rw [← hm] at f1 f2 f3 f4 f5
    have hmay := q_may (sizes := s) (n := s.length) (o := o) (num := num) (by omega) hm (by omega) (by omega)
    have hb33 : blocksN (((qTs s s.length).drop o).take m) ≤ 33 := hmay.1.2.2.2.2.2
    have hb0 : 0 < blocksN (((qTs s s.length).drop o).take m) := by unfold blocksN; omega
    refine J.fact (fun w hw => hw.view_max (xs := ((qTs s s.length).drop o)) (A := Aq) (c := cq) (sz := 2) (el := txE) mM) ?_
    intro hmx
    -- region 15 (law.go:87)
    refine T.region ?_
    refine T.y (fun w hw => Yl.move rfl) rfl rfl ?_
    refine T.o (OpW.call en_65 rfl (form_ct (q := ((qTs s s.length).drop o)) mM hsq (by omega))) rfl rfl (fun x hx => ?_)
    rw [← hm]
    refine T.y (fun w hw => Yl.assign rfl) rfl rfl ?_
    refine T.nil ?_
    refine J.sel (.cons 3 rfl (.cons 7 rfl (.cons 8 rfl .nil))) ?_
    refine X.then_ ?_
    refine T.seq ?_
    refine T.seq ?_
    -- region 16 (law.go:88)
    refine T.region ?_
    refine T.y (fun w hw => Yl.move rfl) rfl rfl ?_
    refine T.y (fun w hw => Yl.lss rfl rfl) rfl rfl ?_
    refine T.y (fun w hw => Yl.move rfl) rfl rfl ?_
    refine T.splitD 52 rfl (fun h52 => ?_) (fun h52 => ?_)
    · exfalso; (omega)
    ·skip
     refine T.y (fun w hw => Yl.move rfl) rfl rfl ?_
     refine T.y (fun w hw => Yl.move rfl) rfl rfl ?_
     refine T.y (fun w hw => Yl.len Try.underlying53 rfl) rfl rfl ?_
     refine T.y (fun w hw => Yl.gtr rfl rfl) rfl rfl ?_
     refine T.y (fun w hw => Yl.pickF rfl rfl) rfl rfl ?_
     refine T.y (fun w hw => Yl.move rfl) rfl rfl ?_
     refine T.splitD 58 rfl (fun h58 => ?_) (fun h58 => ?_)
     · exfalso; (omega)
     ·skip
      refine T.y (fun w hw => Yl.move rfl) rfl rfl ?_
      refine T.y (fun w hw => Yl.gtr rfl rfl) rfl rfl ?_
      refine T.y (fun w hw => Yl.pickF rfl rfl) rfl rfl ?_
      refine T.nil ?_
      refine J.sel (.cons 3 rfl (.cons 7 rfl (.cons 8 rfl (.cons 61 rfl .nil)))) ?_
      refine X.then_ ?_
      refine T.condD rfl (fun h61 => ?_) (fun h61 => ?_)
      · exfalso; (omega)
      ·skip
       refine T.skip ?_
       refine X.then_ ?_
       refine T.seq ?_
       -- region 18 (law.go:91)
       refine T.region ?_
       refine T.y (fun w hw => Yl.move rfl) rfl rfl ?_
       refine T.y (fun w hw => Yl.move rfl) rfl rfl ?_
       refine T.y (fun w hw => Yl.move rfl) rfl rfl ?_
       refine T.y (fun w hw => Yl.slHi Try.underlying53 sz_58 rfl rfl (l := m) rfl (by omega)) rfl rfl ?_
       rw [slA_zero]
       refine T.y (fun w hw => Yl.build rfl (bld_55_0_1 _)) rfl rfl ?_
       refine T.o (OpW.alloc zr_55) rfl rfl (fun b9 _ => ?_)
       refine T.o0 (OpW.stA sz_55 rfl rfl rfl rfl sW uL) rfl (fun _ _ => ?_)
       refine T.nil ?_
       refine J.sel (.cons 3 rfl (.cons 7 rfl (.cons 8 rfl (.cons 9 rfl .nil)))) ?_
       refine X.then_ ?_
       refine T.seq ?_
       refine T.seq ?_
       refine J.ent (fun w hw => hw.view_pre' (sz := 2) (el := txE) (A := Aq) (c := cq) (xs := ((qTs s s.length).drop o)) mM m (by omega)) ?_
       -- region 19 (law.go:92)
       refine T.region ?_
       refine T.y (fun w hw => Yl.ldaP hw ag_55 rfl mM sU) rfl rfl ?_
       refine T.o (OpW.call en_46 rfl (check_ct' (b := ⟨num, ((qTs s s.length).drop o).take m⟩) mM (by rw [List.length_take]; omega))) rfl rfl (fun x hx => ?_)
       refine T.y (fun w hw => Yl.neq rfl rfl) rfl rfl ?_
       refine T.y (fun w hw => Yl.move rfl) rfl rfl ?_
       refine T.splitD 70 rfl (fun h70 => ?_) (fun h70 => ?_)
       · exfalso; (exact h70 (chk_yes hmay))
       ·skip
        refine T.y (fun w hw => Yl.ldaP hw ag_55 rfl mM sU) rfl rfl ?_
        refine T.o (OpW.call en_66 rfl (blocks_ct' (ts := ((qTs s s.length).drop o).take m) mM (by rw [List.length_take]; omega) (by rw [List.length_take]; omega))) rfl rfl (fun _ _ => ?_)
        rw [wrap_id (by omega)]
        refine T.y (fun w hw => Yl.gtr rfl rfl) rfl rfl ?_
        refine T.y (fun w hw => Yl.pickF rfl rfl) rfl rfl ?_
        refine T.nil ?_
        refine J.sel (.cons 3 rfl (.cons 7 rfl (.cons 8 rfl (.cons 9 rfl (.cons 74 rfl .nil))))) ?_
        refine X.then_ ?_
        refine T.condD rfl (fun h74 => ?_) (fun h74 => ?_)
        · exfalso; (omega)
        ·skip
         refine T.skip ?_
         refine X.then_ ?_
         refine T.seq ?_
         refine T.seq ?_
         obtain ⟨m', hm'⟩ : ∃ m', m' = min m (((qTs s s.length).drop o).length - 1) := ⟨_, rfl⟩
         obtain ⟨t, htt⟩ : ∃ t, ((qTs s s.length).drop o)[m']? = some t := ⟨_, List.getElem?_eq_getElem (by omega)⟩
         have ht16 : t.puts.length ≤ 16 := by
           have h0 := qdrop_at (sizes := s) (n := s.length) (o := o) (i := m') (by omega)
           rw [htt] at h0; injection h0 with h0; rw [h0]; exact (qTx_len s (o + m')).2
         refine J.open_ (fun w hw => hw.tx_at (ts := ((qTs s s.length).drop o)) mM htt) ?_
         rintro ⟨At, ct⟩ -
         dsimp only
         -- region 21 (law.go:95)
         refine Dr.start0 [] ?_
         refine Dr.take 0 rfl (by kernel_rfl) bL sS (fun w hs => have hw := hs.h; Yl.move rfl) rfl rfl ?_
         refine Dr.take 1 rfl (by kernel_rfl) bL sS (fun w hs => have hw := hs.h; Yl.move rfl) rfl rfl ?_
         refine Dr.take 2 rfl (by kernel_rfl) bL sS (fun w hs => have hw := hs.h; Yl.len Try.underlying53 rfl) rfl rfl ?_
         refine Dr.take 3 rfl (by kernel_rfl) bL sS (fun w hs => have hw := hs.h; Yl.lss rfl rfl) rfl rfl ?_
         refine Dr.take 4 rfl (by kernel_rfl) bL sS (fun w hs => have hw := hs.h; Yl.move rfl) rfl rfl ?_
         refine T.splitD 79 rfl (fun h79 => ?_) (fun h79 => ?_)
         ·skip
          refine Dr.take 5 rfl (by kernel_rfl) bL sS (fun w hs => have hw := hs.h; Yl.move rfl) rfl rfl ?_
          refine Dr.take 6 rfl (by kernel_rfl) bL sS (fun w hs => have hw := hs.h; Yl.lss rfl rfl) rfl rfl ?_
          refine Dr.take 7 rfl (by kernel_rfl) bL sS (fun w hs => have hw := hs.h; Yl.pickT rfl rfl) rfl rfl ?_
          refine Dr.take 8 rfl (by kernel_rfl) bL sS (fun w hs => have hw := hs.h; Yl.move rfl) rfl rfl ?_
          refine T.splitD 83 rfl (fun h83 => ?_) (fun h83 => ?_)
          ·skip
           have hmm : m = m' := by omega
           subst hmm
           obtain ⟨t', ht', hgt⟩ := f5 (by omega) (by omega)
           obtain rfl : t = t' := by rw [htt] at ht'; injection ht'
           have hbn : ((blocksN (((qTs s s.length).drop o).take m) : Nat) : Int) - 1 = ((sumP (((qTs s s.length).drop o).take m) : Nat) : Int) := by unfold blocksN; push_cast; omega
           refine Dr.take 9 rfl (by kernel_rfl) bL sS (fun w hs => have hw := hs.h; Yl.ldaP hw ag_55 rfl mM sU) rfl rfl ?_
           refine Dr.take 12 rfl (by kernel_rfl) bL sS (fun w hs => have hw := hs.h; Yl.move rfl) rfl rfl ?_
           refine Dr.take 13 rfl (by kernel_rfl) bL sS (fun w hs => have hw := hs.h; Yl.move rfl) rfl rfl ?_
           refine Dr.take 14 rfl (by kernel_rfl) bL sS (fun w hs => have hw := hs.h; (by first | exact Yl.iaV hw mM Try.underlying53 isz_58 rfl rfl rfl (by omega) | exact Yl.ia Try.underlying53 isz_58 rfl rfl rfl (by omega) sC)) rfl rfl ?_
           refine Dr.take 15 rfl (by kernel_rfl) bL sS (fun w hs => have hw := hs.h; Yl.fae fa_58_1 rfl) rfl rfl ?_
           refine Dr.take 16 rfl (by kernel_rfl) bL sS (fun w hs => have hw := hs.h; (by first | exact Yl.ldC hw na_56 rfl mM | exact Yl.ldR sC na_56 rfl (by assumption) | exact Yl.ldV hw na_56 rfl mM rfl)) rfl rfl ?_
           refine Dr.take 17 rfl (by kernel_rfl) bL sS (fun w hs => have hw := hs.h; Yl.len Try.underlying56 rfl) rfl rfl ?_
           refine Dr.act 10 rfl (by kernel_rfl) rfl (OpW.call en_66 rfl (blocks_ct' (ts := ((qTs s s.length).drop o).take m) mM (by rw [List.length_take]; omega) (by rw [List.length_take]; omega))) rfl rfl (fun _ _ _ => sS) (fun _ _ => ?_)
           rw [wrap_id (by omega)]
           refine Dr.take 11 rfl (by kernel_rfl) bL sS (fun w hs => have hw := hs.h; Yl.sub rfl rfl (by omega)) rfl rfl ?_
           refine Dr.take 18 rfl (by kernel_rfl) bL sS (fun w hs => have hw := hs.h; Yl.add rfl rfl (by omega)) rfl rfl ?_
           refine Dr.take 19 rfl (by kernel_rfl) bL sS (fun w hs => have hw := hs.h; Yl.leq rfl rfl) rfl rfl ?_
           refine Dr.take 20 rfl (by kernel_rfl) bL sS (fun w hs => have hw := hs.h; Yl.pickT rfl rfl) rfl rfl ?_
           refine Dr.done (by kernel_rfl) ?_
           refine J.sel (.cons 3 rfl (.cons 7 rfl (.cons 8 rfl (.cons 95 rfl .nil)))) ?_
           refine X.then_ ?_
           refine T.condD rfl (fun h95 => ?_) (fun h95 => ?_)
           · exfalso; (omega)
           ·skip
            refine T.skip ?_
            refine X.then_ ?_
            refine T.seq ?_
            -- region 23 (law.go:98)
            refine T.region ?_
            refine T.y (fun w hw => Yl.move rfl) rfl rfl ?_
            refine T.y (fun w hw => Yl.move rfl) rfl rfl ?_
            refine T.y (fun w hw => Yl.slLo Try.underlying53 sz_58 rfl rfl (l := m) rfl (by omega) (by omega)) rfl rfl ?_
            refine T.y (fun w hw => Yl.assign rfl) rfl rfl ?_
            refine T.nil ?_
            refine J.sel (.cons 3 rfl (.cons 7 rfl .nil)) ?_
            refine X.then_ ?_
            -- region 24 (law.go:99)
            refine T.region ?_
            refine T.y (fun w hw => Yl.move rfl) rfl rfl ?_
            refine T.y (fun w hw => Yl.add rfl rfl (by omega)) rfl rfl ?_
            refine T.y (fun w hw => Yl.assign rfl) rfl rfl ?_
            refine T.nil ?_
            refine J.sel (.cons 3 rfl (.cons 7 rfl .nil)) ?_
            refine X.nm_blk ?_
            refine X.go (hzq (o + m, num + 1, slA Aq cq m 2, cq - m) ⟨by dsimp only; omega, by dsimp only; omega, by dsimp only; omega⟩ (by dsimp only; omega)) (.eqv 3 rfl (by rw [← List.length_drop, List.drop_drop]) (.num 7 rfl rfl .nil)) (fun w hw => ?_)
            dsimp only
            have hw := hw.view_suf (sz := 2) (el := txE) (A := Aq) (c := cq) (xs := ((qTs s s.length).drop o)) mM m (by omega)
            rw [List.drop_drop] at hw
            exact hw.f
          ·skip
           refine Dr.off 9 rfl (by kernel_rfl) bL sS rfl rfl ?_
           refine Dr.off 10 rfl (by kernel_rfl) bL sS rfl rfl ?_
           refine Dr.off 11 rfl (by kernel_rfl) bL sS rfl rfl ?_
           refine Dr.off 12 rfl (by kernel_rfl) bL sS rfl rfl ?_
           refine Dr.off 13 rfl (by kernel_rfl) bL sS rfl rfl ?_
           refine Dr.off 14 rfl (by kernel_rfl) bL sS rfl rfl ?_
           refine Dr.off 15 rfl (by kernel_rfl) bL sS rfl rfl ?_
           refine Dr.off 16 rfl (by kernel_rfl) bL sS rfl rfl ?_
           refine Dr.off 17 rfl (by kernel_rfl) bL sS rfl rfl ?_
           refine Dr.off 18 rfl (by kernel_rfl) bL sS rfl rfl ?_
           refine Dr.off 19 rfl (by kernel_rfl) bL sS rfl rfl ?_
           refine Dr.take 20 rfl (by kernel_rfl) bL sS (fun w hs => have hw := hs.h; Yl.pickF rfl rfl) rfl rfl ?_
           refine Dr.done (by kernel_rfl) ?_
           refine J.sel (.cons 3 rfl (.cons 7 rfl (.cons 8 rfl (.cons 95 rfl .nil)))) ?_
           refine X.then_ ?_
           refine T.condF rfl ?_
           refine T.skip ?_
           refine X.then_ ?_
           refine T.seq ?_
           -- region 23 (law.go:98)
           refine T.region ?_
           refine T.y (fun w hw => Yl.move rfl) rfl rfl ?_
           refine T.y (fun w hw => Yl.move rfl) rfl rfl ?_
           refine T.y (fun w hw => Yl.slLo Try.underlying53 sz_58 rfl rfl (l := m) rfl (by omega) (by omega)) rfl rfl ?_
           refine T.y (fun w hw => Yl.assign rfl) rfl rfl ?_
           refine T.nil ?_
           refine J.sel (.cons 3 rfl (.cons 7 rfl .nil)) ?_
           refine X.then_ ?_
           -- region 24 (law.go:99)
           refine T.region ?_
           refine T.y (fun w hw => Yl.move rfl) rfl rfl ?_
           refine T.y (fun w hw => Yl.add rfl rfl (by omega)) rfl rfl ?_
           refine T.y (fun w hw => Yl.assign rfl) rfl rfl ?_
           refine T.nil ?_
           refine J.sel (.cons 3 rfl (.cons 7 rfl .nil)) ?_
           refine X.nm_blk ?_
           refine X.go (hzq (o + m, num + 1, slA Aq cq m 2, cq - m) ⟨by dsimp only; omega, by dsimp only; omega, by dsimp only; omega⟩ (by dsimp only; omega)) (.eqv 3 rfl (by rw [← List.length_drop, List.drop_drop]) (.num 7 rfl rfl .nil)) (fun w hw => ?_)
           dsimp only
           have hw := hw.view_suf (sz := 2) (el := txE) (A := Aq) (c := cq) (xs := ((qTs s s.length).drop o)) mM m (by omega)
           rw [List.drop_drop] at hw
           exact hw.f
         ·skip
          refine Dr.off 5 rfl (by kernel_rfl) bL sS rfl rfl ?_
          refine Dr.off 6 rfl (by kernel_rfl) bL sS rfl rfl ?_
          refine Dr.take 7 rfl (by kernel_rfl) bL sS (fun w hs => have hw := hs.h; Yl.pickF rfl rfl) rfl rfl ?_
          refine Dr.take 8 rfl (by kernel_rfl) bL sS (fun w hs => have hw := hs.h; Yl.move rfl) rfl rfl ?_
          refine Dr.off 9 rfl (by kernel_rfl) bL sS rfl rfl ?_
          refine Dr.off 10 rfl (by kernel_rfl) bL sS rfl rfl ?_
          refine Dr.off 11 rfl (by kernel_rfl) bL sS rfl rfl ?_
          refine Dr.off 12 rfl (by kernel_rfl) bL sS rfl rfl ?_
          refine Dr.off 13 rfl (by kernel_rfl) bL sS rfl rfl ?_
          refine Dr.off 14 rfl (by kernel_rfl) bL sS rfl rfl ?_
          refine Dr.off 15 rfl (by kernel_rfl) bL sS rfl rfl ?_
          refine Dr.off 16 rfl (by kernel_rfl) bL sS rfl rfl ?_
          refine Dr.off 17 rfl (by kernel_rfl) bL sS rfl rfl ?_
          refine Dr.off 18 rfl (by kernel_rfl) bL sS rfl rfl ?_
          refine Dr.off 19 rfl (by kernel_rfl) bL sS rfl rfl ?_
          refine Dr.take 20 rfl (by kernel_rfl) bL sS (fun w hs => have hw := hs.h; Yl.pickF rfl rfl) rfl rfl ?_
          refine Dr.done (by kernel_rfl) ?_
          refine J.sel (.cons 3 rfl (.cons 7 rfl (.cons 8 rfl (.cons 95 rfl .nil)))) ?_
          refine X.then_ ?_
          refine T.condF rfl ?_
          refine T.skip ?_
          refine X.then_ ?_
          refine T.seq ?_
          -- region 23 (law.go:98)
          refine T.region ?_
          refine T.y (fun w hw => Yl.move rfl) rfl rfl ?_
          refine T.y (fun w hw => Yl.move rfl) rfl rfl ?_
          refine T.y (fun w hw => Yl.slLo Try.underlying53 sz_58 rfl rfl (l := m) rfl (by omega) (by omega)) rfl rfl ?_
          refine T.y (fun w hw => Yl.assign rfl) rfl rfl ?_
          refine T.nil ?_
          refine J.sel (.cons 3 rfl (.cons 7 rfl .nil)) ?_
          refine X.then_ ?_
          -- region 24 (law.go:99)
          refine T.region ?_
          refine T.y (fun w hw => Yl.move rfl) rfl rfl ?_
          refine T.y (fun w hw => Yl.add rfl rfl (by omega)) rfl rfl ?_
          refine T.y (fun w hw => Yl.assign rfl) rfl rfl ?_
          refine T.nil ?_
          refine J.sel (.cons 3 rfl (.cons 7 rfl .nil)) ?_
          refine X.nm_blk ?_
          refine X.go (hzq (o + m, num + 1, slA Aq cq m 2, cq - m) ⟨by dsimp only; omega, by dsimp only; omega, by dsimp only; omega⟩ (by dsimp only; omega)) (.eqv 3 rfl (by rw [← List.length_drop, List.drop_drop]) (.num 7 rfl rfl .nil)) (fun w hw => ?_)
          dsimp only
          have hw := hw.view_suf (sz := 2) (el := txE) (A := Aq) (c := cq) (xs := ((qTs s s.length).drop o)) mM m (by omega)
          rw [List.drop_drop] at hw
          exact hw.f
   ·skip
    refine T.exit ?_
    refine X.exit_then ?_
    refine X.exit_then ?_
    refine X.exit_blk ?_
    refine X.then_ ?_
    refine T.seq ?_
    refine J.ent (fun w hw => hw.viewK_nil 2 txE) ?_
    -- region 25 (law.go:101)
    refine T.region ?_
    refine T.o (OpW.call en_65 rfl (form_ct (q := []) mM (by decide) (by decide))) rfl rfl (fun _ _ => ?_)
    refine T.y (fun w hw => Yl.eql rfl rfl) rfl rfl ?_
    refine T.y (fun w hw => Yl.move rfl) rfl rfl ?_
    refine T.o (OpW.call en_43 rfl (awake17_ct)) rfl rfl (fun x hx => ?_)
    refine T.y (fun w hw => Yl.pickT rfl rfl) rfl rfl ?_
    refine T.y (fun w hw => Yl.assign rfl) rfl rfl ?_
    refine T.nil ?_
    refine J.sel (.cons 2 rfl .nil) ?_
    refine X.then_ ?_
    refine T.ret ?_
    refine X.ret1 Try.results14 rfl (fun w hw => ?_)
    exact ⟨(), trivial, rfl, hw.f⟩

theorem batchForms_walk {w : World} (v : Value) (s : List Int) (hx : Ints (fun k => k < w.heap.size) w v s) (hI : IsI s) : Calls Try.prog 14 #[v] w fun e w' => e = .returned (.bool true) ∧ Below w.heap.size w w' := by
  obtain ⟨A, c, rfl, hk⟩ := ints_open hx
  exact law_of (vs := [.slice A s.length c]) (K := [intsK A c s]) (forms_ct (.tail _ (.head _))) (fun k hk' => by rw [List.mem_singleton.1 hk']; exact hk)
end Go.Proofs.Ytfpnodboebpemaa
