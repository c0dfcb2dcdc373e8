/- The contracts of package slot: tail, read. -/
import Derived.Test.YtfpnodboebpemaaSltA
namespace Go.Proofs.Ytfpnodboebpemaa
open Go.RowKit Go.Proofs.YtfpnodboebpemaaW.PrintWords
set_option linter.unusedVariables false
set_option linter.unusedSimpArgs false
theorem Hold.rows_two {w : World} {M : List HP} {K : List KP} {A B C : Option Addr} {c b k n m : Nat} {xs ys : List Int} (h : Hold w (rowH 23 1 A c 2 [.slice B n b, .slice C m k] :: M) K) (hx : bytesK B b xs ∈ K) (hy : bytesK C k ys ∈ K) (hn : n = xs.length) (hm : m = ys.length) : Hold w M (rowsK A c [xs, ys] :: K) := by
  subst hn hm
  have h1 := h.freeze
  have h2 := h1.derive1 (k := rowsK A c [xs, ys]) fun I hI _ => ⟨[.slice B xs.length b, .slice C ys.length k], hI _ List.mem_cons_self, rfl, fun i r hr => by
    match i, hr with
    | 0, hr => simp at hr; subst hr; exact ⟨B, b, rfl, hI _ (List.mem_cons_of_mem _ hx)⟩
    | 1, hr => simp at hr; subst hr; exact ⟨C, k, rfl, hI _ (List.mem_cons_of_mem _ hy)⟩
    | i + 2, hr => simp at hr⟩
  exact h2.know (fun k hk => by rcases List.mem_cons.1 hk with rfl | hk; exact List.mem_cons_self; exact List.mem_cons_of_mem _ (List.mem_cons_of_mem _ hk))
theorem dec_len40 (p : List Int) : (decB p).body.length ≤ 40 := by
  unfold decB
  split
  · rename_i h
    unfold decErr at h
    split at h
    · split at h
      · rename_i h2; exact h2.1.2
      · cases h
    · cases h
  · exact Nat.zero_le _
attribute [local irreducible] pt rowH slK bytesK intsK rowsK rowsH cellK rowsV oldK star exH pureH knowH starL emp devH zoneH zonesH zrest cellsK viewV viewK viewH blkE slotH

set_option maxHeartbeats 2000000 in
theorem tail_ct {M : List HP} {K : List KP} {A : Option Addr} {c : Nat} {t : List Int} (hp : bytesK A c t ∈ K) (hl : t.length ≤ 1000000) : Fn 147 [.slice A t.length c] M K (fun _ : Option Addr × Nat => True) (fun r => .slice r.1 (slotTail t).length r.2) (fun _ => M) (fun r => bytesK r.1 r.2 (slotTail t) :: K) := by
 refine Fn.of (n := 12) Try.func147 rfl Try.ntmps147 rfl ?_
 refine J.fact (fun w hw => hw.isB (A := A) (c := c) (xs := t) mM) ?_
 intro hB
 have hc := crcOf_lt t hB
 refine T.seq ?_
 -- region 0 (slot.go:67)
 refine T.region ?_
 refine T.y (fun w hw => Yl.assign rfl) rfl rfl ?_
 refine T.nil ?_
 refine J.sel (.cons 0 rfl .nil) ?_
 refine X.then_ ?_
 refine T.seq ?_
 -- region 1 (slot.go:68)
 refine T.region ?_
 refine T.y (fun w hw => Yl.move rfl) rfl rfl ?_
 refine T.y (fun w hw => Yl.len Try.underlying23 rfl) rfl rfl ?_
 refine T.y (fun w hw => Yl.conv Try.underlying3 Try.underlying125 rfl (cv_u32 (by omega))) rfl rfl ?_
 refine T.o (OpW.call en_84 rfl (put32_ct t.length rfl (by omega))) rfl rfl (fun ⟨A6, c6⟩ _ => ?_)
 dsimp only
 refine T.y (fun w hw => Yl.move rfl) rfl rfl ?_
 refine T.o (OpW.call en_86 rfl (of_ct mM)) rfl rfl (fun x hx => ?_)
 refine T.o (OpW.call en_84 rfl (put32_ct (crcOf t) rfl hc)) rfl rfl (fun ⟨A9, c9⟩ _ => ?_)
 dsimp only
 refine T.o (OpW.bsl (sz := 1) rfl bsl_62_2 rfl rfl) rfl rfl (fun b10 _ => ?_)
 refine J.ent (fun w hw => Hold.rows_two (A := some ⟨b10, 0, none⟩) (c := 2) (xs := le t.length 4) (ys := le (crcOf t) 4) (hw.pick pK) mM mM rfl rfl) ?_
 refine T.o (OpW.call en_83 rfl (concat_ct (rows := [le t.length 4, le (crcOf t) 4]) mM (by simp [total, le_length]))) rfl rfl (fun ⟨A11, c11⟩ _ => ?_)
 dsimp only
 rw [show [le t.length 4, le (crcOf t) 4].flatten = slotTail t from by simp [slotTail]]
 refine T.y (fun w hw => Yl.assign rfl) rfl rfl ?_
 refine T.nil ?_
 refine J.sel (.cons 2 rfl .nil) ?_
 refine X.then_ ?_
 refine T.ret ?_
 refine X.ret1 Try.results147 rfl (fun w hw => ?_)
 exact ⟨(A11, c11), trivial, rfl, hw.f⟩

set_option maxHeartbeats 2000000 in
theorem sread_ct {M : List HP} {K : List KP} {A : Option Addr} {c : Nat} {l : List (List Int)} (hr : rowsK A c l ∈ K) (hl : l.length ≤ 20000) : Fn 126 [.slice A l.length c] M K (fun _ : Option Addr × Nat => True) (fun r => .tuple [.slice r.1 (sread l).1.length r.2, .int .i64 (sread l).2].toArray) (fun _ => M) (fun r => bytesK r.1 r.2 (sread l).1 :: K) := by
 refine Fn.of (n := 71) Try.func126 rfl Try.ntmps126 rfl ?_
 refine T.seq ?_
 -- region 0 (slot.go:72)
 refine T.region ?_
 refine T.y (fun w hw => Yl.assign rfl) rfl rfl ?_
 refine T.y (fun w hw => Yl.assign rfl) rfl rfl ?_
 refine T.nil ?_
 refine X.then_ ?_
 refine T.scope ?_
 refine T.seq ?_
 refine T.label ?_
 refine X.then_ ?_
 refine T.seq ?_
 refine T.seq ?_
 refine J.row_nil 5 1 ?_
 -- region 1 (slot.go:74)
 refine T.region ?_
 refine T.y (fun w hw => Yl.move rfl) rfl rfl ?_
 refine T.y (fun w hw => Yl.len Try.underlying62 rfl) rfl rfl ?_
 refine T.y (fun w hw => Yl.move rfl) rfl rfl ?_
 refine T.nil ?_
 refine J.sel (.cons 2 rfl (.cons 3 rfl (.cons 8 rfl (.cons 9 rfl (.cons 10 rfl .nil))))) ?_
 refine X.then_ ?_
 refine T.block ?_
 refine T.loop (α := Nat × Int × Option Addr × Nat × List Int) (fun u => u.1 ≤ l.length ∧ sread l = sreadG (l.drop u.1) u.1 u.2.1 u.2.2.2.2 ∧ u.2.2.2.2.length ≤ u.1 * 40 ∧ IsB u.2.2.2.2) (fun u => [(2, .slice u.2.2.1 u.2.2.2.2.length u.2.2.2.1), (3, .int .i64 u.2.1), (10, .int .i64 (u.1 : Int)), (8, .slice A l.length c), (9, .int .i64 (l.length : Int))]) (fun u => rowH 5 1 u.2.2.1 u.2.2.2.1 u.2.2.2.2.length (nums .u8 u.2.2.2.2) :: M) (fun u => K) (fun u => l.length - u.1) (0, 0, none, 0, []) ⟨Nat.zero_le _, rfl, Nat.zero_le _, fun x hx => by cases hx⟩ (.cons 2 rfl (.cons 3 rfl (.num 10 rfl rfl (.cons 8 rfl (.cons 9 rfl .nil))))) (fun w hw => hw.f) ?_
 intro ⟨i, n, A2, c2, text⟩ ⟨hi, hsr, htl, htB⟩ Zk hz2
 dsimp only at hi hsr htl htB hz2 ⊢
 refine T.seq ?_
 -- region 2 (slot.go:74)
 refine T.region ?_
 refine T.y (fun w hw => Yl.lss rfl rfl) rfl rfl ?_
 refine T.nil ?_
 refine X.then_ ?_
 refine T.seq ?_
 refine T.condD rfl (fun h11 => ?_) (fun h11 => ?_)
 ·skip
  refine T.skip ?_
  refine X.then_ ?_
  refine T.seq ?_
  refine T.block ?_
  refine T.seq ?_
  obtain ⟨p, hp⟩ : ∃ p, l[i]? = some p := ⟨_, List.getElem?_eq_getElem (by omega)⟩
  refine J.open_ (fun w hw => hw.rows_at (A := A) (c := c) (rows := l) mM hp) ?_
  rintro ⟨Ap, cp⟩ -
  dsimp only
  -- region 3 (slot.go:74)
  refine T.region ?_
  refine T.y (fun w hw => Yl.move rfl) rfl rfl ?_
  refine T.y (fun w hw => (by first | exact Yl.iaK (i := i) hw mM Try.underlying62 isz_23 rfl rfl rfl (by omega) | exact Yl.ia1 (i := i) sC Try.underlying62 isz_23 rfl rfl rfl (by omega))) rfl rfl ?_
  refine T.y (fun w hw => (by first | exact Yl.ldC hw na_23 rfl mM | exact Yl.ldR sC na_23 rfl (by assumption) | exact Yl.ldV hw na_23 rfl mM rfl)) rfl rfl ?_
  refine T.y (fun w hw => Yl.assign rfl) rfl rfl ?_
  refine T.y (fun w hw => Yl.assign rfl) rfl rfl ?_
  refine T.nil ?_
  refine J.sel (.cons 2 rfl (.cons 3 rfl (.cons 4 rfl (.cons 5 rfl (.cons 8 rfl (.cons 9 rfl (.cons 10 rfl .nil))))))) ?_
  refine X.then_ ?_
  refine T.seq ?_
  -- region 4 (slot.go:75)
  refine T.region ?_
  refine T.y (fun w hw => Yl.move rfl) rfl rfl ?_
  refine T.o (OpW.call en_48 rfl (decode_ct (p := p) mM)) rfl rfl (fun ⟨A18, c18⟩ _ => ?_)
  dsimp only
  refine T.y (fun w hw => Yl.move rfl) rfl rfl ?_
  refine T.y (fun w hw => Yl.extract rfl rfl) rfl rfl ?_
  refine T.y (fun w hw => Yl.extract rfl rfl) rfl rfl ?_
  refine T.o (OpW.alloc zr_29) rfl rfl (fun b6 _ => ?_)
  refine T.o0 (OpW.stA sz_29 rfl rfl rfl rfl sW uL) rfl (fun _ _ => ?_)
  refine T.y (fun w hw => Yl.assign rfl) rfl rfl ?_
  refine T.nil ?_
  refine J.sel (.cons 2 rfl (.cons 3 rfl (.cons 4 rfl (.cons 6 rfl (.cons 7 rfl (.cons 8 rfl (.cons 9 rfl (.cons 10 rfl .nil)))))))) ?_
  refine X.then_ ?_
  refine T.block ?_
  refine T.seq ?_
  refine J.fact (fun w hw => hw.isB (A := A18) (c := c18) (xs := (decB p).body) mM) ?_
  intro hbB
  have hbl := dec_len40 p
  -- region 5 (slot.go:77)
  refine T.region ?_
  refine T.y (fun w hw => Yl.move rfl) rfl rfl ?_
  refine T.y (fun w hw => Yl.neq rfl rfl) rfl rfl ?_
  refine T.y (fun w hw => Yl.assign rfl) rfl rfl ?_
  refine T.nil ?_
  refine J.sel (.cons 2 rfl (.cons 3 rfl (.cons 4 rfl (.cons 6 rfl (.cons 8 rfl (.cons 9 rfl (.cons 10 rfl (.cons 20 rfl .nil)))))))) ?_
  refine X.then_ ?_
  refine T.condD rfl (fun h20 => ?_) (fun h20 => ?_)
  ·skip
   refine T.exit ?_
   refine X.exit_blk_ne rfl ?_
   refine X.exit_blk_ne rfl ?_
   refine X.exit_then ?_
   refine X.exit_then ?_
   refine X.exit_blk ?_
   refine X.then_ ?_
   refine T.seq ?_
   -- region 14 (slot.go:91)
   refine T.region ?_
   refine T.y (fun w hw => Yl.assign rfl) rfl rfl ?_
   refine T.y (fun w hw => Yl.assign rfl) rfl rfl ?_
   refine T.nil ?_
   refine J.sel (.cons 2 rfl (.cons 3 rfl .nil)) ?_
   refine X.then_ ?_
   refine T.ret ?_
   refine X.ret_sc ?_
   refine X.ret2 Try.results126 rfl rfl (fun w hw => ?_)
   first
     | (rw [hsr, List.drop_eq_nil_of_le (by omega), sreadG]; exact ⟨(none, 0), trivial, rfl, by have hw := hw.bytesK_nil; exact hw.f⟩; done)
     | (rw [hsr, drop_cons hp, sreadG_bad (by assumption)]; exact ⟨(none, 0), trivial, rfl, by have hw := hw.bytesK_nil; exact hw.f⟩; done)
     | (rw [hsr, drop_cons hp, sreadG_out (by rintro ⟨g1, g2⟩; first | omega | contradiction) (by first | (left; omega) | (right; assumption))]; exact ⟨(none, 0), trivial, rfl, by have hw := hw.bytesK_nil; exact hw.f⟩; done)
     | (rw [hsr, drop_cons hp, sreadG_no (by rintro ⟨g1, g2⟩; first | omega | contradiction) (by assumption) (by rintro ⟨g1, g2, g3⟩; first | omega | contradiction)]; exact ⟨(none, 0), trivial, rfl, by have hw := hw.bytesK_nil; exact hw.f⟩; done)
  ·skip
   refine T.seq ?_
   -- region 6 (slot.go:79)
   refine T.region ?_
   refine T.y (fun w hw => Yl.move rfl) rfl rfl ?_
   refine T.y (fun w hw => Yl.eql rfl rfl) rfl rfl ?_
   refine T.y (fun w hw => Yl.move rfl) rfl rfl ?_
   refine T.splitD 26 rfl (fun h26 => ?_) (fun h26 => ?_)
   ·skip
    refine T.y (fun w hw => Yl.fa fa_29_0 rfl) rfl rfl ?_
    refine T.y (fun w hw => Yl.ldP hw na_3 rfl mM rfl) rfl rfl ?_
    refine T.y (fun w hw => Yl.eql rfl rfl) rfl rfl ?_
    refine T.y (fun w hw => Yl.pickT rfl rfl) rfl rfl ?_
    refine T.y (fun w hw => Yl.assign rfl) rfl rfl ?_
    refine T.nil ?_
    refine J.sel (.cons 2 rfl (.cons 3 rfl (.cons 4 rfl (.cons 6 rfl (.cons 8 rfl (.cons 9 rfl (.cons 10 rfl (.cons 23 rfl .nil)))))))) ?_
    refine X.then_ ?_
    refine T.condD rfl (fun h23 => ?_) (fun h23 => ?_)
    ·skip
     -- region 7 (slot.go:80)
     refine T.region ?_
     refine T.y (fun w hw => Yl.fa fa_29_2 rfl) rfl rfl ?_
     refine T.y (fun w hw => Yl.ldP hw na_3 rfl mM rfl) rfl rfl ?_
     refine T.y (fun w hw => Yl.assign rfl) rfl rfl ?_
     refine T.nil ?_
     refine J.sel (.cons 2 rfl (.cons 3 rfl (.cons 8 rfl (.cons 9 rfl (.cons 10 rfl .nil))))) ?_
     refine X.nm_blk ?_
     refine X.nm_blk ?_
     refine X.then_ ?_
     -- region 13 (slot.go:74)
     refine T.region ?_
     refine T.y (fun w hw => Yl.add rfl rfl (by omega)) rfl rfl ?_
     refine T.y (fun w hw => Yl.move rfl) rfl rfl ?_
     refine T.nil ?_
     refine J.sel (.cons 2 rfl (.cons 3 rfl (.cons 8 rfl (.cons 9 rfl (.cons 10 rfl .nil))))) ?_
     first
       | (refine X.go (hz2 (i + 1, (decB p).seq, A2, c2, text) ⟨by dsimp only; omega, by dsimp only; rw [hsr, drop_cons hp, sreadG_head (by simpa using h20) ⟨by omega, by assumption⟩], by dsimp only; omega, htB⟩ (by dsimp only; omega)) (.eqv 2 rfl (by first | rfl | rw [List.length_append]) (.cons 3 rfl (.num 10 rfl (by omega) (.cons 8 rfl (.cons 9 rfl .nil))))) (fun w hw => ?_)
          exact hw.f)
       | (refine X.go (hz2 (i + 1, n, A49, c49, text ++ (decB p).body) ⟨by dsimp only; omega, ?_, by dsimp only; rw [List.length_append]; omega, htB.append hbB⟩ (by dsimp only; omega)) (.eqv 2 rfl (by first | rfl | rw [List.length_append]) (.cons 3 rfl (.num 10 rfl (by omega) (.cons 8 rfl (.cons 9 rfl .nil))))) (fun w hw => ?_)
          · dsimp only
            rw [hsr, drop_cons hp, sreadG_data (by simpa using h20) (by rintro ⟨g1, g2⟩; first | omega | contradiction) (by rintro (g | g) <;> first | omega | contradiction) (by assumption)]
          · dsimp only; rw [← nums_app, List.length_append]; exact hw.f)
    ·skip
     refine T.seq ?_
     -- region 8 (slot.go:81)
     refine T.region ?_
     refine T.y (fun w hw => Yl.move rfl) rfl rfl ?_
     refine T.y (fun w hw => Yl.eql rfl rfl) rfl rfl ?_
     refine T.y (fun w hw => Yl.move rfl) rfl rfl ?_
     refine T.splitD 36 rfl (fun h36 => ?_) (fun h36 => ?_)
     ·skip
      refine T.off rfl rfl rfl ?_
      refine T.off rfl rfl rfl ?_
      refine T.off rfl rfl rfl ?_
      refine T.off rfl rfl rfl ?_
      refine T.y (fun w hw => Yl.pickT rfl rfl) rfl rfl ?_
      refine T.y (fun w hw => Yl.assign rfl) rfl rfl ?_
      refine T.nil ?_
      refine J.sel (.cons 2 rfl (.cons 3 rfl (.cons 4 rfl (.cons 6 rfl (.cons 8 rfl (.cons 9 rfl (.cons 10 rfl (.cons 33 rfl .nil)))))))) ?_
      refine X.then_ ?_
      refine T.condT rfl ?_
      refine T.exit ?_
      refine X.exit_blk_ne rfl ?_
      refine X.exit_blk_ne rfl ?_
      refine X.exit_then ?_
      refine X.exit_then ?_
      refine X.exit_blk ?_
      refine X.then_ ?_
      refine T.seq ?_
      -- region 14 (slot.go:91)
      refine T.region ?_
      refine T.y (fun w hw => Yl.assign rfl) rfl rfl ?_
      refine T.y (fun w hw => Yl.assign rfl) rfl rfl ?_
      refine T.nil ?_
      refine J.sel (.cons 2 rfl (.cons 3 rfl .nil)) ?_
      refine X.then_ ?_
      refine T.ret ?_
      refine X.ret_sc ?_
      refine X.ret2 Try.results126 rfl rfl (fun w hw => ?_)
      first
        | (rw [hsr, List.drop_eq_nil_of_le (by omega), sreadG]; exact ⟨(none, 0), trivial, rfl, by have hw := hw.bytesK_nil; exact hw.f⟩; done)
        | (rw [hsr, drop_cons hp, sreadG_bad (by assumption)]; exact ⟨(none, 0), trivial, rfl, by have hw := hw.bytesK_nil; exact hw.f⟩; done)
        | (rw [hsr, drop_cons hp, sreadG_out (by rintro ⟨g1, g2⟩; first | omega | contradiction) (by first | (left; omega) | (right; assumption))]; exact ⟨(none, 0), trivial, rfl, by have hw := hw.bytesK_nil; exact hw.f⟩; done)
        | (rw [hsr, drop_cons hp, sreadG_no (by rintro ⟨g1, g2⟩; first | omega | contradiction) (by assumption) (by rintro ⟨g1, g2, g3⟩; first | omega | contradiction)]; exact ⟨(none, 0), trivial, rfl, by have hw := hw.bytesK_nil; exact hw.f⟩; done)
     ·skip
      refine T.y (fun w hw => Yl.fa fa_29_2 rfl) rfl rfl ?_
      refine T.y (fun w hw => Yl.ldP hw na_3 rfl mM rfl) rfl rfl ?_
      refine T.y (fun w hw => Yl.move rfl) rfl rfl ?_
      refine T.y (fun w hw => Yl.neq rfl rfl) rfl rfl ?_
      refine T.y (fun w hw => Yl.pickF rfl rfl) rfl rfl ?_
      refine T.y (fun w hw => Yl.assign rfl) rfl rfl ?_
      refine T.nil ?_
      refine J.sel (.cons 2 rfl (.cons 3 rfl (.cons 4 rfl (.cons 6 rfl (.cons 8 rfl (.cons 9 rfl (.cons 10 rfl (.cons 33 rfl .nil)))))))) ?_
      refine X.then_ ?_
      refine T.condD rfl (fun h33 => ?_) (fun h33 => ?_)
      ·skip
       refine T.exit ?_
       refine X.exit_blk_ne rfl ?_
       refine X.exit_blk_ne rfl ?_
       refine X.exit_then ?_
       refine X.exit_then ?_
       refine X.exit_blk ?_
       refine X.then_ ?_
       refine T.seq ?_
       -- region 14 (slot.go:91)
       refine T.region ?_
       refine T.y (fun w hw => Yl.assign rfl) rfl rfl ?_
       refine T.y (fun w hw => Yl.assign rfl) rfl rfl ?_
       refine T.nil ?_
       refine J.sel (.cons 2 rfl (.cons 3 rfl .nil)) ?_
       refine X.then_ ?_
       refine T.ret ?_
       refine X.ret_sc ?_
       refine X.ret2 Try.results126 rfl rfl (fun w hw => ?_)
       first
         | (rw [hsr, List.drop_eq_nil_of_le (by omega), sreadG]; exact ⟨(none, 0), trivial, rfl, by have hw := hw.bytesK_nil; exact hw.f⟩; done)
         | (rw [hsr, drop_cons hp, sreadG_bad (by assumption)]; exact ⟨(none, 0), trivial, rfl, by have hw := hw.bytesK_nil; exact hw.f⟩; done)
         | (rw [hsr, drop_cons hp, sreadG_out (by rintro ⟨g1, g2⟩; first | omega | contradiction) (by first | (left; omega) | (right; assumption))]; exact ⟨(none, 0), trivial, rfl, by have hw := hw.bytesK_nil; exact hw.f⟩; done)
         | (rw [hsr, drop_cons hp, sreadG_no (by rintro ⟨g1, g2⟩; first | omega | contradiction) (by assumption) (by rintro ⟨g1, g2, g3⟩; first | omega | contradiction)]; exact ⟨(none, 0), trivial, rfl, by have hw := hw.bytesK_nil; exact hw.f⟩; done)
      ·skip
       refine T.seq ?_
       -- region 9 (slot.go:83)
       refine T.region ?_
       refine T.y (fun w hw => Yl.fa fa_29_0 rfl) rfl rfl ?_
       refine T.y (fun w hw => Yl.ldP hw na_3 rfl mM rfl) rfl rfl ?_
       refine T.y (fun w hw => Yl.eql rfl rfl) rfl rfl ?_
       refine T.y (fun w hw => Yl.assign rfl) rfl rfl ?_
       refine T.nil ?_
       refine J.sel (.cons 2 rfl (.cons 3 rfl (.cons 4 rfl (.cons 6 rfl (.cons 8 rfl (.cons 9 rfl (.cons 10 rfl (.cons 42 rfl .nil)))))))) ?_
       refine X.then_ ?_
       refine T.condD rfl (fun h42 => ?_) (fun h42 => ?_)
       ·skip
        -- region 10 (slot.go:84)
        refine T.region ?_
        refine T.y (fun w hw => Yl.move rfl) rfl rfl ?_
        refine T.y (fun w hw => Yl.fa fa_29_4 rfl) rfl rfl ?_
        refine T.y (fun w hw => Yl.ldP hw na_23 rfl mM rfl) rfl rfl ?_
        refine T.o (OpW.app (ys := nums .u8 (decB p).body) Try.underlying23 inf_5 rfl rfl rfl rfl pK (fun w hw => hw.bytes mM) (nums_one _ _) (by constructor <;> omega)) rfl rfl (fun ⟨A49, c49⟩ _ => ?_)
        dsimp only
        refine T.y (fun w hw => Yl.assign rfl) rfl rfl ?_
        refine T.nil ?_
        refine J.sel (.cons 2 rfl (.cons 3 rfl (.cons 8 rfl (.cons 9 rfl (.cons 10 rfl .nil))))) ?_
        refine X.nm_blk ?_
        refine X.nm_blk ?_
        refine X.then_ ?_
        -- region 13 (slot.go:74)
        refine T.region ?_
        refine T.y (fun w hw => Yl.add rfl rfl (by omega)) rfl rfl ?_
        refine T.y (fun w hw => Yl.move rfl) rfl rfl ?_
        refine T.nil ?_
        refine J.sel (.cons 2 rfl (.cons 3 rfl (.cons 8 rfl (.cons 9 rfl (.cons 10 rfl .nil))))) ?_
        first
          | (refine X.go (hz2 (i + 1, (decB p).seq, A2, c2, text) ⟨by dsimp only; omega, by dsimp only; rw [hsr, drop_cons hp, sreadG_head (by simpa using h20) ⟨by omega, by assumption⟩], by dsimp only; omega, htB⟩ (by dsimp only; omega)) (.eqv 2 rfl (by first | rfl | rw [List.length_append]) (.cons 3 rfl (.num 10 rfl (by omega) (.cons 8 rfl (.cons 9 rfl .nil))))) (fun w hw => ?_)
             exact hw.f)
          | (refine X.go (hz2 (i + 1, n, A49, c49, text ++ (decB p).body) ⟨by dsimp only; omega, ?_, by dsimp only; rw [List.length_append]; omega, htB.append hbB⟩ (by dsimp only; omega)) (.eqv 2 rfl (by first | rfl | rw [List.length_append]) (.cons 3 rfl (.num 10 rfl (by omega) (.cons 8 rfl (.cons 9 rfl .nil))))) (fun w hw => ?_)
             · dsimp only
               rw [hsr, drop_cons hp, sreadG_data (by simpa using h20) (by rintro ⟨g1, g2⟩; first | omega | contradiction) (by rintro (g | g) <;> first | omega | contradiction) (by assumption)]
             · dsimp only; rw [← nums_app, List.length_append]; exact hw.f)
       ·skip
        refine T.seq ?_
        refine J.ent (fun w hw => Hold.row_bytes (A := A2) (c := c2) (xs := text) (hw.pick pK) htB) ?_
        -- region 11 (slot.go:85)
        refine Dr.start0 [] ?_
        refine Dr.take 0 rfl (by kernel_rfl) bL sS (fun w hs => have hw := hs.h; Yl.fa fa_29_0 rfl) rfl rfl ?_
        refine Dr.take 1 rfl (by kernel_rfl) bL sS (fun w hs => have hw := hs.h; Yl.ldP hw na_3 rfl mM rfl) rfl rfl ?_
        refine Dr.take 2 rfl (by kernel_rfl) bL sS (fun w hs => have hw := hs.h; Yl.eql rfl rfl) rfl rfl ?_
        refine Dr.take 3 rfl (by kernel_rfl) bL sS (fun w hs => have hw := hs.h; Yl.move rfl) rfl rfl ?_
        refine T.splitD 54 rfl (fun h54 => ?_) (fun h54 => ?_)
        ·skip
         refine Dr.take 4 rfl (by kernel_rfl) bL sS (fun w hs => have hw := hs.h; Yl.fa fa_29_3 rfl) rfl rfl ?_
         refine Dr.take 5 rfl (by kernel_rfl) bL sS (fun w hs => have hw := hs.h; Yl.ldP hw na_3 rfl mM rfl) rfl rfl ?_
         refine Dr.take 6 rfl (by kernel_rfl) bL sS (fun w hs => have hw := hs.h; Yl.move rfl) rfl rfl ?_
         refine Dr.take 7 rfl (by kernel_rfl) bL sS (fun w hs => have hw := hs.h; Yl.sub rfl rfl (by omega)) rfl rfl ?_
         refine Dr.take 8 rfl (by kernel_rfl) bL sS (fun w hs => have hw := hs.h; Yl.eql rfl rfl) rfl rfl ?_
         refine Dr.take 9 rfl (by kernel_rfl) bL sS (fun w hs => have hw := hs.h; Yl.pickT rfl rfl) rfl rfl ?_
         refine Dr.take 10 rfl (by kernel_rfl) bL sS (fun w hs => have hw := hs.h; Yl.move rfl) rfl rfl ?_
         refine T.splitD 61 rfl (fun h61 => ?_) (fun h61 => ?_)
         ·skip
          refine Dr.take 11 rfl (by kernel_rfl) bL sS (fun w hs => have hw := hs.h; Yl.fa fa_29_4 rfl) rfl rfl ?_
          refine Dr.take 12 rfl (by kernel_rfl) bL sS (fun w hs => have hw := hs.h; Yl.ldP hw na_23 rfl mM rfl) rfl rfl ?_
          refine Dr.take 13 rfl (by kernel_rfl) bL sS (fun w hs => have hw := hs.h; Yl.move rfl) rfl rfl ?_
          refine Dr.act 14 rfl (by kernel_rfl) rfl (OpW.call en_147 rfl (tail_ct (A := A2) (c := c2) (t := text) mM (by omega))) rfl rfl (fun _ _ _ => sS) (fun ⟨A65, c65⟩ _ => ?_)
          dsimp only
          refine Dr.act 15 rfl (by kernel_rfl) rfl (OpW.call en_101 rfl (equal_ct mM mM)) rfl rfl (fun _ _ _ => sS) (fun x hx => ?_)
          refine Dr.take 16 rfl (by kernel_rfl) bL sS (fun w hs => have hw := hs.h; Yl.pickT rfl rfl) rfl rfl ?_
          refine Dr.take 17 rfl (by kernel_rfl) bL sS (fun w hs => have hw := hs.h; Yl.assign rfl) rfl rfl ?_
          refine Dr.done (by kernel_rfl) ?_
          refine J.sel (.cons 2 rfl (.cons 3 rfl (.cons 50 rfl .nil))) ?_
          refine X.then_ ?_
          refine T.condD rfl (fun h50 => ?_) (fun h50 => ?_)
          ·skip
           refine T.seq ?_
           -- region 12 (slot.go:86)
           refine T.region ?_
           refine T.y (fun w hw => Yl.move rfl) rfl rfl ?_
           refine T.y (fun w hw => Yl.move rfl) rfl rfl ?_
           refine T.y (fun w hw => Yl.assign rfl) rfl rfl ?_
           refine T.y (fun w hw => Yl.assign rfl) rfl rfl ?_
           refine T.nil ?_
           refine J.sel (.cons 2 rfl (.cons 3 rfl .nil)) ?_
           refine X.then_ ?_
           refine T.ret ?_
           refine X.ret_blk ?_
           refine X.ret_blk ?_
           refine X.ret_then ?_
           refine X.ret_then ?_
           refine X.ret_blk ?_
           refine X.ret_then ?_
           refine X.ret_sc ?_
           refine X.ret2 Try.results126 rfl rfl (fun w hw => ?_)
           rw [hsr, drop_cons hp, sreadG_end (by simpa using h20) (by rintro ⟨g1, g2⟩; first | omega | contradiction) (by rintro (g | g) <;> first | omega | contradiction) (by assumption) (by refine ⟨?_, ?_, ?_⟩ <;> first | assumption | omega)]
           exact ⟨(A2, c2), trivial, rfl, hw.f⟩
          ·skip
           refine T.exit ?_
           refine X.exit_blk_ne rfl ?_
           refine X.exit_blk_ne rfl ?_
           refine X.exit_then ?_
           refine X.exit_then ?_
           refine X.exit_blk ?_
           refine X.then_ ?_
           refine T.seq ?_
           -- region 14 (slot.go:91)
           refine T.region ?_
           refine T.y (fun w hw => Yl.assign rfl) rfl rfl ?_
           refine T.y (fun w hw => Yl.assign rfl) rfl rfl ?_
           refine T.nil ?_
           refine J.sel (.cons 2 rfl (.cons 3 rfl .nil)) ?_
           refine X.then_ ?_
           refine T.ret ?_
           refine X.ret_sc ?_
           refine X.ret2 Try.results126 rfl rfl (fun w hw => ?_)
           first
             | (rw [hsr, List.drop_eq_nil_of_le (by omega), sreadG]; exact ⟨(none, 0), trivial, rfl, by have hw := hw.bytesK_nil; exact hw.f⟩; done)
             | (rw [hsr, drop_cons hp, sreadG_bad (by assumption)]; exact ⟨(none, 0), trivial, rfl, by have hw := hw.bytesK_nil; exact hw.f⟩; done)
             | (rw [hsr, drop_cons hp, sreadG_out (by rintro ⟨g1, g2⟩; first | omega | contradiction) (by first | (left; omega) | (right; assumption))]; exact ⟨(none, 0), trivial, rfl, by have hw := hw.bytesK_nil; exact hw.f⟩; done)
             | (rw [hsr, drop_cons hp, sreadG_no (by rintro ⟨g1, g2⟩; first | omega | contradiction) (by assumption) (by rintro ⟨g1, g2, g3⟩; first | omega | contradiction)]; exact ⟨(none, 0), trivial, rfl, by have hw := hw.bytesK_nil; exact hw.f⟩; done)
         ·skip
          refine Dr.off 11 rfl (by kernel_rfl) bL sS rfl rfl ?_
          refine Dr.off 12 rfl (by kernel_rfl) bL sS rfl rfl ?_
          refine Dr.off 13 rfl (by kernel_rfl) bL sS rfl rfl ?_
          refine Dr.off 14 rfl (by kernel_rfl) bL sS rfl rfl ?_
          refine Dr.off 15 rfl (by kernel_rfl) bL sS rfl rfl ?_
          refine Dr.take 16 rfl (by kernel_rfl) bL sS (fun w hs => have hw := hs.h; Yl.pickF rfl rfl) rfl rfl ?_
          refine Dr.take 17 rfl (by kernel_rfl) bL sS (fun w hs => have hw := hs.h; Yl.assign rfl) rfl rfl ?_
          refine Dr.done (by kernel_rfl) ?_
          refine J.sel (.cons 2 rfl (.cons 3 rfl (.cons 50 rfl .nil))) ?_
          refine X.then_ ?_
          refine T.condF rfl ?_
          refine T.exit ?_
          refine X.exit_blk_ne rfl ?_
          refine X.exit_blk_ne rfl ?_
          refine X.exit_then ?_
          refine X.exit_then ?_
          refine X.exit_blk ?_
          refine X.then_ ?_
          refine T.seq ?_
          -- region 14 (slot.go:91)
          refine T.region ?_
          refine T.y (fun w hw => Yl.assign rfl) rfl rfl ?_
          refine T.y (fun w hw => Yl.assign rfl) rfl rfl ?_
          refine T.nil ?_
          refine J.sel (.cons 2 rfl (.cons 3 rfl .nil)) ?_
          refine X.then_ ?_
          refine T.ret ?_
          refine X.ret_sc ?_
          refine X.ret2 Try.results126 rfl rfl (fun w hw => ?_)
          first
            | (rw [hsr, List.drop_eq_nil_of_le (by omega), sreadG]; exact ⟨(none, 0), trivial, rfl, by have hw := hw.bytesK_nil; exact hw.f⟩; done)
            | (rw [hsr, drop_cons hp, sreadG_bad (by assumption)]; exact ⟨(none, 0), trivial, rfl, by have hw := hw.bytesK_nil; exact hw.f⟩; done)
            | (rw [hsr, drop_cons hp, sreadG_out (by rintro ⟨g1, g2⟩; first | omega | contradiction) (by first | (left; omega) | (right; assumption))]; exact ⟨(none, 0), trivial, rfl, by have hw := hw.bytesK_nil; exact hw.f⟩; done)
            | (rw [hsr, drop_cons hp, sreadG_no (by rintro ⟨g1, g2⟩; first | omega | contradiction) (by assumption) (by rintro ⟨g1, g2, g3⟩; first | omega | contradiction)]; exact ⟨(none, 0), trivial, rfl, by have hw := hw.bytesK_nil; exact hw.f⟩; done)
        ·skip
         refine Dr.off 4 rfl (by kernel_rfl) bL sS rfl rfl ?_
         refine Dr.off 5 rfl (by kernel_rfl) bL sS rfl rfl ?_
         refine Dr.off 6 rfl (by kernel_rfl) bL sS rfl rfl ?_
         refine Dr.off 7 rfl (by kernel_rfl) bL sS rfl rfl ?_
         refine Dr.off 8 rfl (by kernel_rfl) bL sS rfl rfl ?_
         refine Dr.take 9 rfl (by kernel_rfl) bL sS (fun w hs => have hw := hs.h; Yl.pickF rfl rfl) rfl rfl ?_
         refine Dr.take 10 rfl (by kernel_rfl) bL sS (fun w hs => have hw := hs.h; Yl.move rfl) rfl rfl ?_
         refine Dr.off 11 rfl (by kernel_rfl) bL sS rfl rfl ?_
         refine Dr.off 12 rfl (by kernel_rfl) bL sS rfl rfl ?_
         refine Dr.off 13 rfl (by kernel_rfl) bL sS rfl rfl ?_
         refine Dr.off 14 rfl (by kernel_rfl) bL sS rfl rfl ?_
         refine Dr.off 15 rfl (by kernel_rfl) bL sS rfl rfl ?_
         refine Dr.take 16 rfl (by kernel_rfl) bL sS (fun w hs => have hw := hs.h; Yl.pickF rfl rfl) rfl rfl ?_
         refine Dr.take 17 rfl (by kernel_rfl) bL sS (fun w hs => have hw := hs.h; Yl.assign rfl) rfl rfl ?_
         refine Dr.done (by kernel_rfl) ?_
         refine J.sel (.cons 2 rfl (.cons 3 rfl (.cons 50 rfl .nil))) ?_
         refine X.then_ ?_
         refine T.condF rfl ?_
         refine T.exit ?_
         refine X.exit_blk_ne rfl ?_
         refine X.exit_blk_ne rfl ?_
         refine X.exit_then ?_
         refine X.exit_then ?_
         refine X.exit_blk ?_
         refine X.then_ ?_
         refine T.seq ?_
         -- region 14 (slot.go:91)
         refine T.region ?_
         refine T.y (fun w hw => Yl.assign rfl) rfl rfl ?_
         refine T.y (fun w hw => Yl.assign rfl) rfl rfl ?_
         refine T.nil ?_
         refine J.sel (.cons 2 rfl (.cons 3 rfl .nil)) ?_
         refine X.then_ ?_
         refine T.ret ?_
         refine X.ret_sc ?_
         refine X.ret2 Try.results126 rfl rfl (fun w hw => ?_)
         first
           | (rw [hsr, List.drop_eq_nil_of_le (by omega), sreadG]; exact ⟨(none, 0), trivial, rfl, by have hw := hw.bytesK_nil; exact hw.f⟩; done)
           | (rw [hsr, drop_cons hp, sreadG_bad (by assumption)]; exact ⟨(none, 0), trivial, rfl, by have hw := hw.bytesK_nil; exact hw.f⟩; done)
           | (rw [hsr, drop_cons hp, sreadG_out (by rintro ⟨g1, g2⟩; first | omega | contradiction) (by first | (left; omega) | (right; assumption))]; exact ⟨(none, 0), trivial, rfl, by have hw := hw.bytesK_nil; exact hw.f⟩; done)
           | (rw [hsr, drop_cons hp, sreadG_no (by rintro ⟨g1, g2⟩; first | omega | contradiction) (by assumption) (by rintro ⟨g1, g2, g3⟩; first | omega | contradiction)]; exact ⟨(none, 0), trivial, rfl, by have hw := hw.bytesK_nil; exact hw.f⟩; done)
   ·skip
    refine T.off rfl rfl rfl ?_
    refine T.off rfl rfl rfl ?_
    refine T.off rfl rfl rfl ?_
    refine T.y (fun w hw => Yl.pickF rfl rfl) rfl rfl ?_
    refine T.y (fun w hw => Yl.assign rfl) rfl rfl ?_
    refine T.nil ?_
    refine J.sel (.cons 2 rfl (.cons 3 rfl (.cons 4 rfl (.cons 6 rfl (.cons 8 rfl (.cons 9 rfl (.cons 10 rfl (.cons 23 rfl .nil)))))))) ?_
    refine X.then_ ?_
    refine T.condF rfl ?_
    refine T.seq ?_
    -- region 8 (slot.go:81)
    refine T.region ?_
    refine T.y (fun w hw => Yl.move rfl) rfl rfl ?_
    refine T.y (fun w hw => Yl.eql rfl rfl) rfl rfl ?_
    refine T.y (fun w hw => Yl.move rfl) rfl rfl ?_
    refine T.splitD 36 rfl (fun h36 => ?_) (fun h36 => ?_)
    ·skip
     refine T.off rfl rfl rfl ?_
     refine T.off rfl rfl rfl ?_
     refine T.off rfl rfl rfl ?_
     refine T.off rfl rfl rfl ?_
     refine T.y (fun w hw => Yl.pickT rfl rfl) rfl rfl ?_
     refine T.y (fun w hw => Yl.assign rfl) rfl rfl ?_
     refine T.nil ?_
     refine J.sel (.cons 2 rfl (.cons 3 rfl (.cons 4 rfl (.cons 6 rfl (.cons 8 rfl (.cons 9 rfl (.cons 10 rfl (.cons 33 rfl .nil)))))))) ?_
     refine X.then_ ?_
     refine T.condT rfl ?_
     refine T.exit ?_
     refine X.exit_blk_ne rfl ?_
     refine X.exit_blk_ne rfl ?_
     refine X.exit_then ?_
     refine X.exit_then ?_
     refine X.exit_blk ?_
     refine X.then_ ?_
     refine T.seq ?_
     -- region 14 (slot.go:91)
     refine T.region ?_
     refine T.y (fun w hw => Yl.assign rfl) rfl rfl ?_
     refine T.y (fun w hw => Yl.assign rfl) rfl rfl ?_
     refine T.nil ?_
     refine J.sel (.cons 2 rfl (.cons 3 rfl .nil)) ?_
     refine X.then_ ?_
     refine T.ret ?_
     refine X.ret_sc ?_
     refine X.ret2 Try.results126 rfl rfl (fun w hw => ?_)
     first
       | (rw [hsr, List.drop_eq_nil_of_le (by omega), sreadG]; exact ⟨(none, 0), trivial, rfl, by have hw := hw.bytesK_nil; exact hw.f⟩; done)
       | (rw [hsr, drop_cons hp, sreadG_bad (by assumption)]; exact ⟨(none, 0), trivial, rfl, by have hw := hw.bytesK_nil; exact hw.f⟩; done)
       | (rw [hsr, drop_cons hp, sreadG_out (by rintro ⟨g1, g2⟩; first | omega | contradiction) (by first | (left; omega) | (right; assumption))]; exact ⟨(none, 0), trivial, rfl, by have hw := hw.bytesK_nil; exact hw.f⟩; done)
       | (rw [hsr, drop_cons hp, sreadG_no (by rintro ⟨g1, g2⟩; first | omega | contradiction) (by assumption) (by rintro ⟨g1, g2, g3⟩; first | omega | contradiction)]; exact ⟨(none, 0), trivial, rfl, by have hw := hw.bytesK_nil; exact hw.f⟩; done)
    ·skip
     refine T.y (fun w hw => Yl.fa fa_29_2 rfl) rfl rfl ?_
     refine T.y (fun w hw => Yl.ldP hw na_3 rfl mM rfl) rfl rfl ?_
     refine T.y (fun w hw => Yl.move rfl) rfl rfl ?_
     refine T.y (fun w hw => Yl.neq rfl rfl) rfl rfl ?_
     refine T.y (fun w hw => Yl.pickF rfl rfl) rfl rfl ?_
     refine T.y (fun w hw => Yl.assign rfl) rfl rfl ?_
     refine T.nil ?_
     refine J.sel (.cons 2 rfl (.cons 3 rfl (.cons 4 rfl (.cons 6 rfl (.cons 8 rfl (.cons 9 rfl (.cons 10 rfl (.cons 33 rfl .nil)))))))) ?_
     refine X.then_ ?_
     refine T.condD rfl (fun h33 => ?_) (fun h33 => ?_)
     ·skip
      refine T.exit ?_
      refine X.exit_blk_ne rfl ?_
      refine X.exit_blk_ne rfl ?_
      refine X.exit_then ?_
      refine X.exit_then ?_
      refine X.exit_blk ?_
      refine X.then_ ?_
      refine T.seq ?_
      -- region 14 (slot.go:91)
      refine T.region ?_
      refine T.y (fun w hw => Yl.assign rfl) rfl rfl ?_
      refine T.y (fun w hw => Yl.assign rfl) rfl rfl ?_
      refine T.nil ?_
      refine J.sel (.cons 2 rfl (.cons 3 rfl .nil)) ?_
      refine X.then_ ?_
      refine T.ret ?_
      refine X.ret_sc ?_
      refine X.ret2 Try.results126 rfl rfl (fun w hw => ?_)
      first
        | (rw [hsr, List.drop_eq_nil_of_le (by omega), sreadG]; exact ⟨(none, 0), trivial, rfl, by have hw := hw.bytesK_nil; exact hw.f⟩; done)
        | (rw [hsr, drop_cons hp, sreadG_bad (by assumption)]; exact ⟨(none, 0), trivial, rfl, by have hw := hw.bytesK_nil; exact hw.f⟩; done)
        | (rw [hsr, drop_cons hp, sreadG_out (by rintro ⟨g1, g2⟩; first | omega | contradiction) (by first | (left; omega) | (right; assumption))]; exact ⟨(none, 0), trivial, rfl, by have hw := hw.bytesK_nil; exact hw.f⟩; done)
        | (rw [hsr, drop_cons hp, sreadG_no (by rintro ⟨g1, g2⟩; first | omega | contradiction) (by assumption) (by rintro ⟨g1, g2, g3⟩; first | omega | contradiction)]; exact ⟨(none, 0), trivial, rfl, by have hw := hw.bytesK_nil; exact hw.f⟩; done)
     ·skip
      refine T.seq ?_
      -- region 9 (slot.go:83)
      refine T.region ?_
      refine T.y (fun w hw => Yl.fa fa_29_0 rfl) rfl rfl ?_
      refine T.y (fun w hw => Yl.ldP hw na_3 rfl mM rfl) rfl rfl ?_
      refine T.y (fun w hw => Yl.eql rfl rfl) rfl rfl ?_
      refine T.y (fun w hw => Yl.assign rfl) rfl rfl ?_
      refine T.nil ?_
      refine J.sel (.cons 2 rfl (.cons 3 rfl (.cons 4 rfl (.cons 6 rfl (.cons 8 rfl (.cons 9 rfl (.cons 10 rfl (.cons 42 rfl .nil)))))))) ?_
      refine X.then_ ?_
      refine T.condD rfl (fun h42 => ?_) (fun h42 => ?_)
      ·skip
       -- region 10 (slot.go:84)
       refine T.region ?_
       refine T.y (fun w hw => Yl.move rfl) rfl rfl ?_
       refine T.y (fun w hw => Yl.fa fa_29_4 rfl) rfl rfl ?_
       refine T.y (fun w hw => Yl.ldP hw na_23 rfl mM rfl) rfl rfl ?_
       refine T.o (OpW.app (ys := nums .u8 (decB p).body) Try.underlying23 inf_5 rfl rfl rfl rfl pK (fun w hw => hw.bytes mM) (nums_one _ _) (by constructor <;> omega)) rfl rfl (fun ⟨A49, c49⟩ _ => ?_)
       dsimp only
       refine T.y (fun w hw => Yl.assign rfl) rfl rfl ?_
       refine T.nil ?_
       refine J.sel (.cons 2 rfl (.cons 3 rfl (.cons 8 rfl (.cons 9 rfl (.cons 10 rfl .nil))))) ?_
       refine X.nm_blk ?_
       refine X.nm_blk ?_
       refine X.then_ ?_
       -- region 13 (slot.go:74)
       refine T.region ?_
       refine T.y (fun w hw => Yl.add rfl rfl (by omega)) rfl rfl ?_
       refine T.y (fun w hw => Yl.move rfl) rfl rfl ?_
       refine T.nil ?_
       refine J.sel (.cons 2 rfl (.cons 3 rfl (.cons 8 rfl (.cons 9 rfl (.cons 10 rfl .nil))))) ?_
       first
         | (refine X.go (hz2 (i + 1, (decB p).seq, A2, c2, text) ⟨by dsimp only; omega, by dsimp only; rw [hsr, drop_cons hp, sreadG_head (by simpa using h20) ⟨by omega, by assumption⟩], by dsimp only; omega, htB⟩ (by dsimp only; omega)) (.eqv 2 rfl (by first | rfl | rw [List.length_append]) (.cons 3 rfl (.num 10 rfl (by omega) (.cons 8 rfl (.cons 9 rfl .nil))))) (fun w hw => ?_)
            exact hw.f)
         | (refine X.go (hz2 (i + 1, n, A49, c49, text ++ (decB p).body) ⟨by dsimp only; omega, ?_, by dsimp only; rw [List.length_append]; omega, htB.append hbB⟩ (by dsimp only; omega)) (.eqv 2 rfl (by first | rfl | rw [List.length_append]) (.cons 3 rfl (.num 10 rfl (by omega) (.cons 8 rfl (.cons 9 rfl .nil))))) (fun w hw => ?_)
            · dsimp only
              rw [hsr, drop_cons hp, sreadG_data (by simpa using h20) (by rintro ⟨g1, g2⟩; first | omega | contradiction) (by rintro (g | g) <;> first | omega | contradiction) (by assumption)]
            · dsimp only; rw [← nums_app, List.length_append]; exact hw.f)
      ·skip
       refine T.seq ?_
       refine J.ent (fun w hw => Hold.row_bytes (A := A2) (c := c2) (xs := text) (hw.pick pK) htB) ?_
       -- region 11 (slot.go:85)
       refine Dr.start0 [] ?_
       refine Dr.take 0 rfl (by kernel_rfl) bL sS (fun w hs => have hw := hs.h; Yl.fa fa_29_0 rfl) rfl rfl ?_
       refine Dr.take 1 rfl (by kernel_rfl) bL sS (fun w hs => have hw := hs.h; Yl.ldP hw na_3 rfl mM rfl) rfl rfl ?_
       refine Dr.take 2 rfl (by kernel_rfl) bL sS (fun w hs => have hw := hs.h; Yl.eql rfl rfl) rfl rfl ?_
       refine Dr.take 3 rfl (by kernel_rfl) bL sS (fun w hs => have hw := hs.h; Yl.move rfl) rfl rfl ?_
       refine T.splitD 54 rfl (fun h54 => ?_) (fun h54 => ?_)
       ·skip
        refine Dr.take 4 rfl (by kernel_rfl) bL sS (fun w hs => have hw := hs.h; Yl.fa fa_29_3 rfl) rfl rfl ?_
        refine Dr.take 5 rfl (by kernel_rfl) bL sS (fun w hs => have hw := hs.h; Yl.ldP hw na_3 rfl mM rfl) rfl rfl ?_
        refine Dr.take 6 rfl (by kernel_rfl) bL sS (fun w hs => have hw := hs.h; Yl.move rfl) rfl rfl ?_
        refine Dr.take 7 rfl (by kernel_rfl) bL sS (fun w hs => have hw := hs.h; Yl.sub rfl rfl (by omega)) rfl rfl ?_
        refine Dr.take 8 rfl (by kernel_rfl) bL sS (fun w hs => have hw := hs.h; Yl.eql rfl rfl) rfl rfl ?_
        refine Dr.take 9 rfl (by kernel_rfl) bL sS (fun w hs => have hw := hs.h; Yl.pickT rfl rfl) rfl rfl ?_
        refine Dr.take 10 rfl (by kernel_rfl) bL sS (fun w hs => have hw := hs.h; Yl.move rfl) rfl rfl ?_
        refine T.splitD 61 rfl (fun h61 => ?_) (fun h61 => ?_)
        ·skip
         refine Dr.take 11 rfl (by kernel_rfl) bL sS (fun w hs => have hw := hs.h; Yl.fa fa_29_4 rfl) rfl rfl ?_
         refine Dr.take 12 rfl (by kernel_rfl) bL sS (fun w hs => have hw := hs.h; Yl.ldP hw na_23 rfl mM rfl) rfl rfl ?_
         refine Dr.take 13 rfl (by kernel_rfl) bL sS (fun w hs => have hw := hs.h; Yl.move rfl) rfl rfl ?_
         refine Dr.act 14 rfl (by kernel_rfl) rfl (OpW.call en_147 rfl (tail_ct (A := A2) (c := c2) (t := text) mM (by omega))) rfl rfl (fun _ _ _ => sS) (fun ⟨A65, c65⟩ _ => ?_)
         dsimp only
         refine Dr.act 15 rfl (by kernel_rfl) rfl (OpW.call en_101 rfl (equal_ct mM mM)) rfl rfl (fun _ _ _ => sS) (fun x hx => ?_)
         refine Dr.take 16 rfl (by kernel_rfl) bL sS (fun w hs => have hw := hs.h; Yl.pickT rfl rfl) rfl rfl ?_
         refine Dr.take 17 rfl (by kernel_rfl) bL sS (fun w hs => have hw := hs.h; Yl.assign rfl) rfl rfl ?_
         refine Dr.done (by kernel_rfl) ?_
         refine J.sel (.cons 2 rfl (.cons 3 rfl (.cons 50 rfl .nil))) ?_
         refine X.then_ ?_
         refine T.condD rfl (fun h50 => ?_) (fun h50 => ?_)
         ·skip
          refine T.seq ?_
          -- region 12 (slot.go:86)
          refine T.region ?_
          refine T.y (fun w hw => Yl.move rfl) rfl rfl ?_
          refine T.y (fun w hw => Yl.move rfl) rfl rfl ?_
          refine T.y (fun w hw => Yl.assign rfl) rfl rfl ?_
          refine T.y (fun w hw => Yl.assign rfl) rfl rfl ?_
          refine T.nil ?_
          refine J.sel (.cons 2 rfl (.cons 3 rfl .nil)) ?_
          refine X.then_ ?_
          refine T.ret ?_
          refine X.ret_blk ?_
          refine X.ret_blk ?_
          refine X.ret_then ?_
          refine X.ret_then ?_
          refine X.ret_blk ?_
          refine X.ret_then ?_
          refine X.ret_sc ?_
          refine X.ret2 Try.results126 rfl rfl (fun w hw => ?_)
          rw [hsr, drop_cons hp, sreadG_end (by simpa using h20) (by rintro ⟨g1, g2⟩; first | omega | contradiction) (by rintro (g | g) <;> first | omega | contradiction) (by assumption) (by refine ⟨?_, ?_, ?_⟩ <;> first | assumption | omega)]
          exact ⟨(A2, c2), trivial, rfl, hw.f⟩
         ·skip
          refine T.exit ?_
          refine X.exit_blk_ne rfl ?_
          refine X.exit_blk_ne rfl ?_
          refine X.exit_then ?_
          refine X.exit_then ?_
          refine X.exit_blk ?_
          refine X.then_ ?_
          refine T.seq ?_
          -- region 14 (slot.go:91)
          refine T.region ?_
          refine T.y (fun w hw => Yl.assign rfl) rfl rfl ?_
          refine T.y (fun w hw => Yl.assign rfl) rfl rfl ?_
          refine T.nil ?_
          refine J.sel (.cons 2 rfl (.cons 3 rfl .nil)) ?_
          refine X.then_ ?_
          refine T.ret ?_
          refine X.ret_sc ?_
          refine X.ret2 Try.results126 rfl rfl (fun w hw => ?_)
          first
            | (rw [hsr, List.drop_eq_nil_of_le (by omega), sreadG]; exact ⟨(none, 0), trivial, rfl, by have hw := hw.bytesK_nil; exact hw.f⟩; done)
            | (rw [hsr, drop_cons hp, sreadG_bad (by assumption)]; exact ⟨(none, 0), trivial, rfl, by have hw := hw.bytesK_nil; exact hw.f⟩; done)
            | (rw [hsr, drop_cons hp, sreadG_out (by rintro ⟨g1, g2⟩; first | omega | contradiction) (by first | (left; omega) | (right; assumption))]; exact ⟨(none, 0), trivial, rfl, by have hw := hw.bytesK_nil; exact hw.f⟩; done)
            | (rw [hsr, drop_cons hp, sreadG_no (by rintro ⟨g1, g2⟩; first | omega | contradiction) (by assumption) (by rintro ⟨g1, g2, g3⟩; first | omega | contradiction)]; exact ⟨(none, 0), trivial, rfl, by have hw := hw.bytesK_nil; exact hw.f⟩; done)
        ·skip
         refine Dr.off 11 rfl (by kernel_rfl) bL sS rfl rfl ?_
         refine Dr.off 12 rfl (by kernel_rfl) bL sS rfl rfl ?_
         refine Dr.off 13 rfl (by kernel_rfl) bL sS rfl rfl ?_
         refine Dr.off 14 rfl (by kernel_rfl) bL sS rfl rfl ?_
         refine Dr.off 15 rfl (by kernel_rfl) bL sS rfl rfl ?_
         refine Dr.take 16 rfl (by kernel_rfl) bL sS (fun w hs => have hw := hs.h; Yl.pickF rfl rfl) rfl rfl ?_
         refine Dr.take 17 rfl (by kernel_rfl) bL sS (fun w hs => have hw := hs.h; Yl.assign rfl) rfl rfl ?_
         refine Dr.done (by kernel_rfl) ?_
         refine J.sel (.cons 2 rfl (.cons 3 rfl (.cons 50 rfl .nil))) ?_
         refine X.then_ ?_
         refine T.condF rfl ?_
         refine T.exit ?_
         refine X.exit_blk_ne rfl ?_
         refine X.exit_blk_ne rfl ?_
         refine X.exit_then ?_
         refine X.exit_then ?_
         refine X.exit_blk ?_
         refine X.then_ ?_
         refine T.seq ?_
         -- region 14 (slot.go:91)
         refine T.region ?_
         refine T.y (fun w hw => Yl.assign rfl) rfl rfl ?_
         refine T.y (fun w hw => Yl.assign rfl) rfl rfl ?_
         refine T.nil ?_
         refine J.sel (.cons 2 rfl (.cons 3 rfl .nil)) ?_
         refine X.then_ ?_
         refine T.ret ?_
         refine X.ret_sc ?_
         refine X.ret2 Try.results126 rfl rfl (fun w hw => ?_)
         first
           | (rw [hsr, List.drop_eq_nil_of_le (by omega), sreadG]; exact ⟨(none, 0), trivial, rfl, by have hw := hw.bytesK_nil; exact hw.f⟩; done)
           | (rw [hsr, drop_cons hp, sreadG_bad (by assumption)]; exact ⟨(none, 0), trivial, rfl, by have hw := hw.bytesK_nil; exact hw.f⟩; done)
           | (rw [hsr, drop_cons hp, sreadG_out (by rintro ⟨g1, g2⟩; first | omega | contradiction) (by first | (left; omega) | (right; assumption))]; exact ⟨(none, 0), trivial, rfl, by have hw := hw.bytesK_nil; exact hw.f⟩; done)
           | (rw [hsr, drop_cons hp, sreadG_no (by rintro ⟨g1, g2⟩; first | omega | contradiction) (by assumption) (by rintro ⟨g1, g2, g3⟩; first | omega | contradiction)]; exact ⟨(none, 0), trivial, rfl, by have hw := hw.bytesK_nil; exact hw.f⟩; done)
       ·skip
        refine Dr.off 4 rfl (by kernel_rfl) bL sS rfl rfl ?_
        refine Dr.off 5 rfl (by kernel_rfl) bL sS rfl rfl ?_
        refine Dr.off 6 rfl (by kernel_rfl) bL sS rfl rfl ?_
        refine Dr.off 7 rfl (by kernel_rfl) bL sS rfl rfl ?_
        refine Dr.off 8 rfl (by kernel_rfl) bL sS rfl rfl ?_
        refine Dr.take 9 rfl (by kernel_rfl) bL sS (fun w hs => have hw := hs.h; Yl.pickF rfl rfl) rfl rfl ?_
        refine Dr.take 10 rfl (by kernel_rfl) bL sS (fun w hs => have hw := hs.h; Yl.move rfl) rfl rfl ?_
        refine Dr.off 11 rfl (by kernel_rfl) bL sS rfl rfl ?_
        refine Dr.off 12 rfl (by kernel_rfl) bL sS rfl rfl ?_
        refine Dr.off 13 rfl (by kernel_rfl) bL sS rfl rfl ?_
        refine Dr.off 14 rfl (by kernel_rfl) bL sS rfl rfl ?_
        refine Dr.off 15 rfl (by kernel_rfl) bL sS rfl rfl ?_
        refine Dr.take 16 rfl (by kernel_rfl) bL sS (fun w hs => have hw := hs.h; Yl.pickF rfl rfl) rfl rfl ?_
        refine Dr.take 17 rfl (by kernel_rfl) bL sS (fun w hs => have hw := hs.h; Yl.assign rfl) rfl rfl ?_
        refine Dr.done (by kernel_rfl) ?_
        refine J.sel (.cons 2 rfl (.cons 3 rfl (.cons 50 rfl .nil))) ?_
        refine X.then_ ?_
        refine T.condF rfl ?_
        refine T.exit ?_
        refine X.exit_blk_ne rfl ?_
        refine X.exit_blk_ne rfl ?_
        refine X.exit_then ?_
        refine X.exit_then ?_
        refine X.exit_blk ?_
        refine X.then_ ?_
        refine T.seq ?_
        -- region 14 (slot.go:91)
        refine T.region ?_
        refine T.y (fun w hw => Yl.assign rfl) rfl rfl ?_
        refine T.y (fun w hw => Yl.assign rfl) rfl rfl ?_
        refine T.nil ?_
        refine J.sel (.cons 2 rfl (.cons 3 rfl .nil)) ?_
        refine X.then_ ?_
        refine T.ret ?_
        refine X.ret_sc ?_
        refine X.ret2 Try.results126 rfl rfl (fun w hw => ?_)
        first
          | (rw [hsr, List.drop_eq_nil_of_le (by omega), sreadG]; exact ⟨(none, 0), trivial, rfl, by have hw := hw.bytesK_nil; exact hw.f⟩; done)
          | (rw [hsr, drop_cons hp, sreadG_bad (by assumption)]; exact ⟨(none, 0), trivial, rfl, by have hw := hw.bytesK_nil; exact hw.f⟩; done)
          | (rw [hsr, drop_cons hp, sreadG_out (by rintro ⟨g1, g2⟩; first | omega | contradiction) (by first | (left; omega) | (right; assumption))]; exact ⟨(none, 0), trivial, rfl, by have hw := hw.bytesK_nil; exact hw.f⟩; done)
          | (rw [hsr, drop_cons hp, sreadG_no (by rintro ⟨g1, g2⟩; first | omega | contradiction) (by assumption) (by rintro ⟨g1, g2, g3⟩; first | omega | contradiction)]; exact ⟨(none, 0), trivial, rfl, by have hw := hw.bytesK_nil; exact hw.f⟩; done)
 ·skip
  refine T.exit ?_
  refine X.exit_then ?_
  refine X.exit_then ?_
  refine X.exit_blk ?_
  refine X.then_ ?_
  refine T.seq ?_
  -- region 14 (slot.go:91)
  refine T.region ?_
  refine T.y (fun w hw => Yl.assign rfl) rfl rfl ?_
  refine T.y (fun w hw => Yl.assign rfl) rfl rfl ?_
  refine T.nil ?_
  refine J.sel (.cons 2 rfl (.cons 3 rfl .nil)) ?_
  refine X.then_ ?_
  refine T.ret ?_
  refine X.ret_sc ?_
  refine X.ret2 Try.results126 rfl rfl (fun w hw => ?_)
  first
    | (rw [hsr, List.drop_eq_nil_of_le (by omega), sreadG]; exact ⟨(none, 0), trivial, rfl, by have hw := hw.bytesK_nil; exact hw.f⟩; done)
    | (rw [hsr, drop_cons hp, sreadG_bad (by assumption)]; exact ⟨(none, 0), trivial, rfl, by have hw := hw.bytesK_nil; exact hw.f⟩; done)
    | (rw [hsr, drop_cons hp, sreadG_out (by rintro ⟨g1, g2⟩; first | omega | contradiction) (by first | (left; omega) | (right; assumption))]; exact ⟨(none, 0), trivial, rfl, by have hw := hw.bytesK_nil; exact hw.f⟩; done)
    | (rw [hsr, drop_cons hp, sreadG_no (by rintro ⟨g1, g2⟩; first | omega | contradiction) (by assumption) (by rintro ⟨g1, g2, g3⟩; first | omega | contradiction)]; exact ⟨(none, 0), trivial, rfl, by have hw := hw.bytesK_nil; exact hw.f⟩; done)

end Go.Proofs.Ytfpnodboebpemaa
