/- The reference's Fitting, and of what type the block of its answer is (printed by gen_tag.py). -/
import Derived.Test.YtjdgkmcmgagkgaaGreatRdFittR
import Derived.Test.YtjdgkmcmgagkgaaGreatRdTag
namespace Go.Proofs.YtjdgkmcmgagkgaaGreat
set_option maxRecDepth 100000
set_option maxHeartbeats 2000000
open Go.RowKit
set_option linter.unusedVariables false
set_option linter.unusedSimpArgs false
def SpG (w : World) (v : Value) (L : List Spn) : Prop := SpnL w v L ∧ TagAt 120 w v
theorem SpG.le {w W : World} {v : Value} {L : List Spn} (h : SpG w v L) (hb : Below w.heap.size w W) : SpG W v L := ⟨h.1.le hb, h.2.le hb⟩
theorem SpG.nil (w : World) : SpG w (.slice none 0 0) [] := ⟨SV.nil _, fun a n c e => by cases e⟩
theorem SpG.slice {w : World} {v : Value} {L : List Spn} (h : SpG w v L) : ∃ A c, v = .slice A L.length c ∧ L.length ≤ maxLen := SV.slice h.1
theorem pf_r9_joinedT (v : Value) (l : List Spn) (x0 : Spn) (w : World) (hg : SpG w v l) (hn : Nm l) (hb : SpB l) (hx : SpB [x0]) (hlen : l.length ≤ 100000) :
  Calls Tryz.prog 84 #[v, .agg #[.int .i64 x0.1, .int .i64 x0.2]] w fun e w' => ∃ v', e = .returned v' ∧ Below w.heap.size w w' ∧ SpG w' v' (joinedL l x0) := by
 have hv := hg.1
 have ht := hg.2
 clear hg
 obtain ⟨A, c, rfl, -⟩ := hv.slice
 obtain ⟨a0, a1⟩ := x0
 obtain ⟨W0, hW0, hb0, k0⟩ := newb w (.cells #[.int .i64 a0, .int .i64 a1] 120)
 obtain ⟨c0, c1⟩ := pc2 k0
 by_cases hlt : a1 < a0
 ·have hres : joinedL l (a0, a1) = l := by unfold joinedL; exact if_pos hlt
  have hv0 : SpG W0 (.slice A l.length c) l := ⟨hv.le hb0, ht.le hb0⟩
  have ⟨hv', ht', hb0', k0', hn', hb', hx', hres'⟩ := hyd8 hv ht hb0 k0 hn hb hx hres
  have hv0' := hyd1 hv0
  clear hv0 hres hx hb hn k0 hb0 ht hv
  go_enter Tryz.func84, Tryz.ntmps84
  go_wp2
  go_ret
  exact ⟨_, rfl, hb0'.out, by rw [hres'.out]; exact hv0'.out⟩
 ·have hres : joinedL l (a0, a1) = joinGo l (a0, a1) false [] := by unfold joinedL; rw [if_neg hlt, joinGo_eq hn (by show a0 ≤ a1; omega)]; rfl
  have hI0 : JoI w l (a0, a1) 0 (.slice none 0 0) false W0 := ⟨a0, a1, [], ⟨hb0, k0, World.ownsRow_nil _ _ _ _⟩, rfl, (hx _ List.mem_cons_self).1, (hx _ List.mem_cons_self).2, by simp⟩
  clear ht
  have ⟨hv', hb0', k0', hn', hb', hx', hres', hI0'⟩ := hyd8 hv hb0 k0 hn hb hx hres hI0
  clear hI0 hres hx hb hn k0 hb0 hv
  go_enter Tryz.func84, Tryz.ntmps84
  go_wp2
  clear hW0
  go_loopw [7, 5, 6] (fun ix vo dn wr => ∃ (i : Nat) (done : Bool), i ≤ l.length ∧ ix = .int .i64 i ∧ dn = .bool done ∧ Hid (JoI w l (a0, a1) i vo done wr)) (fun ix _ _ _ => l.length - (intOf ix).toNat)
  case atStart => exact ⟨0, false, Nat.zero_le _, rfl, rfl, hI0'⟩
  case round =>
   obtain ⟨i, done, hi, rfl, rfl, hI⟩ := hrel
   obtain ⟨x1, x2, out, hJ, hgo, ⟨xb1, xb2⟩, ⟨xb3, xb4⟩, hol⟩ := hI.out
   obtain ⟨AO, cO, rfl⟩ := slice_formR hJ.own
   by_cases hlt2 : i < l.length
   ·obtain ⟨b, off, c2, heq, hblw, -, -⟩ := SpnL.cells hv'.out hlt2
    injection heq with e1 e2 e3
    subst e1 e3
    clear e2
    obtain ⟨b', off', c2, heq, hbl, g0, g1⟩ := SpnL.cells (hv'.out.le hJ.le) hlt2
    injection heq with e1 e2 e3
    injection e1 with e1
    injection e1 with e1 e4
    subst e1 e3 e4
    clear e2
    have hvw := hv'.out.le hJ.le
    obtain ⟨x0c, x1c⟩ := pc2 hJ.kx
    have hsb := hb'.out _ (List.getElem_mem hlt2)
    have hstep := joinGo_drop hlt2 (x1, x2) done out
    rw [hgo] at hstep
    obtain ⟨⟨s1, s2⟩, hs⟩ : ∃ s, l[i] = s := ⟨_, rfl⟩
    rw [hs] at g0 g1 hsb hstep
    dsimp only at g0 g1 hsb hstep
    have j1 : (i : Int) < (l.length : Int) := by omega
    have j2 : (0 : Int) ≤ (i : Int) := by omega
    by_cases t1 : s2 + 1 < x1
    ·rw [if_pos t1] at hstep
     have ⟨hI', hJ', hgo', hvw', hstep', hs'⟩ := hyd6 hI hJ hgo hvw hstep hs
     clear hs hstep hvw hgo hJ hI
     go_wp2
     go_quiet (fail)
     have hJq := hJ'.out.later (below_drewN' (Below.refl _ _) nq)
     have hvq := hvw'.out.drew nq
     obtain ⟨b9, off9, c9, heq, hbl9, h0, h1⟩ := SpnL.cells hvq hlt2
     injection heq with e1 e2 e3
     injection e1 with e1
     injection e1 with e1 e4
     subst e1 e3 e4
     clear e2
     rw [hs'.out] at h0 h1
     dsimp only at h0 h1
     clear g0 g1 x0c x1c
     generalize hw4 : wr.drewN nq = w4 at hJq hvq h0 h1 hbl9 ⊢
     clear hw4
     have hJa := hJq
     have hsza := hJa.size
     obtain ⟨Wa, hWa, hbna, kna⟩ := newb w4 (.cells #[.int .i64 s1, .int .i64 s2] 120)
     obtain ⟨na0, na1⟩ := pc2 kna
     have hKa := hJa.later hbna
     have hoa := hKa.own
     have hza := hKa.size
     have ⟨hJa', hbna', kna', hKa', hoa'⟩ := hyd5 hJa hbna kna hKa hoa
     clear hoa hKa kna hbna hJa
     go_wp2_with (first | (at_builtin; go_must (refine wpList_appS _ rfl _ _ 117 rfl (w.heap.size + 1) 120 Tryz.underlying117 rangeInfo (.slice AO out.length cO) (out) rfl hoa'.out w4.heap.size (s1, s2) rfl na0 na1 (by omega) hza ?_)))
     intro va Va hra hba hwa
     obtain ⟨AOa, cOa, rfl⟩ := slice_formR hra
     have hN := hKa'.out.push (y := (s1, s2)) hra (by simp) (by simp) hba
     have ⟨hJq', hvq', hra', hba', hwa', hN'⟩ := hyd6 hJq hvq hra hba hwa hN
     clear hN hwa hba hra hvq hJq
     go_wp2
     go_roundw
     case rel => exact ⟨i + 1, done, by omega, by go_num, rfl, ⟨_, _, _, hN'.out, hstep'.out.symm, ⟨xb1, xb2⟩, ⟨xb3, xb4⟩, by simp; omega⟩⟩
     case measure => simp [intOf]; omega
    ·rw [if_neg t1] at hstep
     by_cases t2 : x2 + 1 < s1
     ·rw [if_pos t2] at hstep
      have ⟨hI', hJ', hgo', hvw', hstep', hs'⟩ := hyd6 hI hJ hgo hvw hstep hs
      clear hs hstep hvw hgo hJ hI
      go_wp2
      go_quiet (fail)
      have hJq := hJ'.out.later (below_drewN' (Below.refl _ _) nq)
      have hvq := hvw'.out.drew nq
      obtain ⟨bq, offq, cq, heq, hblq, hq0, hq1⟩ := SpnL.cells hvq hlt2
      injection heq with e1 e2 e3
      injection e1 with e1
      injection e1 with e1 e4
      subst e1 e3 e4
      clear e2
      rw [hs'.out] at hq0 hq1
      dsimp only at hq0 hq1
      obtain ⟨xq0, xq1⟩ := pc2 hJq.kx
      clear g0 g1 x0c x1c
      generalize hwq : wr.drewN nq = wq at hJq hvq hq0 hq1 hblq xq0 xq1 ⊢
      clear hwq
      have ⟨hJq', hvq'⟩ := hyd2 hJq hvq
      clear hvq hJq
      go_wp2
      go_quiet (fail)
      have hJr := hJq'.out.later (below_drewN' (Below.refl _ _) nq)
      have hvr := hvq'.out.drew nq
      obtain ⟨br, offr, cr, heq, hblr, hr0, hr1⟩ := SpnL.cells hvr hlt2
      injection heq with e1 e2 e3
      injection e1 with e1
      injection e1 with e1 e4
      subst e1 e3 e4
      clear e2
      rw [hs'.out] at hr0 hr1
      dsimp only at hr0 hr1
      obtain ⟨xr0, xr1⟩ := pc2 hJr.kx
      clear hq0 hq1 xq0 xq1
      generalize hwr : wq.drewN nq = wR at hJr hvr hr0 hr1 hblr xr0 xr1 ⊢
      clear hwr
      have ⟨hJr', hvr'⟩ := hyd2 hJr hvr
      clear hvr hJr
      cases done with
      | true =>
       have hJa := hJr'.out
       have hsza := hJa.size
       obtain ⟨Wa, hWa, hbna, kna⟩ := newb wR (.cells #[.int .i64 s1, .int .i64 s2] 120)
       obtain ⟨na0, na1⟩ := pc2 kna
       have hKa := hJa.later hbna
       have hoa := hKa.own
       have hza := hKa.size
       have ⟨hJa', hbna', kna', hKa', hoa'⟩ := hyd5 hJa hbna kna hKa hoa
       clear hoa hKa kna hbna hJa
       go_wp2_with (first | (at_builtin; go_must (refine wpList_appS _ rfl _ _ 117 rfl (w.heap.size + 1) 120 Tryz.underlying117 rangeInfo (.slice AO out.length cO) (out) rfl hoa'.out wR.heap.size (s1, s2) rfl na0 na1 (by omega) hza ?_)))
       intro va Va hra hba hwa
       obtain ⟨AOa, cOa, rfl⟩ := slice_formR hra
       have hN := hKa'.out.push (y := (s1, s2)) hra (by simp) (by simp) hba
       have ⟨hra', hba', hwa', hN'⟩ := hyd4 hra hba hwa hN
       clear hN hwa hba hra
       go_wp2
       go_roundw
       case rel => exact ⟨i + 1, true, by omega, by go_num, rfl, ⟨_, _, _, hN'.out, by rw [hstep'.out]; rfl, ⟨xb1, xb2⟩, ⟨xb3, xb4⟩, by simp; omega⟩⟩
       case measure => simp [intOf]; omega
      | false =>
       have hJa := hJr'.out
       have hsza := hJa.size
       obtain ⟨Wa, hWa, hbna, kna⟩ := newb wR (.cells #[.int .i64 x1, .int .i64 x2] 120)
       obtain ⟨na0, na1⟩ := pc2 kna
       have hKa := hJa.later hbna
       have hoa := hKa.own
       have hza := hKa.size
       have ⟨hJa', hbna', kna', hKa', hoa'⟩ := hyd5 hJa hbna kna hKa hoa
       clear hoa hKa kna hbna hJa
       go_wp2_with (first | (at_builtin; go_must (refine wpList_appS _ rfl _ _ 117 rfl (w.heap.size + 1) 120 Tryz.underlying117 rangeInfo (.slice AO out.length cO) (out) rfl hoa'.out wR.heap.size (x1, x2) rfl na0 na1 (by omega) hza ?_)))
       intro va Va hra hba hwa
       obtain ⟨AOa, cOa, rfl⟩ := slice_formR hra
       have hN := hKa'.out.push (y := (x1, x2)) hra (by simp) (by simp) hba
       obtain ⟨bA, offA, cA, heq, -, hA0, hA1⟩ := SpnL.cells (hv'.out.le hN.le) hlt2
       injection heq with e1 e2 e3
       injection e1 with e1
       injection e1 with e1 e4
       subst e1 e3 e4
       clear e2 hr0 hr1 xr0 xr1
       rw [hs'.out] at hA0 hA1
       dsimp only at hA0 hA1
       have ⟨hra', hba', hwa', hN'⟩ := hyd4 hra hba hwa hN
       clear hN hwa hba hra
       have hJb := hN'.out
       have hszb := hJb.size
       obtain ⟨Wb, hWb, hbnb, knb⟩ := newb Va (.cells #[.int .i64 s1, .int .i64 s2] 120)
       obtain ⟨nb0, nb1⟩ := pc2 knb
       have hKb := hJb.later hbnb
       have hob := hKb.own
       have hzb := hKb.size
       have ⟨hJb', hbnb', knb', hKb', hob'⟩ := hyd5 hJb hbnb knb hKb hob
       clear hob hKb knb hbnb hJb
       go_wp2_with (first | (at_builtin; go_must (refine wpList_appS _ rfl _ _ 117 rfl (w.heap.size + 1) 120 Tryz.underlying117 rangeInfo (.slice AOa (out.length + 1) cOa) (out ++ [(x1, x2)]) rfl hob'.out Va.heap.size (s1, s2) rfl nb0 nb1 (by simp; omega) hzb ?_)))
       intro vb Vb hrb hbb hwb
       obtain ⟨AOb, cOb, rfl⟩ := slice_formR hrb
       have hM := hKb'.out.push (y := (s1, s2)) hrb (by simp) (by simp) hbb
       have ⟨hrb', hbb', hwb', hM'⟩ := hyd4 hrb hbb hwb hM
       clear hM hwb hbb hrb
       go_wp2
       go_roundw
       case rel => exact ⟨i + 1, true, by omega, by go_num, rfl, ⟨_, _, _, hM'.out, by rw [hstep'.out]; rfl, ⟨xb1, xb2⟩, ⟨xb3, xb4⟩, by simp; omega⟩⟩
       case measure => simp [intOf]; omega
     ·rw [if_neg t2] at hstep
      have hb1 : min x1 s1 = if s1 < x1 then s1 else x1 := by omega
      have hb2 : max x2 s2 = if x2 < s2 then s2 else x2 := by omega
      rw [hb1, hb2] at hstep
      clear hb1 hb2
      obtain ⟨y1, hy1⟩ : ∃ y, (if s1 < x1 then s1 else x1) = y := ⟨_, rfl⟩
      obtain ⟨y2, hy2⟩ : ∃ y, (if x2 < s2 then s2 else x2) = y := ⟨_, rfl⟩
      rw [hy1, hy2] at hstep
      have hyb : (-2000000000000 ≤ y1 ∧ y1 ≤ 2000000000000) ∧ (-2000000000000 ≤ y2 ∧ y2 ≤ 2000000000000) := by rw [← hy1, ← hy2]; constructor <;> split <;> omega
      have hyb' := hyd1 hyb
      clear hyb
      have ⟨hI', hJ', hgo', hvw', hstep', hs'⟩ := hyd6 hI hJ hgo hvw hstep hs
      clear hs hstep hvw hgo hJ hI
      go_wp2
      go_quiet (fail)
      have hJq := hJ'.out.later (below_drewN' (Below.refl _ _) nq)
      have hvq := hvw'.out.drew nq
      obtain ⟨bq, offq, cq, heq, hblq, hq0, hq1⟩ := SpnL.cells hvq hlt2
      injection heq with e1 e2 e3
      injection e1 with e1
      injection e1 with e1 e4
      subst e1 e3 e4
      clear e2
      rw [hs'.out] at hq0 hq1
      dsimp only at hq0 hq1
      obtain ⟨xq0, xq1⟩ := pc2 hJq.kx
      clear g0 g1 x0c x1c
      generalize hwq : wr.drewN nq = wq at hJq hvq hq0 hq1 hblq xq0 xq1 ⊢
      clear hwq
      have ⟨hJq', hvq'⟩ := hyd2 hJq hvq
      clear hvq hJq
      go_wp2
      go_quiet (fail)
      have hJr := hJq'.out.later (below_drewN' (Below.refl _ _) nq)
      have hvr := hvq'.out.drew nq
      obtain ⟨br, offr, cr, heq, hblr, hr0, hr1⟩ := SpnL.cells hvr hlt2
      injection heq with e1 e2 e3
      injection e1 with e1
      injection e1 with e1 e4
      subst e1 e3 e4
      clear e2
      rw [hs'.out] at hr0 hr1
      dsimp only at hr0 hr1
      obtain ⟨xr0, xr1⟩ := pc2 hJr.kx
      clear hq0 hq1 xq0 xq1
      generalize hwr : wq.drewN nq = wR at hJr hvr hr0 hr1 hblr xr0 xr1 ⊢
      clear hwr
      have n1 : ¬ w.heap.size = b := by omega
      have fr0 := pfrz hJr.kx 0
      have fr1 := pfrz hJr.kx 1
      have ⟨hJr', hvr'⟩ := hyd2 hJr hvr
      clear hvr hJr
      go_wp2
      go_still_tail 9, (by kernel_rfl)
      change wpList _ _ _ _ _ wR.drew
      have hJs : JoX w (.slice AO out.length cO) x1 x2 out wR.drew := hJr'.out.later (below_drewN' (Below.refl _ _) 1)
      clear hr0 hr1 xr0 xr1 fr0 fr1
      generalize hws : wR.drew = wS at hJs ⊢
      clear hws
      obtain ⟨xs0, xs1⟩ := pc2 hJs.kx
      have fs0 := pfrz hJs.kx 0
      have hJt := hJs.put0 y1
      obtain ⟨wT, hwT⟩ : ∃ V, wS.setCell ⟨w.heap.size, 0, none⟩ (.int .i64 y1) = V := ⟨_, rfl⟩
      rw [hwT] at hJt
      obtain ⟨bT, offT, cT, heq, -, ht0, ht1⟩ := SpnL.cells (hv'.out.le hJt.le) hlt2
      injection heq with e1 e2 e3
      injection e1 with e1
      injection e1 with e1 e4
      subst e1 e3 e4
      clear e2
      rw [hs'.out] at ht0 ht1
      dsimp only at ht0 ht1
      obtain ⟨xt0, xt1⟩ := pc2 hJt.kx
      have ft1 := pfrz hJt.kx 1
      have ⟨hJs', hJt'⟩ := hyd2 hJs hJt
      clear hJt hJs
      go_wp2
      go_still_tail 9, (by kernel_rfl)
      change wpList _ _ _ _ _ wT.drew
      have hJu : JoX w (.slice AO out.length cO) y1 x2 out wT.drew := hJt'.out.later (below_drewN' (Below.refl _ _) 1)
      clear ht0 ht1 xt0 xt1 ft1 hwT
      generalize hwu : wT.drew = wU at hJu ⊢
      clear hwu
      have fu1 := pfrz hJu.kx 1
      obtain ⟨xu0, xu1⟩ := pc2 hJu.kx
      have hJv := hJu.put1 y2
      have ⟨hJu', hJv'⟩ := hyd2 hJu hJv
      clear hJv hJu
      go_wp2
      go_roundw
      case rel => exact ⟨i + 1, done, by omega, by go_num, rfl, ⟨_, _, _, hJv'.out, hstep'.out.symm, hyb'.out.1, hyb'.out.2, by omega⟩⟩
      case measure => simp [intOf]; omega
   ·obtain rfl : i = l.length := by omega
    rw [List.drop_length] at hgo
    obtain ⟨x0c, x1c⟩ := pc2 hJ.kx
    have hleE := hJ.le
    cases done with
    | true =>
     have hfin : joinedL l (a0, a1) = out := by rw [hres'.out, ← hgo]; rfl
     have hsv := And.intro (SV.of_own (k := 2) (enc := spnEnc) (fun _ => rfl) hJ.own) (TagAt.of_own hJ.own)
     have ⟨hI', hJ', hgo', hleE', hfin', hsv'⟩ := hyd6 hI hJ hgo hleE hfin hsv
     clear hsv hfin hleE hgo hJ hI
     go_wp2
     go_ret
     exact ⟨_, rfl, hleE'.out, by rw [hfin'.out]; exact hsv'.out⟩
    | false =>
     have hfin : joinedL l (a0, a1) = out ++ [(x1, x2)] := by rw [hres'.out, ← hgo]; rfl
     have ⟨hI', hgo', hleE', hfin', hJ'⟩ := hyd5 hI hgo hleE hfin hJ
     clear hJ hfin hleE hgo hI
     have hJa := hJ'.out
     have hsza := hJa.size
     obtain ⟨Wa, hWa, hbna, kna⟩ := newb wr (.cells #[.int .i64 x1, .int .i64 x2] 120)
     obtain ⟨na0, na1⟩ := pc2 kna
     have hKa := hJa.later hbna
     have hoa := hKa.own
     have hza := hKa.size
     have ⟨hJa', hbna', kna', hKa', hoa'⟩ := hyd5 hJa hbna kna hKa hoa
     clear hoa hKa kna hbna hJa
     go_wp2_with (first | (at_builtin; go_must (refine wpList_appS _ rfl _ _ 117 rfl (w.heap.size + 1) 120 Tryz.underlying117 rangeInfo (.slice AO out.length cO) (out) rfl hoa'.out wr.heap.size (x1, x2) rfl na0 na1 (by omega) hza ?_)))
     intro va Va hra hba hwa
     obtain ⟨AOa, cOa, rfl⟩ := slice_formR hra
     have hN := hKa'.out.push (y := (x1, x2)) hra (by simp) (by simp) hba
     have hsv := And.intro (SV.of_own (k := 2) (enc := spnEnc) (fun _ => rfl) hN.own) (TagAt.of_own hN.own)
     obtain ⟨A9, c9, hv9⟩ : ∃ A c, Value.slice AOa (out.length + 1) cOa = .slice A (out.length + 1) c := ⟨_, _, rfl⟩
     have ⟨hra', hba', hwa', hN', hsv'⟩ := hyd5 hra hba hwa hN hsv
     clear hsv hN hwa hba hra
     go_wp2
     go_ret
     exact ⟨_, rfl, hN'.out.le, by rw [hfin'.out]; exact hsv'.out⟩
theorem pf_r9_wholeT (w : World) : Calls Tryz.prog 83 #[] w fun e w' => ∃ v', e = .returned v' ∧ Below w.heap.size w w' ∧ SpG w' v' [(0, 10000)] := by
 obtain ⟨W0, hW0, hb0, k0⟩ := newb w (.cells #[.int .i64 0, .int .i64 10000] 120)
 have hs : SpnL W0 (.slice (some ⟨w.heap.size, 0, none⟩) 1 1) [(0, 10000)] := ⟨some ⟨w.heap.size, 0, none⟩, 1, rfl, Nat.le_refl _, by unfold maxLen; omega, fun h => (by cases h), fun _ => ⟨w.heap.size, 0, rfl, (gsl k0), fun j hj i u hu => by
  obtain rfl : j = 0 := by simpa using hj
  obtain ⟨c0, c1⟩ := pc2 k0
  have hi : i < 2 := (List.getElem?_eq_some_iff.1 hu).1
  match i, hi with
  | 0, _ => rw [c0]; exact hu
  | 1, _ => rw [c1]; exact hu⟩⟩
 have hs : SpG W0 _ _ := ⟨hs, fun a n c e => by injection e with e1; injection e1 with e1; subst e1; exact ⟨_, k0⟩⟩
 have ⟨hb0', k0', hs'⟩ := hyd3 hb0 k0 hs
 clear hs k0 hb0
 go_enter Tryz.func83, Tryz.ntmps83
 go_wp2
 go_ret
 exact ⟨_, rfl, hb0'.out, hs'.out⟩
theorem pf_r9_bothT (va vb : Value) (A B : List Spn) (w : World) (hva : SpnL w va A) (hvb : SpnL w vb B) (ha : SpB A) (hb : SpB B) (hla : A.length ≤ 400) (hlb : B.length ≤ 200) :
  Calls Tryz.prog 86 #[va, vb] w fun e w' => ∃ v', e = .returned v' ∧ Below w.heap.size w w' ∧ SpG w' v' (bothL A B) := by
 obtain ⟨A1, c1, rfl, -⟩ := hva.slice
 obtain ⟨A2, c2, rfl, -⟩ := hvb.slice
 have hI0 : Below w.heap.size w w ∧ SpG w (.slice none 0 0) ((pairsM A B 0 0).foldl joinedL []) := ⟨Below.refl _ _, by rw [pairsM_zero]; exact SpG.nil _⟩
 have ⟨hva', hvb', ha', hb', hI0'⟩ := hyd5 hva hvb ha hb hI0
 clear hI0 hb ha hvb hva
 go_enter Tryz.func86, Tryz.ntmps86
 go_wp2
 go_loopw [6, 5] (fun ix vo wr => ∃ i : Nat, i ≤ A.length ∧ ix = .int .i64 i ∧ Hid (Below w.heap.size w wr ∧ SpG wr vo ((pairsM A B i 0).foldl joinedL []))) (fun ix _ _ => A.length - (intOf ix).toNat)
 case atStart => exact ⟨0, Nat.zero_le _, rfl, hI0'⟩
 case round =>
  obtain ⟨i, hi, rfl, hI⟩ := hrel
  by_cases hlt : i < A.length
  ·obtain ⟨ba, oa, ca, heq, hbla, -, -⟩ := SpnL.cells hva'.out hlt
   injection heq with e1 e2 e3
   subst e1 e3
   clear e2
   have j1 : (i : Int) < (A.length : Int) := by omega
   have j2 : (0 : Int) ≤ (i : Int) := by omega
   go_wp2
   rename World => wo
   go_loopw [7, 5] (fun kx vo wr => ∃ k : Nat, k ≤ B.length ∧ kx = .int .i64 k ∧ Hid (Below w.heap.size w wr ∧ SpG wr vo ((pairsM A B i k).foldl joinedL []))) (fun kx _ _ => B.length - (intOf kx).toNat)
   case atStart => exact ⟨0, Nat.zero_le _, rfl, hI⟩
   case round =>
    obtain ⟨k, hk, rfl, hJ⟩ := hrel
    obtain ⟨hbw, ho⟩ := hJ.out
    by_cases hlt2 : k < B.length
    ·obtain ⟨bb, ob, cb, heq, hblb, -, -⟩ := SpnL.cells hvb'.out hlt2
     injection heq with e1 e2 e3
     subst e1 e3
     clear e2
     obtain ⟨b1, o1, x1, heq, -, g0, g1⟩ := SpnL.cells (hva'.out.le hbw) hlt
     injection heq with e1 e2 e3
     injection e1 with e1
     injection e1 with e1 e4
     subst e1 e3 e4
     clear e2
     obtain ⟨b1, o1, x1, heq, -, h0, h1⟩ := SpnL.cells (hvb'.out.le hbw) hlt2
     injection heq with e1 e2 e3
     injection e1 with e1
     injection e1 with e1 e4
     subst e1 e3 e4
     clear e2
     have j3 : (k : Int) < (B.length : Int) := by omega
     have j4 : (0 : Int) ≤ (k : Int) := by omega
     obtain ⟨AO, cO, rfl, -⟩ := ho.slice
     obtain ⟨f1, f2, f3⟩ := pairsM_facts (k := k) ha'.out hb'.out hla hlb hlt
     have hst := pairsM_step hlt hlt2
     have hsa := ha'.out _ (List.getElem_mem hlt)
     have hsb := hb'.out _ (List.getElem_mem hlt2)
     obtain ⟨⟨s1, s2⟩, hs⟩ : ∃ s, A[i] = s := ⟨_, rfl⟩
     obtain ⟨⟨t1, t2⟩, ht⟩ : ∃ s, B[k] = s := ⟨_, rfl⟩
     rw [hs] at g0 g1 hst hsa
     rw [ht] at h0 h1 hst hsb
     dsimp only at g0 g1 h0 h1 hst hsa hsb
     obtain ⟨LL, hLL⟩ : ∃ L, (pairsM A B i k).foldl joinedL [] = L := ⟨_, rfl⟩
     rw [hLL] at ho f1 f2 f3 hst
     rw [← ifmax, ← ifmin] at hst
     obtain ⟨y1, hy1⟩ : ∃ y, (if s1 < t1 then t1 else s1) = y := ⟨_, rfl⟩
     obtain ⟨y2, hy2⟩ : ∃ y, (if t2 < s2 then t2 else s2) = y := ⟨_, rfl⟩
     rw [hy1, hy2] at hst
     have hyb : SpB [(y1, y2)] := fun s hs => by
      rw [List.mem_singleton] at hs
      rw [hs, ← hy1, ← hy2]
      constructor <;> (simp only; split <;> omega)
     have hcj : ∀ W, Below wr.heap.size wr W → Calls Tryz.prog 84 #[.slice AO ((pairsM A B i k).foldl joinedL []).length cO, .agg #[.int .i64 y1, .int .i64 y2]] W fun e w' => ∃ v', e = .returned v' ∧ Below W.heap.size W w' ∧ SpG w' v' (joinedL LL (y1, y2)) := by rw [hLL]; exact fun W h => pf_r9_joinedT _ LL (y1, y2) W (ho.le h) f1 f2 hyb (by omega)
     have ⟨hJ', hbw', ho', f1', f2', f3', hst', hsa'⟩ := hyd8 hJ hbw ho f1 f2 f3 hst hsa
     have ⟨hsb', hs', ht', hLL', hyb', hcj'⟩ := hyd6 hsb hs ht hLL hyb hcj
     clear hcj hyb hLL ht hs hsb hsa hst f3 f2 f1 ho hbw hJ
     go_wp2
     go_still_tail 24, (by kernel_rfl)
     change wpList _ _ _ _ _ wr.drew
     have hbs : Below wr.heap.size wr wr.drew := below_drewN' (Below.refl _ _) 1
     clear g0 g1 h0 h1
     generalize hws : wr.drew = wS at hbs ⊢
     clear hws
     go_wp2_with (fail)
     go_at_call 84
     with_reducible refine (hcj'.out wS hbs).mono ?_
     rintro e wT ⟨v', rfl, hbt, hsv⟩
     have hbT := bel_set hbw'.out (bel_set hbs hbt)
     obtain ⟨A9, c9, rfl, -⟩ := hsv.slice
     have ⟨hbs', hbt', hsv', hbT'⟩ := hyd4 hbs hbt hsv hbT
     clear hbT hsv hbt hbs
     go_wp2
     go_roundw
     case rel => exact ⟨k + 1, by omega, by go_num, hbT'.out, by rw [hst'.out]; exact hsv'.out⟩
     case measure => simp [intOf]; omega
    ·obtain rfl : k = B.length := by omega
     have hn : Below w.heap.size w wr ∧ SpG wr u5 ((pairsM A B (i + 1) 0).foldl joinedL []) := by rw [← pairsM_end hlt]; exact ⟨hbw, ho⟩
     have ⟨hJ', hbw', ho', hn'⟩ := hyd4 hJ hbw ho hn
     clear hn ho hbw hJ
     go_wp2
     go_roundw
     case rel => exact ⟨i + 1, by omega, by go_num, hn'⟩
     case measure => simp [intOf]; omega
  ·obtain rfl : i = A.length := by omega
   obtain ⟨hbw, ho⟩ := hI.out
   rw [pairsM_zero, List.take_length, ← bothL_eq] at ho
   have ⟨hI', hbw', ho'⟩ := hyd3 hI hbw ho
   clear ho hbw hI
   go_wp2
   go_ret
   exact ⟨_, rfl, hbw'.out, ho'.out⟩
theorem pf_r9_FittingT (v : Value) (p : Pic) (m : Nat) (throw adv : Int) (w : World) (hp : IsPic w v p) (hok : PicM p) (hm : m < p.hs.length) (ht : 0 ≤ throw ∧ throw ≤ 16) (ha : -1000 ≤ adv ∧ adv ≤ 1000) (hst : p.steps ≤ 24) :
  Calls Tryz.prog 59 #[v, .int .i64 (m : Int), .int .i64 throw, .int .i64 adv] w fun e w' => ∃ v', e = .returned v' ∧ Below w.heap.size w w' ∧ SpG w' v' (fitL p.rds (p.lift m) throw adv) := by
 have hp9 := hp
 obtain ⟨vh, vr, rfl, hh, hr⟩ := hp
 obtain ⟨HA, hc, rfl, -⟩ := hh.slice
 obtain ⟨RA, rc, rfl, -⟩ := hr.slice
 obtain ⟨W0, hW0, hb0, k0⟩ := newb w (.cells #[.slice HA p.hs.length hc, .int .i64 p.tl, .int .i64 p.th, .int .i64 p.al, .int .i64 p.ah, .slice RA p.rds.length rc] 25)
 obtain ⟨bh, oh, ch, vr0, vb0, heq, hbl, g0, g1, i0, i1⟩ := (hh.le hb0).at hm
 injection heq with e1 e2 e3
 subst e1 e3
 clear e2
 obtain ⟨Ar, cr, rfl, -⟩ := id i0
 obtain ⟨Ab, cb, rfl, -⟩ := id i1
 obtain ⟨c0, c1, c2, c3, c4, c5⟩ := pc6 k0
 have hhd := hok.head _ (List.getElem_mem hm)
 have hro : ∀ r ∈ p.rds, RdOk p.steps r := hok.rd
 obtain ⟨lift, hlift⟩ : ∃ l, liftL p.hs[m].ros p.hs[m].rub = l := ⟨_, rfl⟩
 have hlp : p.lift m = lift := by unfold Pic.lift; rw [List.getD_eq_getElem?_getD, List.getElem?_eq_getElem hm]; exact hlift
 have hll : lift.length = p.steps := by rw [← hlift, liftL_length]; exact hhd.1
 have hrub : rubOk p.hs[m].rub p.hs[m].ros.length = true := by rw [hhd.1]; exact hhd.2.2
 have hlo : rosOk lift = true := by rw [← hlift]; exact lift_ok hhd.2.1 hrub
 have h24 : lift.length ≤ 24 := by omega
 have klift : ∀ W, Below W0.heap.size W0 W → Calls Tryz.prog 82 #[.slice Ar p.hs[m].ros.length cr, .slice Ab p.hs[m].rub.length cb] W fun e w' => ∃ v', e = .returned v' ∧ Below W.heap.size W w' ∧ w'.ownsRow W.heap.size 3 1 v' lift.length (lift.map vint) := fun W h => by
  have := pf_Lifted _ _ _ _ W (i0.below h) (i1.below h) hhd.2.1 hrub
  rwa [hlift] at this
 rw [hlp]
 have hro2 : ∀ r ∈ p.rds, RdOk lift.length r := by rw [hll]; exact hro
 have j1 : (m : Int) < (p.hs.length : Int) := by omega
 have j2 : (0 : Int) ≤ (m : Int) := by omega
 generalize hRL : p.hs[m].ros.length = RL at g0 klift
 generalize hBL : p.hs[m].rub.length = BL at g1 klift
 obtain ⟨z, hz⟩ : ∃ n, p.hs.length = n := ⟨_, rfl⟩
 have f1 : ∀ c, c ≤ 12 → Nm (fitGo p.rds lift throw adv c) ∧ SpB (fitGo p.rds lift throw adv c) ∧ (fitGo p.rds lift throw adv c).length ≤ 400 := fun c h => by
  obtain ⟨a, b, d⟩ := fitGo_facts hro2 hlo ht ha c h
  have : c * lift.length ≤ 12 * 24 := Nat.mul_le_mul h h24
  exact ⟨a, b, by omega⟩
 have f2 : ∀ c, c ≤ 11 → ∀ k, Nm (cutsF p.rds lift throw adv c k) ∧ SpB (cutsF p.rds lift throw adv c k) ∧ (cutsF p.rds lift throw adv c k).length ≤ k := fun c h k => cutsF_facts hro2 hlo ht ha h k
 have f3 : ∀ c : Nat, c ≤ 11 → ∀ ph, SpB [startS p.rds lift throw adv (c : Int) ph] := fun c h ph => startS_spb hro2 hlo ht ha h ph
 have ⟨hp9', hh', hr', hok', hb0', k0', i0', i1'⟩ := hyd8 hp9 hh hr hok hb0 k0 i0 i1
 have ⟨hhd', hro', hro2', hlift', hlp', hrub', hlo', klift'⟩ := hyd8 hhd hro hro2 hlift hlp hrub hlo klift
 have ⟨hRL', hBL', hll', hst', f1', f2', f3', hz'⟩ := hyd8 hRL hBL hll hst f1 f2 f3 hz
 clear hz f3 f2 f1 hst hll hBL hRL klift hlo hrub hlp hlift hro2 hro hhd i1 i0 k0 hb0 hok hr hh hp9
 go_enter Tryz.func59, Tryz.ntmps59
 go_wp2_with (fail)
 clear hW0
 go_still_tail 12, (by kernel_rfl)
 change wpList _ _ _ _ _ W0.drew
 have hbd : Below W0.heap.size W0 W0.drew := below_drewN' (Below.refl _ _) 1
 clear c0 c1 c2 c3 c4 c5 g0 g1
 generalize hW3 : W0.drew = W3 at hbd ⊢
 clear hW3
 go_wp2_with (fail)
 go_at_call 82
 refine (klift'.out W3 hbd).mono ?_
 rintro e W4 ⟨vl, rfl, hb4, hol⟩
 have hb04 := bel_set hbd hb4
 have hbw4 := bel_set hb0'.out hb04
 have k4 := blk hb04 k0'.out
 have hil := own_ints hol
 obtain ⟨LA, lc, rfl, -⟩ := id hil
 have ⟨hbd', hb4', hol', hb04', hbw4', k4', hil'⟩ := hyd7 hbd hb4 hol hb04 hbw4 k4 hil
 clear hil k4 hbw4 hb04 hol hb4 hbd
 go_wp2_with (fail)
 go_at_call 83
 refine (pf_r9_wholeT W4).mono ?_
 rintro e W5 ⟨vo, rfl, hb5, hs5⟩
 have hbw5 := bel_set hbw4'.out hb5
 have k5 := blk hb5 k4'.out
 have hil5 := hil'.out.below hb5
 have hp5 := hp9'.out.le hbw5
 have hI0 : Below W5.heap.size W5 W5 ∧ SpG W5 vo (fitGo p.rds lift throw adv 0) := ⟨Below.refl _ _, hs5⟩
 have ⟨hb5', hs5', hbw5', k5', hil5', hp5', hI0'⟩ := hyd7 hb5 hs5 hbw5 k5 hil5 hp5 hI0
 clear hI0 hp5 hil5 k5 hbw5 hs5 hb5
 go_wp2_with (fail)
 go_loopw [11, 10] (fun cx vo wr => ∃ c : Nat, c ≤ 12 ∧ cx = .int .i64 (c : Int) ∧ Hid (Below W5.heap.size W5 wr ∧ SpG wr vo (fitGo p.rds lift throw adv c))) (fun cx _ _ => 13 - (intOf cx).toNat)
 case atStart => exact ⟨0, by omega, rfl, hI0'⟩
 case round =>
  obtain ⟨c, hc12, rfl, hI⟩ := hrel
  obtain ⟨hbr, hso⟩ := hI.out
  obtain ⟨OA, oc, rfl, -⟩ := id hso.slice
  have hbwr := bel_set hbw5'.out hbr
  by_cases hlt : c < 12
  ·obtain ⟨F, hF⟩ : ∃ F, fitGo p.rds lift throw adv c = F := ⟨_, rfl⟩
   obtain ⟨n1, n2, n3⟩ := f1'.out c hc12
   rw [hF] at n1 n2 n3 hso ⊢
   have hlti : (c : Int) < 12 := by omega
   by_cases hnil : F.length = 0
   ·have hfin : fitL p.rds lift throw adv = F := by
     have h0 : F = [] := List.eq_nil_of_length_eq_zero hnil
     rw [← fitGo_all, h0]
     have := fitGo_nil (hF.trans h0) (12 - c)
     rwa [show c + (12 - c) = 12 by omega] at this
    have hso2 : SpG wr (.slice OA F.length oc) (fitL p.rds lift throw adv) := by rw [hfin]; exact hso
    rw [hnil] at hso2 ⊢
    have ⟨hI', hbr', hso', hbwr', hF', n1', n2', n3'⟩ := hyd8 hI hbr hso hbwr hF n1 n2 n3
    have ⟨hfin', hso2', hnil'⟩ := hyd3 hfin hso2 hnil
    clear hnil hso2 hfin n3 n2 n1 hF hbwr hso hbr hI
    go_wp2
    go_ret
    exact ⟨_, rfl, hbwr'.out, hso2'.out⟩
   ·have hpos : (0 : Int) < (F.length : Int) := by omega
    have hposn : 0 < F.length := by omega
    have hposd : decide (0 < F.length) = true := decide_eq_true hposn
    have hI1 : Below wr.heap.size wr wr ∧ SpG wr (.slice none 0 0) (cutsF p.rds lift throw adv c 0) := ⟨Below.refl _ _, SpG.nil _⟩
    have hilr := hil5'.out.below hbr
    have hpr := hp5'.out.le hbr
    have kr := blk hbr k5'.out
    have ⟨hI', hbr', hso', hbwr', hF', n1', n2', n3'⟩ := hyd8 hI hbr hso hbwr hF n1 n2 n3
    have ⟨hI1', hilr', hpr', kr'⟩ := hyd4 hI1 hilr hpr kr
    clear kr hpr hilr hI1 n3 n2 n1 hF hbwr hso hbr hI
    go_wp2_with (fail)
    rename World => wo
    go_loopw [13, 12] (fun kx vl wr => ∃ k : Nat, k ≤ lift.length ∧ kx = .int .i64 (k : Int) ∧ Hid (Below wo.heap.size wo wr ∧ SpG wr vl (cutsF p.rds lift throw adv c k))) (fun kx _ _ => lift.length - (intOf kx).toNat)
    case atStart => exact ⟨0, Nat.zero_le _, rfl, hI1'⟩
    case round =>
     obtain ⟨k, hk, rfl, hJ⟩ := hrel
     obtain ⟨hbk, hsk⟩ := hJ.out
     obtain ⟨KA, kc, rfl, -⟩ := id hsk.slice
     have hbwk := bel_set hbwr'.out hbk
     by_cases hkl : k < lift.length
     ·have hkli : (k : Int) < (lift.length : Int) := by omega
      obtain ⟨c0, c1, c2, c3, c4, c5⟩ := pc6 (blk hbk kr'.out)
      have kst := pf_r9_starts _ _ p lift throw adv (c : Int) k wr (hpr'.out.le hbk) (hilr'.out.below hbk) hlo'.out hro2'.out ht ha ⟨by omega, by omega⟩ hkl
      obtain ⟨m1, m2, m3⟩ := f2'.out c (by omega) k
      have hx := f3'.out c (by omega) k
      have hsx := cutsF_succ p.rds lift throw adv c k
      obtain ⟨C, hC⟩ : ∃ C, cutsF p.rds lift throw adv c k = C := ⟨_, rfl⟩
      rw [hC] at m1 m2 m3 hsk hsx
      obtain ⟨⟨s1, s2⟩, hs⟩ : ∃ s, startS p.rds lift throw adv (c : Int) k = s := ⟨_, rfl⟩
      rw [hs] at kst hx hsx
      have hC1 : C.length ≤ 100000 := by omega
      rw [hC]
      have ⟨hJ', hbk', hsk', hbwk', kst', m1', m2', m3'⟩ := hyd8 hJ hbk hsk hbwk kst m1 m2 m3
      have ⟨hx', hsx', hC', hs'⟩ := hyd4 hx hsx hC hs
      clear hs hC hsx hx m3 m2 m1 kst hbwk hsk hbk hJ
      go_wp2_with (fail)
      go_at_call 85
      refine kst'.out.mono ?_
      rintro e W6 ⟨rfl, hb6⟩
      have hs6 := hsk'.out.le hb6
      have ⟨hb6', hs6'⟩ := hyd2 hb6 hs6
      clear hs6 hb6
      go_wp2_with (fail)
      go_at_call 84
      refine (pf_r9_joinedT _ C (s1, s2) W6 hs6'.out m1'.out m2'.out hx'.out hC1).mono ?_
      rintro e W7 ⟨vj, rfl, hb7, hs7⟩
      obtain ⟨A7, c7, rfl, -⟩ := id hs7.slice
      have hn : Below wo.heap.size wo W7 ∧ SpG W7 (.slice A7 (joinedL C (s1, s2)).length c7) (cutsF p.rds lift throw adv c (k + 1)) := ⟨bel_set (bel_set hbk'.out hb6'.out) hb7, by rw [hsx'.out]; exact hs7⟩
      clear c0 c1 c2 c3 c4 c5
      have ⟨hb7', hs7', hn'⟩ := hyd3 hb7 hs7 hn
      clear hn hs7 hb7
      go_wp2
      go_roundw
      case rel => exact ⟨k + 1, by omega, by go_num, hn'⟩
      case measure => simp [intOf]; omega
     ·obtain rfl : k = lift.length := by omega
      obtain ⟨m1, m2, m3⟩ := f2'.out c (by omega) lift.length
      have hsx := fitGo_succ p.rds lift throw adv c
      have hso3 := hso'.out.le hbk
      rw [hF'.out] at hsx
      obtain ⟨C, hC⟩ : ∃ C, cutsF p.rds lift throw adv c lift.length = C := ⟨_, rfl⟩
      rw [hC] at m2 m3 hsk hsx ⊢
      have hC1 : C.length ≤ 200 := by omega
      have ⟨hJ', hbk', hsk', hbwk', m2', m3', hC', hsx'⟩ := hyd8 hJ hbk hsk hbwk m2 m3 hC hsx
      have hso3' := hyd1 hso3
      clear hso3 hsx hC m3 m2 hbwk hsk hbk hJ
      go_wp2_with (fail)
      go_at_call 86
      refine (pf_r9_bothT _ _ F C wr hso3'.out.1 hsk'.out.1 n2'.out m2'.out n3'.out hC1).mono ?_
      rintro e W6 ⟨vb, rfl, hb6, hs6⟩
      obtain ⟨A6, c6, rfl, -⟩ := id hs6.slice
      have hn : Below W5.heap.size W5 W6 ∧ SpG W6 (.slice A6 (bothL F C).length c6) (fitGo p.rds lift throw adv (c + 1)) := ⟨bel_set (bel_set hbr'.out hbk'.out) hb6, by rw [hsx'.out]; exact hs6⟩
      have ⟨hb6', hs6', hn'⟩ := hyd3 hb6 hs6 hn
      clear hn hs6 hb6
      go_wp2
      go_roundw
      case rel => exact ⟨c + 1, by omega, by go_num, hn'⟩
      case measure => simp [intOf]; omega
  ·obtain rfl : c = 12 := by omega
   have hso2 : SpG wr (.slice OA (fitGo p.rds lift throw adv 12).length oc) (fitL p.rds lift throw adv) := by rw [← fitGo_all]; exact hso
   generalize (fitGo p.rds lift throw adv 12).length = FL at *
   have ⟨hI', hbr', hso', hbwr', hso2'⟩ := hyd5 hI hbr hso hbwr hso2
   clear hso2 hbwr hso hbr hI
   go_wp2
   go_ret
   exact ⟨_, rfl, hbwr'.out, hso2'.out⟩
end Go.Proofs.YtjdgkmcmgagkgaaGreat
