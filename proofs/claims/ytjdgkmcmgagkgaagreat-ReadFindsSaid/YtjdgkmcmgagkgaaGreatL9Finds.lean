/- The reference's Find; whatever the input, the package finds and sees what the reference does: the law ReadFinds (printed by gen_finds.py from finds.tmpl). -/
import Derived.Test.YtjdgkmcmgagkgaaGreatRefAll
import Derived.Test.YtjdgkmcmgagkgaaGreatRefSee
import Derived.Test.YtjdgkmcmgagkgaaGreatRdSameP
import Derived.Test.YtjdgkmcmgagkgaaGreatRdTwin
namespace Go.Proofs.YtjdgkmcmgagkgaaGreat
set_option maxRecDepth 100000
set_option maxHeartbeats 4000000
open Go.RowKit
set_option linter.unusedVariables false
set_option linter.unusedSimpArgs false
theorem pf_r9_Find (v : Value) (p : Pic) (w : World) (hp : IsPic w v p) (hf : p.Fit) (hst : p.steps ≤ 24) :
  Calls Tryz.prog 10 #[v] w fun e w' => ∃ v', e = .returned (.tuple #[v', .int .i64 (findE p)]) ∧ Below w.heap.size w w' ∧ FndL w' v' (findL p) := by
 have hp9 := hp
 obtain ⟨vh, vr, rfl, hh, hr⟩ := hp
 obtain ⟨HA, hc, rfl, -⟩ := hh.slice
 obtain ⟨RA, rc, rfl, -⟩ := hr.slice
 obtain ⟨W1, hW1, hb1, k1⟩ := newb w (.cells #[.slice HA p.hs.length hc, .int .i64 p.tl, .int .i64 p.th, .int .i64 p.al, .int .i64 p.ah, .slice RA p.rds.length rc] 25)
 have hp1 := hp9.le hb1
 have kck := pf_r9_Check _ p W1 hp1 hf
 obtain ⟨c0, c1, c2, c3, c4, c5⟩ := pc6 k1
 have ⟨hp9', hh', hr', hb1', k1', hp1', kck', hf'⟩ := hyd8 hp9 hh hr hb1 k1 hp1 kck hf
 have hst' := hyd1 hst
 clear hst hf kck hp1 k1 hb1 hr hh hp9
 go_enter Tryz.func10, Tryz.ntmps10
 go_wp2_with (fail)
 clear hW1
 go_at_call 14
 refine kck'.out.mono ?_
 rintro e W2 ⟨rfl, hb2⟩
 have hbw2 := bel_set hb1'.out hb2
 have k2 := blk hb2 k1'.out
 clear c0 c1 c2 c3 c4 c5
 obtain ⟨c0, c1, c2, c3, c4, c5⟩ := pc6 k2
 obtain ⟨PB, hPB⟩ : ∃ b, picB p = b := ⟨_, rfl⟩
 have ⟨hb2', hbw2', k2'⟩ := hyd3 hb2 hbw2 k2
 clear k2 hbw2 hb2
 cases PB with
 | false =>
  rw [show picE p = 90 by unfold picE; rw [hPB]; rfl]
  have hfe : findE p = 90 := by unfold findE; rw [hPB]; rfl
  have hfl : findL p = [] := by unfold findL; rw [hfe]; rfl
  have ⟨hPB', hfe', hfl'⟩ := hyd3 hPB hfe hfl
  clear hfl hfe hPB
  go_wp2
  exact bodyPost_ret (v := .tuple #[.slice none 0 0, .int .i64 90]) (by simp [results, Tryz.results10, go_sem]) rfl ⟨_, by rw [hfe'.out], hbw2'.out, by rw [hfl'.out]; exact SV.nil _⟩
 | true =>
  rw [show picE p = 0 by unfold picE; rw [hPB]; rfl]
  have hok := (picB_iff.1 hPB).toM
  have kal := pf_r9_All _ p W2 (hp9'.out.le hbw2'.out) hok hst'.out
  have ⟨hPB', hok', kal'⟩ := hyd3 hPB hok kal
  clear kal hok hPB
  go_wp2_with (fail)
  go_at_call 29
  refine kal'.out.mono ?_
  rintro e W3 ⟨vo, rfl, hb3, hfd⟩
  obtain ⟨OA, oc, rfl, hom⟩ := hfd.slice
  unfold maxLen at hom
  have hbw3 := bel_set hbw2'.out hb3
  obtain ⟨n, hn⟩ : ∃ n, (foundL p).length = n := ⟨_, rfl⟩
  rw [hn] at hom hfd ⊢
  by_cases h0 : n = 0
  ·subst h0
   have hfe : findE p = 6 := by unfold findE; rw [hPB'.out, if_pos rfl, if_pos (List.eq_nil_of_length_eq_zero hn)]
   have hfl : findL p = [] := by unfold findL; rw [hfe]; rfl
   have ⟨hb3', hfd', hbw3', hn', hfe', hfl'⟩ := hyd6 hb3 hfd hbw3 hn hfe hfl
   clear hfl hfe hn hbw3 hfd hb3
   go_wp2
   exact bodyPost_ret (v := .tuple #[.slice none 0 0, .int .i64 6]) (by simp [results, Tryz.results10, go_sem]) rfl ⟨_, by rw [hfe'.out], hbw3'.out, by rw [hfl'.out]; exact SV.nil _⟩
  ·have hne : ¬ (n : Int) = 0 := by omega
   have hnil : foundL p ≠ [] := fun e => h0 (by rw [← hn, e]; rfl)
   by_cases h4 : 400 < n
   ·have h4i : (400 : Int) < (n : Int) := by omega
    have hfe : findE p = 4 := by unfold findE; rw [hPB'.out, if_pos rfl, if_neg hnil, if_pos (by rw [hn]; exact h4)]
    have hfl : findL p = [] := by unfold findL; rw [hfe]; rfl
    have ⟨hb3', hfd', hbw3', hn', hfe', hfl', hnil'⟩ := hyd7 hb3 hfd hbw3 hn hfe hfl hnil
    clear hnil hfl hfe hn hbw3 hfd hb3
    go_wp2
    exact bodyPost_ret (v := .tuple #[.slice none 0 0, .int .i64 4]) (by simp [results, Tryz.results10, go_sem]) rfl ⟨_, by rw [hfe'.out], hbw3'.out, by rw [hfl'.out]; exact SV.nil _⟩
   ·have h4i : ¬ (400 : Int) < (n : Int) := by omega
    have hfe : findE p = 0 := by unfold findE; rw [hPB'.out, if_pos rfl, if_neg hnil, if_neg (by rw [hn]; exact h4)]
    have hfl : findL p = foundL p := by unfold findL; rw [hfe]; rfl
    have ⟨hb3', hfd', hbw3', hn', hfe', hfl', hnil'⟩ := hyd7 hb3 hfd hbw3 hn hfe hfl hnil
    clear hnil hfl hfe hn hbw3 hfd hb3
    go_wp2
    exact bodyPost_ret (v := .tuple #[.slice OA n oc, .int .i64 0]) (by simp [results, Tryz.results10, go_sem]) rfl ⟨_, by rw [hfe'.out], hbw3'.out, by rw [hfl'.out]; exact hfd'.out⟩
theorem l9_finds (a0 : Pic) (a1 : Prog) (x0 x1 : Value) (cu no : Int) (w : World) (hp : IsPic w x0 a0) (hf : a0.Fit) (hv : IsProg w x1 a1) (hcu : fit64 cu) (hno : fit64 no) :
  Calls Tryz.prog 3 #[x0, x1, .int .i64 cu, .int .i64 no] w fun e w' => e = .returned (.bool true) ∧ Below w.heap.size w w' := by
 have hp9 := hp
 obtain ⟨vh, vr, rfl, hh, hr⟩ := hp
 obtain ⟨HA, hc, rfl, -⟩ := hh.slice
 obtain ⟨RA, rc, rfl, -⟩ := hr.slice
 have hv9 := hv
 obtain ⟨v0, v1, v5, rfl, h0, h1, h5⟩ := hv
 obtain ⟨A0, m0, rfl, -⟩ := id h0
 obtain ⟨A1, m1, rfl, -⟩ := id h1
 obtain ⟨A5, m5, rfl, -⟩ := id h5
 obtain ⟨rl, hrl⟩ : ∃ n, a1.ros.length = n := ⟨_, rfl⟩
 obtain ⟨bl, hbl⟩ : ∃ n, a1.rub.length = n := ⟨_, rfl⟩
 obtain ⟨sl, hsl⟩ : ∃ n, a1.shifts.length = n := ⟨_, rfl⟩
 rw [hrl, hbl, hsl] at hv9 ⊢
 obtain ⟨W1, hW1, hb1, k1⟩ := newb w (.cells #[.slice HA a0.hs.length hc, .int .i64 a0.tl, .int .i64 a0.th, .int .i64 a0.al, .int .i64 a0.ah, .slice RA a0.rds.length rc] 25)
 obtain ⟨W2, hW2, hb2, g2⟩ := newb W1 (.cells #[.slice A0 rl m0, .slice A1 bl m1, .int .i64 a1.start, .int .i64 a1.throw, .int .i64 a1.adv, .slice A5 sl m5] 28)
 have hbw2 := bel_set hb1 hb2
 have k2 := blk hb2 k1
 obtain ⟨c0, c1, c2, c3, c4, c5⟩ := pc6 k2
 have kgr := pf_r9_Great _ a0 W2 (hp9.le hbw2) hf
 have ⟨hp9', hf', hh', hr', hv9', h0', h1', h5'⟩ := hyd8 hp9 hf hh hr hv9 h0 h1 h5
 have ⟨hb1', k1', hb2', g2', hbw2', k2', kgr', hcu'⟩ := hyd8 hb1 k1 hb2 g2 hbw2 k2 kgr hcu
 have ⟨hno', hrl', hbl', hsl'⟩ := hyd4 hno hrl hbl hsl
 clear hsl hbl hrl hno hcu kgr k2 hbw2 g2 hb2 k1 hb1 h5 h1 h0 hv9 hr hh hf hp9
 go_enter Tryz.func3, Tryz.ntmps3
 go_wp2_with (fail)
 clear hW1 hW2
 go_at_call 6
 refine kgr'.out.mono ?_
 rintro e W3 ⟨b, rfl, hb3, hgr⟩
 have hbw3 := bel_set hbw2'.out hb3
 have k3 := blk hb3 k2'.out
 have g3 := blk hb3 g2'.out
 clear c0 c1 c2 c3 c4 c5
 obtain ⟨d0, d1, d2, d3, d4, d5⟩ := pc6 g3
 cases b with
 | true =>
  have ⟨hb3', hbw3', k3', g3', hgr'⟩ := hyd5 hb3 hbw3 k3 g3 hgr
  clear hgr g3 k3 hbw3 hb3
  go_wp2
  go_ret
  exact ⟨rfl, hbw3'.out⟩
 | false =>
  obtain ⟨g6, g70, gl⟩ := hgr rfl
  have hst : a0.steps ≤ 24 := by
   unfold Pic.steps
   rw [List.getD_eq_getElem?_getD]
   cases e : a0.hs[0]? with
   | none => exact Nat.zero_le _
   | some h => exact (gl h (List.mem_of_getElem? e)).1
  have kgp := pf_r4_Great _ a1 W3 (hv9'.out.below hbw3)
  obtain ⟨G, hG⟩ : ∃ g, greatB a1 = g := ⟨_, rfl⟩
  rw [hG] at kgp
  have ⟨hb3', hbw3', k3', g3', hgr', gl', kgp', hG'⟩ := hyd8 hb3 hbw3 k3 g3 hgr gl kgp hG
  have hst' := hyd1 hst
  clear hst hG kgp gl hgr g3 k3 hbw3 hb3
  go_wp2_with (fail)
  go_at_call 7
  refine kgp'.out.mono ?_
  rintro e W4 ⟨rfl, hb4⟩
  have hbw4 := bel_set hbw3'.out hb4
  have k4 := blk hb4 k3'.out
  have g4 := blk hb4 g3'.out
  clear d0 d1 d2 d3 d4 d5
  obtain ⟨c0, c1, c2, c3, c4, c5⟩ := pc6 k4
  have ktw := pf_r9_Twin _ a0 W4 (hp9'.out.le hbw4) (by omega) (by omega) (fun h hm => by have := gl'.out h hm; omega)
  have ⟨hb4', hbw4', k4', g4', ktw'⟩ := hyd5 hb4 hbw4 k4 g4 ktw
  clear ktw g4 k4 hbw4 hb4
  cases G with
  | true =>
   go_wp2
   go_ret
   exact ⟨rfl, hbw4'.out⟩
  | false =>
   go_wp2_with (fail)
   go_at_call 8
   refine ktw'.out.mono ?_
   rintro e W5 ⟨vo, rfl, hb5, ho⟩
   obtain ⟨oh, or, rfl, oh1, or1⟩ := id ho
   obtain ⟨OA, oc, rfl, -⟩ := oh1.slice
   obtain ⟨QA, qc, rfl, -⟩ := or1.slice
   clear oh1 or1 c0 c1 c2 c3 c4 c5
   obtain ⟨W6, hW6, hb6, t6⟩ := newb W5 (.cells #[.slice OA a0.hs.length oc, .int .i64 a0.tl, .int .i64 a0.th, .int .i64 a0.al, .int .i64 a0.ah, .slice QA a0.rds.length qc] 25)
   have hb46 := bel_set hb5 hb6
   have hbw6 := bel_set hbw4'.out hb46
   have k6 := blk hb46 k4'.out
   have g6' := blk hb46 g4'.out
   have ho6 := ho.le hb6
   obtain ⟨c0, c1, c2, c3, c4, c5⟩ := pc6 t6
   obtain ⟨FE, hFE⟩ : ∃ E, findE a0 = E := ⟨_, rfl⟩
   obtain ⟨FL, hFL⟩ : ∃ L, findL a0 = L := ⟨_, rfl⟩
   have kfi := pf_rd_Find _ a0 W6 ho6 hf'.out hst'.out
   rw [hFE, hFL] at kfi
   have g6q := g6'
   have ⟨hb5', ho', hb6', t6', hb46', hbw6', k6', g6q'⟩ := hyd8 hb5 ho hb6 t6 hb46 hbw6 k6 g6q
   have ⟨ho6', hFE', hFL', kfi'⟩ := hyd4 ho6 hFE hFL kfi
   clear kfi hFL hFE ho6 g6q k6 hbw6 hb46 t6 hb6 ho hb5
   clear g6'
   go_wp2_with (fail)
   clear hW6
   generalize hP5 : W5.heap.size = P5 at *
   have hP5' := hyd1 hP5
   clear hP5
   go_at_call 9
   refine kfi'.out.mono ?_
   rintro e W7 ⟨va, rfl, hb7, hfa⟩
   obtain ⟨FA, fc, rfl, -⟩ := id hfa.slice
   have hbw7 := bel_set hbw6'.out hb7
   have k7 := blk hb7 k6'.out
   have g7 := blk hb7 g6q'.out
   have t7 := blk hb7 t6'.out
   clear c0 c1 c2 c3 c4 c5
   obtain ⟨c0, c1, c2, c3, c4, c5⟩ := pc6 k7
   have kfr := pf_r9_Find _ a0 W7 (hp9'.out.le hbw7) hf'.out hst'.out
   rw [hFE'.out, hFL'.out] at kfr
   have ⟨hb7', hfa', hbw7', k7', g7', t7', kfr'⟩ := hyd7 hb7 hfa hbw7 k7 g7 t7 kfr
   clear kfr t7 g7 k7 hbw7 hfa hb7
   go_wp2_with (fail)
   go_at_call 10
   refine kfr'.out.mono ?_
   rintro e W8 ⟨vb, rfl, hb8, hfb⟩
   obtain ⟨FB, fd, rfl, -⟩ := id hfb.slice
   have hbw8 := bel_set hbw7'.out hb8
   have k8 := blk hb8 k7'.out
   have g8 := blk hb8 g7'.out
   have t8 := blk hb8 t7'.out
   have hb68 := bel_set hb7'.out hb8
   have hfa8 := hfa'.out.le hb8
   clear c0 c1 c2 c3 c4 c5
   obtain ⟨d0, d1, d2, d3, d4, d5⟩ := pc6 g8
   obtain ⟨SE, hSE⟩ : ∃ E, seeE a1 cu no = E := ⟨_, rfl⟩
   obtain ⟨SL, hSL⟩ : ∃ L, seeV a1 cu no = L := ⟨_, rfl⟩
   have kse := pf_rd_See _ a1 cu no W8 (hv9'.out.below hbw8) hcu'.out hno'.out
   rw [hSE, hSL] at kse
   have ⟨hb8', hfb', hbw8', k8', g8', t8', hb68', hfa8'⟩ := hyd8 hb8 hfb hbw8 k8 g8 t8 hb68 hfa8
   have ⟨hSE', hSL', kse'⟩ := hyd3 hSE hSL kse
   clear kse hSL hSE hfa8 hb68 t8 g8 k8 hbw8 hfb hb8
   go_wp2_with (fail)
   go_at_call 11
   refine kse'.out.mono ?_
   rintro e W9 ⟨va, rfl, hb9, hsa⟩
   obtain ⟨SA, sc, rfl, -⟩ := id hsa.slice
   have hbw9 := bel_set hbw8'.out hb9
   have k9 := blk hb9 k8'.out
   have g9 := blk hb9 g8'.out
   have t9 := blk hb9 t8'.out
   have hb69 := bel_set hb68'.out hb9
   have hfa9 := hfa8'.out.le hb9
   have hfb9 := hfb'.out.le hb9
   clear d0 d1 d2 d3 d4 d5
   obtain ⟨d0, d1, d2, d3, d4, d5⟩ := pc6 g9
   have ksr := pf_r9_See _ a1 cu no W9 (hv9'.out.below hbw9) hcu'.out hno'.out
   rw [hSE'.out, hSL'.out] at ksr
   have ⟨hb9', hsa', hbw9', k9', g9', t9', hb69', hfa9'⟩ := hyd8 hb9 hsa hbw9 k9 g9 t9 hb69 hfa9
   have ⟨hfb9', ksr'⟩ := hyd2 hfb9 ksr
   clear ksr hfb9 hfa9 hb69 t9 g9 k9 hbw9 hsa hb9
   go_wp2_with (fail)
   go_at_call 12
   refine ksr'.out.mono ?_
   rintro e Wx ⟨vb, rfl, hbx, hsb⟩
   obtain ⟨SB, sd, rfl, -⟩ := id hsb.slice
   have hbwx := bel_set hbw9'.out hbx
   have kx := blk hbx k9'.out
   have tx := blk hbx t9'.out
   have hox := ho6'.out.le (bel_set hb69'.out hbx)
   have hpx := hp9'.out.le hbwx
   have hfax := hfa9'.out.le hbx
   have hfbx := hfb9'.out.le hbx
   have hsax := hsa'.out.le hbx
   clear d0 d1 d2 d3 d4 d5
   obtain ⟨PE, hPE⟩ : ∃ E, picE a0 = E := ⟨_, rfl⟩
   have kcp := fun W (h : Below Wx.heap.size Wx W) => pf_rd_Check _ a0 W (hox.le h) hf'.out
   have kcr := fun W (h : Below Wx.heap.size Wx W) => pf_r9_Check _ a0 W (hpx.le h) hf'.out
   rw [hPE] at kcp kcr
   have ⟨hbx', hsb', hbwx', kx', tx', hox', hpx', hfax'⟩ := hyd8 hbx hsb hbwx kx tx hox hpx hfax
   have ⟨hfbx', hsax', hPE', kcp', kcr'⟩ := hyd5 hfbx hsax hPE kcp kcr
   clear kcr kcp hPE hsax hfbx hfax hpx hox tx kx hbwx hsb hbx
   go_wp2_with (fail)
   refine wp_region_monoL (R := leRel) 30 [some 50, some 51, some 52, some 53, some 54, some 55, some 56, some 57, some 58, some 59, some 60, some 61, some 62, some 63, some 64, some 65, some 66, some 67, some 68, some 69, some 70, some 71, some 72, some 73, some 74, some 75, some 76, some 77, some 78, some 79, some 8] [[], [0], [], [2], [1, 3], [4], [5], [5], [5, 6, 7], [5, 8], [9], [10], [10], [10, 11, 12], [10, 13], [14], [15], [15], [15, 16, 17], [15, 18], [19], [20], [20], [20, 21, 22], [20, 23], [24], [25], [25], [25, 26, 27], [25, 28], [29]]
    [.eq (.agg #[.slice OA a0.hs.length oc, .int .i64 a0.tl, .int .i64 a0.th, .int .i64 a0.al, .int .i64 a0.ah, .slice QA a0.rds.length qc]), .eq (.int .i64 PE), .eq (.agg #[.slice HA a0.hs.length hc, .int .i64 a0.tl, .int .i64 a0.th, .int .i64 a0.al, .int .i64 a0.ah, .slice RA a0.rds.length rc]), .eq (.int .i64 PE), .eq (.bool true), .eq (.bool true), .eq (.slice FA FL.length fc), .eq (.slice FB FL.length fd), .eq (.bool true), .eq (.bool true), .eq (.bool true), .eq (.int .i64 FE), .eq (.int .i64 FE), .eq (.bool true), .eq (.bool true), .eq (.bool true), .eq (.slice SA SL.length sc), .eq (.slice SB SL.length sd), .eq (.bool true), .eq (.bool true), .eq (.bool true), .eq (.int .i64 SE), .eq (.int .i64 SE), .eq (.bool true), .eq (.bool true), .eq (.bool true), .eq (.agg #[.slice OA a0.hs.length oc, .int .i64 a0.tl, .int .i64 a0.th, .int .i64 a0.al, .int .i64 a0.ah, .slice QA a0.rds.length qc]), .eq (.agg #[.slice HA a0.hs.length hc, .int .i64 a0.tl, .int .i64 a0.th, .int .i64 a0.al, .int .i64 a0.ah, .slice RA a0.rds.length rc]), .eq (.bool true), .eq (.bool true)] (fun _ _ => False) (by kernel_rfl) (by kernel_rfl) (by kernel_rfl) (by kernel_rfl) ?_ (fun _ _ _ _ _ h => h.elim) ?_
   ·simp only [List.take_succ_cons, List.take_zero]
    refine mSc ?_ (mSc ?_ (mSc ?_ (mSc ?_ (mSc ?_ (mSc ?_ (mSc ?_ (mSc ?_ (mSc ?_ (mSc ?_ (mSc ?_ (mSc ?_ (mSc ?_ (mSc ?_ (mSc ?_ (mSc ?_ (mSc ?_ (mSc ?_ (mSc ?_ (mSc ?_ (mSc ?_ (mSc ?_ (mSc ?_ (mSc ?_ (mSc ?_ (mSc ?_ (mSc ?_ (mSc ?_ (mSc ?_ (mSc ?_ (monoSteps_nil))))))))))))))))))))))))))))))
    ·refine mSl rfl fun x' W hR hf Q hK' _ => ?_
     obtain ⟨c0, c1, c2, c3, c4, c5⟩ := pc6 (blk hR tx'.out)
     simp only [fA] at hK' ⊢
     go_wp2
     exact hK' _ _ lrR rfl
    ·refine mSl rfl fun x' W hR hf Q hK' _ => ?_
     obtain ⟨e0, -⟩ := hf
     change _ = _ at e0
     simp only [fA, e0] at hK' ⊢
     have hcall := kcp'.out W hR
     have hcall' := hyd1 hcall
     clear hcall
     go_wp2_with (fail)
     go_at_call 13
     refine hcall'.out.mono ?_
     rintro e w' ⟨rfl, y1⟩
     go_wp2
     exact hK' _ _ y1 rfl
    ·refine mSl rfl fun x' W hR hf Q hK' _ => ?_
     obtain ⟨c0, c1, c2, c3, c4, c5⟩ := pc6 (blk hR kx'.out)
     simp only [fA] at hK' ⊢
     go_wp2
     exact hK' _ _ lrR rfl
    ·refine mSl rfl fun x' W hR hf Q hK' _ => ?_
     obtain ⟨e0, -⟩ := hf
     change _ = _ at e0
     simp only [fA, e0] at hK' ⊢
     have hcall := kcr'.out W hR
     have hcall' := hyd1 hcall
     clear hcall
     go_wp2_with (fail)
     go_at_call 14
     refine hcall'.out.mono ?_
     rintro e w' ⟨rfl, y1⟩
     go_wp2
     exact hK' _ _ y1 rfl
    ·refine mSl rfl fun x' W hR hf Q hK' _ => ?_
     obtain ⟨e0, e1, -⟩ := hf
     change _ = _ at e0 e1
     simp only [fA, e0, e1] at hK' ⊢
     go_wp2
     exact hK' _ _ lrR rfl
    ·refine mSl rfl fun x' W hR hf Q hK' _ => ?_
     obtain ⟨e0, -⟩ := hf
     change _ = _ at e0
     simp only [fA, e0] at hK' ⊢
     go_wp2
     exact hK' _ _ lrR rfl
    ·refine monoStep_listG (fun x' W hf => ?_) fun x' W hR hf Q hK' _ => ?_
     ·obtain ⟨e0, -⟩ := hf
      change _ = _ at e0
      simp only [fA, e0]
      kernel_rfl
     obtain ⟨e0, -⟩ := hf
     change _ = _ at e0
     simp only [fA, e0] at hK' ⊢
     go_wp2
     exact hK' _ _ lrR rfl
    ·refine monoStep_listG (fun x' W hf => ?_) fun x' W hR hf Q hK' _ => ?_
     ·obtain ⟨e0, -⟩ := hf
      change _ = _ at e0
      simp only [fA, e0]
      kernel_rfl
     obtain ⟨e0, -⟩ := hf
     change _ = _ at e0
     simp only [fA, e0] at hK' ⊢
     go_wp2
     exact hK' _ _ lrR rfl
    ·refine monoStep_listG (fun x' W hf => ?_) fun x' W hR hf Q hK' _ => ?_
     ·obtain ⟨e0, e1, e2, -⟩ := hf
      change _ = _ at e0 e1 e2
      simp only [fA, e0, e1, e2]
      kernel_rfl
     obtain ⟨e0, e1, e2, -⟩ := hf
     change _ = _ at e0 e1 e2
     simp only [fA, e0, e1, e2] at hK' ⊢
     have hcall := pf_r9_SameFound _ _ FL FL W (hfax'.out.le hR) (hfbx'.out.le hR)
     rw [decide_eq_true (rfl : FL = FL)] at hcall
     have hcall' := hyd1 hcall
     clear hcall
     go_wp2_with (fail)
     go_at_call 15
     refine hcall'.out.mono ?_
     rintro e w' ⟨rfl, n, rfl⟩
     go_wp2
     exact hK' _ _ (Below.of_drewN W n) rfl
    ·refine mSl rfl fun x' W hR hf Q hK' _ => ?_
     obtain ⟨e0, e1, -⟩ := hf
     change _ = _ at e0 e1
     simp only [fA, e0, e1] at hK' ⊢
     go_wp2
     exact hK' _ _ lrR rfl
    ·refine mSl rfl fun x' W hR hf Q hK' _ => ?_
     obtain ⟨e0, -⟩ := hf
     change _ = _ at e0
     simp only [fA, e0] at hK' ⊢
     go_wp2
     exact hK' _ _ lrR rfl
    ·refine monoStep_listG (fun x' W hf => ?_) fun x' W hR hf Q hK' _ => ?_
     ·obtain ⟨e0, -⟩ := hf
      change _ = _ at e0
      simp only [fA, e0]
      kernel_rfl
     obtain ⟨e0, -⟩ := hf
     change _ = _ at e0
     simp only [fA, e0] at hK' ⊢
     go_wp2
     exact hK' _ _ lrR rfl
    ·refine monoStep_listG (fun x' W hf => ?_) fun x' W hR hf Q hK' _ => ?_
     ·obtain ⟨e0, -⟩ := hf
      change _ = _ at e0
      simp only [fA, e0]
      kernel_rfl
     obtain ⟨e0, -⟩ := hf
     change _ = _ at e0
     simp only [fA, e0] at hK' ⊢
     go_wp2
     exact hK' _ _ lrR rfl
    ·refine monoStep_listG (fun x' W hf => ?_) fun x' W hR hf Q hK' _ => ?_
     ·obtain ⟨e0, e1, e2, -⟩ := hf
      change _ = _ at e0 e1 e2
      simp only [fA, e0, e1, e2]
      kernel_rfl
     obtain ⟨e0, e1, e2, -⟩ := hf
     change _ = _ at e0 e1 e2
     simp only [fA, e0, e1, e2] at hK' ⊢
     go_wp2
     exact hK' _ _ lrR rfl
    ·refine mSl rfl fun x' W hR hf Q hK' _ => ?_
     obtain ⟨e0, e1, -⟩ := hf
     change _ = _ at e0 e1
     simp only [fA, e0, e1] at hK' ⊢
     go_wp2
     exact hK' _ _ lrR rfl
    ·refine mSl rfl fun x' W hR hf Q hK' _ => ?_
     obtain ⟨e0, -⟩ := hf
     change _ = _ at e0
     simp only [fA, e0] at hK' ⊢
     go_wp2
     exact hK' _ _ lrR rfl
    ·refine monoStep_listG (fun x' W hf => ?_) fun x' W hR hf Q hK' _ => ?_
     ·obtain ⟨e0, -⟩ := hf
      change _ = _ at e0
      simp only [fA, e0]
      kernel_rfl
     obtain ⟨e0, -⟩ := hf
     change _ = _ at e0
     simp only [fA, e0] at hK' ⊢
     go_wp2
     exact hK' _ _ lrR rfl
    ·refine monoStep_listG (fun x' W hf => ?_) fun x' W hR hf Q hK' _ => ?_
     ·obtain ⟨e0, -⟩ := hf
      change _ = _ at e0
      simp only [fA, e0]
      kernel_rfl
     obtain ⟨e0, -⟩ := hf
     change _ = _ at e0
     simp only [fA, e0] at hK' ⊢
     go_wp2
     exact hK' _ _ lrR rfl
    ·refine monoStep_listG (fun x' W hf => ?_) fun x' W hR hf Q hK' _ => ?_
     ·obtain ⟨e0, e1, e2, -⟩ := hf
      change _ = _ at e0 e1 e2
      simp only [fA, e0, e1, e2]
      kernel_rfl
     obtain ⟨e0, e1, e2, -⟩ := hf
     change _ = _ at e0 e1 e2
     simp only [fA, e0, e1, e2] at hK' ⊢
     have hcall := pf_r9_SameReadings _ _ SL SL W (hsax'.out.le hR) (hsb'.out.le hR)
     rw [decide_eq_true (rfl : SL = SL)] at hcall
     have hcall' := hyd1 hcall
     clear hcall
     go_wp2_with (fail)
     go_at_call 16
     refine hcall'.out.mono ?_
     rintro e w' ⟨rfl, n, rfl⟩
     go_wp2
     exact hK' _ _ (Below.of_drewN W n) rfl
    ·refine mSl rfl fun x' W hR hf Q hK' _ => ?_
     obtain ⟨e0, e1, -⟩ := hf
     change _ = _ at e0 e1
     simp only [fA, e0, e1] at hK' ⊢
     go_wp2
     exact hK' _ _ lrR rfl
    ·refine mSl rfl fun x' W hR hf Q hK' _ => ?_
     obtain ⟨e0, -⟩ := hf
     change _ = _ at e0
     simp only [fA, e0] at hK' ⊢
     go_wp2
     exact hK' _ _ lrR rfl
    ·refine monoStep_listG (fun x' W hf => ?_) fun x' W hR hf Q hK' _ => ?_
     ·obtain ⟨e0, -⟩ := hf
      change _ = _ at e0
      simp only [fA, e0]
      kernel_rfl
     obtain ⟨e0, -⟩ := hf
     change _ = _ at e0
     simp only [fA, e0] at hK' ⊢
     go_wp2
     exact hK' _ _ lrR rfl
    ·refine monoStep_listG (fun x' W hf => ?_) fun x' W hR hf Q hK' _ => ?_
     ·obtain ⟨e0, -⟩ := hf
      change _ = _ at e0
      simp only [fA, e0]
      kernel_rfl
     obtain ⟨e0, -⟩ := hf
     change _ = _ at e0
     simp only [fA, e0] at hK' ⊢
     go_wp2
     exact hK' _ _ lrR rfl
    ·refine monoStep_listG (fun x' W hf => ?_) fun x' W hR hf Q hK' _ => ?_
     ·obtain ⟨e0, e1, e2, -⟩ := hf
      change _ = _ at e0 e1 e2
      simp only [fA, e0, e1, e2]
      kernel_rfl
     obtain ⟨e0, e1, e2, -⟩ := hf
     change _ = _ at e0 e1 e2
     simp only [fA, e0, e1, e2] at hK' ⊢
     go_wp2
     exact hK' _ _ lrR rfl
    ·refine mSl rfl fun x' W hR hf Q hK' _ => ?_
     obtain ⟨e0, e1, -⟩ := hf
     change _ = _ at e0 e1
     simp only [fA, e0, e1] at hK' ⊢
     go_wp2
     exact hK' _ _ lrR rfl
    ·refine mSl rfl fun x' W hR hf Q hK' _ => ?_
     obtain ⟨e0, -⟩ := hf
     change _ = _ at e0
     simp only [fA, e0] at hK' ⊢
     go_wp2
     exact hK' _ _ lrR rfl
    ·refine monoStep_listG (fun x' W hf => ?_) fun x' W hR hf Q hK' _ => ?_
     ·obtain ⟨e0, -⟩ := hf
      change _ = _ at e0
      simp only [fA, e0]
      kernel_rfl
     obtain ⟨e0, -⟩ := hf
     change _ = _ at e0
     obtain ⟨c0, c1, c2, c3, c4, c5⟩ := pc6 (blk hR tx'.out)
     simp only [fA, e0] at hK' ⊢
     go_wp2
     exact hK' _ _ lrR rfl
    ·refine monoStep_listG (fun x' W hf => ?_) fun x' W hR hf Q hK' _ => ?_
     ·obtain ⟨e0, -⟩ := hf
      change _ = _ at e0
      simp only [fA, e0]
      kernel_rfl
     obtain ⟨e0, -⟩ := hf
     change _ = _ at e0
     obtain ⟨c0, c1, c2, c3, c4, c5⟩ := pc6 (blk hR kx'.out)
     simp only [fA, e0] at hK' ⊢
     go_wp2
     exact hK' _ _ lrR rfl
    ·refine monoStep_listG (fun x' W hf => ?_) fun x' W hR hf Q hK' _ => ?_
     ·obtain ⟨e0, e1, e2, -⟩ := hf
      change _ = _ at e0 e1 e2
      simp only [fA, e0, e1, e2]
      kernel_rfl
     obtain ⟨e0, e1, e2, -⟩ := hf
     change _ = _ at e0 e1 e2
     simp only [fA, e0, e1, e2] at hK' ⊢
     have hcall := pf_r9_SamePicture _ _ a0 a0 W (hox'.out.le hR) (hpx'.out.le hR)
     have hcall' := hyd1 hcall
     clear hcall
     go_wp2_with (fail)
     go_at_call 17
     refine hcall'.out.mono ?_
     rintro e w' ⟨b, rfl, hbt, y1⟩
     obtain rfl : b = true := hbt.2 (by first | trivial | rfl)
     go_wp2
     exact hK' _ _ y1 rfl
    ·refine mSl rfl fun x' W hR hf Q hK' _ => ?_
     obtain ⟨e0, e1, -⟩ := hf
     change _ = _ at e0 e1
     simp only [fA, e0, e1] at hK' ⊢
     go_wp2
     exact hK' _ _ lrR rfl
   ·intro x' W hR hf Q' hQ1 _
    have e29 := hf 29 (by decide)
    change _ = _ at e29
    simp only [List.drop_succ_cons, List.drop_zero]
    rw [show List.range 30 = [0, 1, 2, 3, 4, 5, 6, 7, 8, 9, 10, 11, 12, 13, 14, 15, 16, 17, 18, 19, 20, 21, 22, 23, 24, 25, 26, 27, 28, 29] from rfl]
    simp only [fA, e29]
    clear hf
    have hbf := bel_set hbwx'.out hR
    have ⟨hbf', hR'⟩ := hyd2 hbf hR
    clear hR hbf
    go_wp2
    refine hQ1 _ _ ?_
    clear hQ1
    go_wp2
    go_ret
    exact ⟨rfl, hbf'.out⟩
theorem law_ReadFinds (a0 : Pic) (x0 : Value) (a1 : Prog) (x1 : Value) (a2 a3 : Int) (w : World) (w0 : IsPic w x0 a0 ∧ a0.Fit) (w1 : IsProg w x1 a1 ∧ a1.fits) (w2 : (Lit.int .i64 a2).wf = true) (w3 : (Lit.int .i64 a3).wf = true) :
  Calls Tryz.prog 3 #[x0, x1, .int .i64 a2, .int .i64 a3] w fun e w' => e = .returned (.bool true) ∧ Below w.heap.size w w' := by
 have h2' : IntKind.i64.min ≤ a2 ∧ a2 ≤ IntKind.i64.max := by simpa [Lit.wf] using w2
 have h3' : IntKind.i64.min ≤ a3 ∧ a3 ≤ IntKind.i64.max := by simpa [Lit.wf] using w3
 exact l9_finds a0 a1 x0 x1 a2 a3 w w0.1 w0.2 w1.1 h2' h3'
end Go.Proofs.YtjdgkmcmgagkgaaGreat
