/- The law ReadFits: its walk. -/
import Derived.Test.YtkblockodaiigaaRdTwin
import Derived.Test.YtkblockodaiigaaRdGrtR
import Derived.Test.YtkblockodaiigaaRdSimV
import Derived.Test.YtkblockodaiigaaRdSimpW
import Derived.Test.YtkblockodaiigaaRdSameP
import Derived.Test.YtkblockodaiigaaRdSPr
namespace Go.Proofs.Ytkblockodaiigaa
set_option maxRecDepth 100000
set_option maxHeartbeats 2000000
open Go.RowKit
set_option linter.unusedVariables false
set_option linter.unusedSimpArgs false
theorem law_ReadFits (a0 : Pic) (x0 : Value) (a1 : Fnd) (a2 : Int) (w : World) (w0 : IsPic w x0 a0 ∧ a0.Fit) (w1 : a1.Fit) (w2 : (Lit.int .i64 a2).wf = true) :
  Calls Try.prog 3 #[x0, fndV a1, .int .i64 a2] w fun e w' => e = .returned (.bool true) ∧ Below w.heap.size w w' := by
 obtain ⟨hp, hf⟩ := w0
 have hs := lit64 w2
 have hp9 := hp
 obtain ⟨vh, vr, rfl, hh, hr⟩ := hp
 obtain ⟨HA, hc, rfl, -⟩ := hh.slice
 obtain ⟨RA, rc, rfl, -⟩ := hr.slice
 clear hh hr w2
 obtain ⟨fh, ft, fa, fl, fi⟩ := a1
 show Calls Try.prog 3 #[_, .agg #[.int .i64 fh, .int .i64 ft, .int .i64 fa, .int .i64 fl, .int .i64 fi], _] w _
 obtain ⟨xp, hxp⟩ : ∃ x, (Value.agg #[.slice HA a0.hs.length hc, .int .i64 a0.tl, .int .i64 a0.th, .int .i64 a0.al, .int .i64 a0.ah, .slice RA a0.rds.length rc]) = x := ⟨_, rfl⟩
 obtain ⟨E, hE⟩ : ∃ E, fitsE a0 ⟨fh, ft, fa, fl, fi⟩ a2 = E := ⟨_, rfl⟩
 obtain ⟨L, hL⟩ : ∃ L, fitsV a0 ⟨fh, ft, fa, fl, fi⟩ a2 = L := ⟨_, rfl⟩
 obtain ⟨E2, hE2⟩ : ∃ E, simpE a0 ⟨fh, ft, fa, fl, fi⟩ a2 = E := ⟨_, rfl⟩
 obtain ⟨q, hq⟩ : ∃ L, simpP a0 ⟨fh, ft, fa, fl, fi⟩ a2 = L := ⟨_, rfl⟩
 have kgr := fun W h => pf_r9_Great _ a0 W (hp9.le (W := W) h) hf
 have kfp : ∀ v W, IsPic W v a0 → Calls Try.prog 12 #[v, .agg #[.int .i64 fh, .int .i64 ft, .int .i64 fa, .int .i64 fl, .int .i64 fi], .int .i64 a2] W fun e w' => ∃ v', e = .returned (.tuple #[v', .int .i64 E]) ∧ Below W.heap.size W w' ∧ GridL w' v' L := fun v W h => by rw [← hE, ← hL]; exact pf_rd_Fits v a0 ⟨fh, ft, fa, fl, fi⟩ a2 W h hf w1 hs
 have kfr : ∀ v W, IsPic W v a0 → Calls Try.prog 13 #[v, .agg #[.int .i64 fh, .int .i64 ft, .int .i64 fa, .int .i64 fl, .int .i64 fi], .int .i64 a2] W fun e w' => ∃ v', e = .returned (.tuple #[v', .int .i64 E]) ∧ Below W.heap.size W w' ∧ GridL w' v' L := fun v W h => by rw [← hE, ← hL]; exact pf_r9_Fits v a0 ⟨fh, ft, fa, fl, fi⟩ a2 W h hf w1 hs
 have ksp : ∀ v W, IsPic W v a0 → Calls Try.prog 14 #[v, .agg #[.int .i64 fh, .int .i64 ft, .int .i64 fa, .int .i64 fl, .int .i64 fi], .int .i64 a2] W fun e w' => ∃ v', e = .returned (.tuple #[v', .int .i64 E2]) ∧ Below W.heap.size W w' ∧ NewProg W.heap.size w' v' q := fun v W h => by rw [← hE2, ← hq]; exact pf_rd_Simplest v a0 ⟨fh, ft, fa, fl, fi⟩ a2 W h hf w1 hs
 have ksr : ∀ v W, IsPic W v a0 → Calls Try.prog 15 #[v, .agg #[.int .i64 fh, .int .i64 ft, .int .i64 fa, .int .i64 fl, .int .i64 fi], .int .i64 a2] W fun e w' => ∃ v', e = .returned (.tuple #[v', .int .i64 E2]) ∧ Below W.heap.size W w' ∧ IsProg w' v' q := fun v W h => by rw [← hE2, ← hq]; exact pf_r9_Simplest v a0 ⟨fh, ft, fa, fl, fi⟩ a2 W h hf w1 hs
 obtain ⟨W0, hW0, hb0, k0⟩ := newb w (.cells #[.slice HA a0.hs.length hc, .int .i64 a0.tl, .int .i64 a0.th, .int .i64 a0.al, .int .i64 a0.ah, .slice RA a0.rds.length rc] 25)
 obtain ⟨W1, hW1, hb1, k1⟩ := newb W0 (.cells #[.int .i64 fh, .int .i64 ft, .int .i64 fa, .int .i64 fl, .int .i64 fi] 27)
 have k01 := blk hb1 k0
 have hbw1 := bel_set hb0 hb1
 obtain ⟨c0, c1, c2, c3, c4, c5⟩ := pc6 k01
 have z0 : w.heap.size < W0.heap.size := gsl k0
 clear hE hL hE2 hq hxp
 have ⟨hp9', hf', w1', hs', hb0', hb1', k0', k1'⟩ := hyd8 hp9 hf w1 hs hb0 hb1 k0 k1
 have ⟨k01', hbw1', kgr', kfp', kfr', ksp', ksr'⟩ := hyd7 k01 hbw1 kgr kfp kfr ksp ksr
 clear ksr ksp kfr kfp kgr hbw1 k01 k1 k0 hb1 hb0 hs w1 hf hp9
 go_enter Try.func3, Try.ntmps3
 go_wp2_with (fail)
 clear hW0 hW1
 go_at_call 10
 refine (kgr'.out W1 hbw1'.out).mono ?_
 rintro e W2 ⟨b, rfl, hb2, hgr⟩
 have hbw2 := bel_set hbw1'.out hb2
 have k02 := blk hb2 k01'.out
 have k12 := blk hb2 k1'.out
 clear c0 c1 c2 c3 c4 c5
 obtain ⟨c0, c1, c2, c3, c4, c5⟩ := pc6 k02
 generalize hP1 : W0.heap.size = P1 at *
 have ⟨hP1', hb2', hbw2', k02', k12', hgr'⟩ := hyd6 hP1 hb2 hbw2 k02 k12 hgr
 clear hgr k12 k02 hbw2 hb2 hP1
 cases b with
 | true =>
  go_wp2
  go_ret
  exact ⟨rfl, hbw2'.out⟩
 | false =>
  obtain ⟨g6, g70, gl⟩ := hgr'.out rfl
  have gl' := hyd1 gl
  clear gl
  go_wp2_with (fail)
  go_at_call 11
  refine (pf_r9_Twin _ a0 W2 (hp9'.out.le hbw2'.out) (by omega) (by omega) (fun h hm => by have := gl'.out h hm; omega)).mono ?_
  rintro e W3 ⟨vo, rfl, hb3, ho⟩
  obtain ⟨oh, or, rfl, oh1, or1⟩ := id ho
  obtain ⟨OA, oc, rfl, -⟩ := oh1.slice
  obtain ⟨QA, qc, rfl, -⟩ := or1.slice
  clear oh1 or1 c0 c1 c2 c3 c4 c5
  obtain ⟨W4, hW4, hb4, k4⟩ := newb W3 (.cells #[.slice OA a0.hs.length oc, .int .i64 a0.tl, .int .i64 a0.th, .int .i64 a0.al, .int .i64 a0.ah, .slice QA a0.rds.length qc] 25)
  have hbw3 := bel_set hbw2'.out hb3
  have hbw4 := bel_set hbw3 hb4
  have k04 := blk hb4 (blk hb3 k02'.out)
  have k14 := blk hb4 (blk hb3 k12'.out)
  have ho4 := ho.le hb4
  obtain ⟨c0, c1, c2, c3, c4, c5⟩ := pc6 k4
  obtain ⟨d0, d1, d2, d3, d4⟩ := pc5 k14
  have ⟨hb3', ho', hb4', k4', hbw3', hbw4', k04', k14'⟩ := hyd8 hb3 ho hb4 k4 hbw3 hbw4 k04 k14
  have ho4' := hyd1 ho4
  clear ho4 k14 k04 hbw4 hbw3 k4 hb4 ho hb3
  go_wp2_with (fail)
  clear hW4
  generalize hP2 : W3.heap.size = P2 at *
  have hP2' := hyd1 hP2
  clear hP2
  go_at_call 12
  refine (kfp'.out _ W4 ho4'.out).mono ?_
  rintro e W5 ⟨va, rfl, hb5, hga⟩
  have hbw5 := bel_set hbw4'.out hb5
  have k05 := blk hb5 k04'.out
  have k15 := blk hb5 k14'.out
  clear c0 c1 c2 c3 c4 c5 d0 d1 d2 d3 d4
  obtain ⟨c0, c1, c2, c3, c4, c5⟩ := pc6 k05
  obtain ⟨d0, d1, d2, d3, d4⟩ := pc5 k15
  have ⟨hb5', hga', hbw5', k05', k15'⟩ := hyd5 hb5 hga hbw5 k05 k15
  clear k15 k05 hbw5 hga hb5
  go_wp2_with (fail)
  go_at_call 13
  refine (kfr'.out _ W5 (hp9'.out.le hbw5'.out)).mono ?_
  rintro e W6 ⟨vb, rfl, hb6, hgb⟩
  have hbw6 := bel_set hbw5'.out hb6
  have hb46 := bel_set hb5'.out hb6
  have k46 := blk hb46 k4'.out
  have k16 := blk hb6 k15'.out
  clear c0 c1 c2 c3 c4 c5 d0 d1 d2 d3 d4
  obtain ⟨c0, c1, c2, c3, c4, c5⟩ := pc6 k46
  obtain ⟨d0, d1, d2, d3, d4⟩ := pc5 k16
  have ⟨hb6', hgb', hbw6', hb46', k46', k16'⟩ := hyd6 hb6 hgb hbw6 hb46 k46 k16
  clear k16 k46 hb46 hbw6 hgb hb6
  go_wp2_with (fail)
  go_at_call 14
  refine (ksp'.out _ W6 (ho4'.out.le hb46'.out)).mono ?_
  rintro e W7 ⟨vx, rfl, hb7, hx⟩
  have hxp := hx.prog
  obtain ⟨x0, x1, x5, rfl, i0, o1, i5⟩ := hx
  obtain ⟨I0, j0, rfl, -⟩ := id i0
  obtain ⟨I5, j5, rfl, -⟩ := id i5
  obtain ⟨I1, j1, rfl, hj1, hg1⟩ : ∃ A c, x1 = .slice A q.rub.length c ∧ q.rub.length ≤ maxLen ∧ (0 < q.rub.length → ∃ g, A = some ⟨g, 0, none⟩ ∧ W6.heap.size ≤ g ∧ g < W7.heap.size) := by
   have h := o1
   rcases h.2 with ⟨rfl, e⟩ | ⟨g, cap, cur, rfl, hb, hg, hnc, hcm, hcs, ht⟩
   ·exact ⟨none, 0, by rw [e], by omega, fun h => absurd h (by omega)⟩
   ·exact ⟨_, cap, rfl, by omega, fun _ => ⟨g, rfl, hb, gsl hg⟩⟩
  unfold maxLen at hj1
  obtain ⟨W8, hW8, hb8, k8⟩ := newb W7 (.cells #[.slice I0 q.ros.length j0, .slice I1 q.rub.length j1, .int .i64 q.start, .int .i64 q.throw, .int .i64 q.adv, .slice I5 q.shifts.length j5] 38)
  have hbw7 := bel_set hbw6'.out hb7
  have hbw8 := bel_set hbw7 hb8
  have hb68 := bel_set hb7 hb8
  have k08 := blk hb8 (blk hb7 (blk hb6'.out k05'.out))
  have k18 := blk hb8 (blk hb7 k16'.out)
  have o8 := own_below o1 hb8
  have hxp8 := hxp.le hb8
  clear c0 c1 c2 c3 c4 c5 d0 d1 d2 d3 d4
  obtain ⟨c0, c1, c2, c3, c4, c5⟩ := pc6 k08
  obtain ⟨d0, d1, d2, d3, d4⟩ := pc5 k18
  clear i0 i5 o1 hxp
  have ⟨hb7', hb8', k8', hbw7', hbw8', hb68', k08', k18'⟩ := hyd8 hb7 hb8 k8 hbw7 hbw8 hb68 k08 k18
  have ⟨o8', hxp8', hg1'⟩ := hyd3 o8 hxp8 hg1
  clear hg1 hxp8 o8 k18 k08 hb68 hbw8 hbw7 k8 hb8 hb7
  go_wp2_with (fail)
  clear hW8
  go_at_call 15
  refine (ksr'.out _ W8 (hp9'.out.le hbw8'.out)).mono ?_
  rintro e W9 ⟨vy, rfl, hb9, hy⟩
  have hyp := hy
  obtain ⟨y0, y1, y5, rfl, u0, u1, u5⟩ := hy
  obtain ⟨U0, m0, rfl, -⟩ := id u0
  obtain ⟨U1, m1, rfl, -⟩ := id u1
  obtain ⟨U5, m5, rfl, -⟩ := id u5
  obtain ⟨W10, hW10, hb10, k10⟩ := newb W9 (.cells #[.slice U0 q.ros.length m0, .slice U1 q.rub.length m1, .int .i64 q.start, .int .i64 q.throw, .int .i64 q.adv, .slice U5 q.shifts.length m5] 38)
  have hb810 := bel_set hb9 hb10
  have kx10 := blk hb810 k8'.out
  have hbw10 := bel_set hbw8'.out hb810
  have hyp10 := hyp.le hb10
  have hxp10 := hxp8'.out.le hb810
  obtain ⟨GA, ga, rfl, -⟩ := hga'.out.slice
  obtain ⟨GB, gb, rfl, -⟩ := hgb'.out.slice
  clear c0 c1 c2 c3 c4 c5 d0 d1 d2 d3 d4 u0 u1 u5
  obtain ⟨c0, c1, c2, c3, c4, c5⟩ := pc6 kx10
  obtain ⟨d0, d1, d2, d3, d4, d5⟩ := pc6 k10
  have ⟨hb9', hyp', hb10', k10', hb810', kx10', hbw10', hyp10'⟩ := hyd8 hb9 hyp hb10 k10 hb810 kx10 hbw10 hyp10
  have hxp10' := hyd1 hxp10
  clear hxp10 hyp10 hbw10 kx10 hb810 k10 hb10 hyp hb9
  go_wp2_with (fail)
  clear hW10
  go_at_call 16
  refine (pf_p4_SameP _ _ q W10 hxp10'.out hyp10'.out).mono ?_
  rintro e W11 ⟨rfl, hb11⟩
  have hb6b : Below W6.heap.size W6 W11 := bel_set (bel_set hb68'.out hb810'.out) hb11
  have hb4b : Below W4.heap.size W4 W11 := bel_set hb46'.out hb6b
  have hbwb : Below w.heap.size w W11 := bel_set hbw10'.out hb11
  have kx11 := blk hb11 kx10'.out
  have o11 := own_below o8'.out (bel_set hb810'.out hb11)
  have hga11 := hga'.out.le (bel_set hb6'.out hb6b)
  have hgb11 := hgb'.out.le hb6b
  clear c0 c1 c2 c3 c4 c5 d0 d1 d2 d3 d4 d5
  have ⟨hb11', hb6b', hb4b', hbwb', kx11', o11', hga11', hgb11'⟩ := hyd8 hb11 hb6b hb4b hbwb kx11 o11 hga11 hgb11
  clear hgb11 hga11 o11 kx11 hbwb hb4b hb6b hb11
  generalize hX : W7.heap.size = X at *
  have hX' := hyd1 hX
  clear hX
  go_upto_region 11 with (fail)
  have zL : L.length ≤ maxLen := by obtain ⟨_, _, h, h2⟩ := hga11'.out.slice; exact h2
  unfold maxLen at zL
  go_loopw [73] (fun kx wr => ∃ k : Nat, k ≤ L.length ∧ kx = .int .i64 (k : Int) ∧ Hid (Below W11.heap.size W11 wr)) (fun kx _ => L.length - (intOf kx).toNat)
  case atStart => exact ⟨0, Nat.zero_le _, rfl, Lib.hid (Below.refl _ _)⟩
  case round =>
   obtain ⟨k, hk, rfl, hbr⟩ := hrel
   by_cases hlt : k < L.length
   ·obtain ⟨b1, of1, cc1, r1, q1, hbl1, hc1, hi1⟩ := (hga11'.out.le hbr.out).at hlt
    obtain ⟨b2, of2, cc2, r2, q2, hbl2, hc2, hi2⟩ := (hgb11'.out.le hbr.out).at hlt
    injection q1 with q1 _ q3
    subst q1 q3
    injection q2 with q1 _ q3
    subst q1 q3
    obtain ⟨l, hl⟩ : ∃ y, L[k] = y := ⟨_, rfl⟩
    rw [hl] at hi1 hi2
    have ks : ∀ n, Calls Try.prog 17 #[r1, r2] (wr.drewN n) fun e w' => e = .returned (.bool true) ∧ ∃ k, w' = (wr.drewN n).drewN k := fun n => by have h := pf_l9_same _ _ _ _ _ (ints_drew hi1 n) (ints_drew hi2 n); rwa [show (l == l) = true by simp] at h
    obtain ⟨A1, n1, rfl, -⟩ := id hi1
    obtain ⟨A2, n2, rfl, -⟩ := id hi2
    have k1 : (k : Int) < (L.length : Int) := by omega
    have k2 : (0 : Int) ≤ (k : Int) := by omega
    have ⟨hi1', hi2', ks', hl', hbr'⟩ := hyd5 hi1 hi2 ks hl hbr
    clear hbr hl ks hi2 hi1
    go_wp2_with (fail)
    go_quiet ((go_at_call 17; first | (with_reducible exact Calls.quiet_of (ks'.out _)) | exact Calls.quiet_of (ks'.out _)))
    go_wp2
    go_roundw
    case rel => exact ⟨k + 1, by omega, by go_num, Lib.hid (below_drewN' hbr'.out _)⟩
    case measure => simp [intOf]; omega
   ·obtain rfl : k = L.length := by omega
    have kxr := blk hbr.out kx11'.out
    have o0 := own_below o11'.out hbr.out
    obtain ⟨c0, c1, c2, c3, c4, c5⟩ := pc6 kxr
    generalize hrub : q.rub = R at *
    have hb6r : Below W6.heap.size W6 wr := bel_set hb6b'.out hbr.out
    have hr0 : Hid (Below W6.heap.size W6 wr ∧ wr.heap[X]? = some (.cells #[.slice I0 q.ros.length j0, .slice I1 R.length j1, .int .i64 q.start, .int .i64 q.throw, .int .i64 q.adv, .slice I5 q.shifts.length j5] 38) ∧ wr.ownsRow W6.heap.size 3 1 (.slice I1 R.length j1) R.length ((part (fun _ => -7) R 0).map vint)) := Lib.hid ⟨hb6r, kxr, by rw [part_zero]; exact o0⟩
    have ⟨hbr', kxr', o0', hb6r', hrub'⟩ := hyd5 hbr kxr o0 hb6r hrub
    clear hrub hb6r o0 kxr hbr
    go_upto_region 17 with (fail)
    clear c0 c1 c2 c3 c4 c5
    go_loopw [90] (fun kx wr => ∃ k : Nat, k ≤ R.length ∧ kx = .int .i64 (k : Int) ∧ Hid (Below W6.heap.size W6 wr ∧ wr.heap[X]? = some (.cells #[.slice I0 q.ros.length j0, .slice I1 R.length j1, .int .i64 q.start, .int .i64 q.throw, .int .i64 q.adv, .slice I5 q.shifts.length j5] 38) ∧ wr.ownsRow W6.heap.size 3 1 (.slice I1 R.length j1) R.length ((part (fun _ => -7) R k).map vint))) (fun kx _ => R.length - (intOf kx).toNat)
    case atStart => exact ⟨0, Nat.zero_le _, rfl, hr0⟩
    case round =>
     obtain ⟨k, hk, rfl, hI⟩ := hrel
     obtain ⟨hbz, kxz, oz⟩ := hI.out
     clear hr0
     by_cases hlt : k < R.length
     ·obtain ⟨g, rfl, hg1, hg2⟩ := hg1'.out (by omega)
      have hck := own_cell oz (part_length _ _ _) (part_get (fun _ => -7) R k hlt)
      have hfr := oz.frozenAt k
      have hset := part_set (fun _ => -7) R k hlt
      obtain ⟨rk, hrk⟩ : ∃ y, R[k] = y := ⟨_, rfl⟩
      rw [hrk] at hck
      obtain ⟨c0, c1, c2, c3, c4, c5⟩ := pc6 kxz
      have k1 : (k : Int) < (R.length : Int) := by omega
      have k2 : (0 : Int) ≤ (k : Int) := by omega
      have hgX : X ≠ g := by omega
      have hn : Below W6.heap.size W6 (wr.setCell ⟨g, k, none⟩ (.int .i64 (-7))) ∧ (wr.setCell ⟨g, k, none⟩ (.int .i64 (-7))).heap[X]? = some (.cells #[.slice I0 q.ros.length j0, .slice (some ⟨g, 0, none⟩) R.length j1, .int .i64 q.start, .int .i64 q.throw, .int .i64 q.adv, .slice I5 q.shifts.length j5] 38) ∧ (wr.setCell ⟨g, k, none⟩ (.int .i64 (-7))).ownsRow W6.heap.size 3 1 (.slice (some ⟨g, 0, none⟩) R.length j1) R.length ((part (fun _ => -7) R (k + 1)).map vint) :=
       ⟨hbz.setCell (p := ⟨g, k, none⟩) hg1 _, (Below.heap_setCell wr ⟨g, k, none⟩ _ X hgX).trans kxz, by have h := own_put oz k (-7); rw [hset] at h; exact h⟩
      have ⟨hI', hbz', kxz', oz', hset', hrk', hn'⟩ := hyd7 hI hbz kxz oz hset hrk hn
      clear hn hrk hset oz kxz hbz hI
      go_wp2
      go_roundw
      case rel => exact ⟨k + 1, by omega, by go_num, hn'⟩
      case measure => simp [intOf]; omega
     ·obtain rfl : k = R.length := by omega
      have hb4z : Below W4.heap.size W4 wr := bel_set hb46'.out hbz
      have hbwz : Below w.heap.size w wr := bel_set hbw6'.out hbz
      have k4z := blk hb4z k4'.out
      have k0z := blk hb4z k04'.out
      obtain ⟨c0, c1, c2, c3, c4, c5⟩ := pc6 k4z
      obtain ⟨d0, d1, d2, d3, d4, d5⟩ := pc6 k0z
      have ⟨hI', hbz', kxz', oz', hb4z', hbwz', k4z', k0z'⟩ := hyd8 hI hbz kxz oz hb4z hbwz k4z k0z
      clear k0z k4z hbwz hb4z oz kxz hbz hI
      go_wp2_with (fail)
      go_at_call 18
      refine (pf_r9_SamePicture _ _ a0 a0 wr (ho4'.out.le hb4z'.out) (hp9'.out.le hbwz'.out)).mono ?_
      rintro e W12 ⟨b, rfl, hbt, hb12⟩
      obtain rfl : b = true := hbt.2 rfl
      clear c0 c1 c2 c3 c4 c5 d0 d1 d2 d3 d4 d5
      have hb12' := hyd1 hb12
      clear hb12
      go_wp2
      go_ret
      exact ⟨rfl, bel_set hbwz'.out hb12'.out⟩
end Go.Proofs.Ytkblockodaiigaa
