/- Read, drawn, and read again: the law ReadAgain. -/
import Derived.Test.YtjdgkmcmgagkgaaGreatAgainLaw
import Derived.Test.YtjdgkmcmgagkgaaGreatRdAlv
import Derived.Test.YtjdgkmcmgagkgaaGreatRdSameP
import Derived.Test.YtjdgkmcmgagkgaaGreatRdSPr
namespace Go.Proofs.YtjdgkmcmgagkgaaGreat
set_option maxRecDepth 100000
set_option maxHeartbeats 4000000
open Go.RowKit
set_option linter.unusedVariables false
set_option linter.unusedSimpArgs false
theorem picOk_fit {q : Pic} (h : PicOk q) : q.Fit := by
 have hst := h.steps
 refine ⟨?_, ?_, ?_, ?_, fun r hr => ?_, fun d hd => ?_⟩
 ·have h1 := h.tl; have h2 := h.tle; have h3 := h.th; unfold fit64; omega
 ·have h1 := h.tl; have h2 := h.tle; have h3 := h.th; unfold fit64; omega
 ·have h1 := h.al; have h2 := h.ale; have h3 := h.ah; unfold fit64; omega
 ·have h1 := h.al; have h2 := h.ale; have h3 := h.ah; unfold fit64; omega
 ·obtain ⟨a1, a2, a3, a4, a5⟩ := h.rd r hr
  unfold fit64
  omega
 ·obtain ⟨a1, a2, a3⟩ := h.head d hd
  constructor
  ·intro x hx
   obtain ⟨i, hi, rfl⟩ := List.getElem_of_mem hx
   have := (rosOk_iff.1 a2).2.2 i hi
   unfold fit64
   omega
  ·intro x hx
   obtain ⟨i, hi, rfl⟩ := List.getElem_of_mem hx
   have := (rubOk_iff.1 a3).2.2.2.1 i hi
   unfold fit64
   omega
def AgPost (w : World) (e : Ending) (w' : World) : Prop := e = .returned (.bool true) ∧ Below w.heap.size w w'
theorem l9_again (p : Prog) (x0 : Value) (cu : Nat) (w : World) (hv : IsProg w x0 p) (hadv : fit64 p.adv) (hcu : cu ≤ 255) :
  Calls Tryz.prog 5 #[x0, .int .u8 (cu : Int)] w (AgPost w) := by
 have hv9 := hv
 obtain ⟨v0, v1, v5, rfl, h0, h1, h5⟩ := hv
 obtain ⟨A0, c0, rfl, -⟩ := id h0
 obtain ⟨A1, c1, rfl, -⟩ := id h1
 obtain ⟨A5, c5, rfl, -⟩ := id h5
 obtain ⟨rl, hrl⟩ : ∃ n, p.ros.length = n := ⟨_, rfl⟩
 obtain ⟨bl, hbl⟩ : ∃ n, p.rub.length = n := ⟨_, rfl⟩
 obtain ⟨sl, hsl⟩ : ∃ n, p.shifts.length = n := ⟨_, rfl⟩
 rw [hrl, hbl, hsl] at hv9 ⊢
 obtain ⟨W1, hW1, hb1, k1⟩ := newb w (.cells #[.slice A0 rl c0, .slice A1 bl c1, .int .i64 p.start, .int .i64 p.throw, .int .i64 p.adv, .slice A5 sl c5] 28)
 have kal := fun W => pf_l9_alive W
 have ⟨hv9', h0', h1', h5', hb1', k1', kal', hadv'⟩ := hyd8 hv9 h0 h1 h5 hb1 k1 kal hadv
 have ⟨hrl', hbl', hsl'⟩ := hyd3 hrl hbl hsl
 clear hsl hbl hrl hadv kal k1 hb1 h5 h1 h0 hv9
 go_enter Tryz.func5, Tryz.ntmps5
 go_wp2_with (fail)
 clear hW1
 go_at_call 18
 refine (kal'.out W1).mono ?_
 rintro e W2 ⟨rfl, hb2⟩
 have hbw2 := bel_set hb1'.out hb2
 have k2 := blk hb2 k1'.out
 obtain ⟨d0, d1, d2, d3, d4, d5⟩ := pc6 k2
 have kgr := pf_r4_Great _ p W2 (hv9'.out.below hbw2)
 obtain ⟨G, hG⟩ : ∃ g, greatB p = g := ⟨_, rfl⟩
 rw [hG] at kgr
 have ⟨hb2', hbw2', k2', kgr', hG'⟩ := hyd5 hb2 hbw2 k2 kgr hG
 clear hG kgr k2 hbw2 hb2
 go_wp2_with (fail)
 go_at_call 7
 refine kgr'.out.mono ?_
 rintro e W3 ⟨rfl, hb3⟩
 have hbw3 := bel_set hbw2'.out hb3
 have k3 := blk hb3 k2'.out
 clear d0 d1 d2 d3 d4 d5
 obtain ⟨d0, d1, d2, d3, d4, d5⟩ := pc6 k3
 have ⟨hb3', hbw3', k3'⟩ := hyd3 hb3 hbw3 k3
 clear k3 hbw3 hb3
 by_cases hbig : G = true ∨ 6 < rl ∨ 8 < cu
 ·have hcase : G = true ∨ (G = false ∧ (6 : Int) < (rl : Int)) ∨ (G = false ∧ ¬ (6 : Int) < (rl : Int) ∧ (8 : Int) < (cu : Int)) := by
   cases G
   ·right
    by_cases h6 : 6 < rl
    ·exact .inl ⟨rfl, by omega⟩
    ·refine .inr ⟨rfl, by omega, ?_⟩
     rcases hbig with h | h | h
     ·cases h
     ·omega
     ·omega
   ·left; rfl
  clear hbig
  rcases hcase with rfl | ⟨rfl, h⟩ | ⟨rfl, h, g⟩
  all_goals
   go_wp2
   go_ret
   exact ⟨rfl, hbw3'.out⟩
 have hGf : G = false := by cases G <;> simp_all
 subst hGf
 have g1 : ¬ (6 : Int) < (rl : Int) := by omega
 have g2 : ¬ (8 : Int) < (cu : Int) := by omega
 clear hbig
 have s1 : IntKind.i64.wrap (cu : Int) = (cu : Int) := IntWalk.i64_in _ (by omega)
 have kpi := fun W v (x : Prog) (h : IsProg W v x) (ha : fit64 x.adv) => pf_l9_picture v (.slice none 0 0) (.slice none 0 0) x [] [] (cu : Int) 0 W h (Arr.nil _ _) (Arr.nil _ _) (fun b hb => by cases hb) (by decide) (by unfold fit64; omega) (by unfold fit64; omega) ha
 have kp1 := kpi W3 _ p (hv9'.out.below hbw3'.out) hadv'.out
 have ⟨kpi', kp1'⟩ := hyd2 kpi kp1
 clear kp1 kpi
 go_wp2_with (fail)
 go_at_call 25
 refine kp1'.out.mono ?_
 rintro e W4 ⟨vq, b, rfl, hb4, hbq, ⟨QH, nh, oc, t1, t2, t3, t4, QR, qr, qc, rfl⟩, hpic⟩
 have hbw4 := bel_set hbw3'.out hb4
 have k4 := blk hb4 k3'.out
 obtain ⟨W5, hW5, hb5, kq5⟩ := newb W4 (.cells #[.slice QH nh oc, .int .i64 t1, .int .i64 t2, .int .i64 t3, .int .i64 t4, .slice QR qr qc] 25)
 have hbw5 := bel_set hbw4 hb5
 have k5 := blk hb5 k4
 clear d0 d1 d2 d3 d4 d5
 cases b with
 | false =>
  have ⟨hb4', hbw4', k4', hb5', kq5', hbw5', k5', hbq'⟩ := hyd8 hb4 hbw4 k4 hb5 kq5 hbw5 k5 hbq
  have hpic' := hyd1 hpic
  clear hpic hbq k5 hbw5 kq5 hb5 k4 hbw4 hb4
  go_wp2
  go_ret
  exact ⟨rfl, hbw5'.out⟩
 | true =>
  have hT := trueIn hbq.symm (fun b hb => by cases hb)
  have hpq := (hpic rfl).le hb5
  obtain ⟨first, l, m0, mP, mE, mS, mV, mT, n0, nP⟩ := again_simple hT
  have hqO := true_ok [] hT
  have hrO := true_ok [] mT
  obtain ⟨q, hq⟩ : ∃ q, picP p [] (cu : Int) 0 [] = q := ⟨_, rfl⟩
  obtain ⟨r, hr⟩ : ∃ q, picP (againX p first l) [] (cu : Int) 0 [] = q := ⟨_, rfl⟩
  obtain ⟨X, hX⟩ : ∃ x, againX p first l = x := ⟨_, rfl⟩
  have hqr : q.rds = seeV p (cu : Int) 0 := by rw [← hq]; exact again_rds
  have hXs : X.start = p.start ∧ X.throw = p.throw ∧ X.adv = p.adv := by rw [← hX]; exact ⟨rfl, rfl, rfl⟩
  rw [hX] at mP mE mS mV mT nP hr
  rw [hq] at hpq hqO m0 mP
  rw [hX] at hrO n0
  rw [hr] at hrO n0 nP
  have hqF := picOk_fit hqO
  have hrF := picOk_fit hrO
  have hs64 : fit64 p.start := by have := (benchFacts (see_zero hT.see)).start; unfold fit64; omega
  have hff : (againF p).Fit := by
   have hp := benchFacts (see_zero hT.see)
   have a1 := hp.start
   have a2 := hp.throw
   have a3 := hp.adv
   unfold againF Fnd.Fit fit64
   dsimp only
   omega
  have hpq9 := hpq
  obtain ⟨uh, ur, hue, hqh, hqrr⟩ := hpq
  injection hue with hue
  injection hue with hue
  simp only [List.cons.injEq, and_true] at hue
  obtain ⟨rfl, hu1, hu2, hu3, hu4, rfl⟩ := hue
  injection hu1 with _ hu1
  injection hu2 with _ hu2
  injection hu3 with _ hu3
  injection hu4 with _ hu4
  subst hu1 hu2 hu3 hu4
  obtain ⟨d0, d1, d2, d3, d4, d5⟩ := pc6 k5
  obtain ⟨W6, hW6, hb6, kf6⟩ := newb W5 (.cells #[.int .i64 0, .int .i64 p.throw, .int .i64 p.adv, .int .i64 p.start, .int .i64 p.start] 52)
  have hbw6 := bel_set hbw5 hb6
  have k6 := blk hb6 k5
  have kq6 := blk hb6 kq5
  have ksm : Calls Tryz.prog 19 #[.agg #[.slice QH nh oc, .int .i64 q.tl, .int .i64 q.th, .int .i64 q.al, .int .i64 q.ah, .slice QR qr qc], .agg #[.int .i64 0, .int .i64 p.throw, .int .i64 p.adv, .int .i64 p.start, .int .i64 p.start], .int .i64 p.start] W6 fun e w' => ∃ v', e = .returned (.tuple #[v', .int .i64 0]) ∧ Below W6.heap.size W6 w' ∧ NewProg W6.heap.size w' v' X := by
   have := pf_rd_Simplest _ q (againF p) p.start W6 (hpq9.le hb6) hqF hff hs64
   rw [m0, mP] at this
   exact this
  have ⟨hb4', hbw4', k4', hb5', kq5', hbw5', k5', hbq'⟩ := hyd8 hb4 hbw4 k4 hb5 kq5 hbw5 k5 hbq
  have ⟨hpic', hT', m0', mP', mE', mS', mV', mT'⟩ := hyd8 hpic hT m0 mP mE mS mV mT
  have ⟨n0', nP', hqO', hrO', hq', hr', hX', hqr'⟩ := hyd8 n0 nP hqO hrO hq hr hX hqr
  have ⟨hXs', hqF', hrF', hs64', hff', hpq9', hqh', hqrr'⟩ := hyd8 hXs hqF hrF hs64 hff hpq9 hqh hqrr
  have ⟨hb6', kf6', hbw6', k6', kq6', ksm'⟩ := hyd6 hb6 kf6 hbw6 k6 kq6 ksm
  clear ksm kq6 k6 hbw6 kf6 hb6 hqrr hqh hpq9 hff hs64 hrF hqF hXs hqr hX hr hq hrO hqO nP n0 mT mV mS mE mP m0 hT hpic hbq k5 hbw5 kq5 hb5 k4 hbw4 hb4
  go_upto_region 8 with (fail)
  clear hW5 hW6 d0 d1 d2 d3 d4 d5
  obtain ⟨d0, d1, d2, d3, d4, d5⟩ := pc6 k6'.out
  obtain ⟨q0, q1, q2, q3, q4, q5⟩ := pc6 kq6'.out
  obtain ⟨f0, f1, f2, f3, f4⟩ := pc5 kf6'.out
  go_wp2_with (fail)
  go_at_call 19
  refine ksm'.out.mono ?_
  rintro e W7 ⟨vx, rfl, hb7, hnx⟩
  have hvx := hnx.prog
  obtain ⟨x0, x1, x5, rfl, i0, i1, i5⟩ := hnx
  obtain ⟨X0, z0, rfl, -⟩ := id i0
  obtain ⟨X1, z1, rfl⟩ := slice_formR i1
  obtain ⟨X5, z5, rfl, -⟩ := id i5
  obtain ⟨W8, hW8, hb8, kx8⟩ := newb W7 (.cells #[.slice X0 X.ros.length z0, .slice X1 X.rub.length z1, .int .i64 X.start, .int .i64 X.throw, .int .i64 X.adv, .slice X5 X.shifts.length z5] 28)
  have hb78 := bel_set hb7 hb8
  have hbw8 := bel_set hbw6'.out hb78
  have k8 := blk hb78 k6'.out
  have kq8 := blk hb78 kq6'.out
  have kf8 := blk hb78 kf6'.out
  have hvx8 := hvx.below hb8
  clear d0 d1 d2 d3 d4 d5 q0 q1 q2 q3 q4 q5 f0 f1 f2 f3 f4
  obtain ⟨y0, y1, y2, y3, y4, y5⟩ := pc6 kx8
  have kse := pf_rd_See _ X (cu : Int) 0 W8 hvx8 (by unfold fit64; omega) (by unfold fit64; omega)
  rw [mS'.out, mV'.out] at kse
  have ⟨hb7', hvx', i0', i1', i5', hb8', kx8', hb78'⟩ := hyd8 hb7 hvx i0 i1 i5 hb8 kx8 hb78
  have ⟨hbw8', k8', kq8', kf8', hvx8', kse'⟩ := hyd6 hbw8 k8 kq8 kf8 hvx8 kse
  clear kse hvx8 kf8 kq8 k8 hbw8 hb78 kx8 hb8 i5 i1 i0 hvx hb7
  go_wp2_with (fail)
  clear hW8
  go_at_call 11
  refine kse'.out.mono ?_
  rintro e W9 ⟨va, rfl, hb9, hra⟩
  obtain ⟨AA, ac, hva, -⟩ := hra.slice
  subst hva
  have hbw9 := bel_set hbw8'.out hb9
  have k9 := blk hb9 k8'.out
  have kq9 := blk hb9 kq8'.out
  have kf9 := blk hb9 kf8'.out
  have kx9 := blk hb9 kx8'.out
  have hqr9 : RdsL W9 (.slice QR qr qc) q.rds := hqrr'.out.le (bel_set hb6'.out (bel_set hb78'.out hb9))
  rw [hqr'.out] at hqr9
  clear y0 y1 y2 y3 y4 y5
  obtain ⟨q0, q1, q2, q3, q4, q5⟩ := pc6 kq9
  have ksr := pf_r9_SameReadings _ _ _ _ W9 hra hqr9
  rw [decide_eq_true rfl] at ksr
  obtain ⟨sn, hsn⟩ : ∃ n, (seeV p (cu : Int) 0).length = n := ⟨_, rfl⟩
  rw [hsn] at ksr ⊢
  have ⟨hb9', hra', hbw9', k9', kq9', kf9', kx9', hqr9'⟩ := hyd8 hb9 hra hbw9 k9 kq9 kf9 kx9 hqr9
  have ⟨ksr', hsn'⟩ := hyd2 ksr hsn
  clear hsn ksr hqr9 kx9 kf9 kq9 k9 hbw9 hra hb9
  go_wp2_with (fail)
  go_at_call 16
  refine ksr'.out.mono ?_
  rintro e W10 ⟨rfl, nq, rfl⟩
  have hb10 := below_drewN' (Below.refl W9.heap.size W9) nq
  generalize W9.drewN nq = W10 at hb10 ⊢
  have hbw10 := bel_set hbw9'.out hb10
  have k10 := blk hb10 k9'.out
  have kf10 := blk hb10 kf9'.out
  have kx10 := blk hb10 kx9'.out
  have hvx10 := hvx8'.out.below (bel_set hb9'.out hb10)
  clear q0 q1 q2 q3 q4 q5
  obtain ⟨y0, y1, y2, y3, y4, y5⟩ := pc6 kx10
  have kp2 := kpi'.out W10 _ X hvx10 (by rw [hXs'.out.2.2]; exact hadv'.out)
  have hbt : pictB X (cu : Int) 0 [] = true := by
   have h1 := mT'.out
   unfold pictB
   rw [h1.see, decide_eq_true rfl, decide_eq_true h1.adv, decide_eq_true h1.few]
   rfl
  rw [hbt, hr'.out] at kp2
  have ⟨hb10', hbw10', k10', kf10', kx10', hvx10', kp2', hbt'⟩ := hyd8 hb10 hbw10 k10 kf10 kx10 hvx10 kp2 hbt
  clear hbt kp2 hvx10 kx10 kf10 k10 hbw10 hb10
  go_wp2_with (fail)
  go_at_call 25
  refine kp2'.out.mono ?_
  rintro e W11 ⟨vr, b, rfl, hb11, hb9b, -, hpr⟩
  subst hb9b
  have hpr := hpr rfl
  have hpr9 := hpr
  obtain ⟨uh, ur, rfl, hrh, hrr⟩ := hpr
  obtain ⟨RH, rh, rfl, -⟩ := hrh.slice
  obtain ⟨RR, rr, rfl, -⟩ := hrr.slice
  obtain ⟨W12, hW12, hb12, kr12⟩ := newb W11 (.cells #[.slice RH r.hs.length rh, .int .i64 r.tl, .int .i64 r.th, .int .i64 r.al, .int .i64 r.ah, .slice RR r.rds.length rr] 25)
  have hb112 := bel_set hb11 hb12
  have hbw12 := bel_set hbw10'.out hb112
  have k12 := blk hb112 k10'.out
  have kf12 := blk hb112 kf10'.out
  have kx12 := blk hb112 kx10'.out
  have hvx12 := hvx10'.out.below hb112
  clear y0 y1 y2 y3 y4 y5
  obtain ⟨d0, d1, d2, d3, d4, d5⟩ := pc6 k12
  obtain ⟨f0, f1, f2, f3, f4⟩ := pc5 kf12
  obtain ⟨q0, q1, q2, q3, q4, q5⟩ := pc6 kr12
  have ksm2 : Calls Tryz.prog 19 #[.agg #[.slice RH r.hs.length rh, .int .i64 r.tl, .int .i64 r.th, .int .i64 r.al, .int .i64 r.ah, .slice RR r.rds.length rr], .agg #[.int .i64 0, .int .i64 p.throw, .int .i64 p.adv, .int .i64 p.start, .int .i64 p.start], .int .i64 p.start] W12 fun e w' => ∃ v', e = .returned (.tuple #[v', .int .i64 0]) ∧ Below W12.heap.size W12 w' ∧ NewProg W12.heap.size w' v' X := by
   have := pf_rd_Simplest _ r (againF p) p.start W12 (hpr9.le hb12) hrF'.out hff'.out hs64'.out
   rw [n0'.out, nP'.out] at this
   exact this
  have ⟨hb11', hpr9', hrh', hrr', hb12', kr12', hb112', hbw12'⟩ := hyd8 hb11 hpr9 hrh hrr hb12 kr12 hb112 hbw12
  have ⟨k12', kf12', kx12', hvx12', ksm2'⟩ := hyd5 k12 kf12 kx12 hvx12 ksm2
  clear ksm2 hvx12 kx12 kf12 k12 hbw12 hb112 kr12 hb12 hrr hrh hpr9 hb11
  go_wp2_with (fail)
  clear hW12
  go_at_call 19
  refine ksm2'.out.mono ?_
  rintro e W13 ⟨vy, rfl, hb13, hny⟩
  have hvy := hny.prog
  obtain ⟨x0, x1, x5, rfl, i0, i1, i5⟩ := hny
  obtain ⟨Y0, u0, rfl, -⟩ := id i0
  obtain ⟨Y1, u1, rfl⟩ := slice_formR i1
  obtain ⟨Y5, u5, rfl, -⟩ := id i5
  obtain ⟨W14, hW14, hb14, ky14⟩ := newb W13 (.cells #[.slice Y0 X.ros.length u0, .slice Y1 X.rub.length u1, .int .i64 X.start, .int .i64 X.throw, .int .i64 X.adv, .slice Y5 X.shifts.length u5] 28)
  have hb1314 := bel_set hb13 hb14
  have hbw14 := bel_set hbw12'.out hb1314
  have kx14 := blk hb1314 kx12'.out
  have kss := pf_p4_SameP _ _ X W14 (hvx12'.out.below hb1314) (hvy.below hb14)
  clear d0 d1 d2 d3 d4 d5 q0 q1 q2 q3 q4 q5 f0 f1 f2 f3 f4
  obtain ⟨d0, d1, d2, d3, d4, d5⟩ := pc6 kx14
  obtain ⟨q0, q1, q2, q3, q4, q5⟩ := pc6 ky14
  have ⟨hb13', hvy', i0', i1', i5', hb14', ky14', hb1314'⟩ := hyd8 hb13 hvy i0 i1 i5 hb14 ky14 hb1314
  have ⟨hbw14', kx14', kss'⟩ := hyd3 hbw14 kx14 kss
  clear kss kx14 hbw14 hb1314 ky14 hb14 i5 i1 i0 hvy hb13
  go_wp2_with (fail)
  go_at_call 26
  refine kss'.out.mono ?_
  rintro e W15 ⟨rfl, hb15⟩
  have hbw15 := bel_set hbw14'.out hb15
  have ⟨hb15', hbw15'⟩ := hyd2 hb15 hbw15
  clear hbw15 hb15
  go_wp2
  go_ret
  exact ⟨rfl, hbw15'.out⟩
theorem law_ReadAgain (a0 : Prog) (x0 : Value) (a1 : Int) (w : World) (w0 : IsProg w x0 a0 ∧ a0.fits) (w1 : (Lit.int .u8 a1).wf = true) :
  Calls Tryz.prog 5 #[x0, .int .u8 a1] w fun e w' => e = .returned (.bool true) ∧ Below w.heap.size w w' := by
 have h1' : IntKind.u8.min ≤ a1 ∧ a1 ≤ IntKind.u8.max := by simpa [Lit.wf] using w1
 have h1 : 0 ≤ a1 ∧ a1 ≤ 255 := h1'
 obtain ⟨n1, rfl⟩ : ∃ n : Nat, a1 = n := ⟨a1.toNat, by omega⟩
 have ha : fit64 a0.adv := by
  have h' : IntKind.i64.min ≤ a0.adv ∧ a0.adv ≤ IntKind.i64.max := by simpa [Lit.wf] using w0.2.2.2.2.2.2
  exact h'
 exact l9_again a0 x0 n1 w w0.1 ha (by omega)
end Go.Proofs.YtjdgkmcmgagkgaaGreat
