/- exact, turning numbers: Power. -/
import Derived.Test.YtlhfonhbbpbmpaaGreatTOpA
import Derived.Test.YtlhfonhbbpbmpaaGreatTrnB
namespace Go.Proofs.YtlhfonhbbpbmpaaGreat
set_option maxRecDepth 100000
set_option maxHeartbeats 4000000
open Go.RowKit Go.Shelf
set_option linter.unusedVariables false
set_option linter.unusedSimpArgs false
theorem qIa : qA7 Tryz.prog 69 := fun _ _ => by kernel_rfl
theorem qHD (x : FracA × FracA) (n : Int) (Bx Bn : Nat) (t : TypeId) (w : World) (hx : ABox w Bx x) (kn : w.heap[Bn]? = some (.cells #[.int .i64 n] t)) (hr : tval x = none) : Calls Tryz.prog 69 #[.pointer (some ⟨Bx, 0, none⟩), .pointer (some ⟨Bn, 0, none⟩)] w (OperPostT (powG x n) w) := by
 obtain ⟨W0, hW0, hle, k0⟩ := al1 w (.cells #[.bool false, .slice none 0 0, .bool false, .slice none 0 0, .bool false, .slice none 0 0, .bool false, .slice none 0 0] 29)
 have hx1 := hx.le hle
 have kn1 := bxl hle kn
 have hs0 := hle.size
 have hbn := (gsl kn)
 clear kn
 obtain ⟨x1A, x1c, x1B, x1d, x2A, x2c, x2B, x2d, kx, hx2, hx3⟩ := hx1
 obtain ⟨ca0, ca1, ca2, ca3, ca4, ca5, ca6, ca7⟩ := qAB kx
 have hin := qCX x _ W0 (IsTurnA.mk hx2 hx3) hr
 have hpw := qH4 (n := n) hr
 have ⟨hx', hle', k0', kx', hx2', hx3', hin', hr'⟩ := hyd8 hx hle k0 kx hx2 hx3 hin hr
 have hpw' := hyd1 hpw
 clear hpw hr hin hx3 hx2 kx k0 hle hx
 go_enter Tryz.func69, Tryz.ntmps69
 go_wp2_with (fail)
 clear hW0
 go_at_call 42
 refine hin'.out.mono ?_
 rintro e W1 ⟨rfl, hle1⟩
 have hl1 := hle'.out.trans hle1
 have ⟨hle1', hl1'⟩ := hyd2 hle1 hl1
 clear hl1 hle1
 go_wp2_with (fail)
 exact ⟨rfl, hl1'.out, .inr ⟨10, hpw'.out, rfl⟩⟩
theorem qHm (x : FracA × FracA) (r : G2) (n : Int) (Bx Bn : Nat) (t : TypeId) (w : World) (hx : ABox w Bx x) (kn : w.heap[Bn]? = some (.cells #[.int .i64 n] t)) (hr : tval x = some r) (hfar : n < -64 ∨ 64 < n) : Calls Tryz.prog 69 #[.pointer (some ⟨Bx, 0, none⟩), .pointer (some ⟨Bn, 0, none⟩)] w (OperPostT (powG x n) w) := by
 obtain ⟨W0, hW0, hle, k0⟩ := al1 w (.cells #[.bool false, .slice none 0 0, .bool false, .slice none 0 0, .bool false, .slice none 0 0, .bool false, .slice none 0 0] 29)
 have hx1 := hx.le hle
 have kn1 := bxl hle kn
 have hs0 := hle.size
 have hbn := (gsl kn)
 clear kn
 obtain ⟨x1A, x1c, x1B, x1d, x2A, x2c, x2B, x2d, kx, hx2, hx3⟩ := hx1
 obtain ⟨ca0, ca1, ca2, ca3, ca4, ca5, ca6, ca7⟩ := qAB kx
 have hin := qBZ x r _ W0 (IsTurnA.mk hx2 hx3) hr
 have hpw := qIW hr hfar
 have hz2 := True.intro
 have hsz := True.intro
 rcases hfar with h1 | h1
 ·have h2 : ¬ (-64 ≤ n) := by omega
  have ⟨hx', hle', k0', kx', hx2', hx3', hin', hr'⟩ := hyd8 hx hle k0 kx hx2 hx3 hin hr
  have ⟨hz2', hsz', hpw'⟩ := hyd3 hz2 hsz hpw
  clear hpw hsz hz2 hr hin hx3 hx2 kx k0 hle hx
  go_enter Tryz.func69, Tryz.ntmps69
  go_wp2_with (fail)
  clear hW0
  go_at_call 42
  refine hin'.out.mono ?_
  rintro e W1 ⟨v1, rfl, hle1, h1⟩
  obtain ⟨ps1, pA1, pn1, pc1, pB1, pm1, pd1, ps2, pA2, pn2, pc2, pB2, pm2, pd2, rfl, y1, y2⟩ := h1
  obtain ⟨V, hV, hle2, k5⟩ := al1 W1 (.cells #[.bool ps1, .slice pA1 pn1 pc1, .slice pB1 pm1 pd1, .bool ps2, .slice pA2 pn2 pc2, .slice pB2 pm2 pd2] 89)
  have hle02 := hle1.trans hle2
  have hleV := hle'.out.trans hle02
  have k0V := bxl hle02 k0'.out
  have cn := qAF (bxl hle02 kn1)
  have hv := TurnL.mk (g := r) (y1.le hle2) (y2.le hle2)
  obtain ⟨cp0, cp1, cp2, cp3, cp4, cp5⟩ := qAC k5
  have hbn1 := (gsl (bxl hle02 kn1))
  have ⟨hle1', hle2', k5', hle02', hleV', k0V', hv', y1'⟩ := hyd8 hle1 hle2 k5 hle02 hleV k0V hv y1
  have y2' := hyd1 y2
  clear y2 y1 hv k0V hleV hle02 k5 hle2 hle1
  go_wp2_with (fail)
  clear hV
  go_at_call 70
  refine (qAx 2 V).mono ?_
  rintro e W2 ⟨rfl, rfl⟩
  go_wp2_with (fail)
  exact ⟨rfl, hleV'.out, .inr ⟨2, hpw'.out, rfl⟩⟩
 ·have h2 : -64 ≤ n := by omega
  have h3 : ¬ (n ≤ 64) := by omega
  have ⟨hx', hle', k0', kx', hx2', hx3', hin', hr'⟩ := hyd8 hx hle k0 kx hx2 hx3 hin hr
  have ⟨hz2', hsz', hpw'⟩ := hyd3 hz2 hsz hpw
  clear hpw hsz hz2 hr hin hx3 hx2 kx k0 hle hx
  go_enter Tryz.func69, Tryz.ntmps69
  go_wp2_with (fail)
  clear hW0
  go_at_call 42
  refine hin'.out.mono ?_
  rintro e W1 ⟨v1, rfl, hle1, h1⟩
  obtain ⟨ps1, pA1, pn1, pc1, pB1, pm1, pd1, ps2, pA2, pn2, pc2, pB2, pm2, pd2, rfl, y1, y2⟩ := h1
  obtain ⟨V, hV, hle2, k5⟩ := al1 W1 (.cells #[.bool ps1, .slice pA1 pn1 pc1, .slice pB1 pm1 pd1, .bool ps2, .slice pA2 pn2 pc2, .slice pB2 pm2 pd2] 89)
  have hle02 := hle1.trans hle2
  have hleV := hle'.out.trans hle02
  have k0V := bxl hle02 k0'.out
  have cn := qAF (bxl hle02 kn1)
  have hv := TurnL.mk (g := r) (y1.le hle2) (y2.le hle2)
  obtain ⟨cp0, cp1, cp2, cp3, cp4, cp5⟩ := qAC k5
  have hbn1 := (gsl (bxl hle02 kn1))
  have ⟨hle1', hle2', k5', hle02', hleV', k0V', hv', y1'⟩ := hyd8 hle1 hle2 k5 hle02 hleV k0V hv y1
  have y2' := hyd1 y2
  clear y2 y1 hv k0V hleV hle02 k5 hle2 hle1
  go_wp2_with (fail)
  clear hV
  rw [decide_eq_false (show ¬ n ≤ 64 by omega)]
  go_at_call 70
  refine (qAx 2 V).mono ?_
  rintro e W2 ⟨rfl, rfl⟩
  go_wp2_with (fail)
  exact ⟨rfl, hleV'.out, .inr ⟨2, hpw'.out, rfl⟩⟩
theorem qHn (x : FracA × FracA) (r : G2) (m : Nat) (Bx Bn : Nat) (t : TypeId) (w : World) (hx : ABox w Bx x) (kn : w.heap[Bn]? = some (.cells #[.int .i64 (m : Int)] t)) (hr : tval x = some r) (hz2 : TSz r 2) (hm : m ≤ 64) : Calls Tryz.prog 69 #[.pointer (some ⟨Bx, 0, none⟩), .pointer (some ⟨Bn, 0, none⟩)] w (OperPostT (powG x (m : Int)) w) := by
 obtain ⟨W0, hW0, hle, k0⟩ := al1 w (.cells #[.bool false, .slice none 0 0, .bool false, .slice none 0 0, .bool false, .slice none 0 0, .bool false, .slice none 0 0] 29)
 have hx1 := hx.le hle
 have kn1 := bxl hle kn
 have hs0 := hle.size
 have hbn := (gsl kn)
 clear kn
 obtain ⟨x1A, x1c, x1B, x1d, x2A, x2c, x2B, x2d, kx, hx2, hx3⟩ := hx1
 obtain ⟨ca0, ca1, ca2, ca3, ca4, ca5, ca6, ca7⟩ := qAB kx
 have hin := qBZ x r _ W0 (IsTurnA.mk hx2 hx3) hr
 have hpw : powG x (m : Int) = outG (gpow r m) := qFo hr (by omega) (by omega)
 have hsz := True.intro
 have h2 : (-64 : Int) ≤ (m : Int) := by omega
 have h3 : (m : Int) ≤ 64 := by omega
 have h4 : ¬ (m : Int) < 0 := by omega
 ·skip
  have ⟨hx', hle', k0', kx', hx2', hx3', hin', hr'⟩ := hyd8 hx hle k0 kx hx2 hx3 hin hr
  have ⟨hz2', hsz', hpw'⟩ := hyd3 hz2 hsz hpw
  clear hpw hsz hz2 hr hin hx3 hx2 kx k0 hle hx
  go_enter Tryz.func69, Tryz.ntmps69
  go_wp2_with (fail)
  clear hW0
  go_at_call 42
  refine hin'.out.mono ?_
  rintro e W1 ⟨v1, rfl, hle1, h1⟩
  obtain ⟨ps1, pA1, pn1, pc1, pB1, pm1, pd1, ps2, pA2, pn2, pc2, pB2, pm2, pd2, rfl, y1, y2⟩ := h1
  obtain ⟨V, hV, hle2, k5⟩ := al1 W1 (.cells #[.bool ps1, .slice pA1 pn1 pc1, .slice pB1 pm1 pd1, .bool ps2, .slice pA2 pn2 pc2, .slice pB2 pm2 pd2] 89)
  have hle02 := hle1.trans hle2
  have hleV := hle'.out.trans hle02
  have k0V := bxl hle02 k0'.out
  have cn := qAF (bxl hle02 kn1)
  have hv := TurnL.mk (g := r) (y1.le hle2) (y2.le hle2)
  obtain ⟨cp0, cp1, cp2, cp3, cp4, cp5⟩ := qAC k5
  have hbn1 := (gsl (bxl hle02 kn1))
  have ⟨hle1', hle2', k5', hle02', hleV', k0V', hv', y1'⟩ := hyd8 hle1 hle2 k5 hle02 hleV k0V hv y1
  have y2' := hyd1 y2
  clear y2 y1 hv k0V hleV hle02 k5 hle2 hle1
  go_wp2_with (fail)
  clear hV
  go_at_call 70
  refine (qBC 2 V).mono ?_
  rintro e W2 ⟨rfl, rfl⟩
  go_wp2_with (fail)
  go_at_call 73
  refine (qHa r m _ V hv'.out hz2'.out hm).mono ?_
  rintro e W3 ⟨v3, rfl, hle3, h5⟩
  have h6 := h5
  obtain ⟨ts1, tA1, tn1, tc1, tB1, tm1, td1, ts2, tA2, tn2, tc2, tB2, tm2, td2, rfl, -, -⟩ := h5
  have k3 := bxl hle3 k0V'.out
  have hl3 := hleV'.out.trans hle3
  have ⟨hle3', hl3', h6', k3'⟩ := hyd4 hle3 hl3 h6 k3
  clear k3 h6 hl3 hle3
  rcases Classical.em (TSz (gpow r m) 40) with hs | hs
  ·have hout := qCl (gpow r m) _ W3 h6'.out hs
   have ⟨hout', hs'⟩ := hyd2 hout hs
   clear hs hout
   go_wp2_with (fail)
   go_at_call 66
   refine hout'.out.mono ?_
   rintro e W8 ⟨v8, rfl, hle8, h8⟩
   obtain ⟨rs1, rA1, rn1, rc1, rt1, rB1, rm1, rd1, rs2, rA2, rn2, rc2, rt2, rB2, rm2, rd2, rfl, y1, y2⟩ := h8
   have k8 := bxl hle8 k3'.out
   have hl8 := hl3'.out.trans hle8
   have ⟨hle8', y1', y2', hl8'⟩ := hyd4 hle8 y1 y2 hl8
   clear hl8 y2 y1 hle8
   obtain ⟨z0, z1, z2, z3, z4, z5, z6, z7⟩ := qAB k8
   have ⟨g0, g1, g2, g3, g4, g5, g6, g7⟩ := frz8 k8
   have hle9 := fun u0 u1 u2 u3 u4 u5 u6 u7 => qAW (hl8'.out) (show w.heap.size ≤ w.heap.size by omega) u0 u1 u2 u3 u4 u5 u6 u7
   have hb9 := fun u0 u1 u2 u3 u4 u5 u6 u7 => qAB (qAI k8 u0 u1 u2 u3 u4 u5 u6 u7)
   simp only [set8] at hb9
   have hfin := fun u0 u1 u2 u3 u4 u5 u6 u7 => And.intro (y1'.out.touch (qA9 k8) (qAL W8 (w.heap.size) u0 u1 u2 u3 u4 u5 u6 u7)) (y2'.out.touch (qA9 k8) (qAL W8 (w.heap.size) u0 u1 u2 u3 u4 u5 u6 u7))
   have ⟨hle9', hb9', hfin', k8'⟩ := hyd4 hle9 hb9 hfin k8
   clear k8 hfin hb9 hle9
   go_wp2
   obtain ⟨d0, d1, d2, d3, d4, d5, d6, d7⟩ := hb9'.out (.bool rs1) (.slice rA1 rn1 rc1) (.bool rt1) (.slice rB1 rm1 rd1) (.bool rs2) (.slice rA2 rn2 rc2) (.bool rt2) (.slice rB2 rm2 rd2)
   exact bodyPost_ret (v := .agg #[.bool rs1, .slice rA1 rn1 rc1, .bool rt1, .slice rB1 rm1 rd1, .bool rs2, .slice rA2 rn2 rc2, .bool rt2, .slice rB2 rm2 rd2]) (by simp [results, Tryz.results69, go_sem, d0, d1, d2, d3, d4, d5, d6, d7]) rfl ⟨hle9'.out _ _ _ _ _ _ _ _, .inl ⟨_, _, by rw [hpw'.out, qB8 hs'.out], rfl, TurnF.mk (hfin'.out _ _ _ _ _ _ _ _).1 (hfin'.out _ _ _ _ _ _ _ _).2⟩⟩
  ·have hout := qCm (gpow r m) _ W3 h6'.out hs
   have ⟨hout', hs'⟩ := hyd2 hout hs
   clear hs hout
   go_wp2_with (fail)
   go_at_call 66
   refine hout'.out.mono ?_
   rintro e W8 ⟨rfl, hle8⟩
   go_wp2_with (fail)
   exact ⟨rfl, hl3'.out.trans hle8, .inr ⟨12, by rw [hpw'.out, qC8 hs'.out], rfl⟩⟩
theorem qHE (x : FracA × FracA) (r : G2) (m : Nat) (Bx Bn : Nat) (t : TypeId) (w : World) (hx : ABox w Bx x) (kn : w.heap[Bn]? = some (.cells #[.int .i64 (-(m : Int))] t)) (hr : tval x = some r) (hm0 : 0 < m) (hm : m ≤ 64) (hnz : qAH r = 0) : Calls Tryz.prog 69 #[.pointer (some ⟨Bx, 0, none⟩), .pointer (some ⟨Bn, 0, none⟩)] w (OperPostT (powG x (-(m : Int))) w) := by
 obtain ⟨W0, hW0, hle, k0⟩ := al1 w (.cells #[.bool false, .slice none 0 0, .bool false, .slice none 0 0, .bool false, .slice none 0 0, .bool false, .slice none 0 0] 29)
 have hx1 := hx.le hle
 have kn1 := bxl hle kn
 have hs0 := hle.size
 have hbn := (gsl kn)
 clear kn
 obtain ⟨x1A, x1c, x1B, x1d, x2A, x2c, x2B, x2d, kx, hx2, hx3⟩ := hx1
 obtain ⟨ca0, ca1, ca2, ca3, ca4, ca5, ca6, ca7⟩ := qAB kx
 have hin := qBZ x r _ W0 (IsTurnA.mk hx2 hx3) hr
 have h2 : (-64 : Int) ≤ -(m : Int) := by omega
 have h3 : -(m : Int) ≤ 64 := by omega
 have h4 : -(m : Int) < 0 := by omega
 have hneg : -(-(m : Int)) = (m : Int) := by omega
 have hsz := True.intro
 have hpw : powG x (-(m : Int)) = .error 11 := qH5 hr (by omega) (by omega) hnz
 have hdz := decide_eq_true hnz
 have hz2 := True.intro
 ·skip
  have ⟨hx', hle', k0', kx', hx2', hx3', hin', hr'⟩ := hyd8 hx hle k0 kx hx2 hx3 hin hr
  have ⟨hz2', hsz', hpw', hnz', hneg'⟩ := hyd5 hz2 hsz hpw hnz hneg
  clear hneg hnz hpw hsz hz2 hr hin hx3 hx2 kx k0 hle hx
  go_enter Tryz.func69, Tryz.ntmps69
  go_wp2_with (fail)
  clear hW0
  go_at_call 42
  refine hin'.out.mono ?_
  rintro e W1 ⟨v1, rfl, hle1, h1⟩
  obtain ⟨ps1, pA1, pn1, pc1, pB1, pm1, pd1, ps2, pA2, pn2, pc2, pB2, pm2, pd2, rfl, y1, y2⟩ := h1
  obtain ⟨V, hV, hle2, k5⟩ := al1 W1 (.cells #[.bool ps1, .slice pA1 pn1 pc1, .slice pB1 pm1 pd1, .bool ps2, .slice pA2 pn2 pc2, .slice pB2 pm2 pd2] 89)
  have hle02 := hle1.trans hle2
  have hleV := hle'.out.trans hle02
  have k0V := bxl hle02 k0'.out
  have cn := qAF (bxl hle02 kn1)
  have hv := TurnL.mk (g := r) (y1.le hle2) (y2.le hle2)
  obtain ⟨cp0, cp1, cp2, cp3, cp4, cp5⟩ := qAC k5
  have hbn1 := (gsl (bxl hle02 kn1))
  have ⟨hle1', hle2', k5', hle02', hleV', k0V', hv', y1'⟩ := hyd8 hle1 hle2 k5 hle02 hleV k0V hv y1
  have y2' := hyd1 y2
  clear y2 y1 hv k0V hleV hle02 k5 hle2 hle1
  go_wp2_with (fail)
  clear hV
  go_at_call 70
  refine (qBC 2 V).mono ?_
  rintro e W2 ⟨rfl, rfl⟩
  go_wp2_with (fail)
  go_at_call 71
  refine (qG1 r _ V hv'.out).mono ?_
  rintro e W4 ⟨rfl, hle4⟩
  rw [hdz]
  have hl4 := hleV'.out.trans hle4
  have ⟨hle4', hl4'⟩ := hyd2 hle4 hl4
  clear hl4 hle4
  go_wp2_with (fail)
  go_at_call 70
  refine (qAx 11 W4).mono ?_
  rintro e W5 ⟨rfl, rfl⟩
  go_wp2_with (fail)
  exact ⟨rfl, hl4'.out, .inr ⟨11, hpw'.out, rfl⟩⟩
theorem qHo (x : FracA × FracA) (r : G2) (m : Nat) (Bx Bn : Nat) (t : TypeId) (w : World) (hx : ABox w Bx x) (kn : w.heap[Bn]? = some (.cells #[.int .i64 (-(m : Int))] t)) (hr : tval x = some r) (hz2 : TSz r 2) (hm0 : 0 < m) (hm : m ≤ 64) (hnz : qAH r ≠ 0) : Calls Tryz.prog 69 #[.pointer (some ⟨Bx, 0, none⟩), .pointer (some ⟨Bn, 0, none⟩)] w (OperPostT (powG x (-(m : Int))) w) := by
 obtain ⟨W0, hW0, hle, k0⟩ := al1 w (.cells #[.bool false, .slice none 0 0, .bool false, .slice none 0 0, .bool false, .slice none 0 0, .bool false, .slice none 0 0] 29)
 have hx1 := hx.le hle
 have kn1 := bxl hle kn
 have hs0 := hle.size
 have hbn := (gsl kn)
 clear kn
 obtain ⟨x1A, x1c, x1B, x1d, x2A, x2c, x2B, x2d, kx, hx2, hx3⟩ := hx1
 obtain ⟨ca0, ca1, ca2, ca3, ca4, ca5, ca6, ca7⟩ := qAB kx
 have hin := qBZ x r _ W0 (IsTurnA.mk hx2 hx3) hr
 have h2 : (-64 : Int) ≤ -(m : Int) := by omega
 have h3 : -(m : Int) ≤ 64 := by omega
 have h4 : -(m : Int) < 0 := by omega
 have hneg : -(-(m : Int)) = (m : Int) := by omega
 have hsz := True.intro
 have hnp := qHX hnz m
 have hgi : gpow (ginv r) m = gdiv gone (gpow r m) := by rw [qKz hnz m, qJM hnp, qCq]
 have hpw : powG x (-(m : Int)) = outG (gdiv gone (gpow r m)) := by
  rw [qIX hr (by omega) (by omega) hnz, show (-(m : Int)).natAbs = m by omega, hgi]
 have hdz := decide_eq_false hnz
 have hs1 : TSz gone 100000 := (show TSz (gpow r 0) 650 from qFA hz2 (by decide)).up (by decide)
 have hs2 : TSz (gpow r m) 100000 := (qFA hz2 (by omega)).up (by decide)
 ·skip
  have ⟨hx', hle', k0', kx', hx2', hx3', hin', hr'⟩ := hyd8 hx hle k0 kx hx2 hx3 hin hr
  have ⟨hz2', hsz', hpw', hnz', hgi', hnp', hs1', hs2'⟩ := hyd8 hz2 hsz hpw hnz hgi hnp hs1 hs2
  clear hs2 hs1 hnp hgi hnz hpw hsz hz2 hr hin hx3 hx2 kx k0 hle hx
  go_enter Tryz.func69, Tryz.ntmps69
  go_wp2_with (fail)
  clear hW0
  go_at_call 42
  refine hin'.out.mono ?_
  rintro e W1 ⟨v1, rfl, hle1, h1⟩
  obtain ⟨ps1, pA1, pn1, pc1, pB1, pm1, pd1, ps2, pA2, pn2, pc2, pB2, pm2, pd2, rfl, y1, y2⟩ := h1
  obtain ⟨V, hV, hle2, k5⟩ := al1 W1 (.cells #[.bool ps1, .slice pA1 pn1 pc1, .slice pB1 pm1 pd1, .bool ps2, .slice pA2 pn2 pc2, .slice pB2 pm2 pd2] 89)
  have hle02 := hle1.trans hle2
  have hleV := hle'.out.trans hle02
  have k0V := bxl hle02 k0'.out
  have cn := qAF (bxl hle02 kn1)
  have hv := TurnL.mk (g := r) (y1.le hle2) (y2.le hle2)
  obtain ⟨cp0, cp1, cp2, cp3, cp4, cp5⟩ := qAC k5
  have hbn1 := (gsl (bxl hle02 kn1))
  have ⟨hle1', hle2', k5', hle02', hleV', k0V', hv', y1'⟩ := hyd8 hle1 hle2 k5 hle02 hleV k0V hv y1
  have y2' := hyd1 y2
  clear y2 y1 hv k0V hleV hle02 k5 hle2 hle1
  go_wp2_with (fail)
  clear hV
  go_at_call 70
  refine (qBC 2 V).mono ?_
  rintro e W2 ⟨rfl, rfl⟩
  go_wp2_with (fail)
  go_at_call 71
  refine (qG1 r _ V hv'.out).mono ?_
  rintro e W4 ⟨rfl, hle4⟩
  rw [hdz]
  have hl4 := hleV'.out.trans hle4
  have k0W := bxl hle4 k0V'.out
  have hl0 := (gsl k0W)
  have k5W := bxl hle4 k5'.out
  have hl5 := (gsl k5W)
  have hs4 := hle4.size
  have hv4 := hv'.out.le hle4
  have cn0 := qAF (bxl hle4 (bxl hle02'.out kn1))
  obtain ⟨cq0, cq1, cq2, cq3, cq4, cq5⟩ := qAC k5W
  have ⟨hle4', hl4', k0W', k5W', hv4'⟩ := hyd5 hle4 hl4 k0W k5W hv4
  clear hv4 k5W k0W hl4 hle4
  go_wp2_with (fail)
  go_at_call 70
  refine (qBC 11 W4).mono ?_
  rintro e W5 ⟨rfl, rfl⟩
  clear cp0 cp1 cp2 cp3 cp4 cp5
  go_wp2_with (fail)
  refine qAG (R := leRel) 7 [some 19, some 20, some 21, some 22, some 23, some 24, some 25, none] [[], [], [], [2], [1, 3], [0, 4], [5], [6]]
   [MPred.turn .u32 (gone), .eq (.agg #[.bool ps1, .slice pA1 pn1 pc1, .slice pB1 pm1 pd1, .bool ps2, .slice pA2 pn2 pc2, .slice pB2 pm2 pd2]), .eq (.int .i64 (-(m : Int))), .eq (.int .i64 (m : Int)), MPred.turn .u32 (gpow r m), MPred.turn .u32 (gdiv gone (gpow r m)), MPred.turnFO (gdiv gone (gpow r m))] (fun ch W => ch = flt 12 ∧ ¬ TSz (gdiv gone (gpow r m)) 40 ∧ Le W4 W) (by kernel_rfl) (by kernel_rfl) (by kernel_rfl) (by kernel_rfl) ?_ (by rintro a9 ch W hdf - ⟨rfl, hbad, hle9⟩; exact ⟨hdf, hl4'.out.trans hle9, .inr ⟨12, by rw [hpw'.out, qC8 hbad], rfl⟩⟩) ?_
  ·simp only [List.take_succ_cons, List.take_zero]
   refine mSc ?_ (mSc ?_ (mSc ?_ (mSc ?_ (mSc ?_ (mSc ?_ (mSc ?_ (qAJ)))))))
   ·refine mSl rfl fun xv W hR hf Q hK hP => ?_
    simp only [fA] at hK ⊢
    go_wp2_with (fail)
    go_at_call 72
    refine (qJS W).mono ?_
    rintro e w' ⟨v', rfl, y1, y2⟩
    obtain ⟨zs1, zA1, zn1, zc1, zB1, zm1, zd1, zs2, zA2, zn2, zc2, zB2, zm2, zd2, qz⟩ := y2.form
    subst qz
    have y2' := hyd1 y2
    clear y2
    go_wp2
    exact hK _ _ y1 y2'.out
   ·refine mSl rfl fun xv W hR hf Q hK hP => ?_
    have cc0 := (Below.cell hR (p := ⟨W1.heap.size, 0, none⟩) (by show W1.heap.size < W4.heap.size; omega)).trans cq0
    have cc1 := (Below.cell hR (p := ⟨W1.heap.size, 1, none⟩) (by show W1.heap.size < W4.heap.size; omega)).trans cq1
    have cc2 := (Below.cell hR (p := ⟨W1.heap.size, 2, none⟩) (by show W1.heap.size < W4.heap.size; omega)).trans cq2
    have cc3 := (Below.cell hR (p := ⟨W1.heap.size, 3, none⟩) (by show W1.heap.size < W4.heap.size; omega)).trans cq3
    have cc4 := (Below.cell hR (p := ⟨W1.heap.size, 4, none⟩) (by show W1.heap.size < W4.heap.size; omega)).trans cq4
    have cc5 := (Below.cell hR (p := ⟨W1.heap.size, 5, none⟩) (by show W1.heap.size < W4.heap.size; omega)).trans cq5
    simp only [fA] at hK ⊢
    go_wp2
    exact hK _ _ lrR rfl
   ·refine mSl rfl fun xv W hR hf Q hK hP => ?_
    have cc0 := (Below.cell hR (p := ⟨Bn, 0, none⟩) (by show Bn < W4.heap.size; omega)).trans cn0
    simp only [fA] at hK ⊢
    go_wp2
    exact hK _ _ lrR rfl
   ·refine mSl rfl fun xv W hR hf Q hK hP => ?_
    obtain ⟨e0, -⟩ := hf
    change _ = _ at e0
    simp only [fA, e0] at hK ⊢
    go_wp2
    exact hK _ _ lrR rfl
   ·refine mSl rfl fun xv W hR hf Q hK hP => ?_
    obtain ⟨e0, e1, -⟩ := hf
    change _ = _ at e0 e1
    simp only [fA, e0, e1] at hK ⊢
    go_wp2_with (fail)
    go_at_call 73
    refine (qHa r m _ W (hv4'.out.le hR) hz2'.out hm).mono ?_
    rintro e w' ⟨v', rfl, y1, y2⟩
    obtain ⟨zs1, zA1, zn1, zc1, zB1, zm1, zd1, zs2, zA2, zn2, zc2, zB2, zm2, zd2, qz⟩ := y2.form
    subst qz
    have y2' := hyd1 y2
    clear y2
    go_wp2
    exact hK _ _ y1 y2'.out
   ·refine mSl rfl fun xv W hR hf Q hK hP => ?_
    obtain ⟨e0, e1, -⟩ := hf
    replace e0 : TurnL .u32 W (xv 0) (gone) := e0
    replace e1 : TurnL .u32 W (xv 4) (gpow r m) := e1
    simp only [fA] at hK ⊢
    go_wp2_with (fail)
    go_at_call 67
    refine (qI2 gone (gpow r m) _ _ W e0 e1 hs1'.out hs2'.out hnp'.out).mono ?_
    rintro e w' ⟨v', rfl, y1, y2⟩
    obtain ⟨zs1, zA1, zn1, zc1, zB1, zm1, zd1, zs2, zA2, zn2, zc2, zB2, zm2, zd2, qz⟩ := y2.form
    subst qz
    have y2' := hyd1 y2
    clear y2
    go_wp2
    exact hK _ _ y1 y2'.out
   ·refine mSl rfl fun xv W hR hf Q hK hP => ?_
    obtain ⟨e0, -⟩ := hf
    replace e0 : TurnL .u32 W (xv 5) (gdiv gone (gpow r m)) := e0
    simp only [fA] at hK ⊢
    rcases Classical.em (TSz (gdiv gone (gpow r m)) 40) with hs | hs
    ·have hcall := qCl (gdiv gone (gpow r m)) _ W e0 hs
     have ⟨hcall', hR', hs'⟩ := hyd3 hcall hR hs
     clear hs hR hcall
     go_wp2_with (fail)
     go_at_call 66
     refine hcall'.out.mono ?_
     rintro e w' ⟨v', rfl, y1, y2⟩
     have y3 := y2
     obtain ⟨zs1, zA1, zn1, zc1, zt1, zB1, zm1, zd1, zs2, zA2, zn2, zc2, zt2, zB2, zm2, zd2, qz, -, -⟩ := y3
     subst qz
     have y2' := hyd1 y2
     clear y2
     go_wp2
     exact hK _ _ y1 ⟨hs'.out, y2'.out⟩
    ·have hcall := qCm (gdiv gone (gpow r m)) _ W e0 hs
     have ⟨hcall', hR', hs'⟩ := hyd3 hcall hR hs
     clear hs hR hcall
     go_wp2_with (fail)
     go_at_call 66
     refine hcall'.out.mono ?_
     rintro e w' ⟨rfl, y1⟩
     go_wp2_with (fail)
     exact hP _ _ _ (Le.trans hR'.out y1) ⟨rfl, hs'.out, hR'.out.trans y1⟩
  ·intro xv W hR hf Q' hQ1 _
   have eL : TSz (gdiv gone (gpow r m)) 40 ∧ TurnF W (xv 6) (gdiv gone (gpow r m)) := hf 6 (by decide)
   obtain ⟨hg, rs1, rA1, rn1, rc1, rt1, rB1, rm1, rd1, rs2, rA2, rn2, rc2, rt2, rB2, rm2, rd2, qL, y1, y2⟩ := eL
   have kW := (Below.block hR (w.heap.size) (by omega)).trans k0W'.out
   obtain ⟨z0, z1, z2, z3, z4, z5, z6, z7⟩ := qAB kW
   have ⟨g0, g1, g2, g3, g4, g5, g6, g7⟩ := frz8 kW
   simp only [List.drop_succ_cons, List.drop_zero]
   rw [show List.range 7 = [0, 1, 2, 3, 4, 5, 6] from rfl]
   simp only [fA, qL]
   have hle9 := fun u0 u1 u2 u3 u4 u5 u6 u7 => qAW (Le.trans hl4'.out hR) (show w.heap.size ≤ w.heap.size by omega) u0 u1 u2 u3 u4 u5 u6 u7
   have hb9 := fun u0 u1 u2 u3 u4 u5 u6 u7 => qAB (qAI kW u0 u1 u2 u3 u4 u5 u6 u7)
   simp only [set8] at hb9
   have hfin := fun u0 u1 u2 u3 u4 u5 u6 u7 => And.intro (y1.touch (qA9 kW) (qAL W (w.heap.size) u0 u1 u2 u3 u4 u5 u6 u7)) (y2.touch (qA9 kW) (qAL W (w.heap.size) u0 u1 u2 u3 u4 u5 u6 u7))
   have ⟨hle9', hb9', hfin', kW', y1', y2', qL', hR'⟩ := hyd8 hle9 hb9 hfin kW y1 y2 qL hR
   clear hR qL y2 y1 kW hfin hb9 hle9
   have hg' := hyd1 hg
   clear hg
   go_wp2
   refine hQ1 _ _ ?_
   go_wp2
   obtain ⟨d0, d1, d2, d3, d4, d5, d6, d7⟩ := hb9'.out (.bool rs1) (.slice rA1 rn1 rc1) (.bool rt1) (.slice rB1 rm1 rd1) (.bool rs2) (.slice rA2 rn2 rc2) (.bool rt2) (.slice rB2 rm2 rd2)
   exact bodyPost_ret (v := .agg #[.bool rs1, .slice rA1 rn1 rc1, .bool rt1, .slice rB1 rm1 rd1, .bool rs2, .slice rA2 rn2 rc2, .bool rt2, .slice rB2 rm2 rd2]) (by simp [results, Tryz.results69, go_sem, d0, d1, d2, d3, d4, d5, d6, d7]) rfl ⟨hle9'.out _ _ _ _ _ _ _ _, .inl ⟨_, _, by rw [hpw'.out, qB8 hg'.out], rfl, TurnF.mk (hfin'.out _ _ _ _ _ _ _ _).1 (hfin'.out _ _ _ _ _ _ _ _).2⟩⟩
theorem qKi (x : FracA × FracA) (n : Int) (Bx Bn : Nat) (t : TypeId) (w : World) (hx : ABox w Bx x) (kn : w.heap[Bn]? = some (.cells #[.int .i64 n] t)) (hz : ∀ g, tval x = some g → TSz g 2) : Calls Tryz.prog 69 #[.pointer (some ⟨Bx, 0, none⟩), .pointer (some ⟨Bn, 0, none⟩)] w (OperPostT (powG x n) w) := by
 rcases qBV x with ⟨r, hr⟩ | hr
 ·by_cases hfar : n < -64 ∨ 64 < n
  ·exact qHm x r n Bx Bn t w hx kn hr hfar
  ·by_cases h0 : n < 0
   ·obtain ⟨m, rfl⟩ : ∃ m : Nat, n = -(m : Int) := ⟨n.natAbs, by omega⟩
    by_cases hnz : qAH r = 0
    ·exact qHE x r m Bx Bn t w hx kn hr (by omega) (by omega) hnz
    ·exact qHo x r m Bx Bn t w hx kn hr (hz r hr) (by omega) (by omega) hnz
   ·obtain ⟨m, rfl⟩ : ∃ m : Nat, n = (m : Int) := ⟨n.natAbs, by omega⟩
    exact qHn x r m Bx Bn t w hx kn hr (hz r hr) (by omega)
 ·exact qHD x n Bx Bn t w hx kn hr
theorem qIb (x : FracA × FracA) (n : Int) (v : Value) (w : World) (hv : IsTurnA w v x) (hz : ∀ g, tval x = some g → TSz g 2) : Calls Tryz.prog 29 #[v, .int .i64 n] w (qAa (powG x n) w) := by
 obtain ⟨x1A, x1c, x1B, x1d, x2A, x2c, x2B, x2d, rfl, p1, p2⟩ := hv
 obtain ⟨W0, hW0, hsz, hle, k0, k1, k2⟩ := qAw w (.cells #[.bool x.1.sn, .slice x1A x.1.gn.length x1c, .bool x.1.sd, .slice x1B x.1.gd.length x1d, .bool x.2.sn, .slice x2A x.2.gn.length x2c, .bool x.2.sd, .slice x2B x.2.gd.length x2d] 29) (.cells #[.int .i64 n] 3) (.cells #[.bool false, .slice none 0 0, .bool false, .slice none 0 0, .bool false, .slice none 0 0, .bool false, .slice none 0 0] 29)
 have hbx : ABox W0 w.heap.size x := ⟨_, _, _, _, _, _, _, _, k0, p1.le hle, p2.le hle⟩
 have hmf : ∀ (fn : Fn) (first cap : Array Value) (w : World), (Instr.makeFunc fn first cap).run Tryz.prog w = .ok (.func fn first cap) w := fun _ _ _ _ => rfl
 have hrun := qDt (powG x n) 69 #[.pointer (some ⟨w.heap.size, 0, none⟩), .pointer (some ⟨w.heap.size + 1, 0, none⟩)] W0 qIa fun W hW => qKi x n _ _ _ W (hbx.le hW) (bxl hW k1) hz
 have ⟨hle', k0', k1', k2', hbx', p1', p2', hrun'⟩ := hyd8 hle k0 k1 k2 hbx p1 p2 hrun
 have hz' := hyd1 hz
 clear hz hrun p2 p1 hbx k2 k1 k0 hle
 go_enter Tryz.func29, Tryz.ntmps29
 go_wp2_with (fail)
 clear hW0
 go_at_call 64
 refine hrun'.out.mono ?_
 rintro e W1 ⟨hle1, v1, cc, rfl, hres⟩
 have hres0 := hres
 obtain ⟨rs1, rA1, rn1, rc1, rt1, rB1, rm1, rd1, rs2, rA2, rn2, rc2, rt2, rB2, rm2, rd2, rfl⟩ := hres.form
 have k9 := bxl hle1 k2'.out
 have hl9 := hle'.out.trans hle1
 have ⟨hle1', hres', hres0', hl9'⟩ := hyd4 hle1 hres hres0 hl9
 clear hl9 hres0 hres hle1
 obtain ⟨z0, z1, z2, z3, z4, z5, z6, z7⟩ := qAB k9
 have ⟨g0, g1, g2, g3, g4, g5, g6, g7⟩ := frz8 k9
 have hle9 := fun u0 u1 u2 u3 u4 u5 u6 u7 => qAW (hl9'.out) (show w.heap.size ≤ w.heap.size + 1 + 1 by omega) u0 u1 u2 u3 u4 u5 u6 u7
 have hb9 := fun u0 u1 u2 u3 u4 u5 u6 u7 => qAB (qAI k9 u0 u1 u2 u3 u4 u5 u6 u7)
 simp only [set8] at hb9
 have hfin := fun u0 u1 u2 u3 u4 u5 u6 u7 => hres'.out.touch (qA9 k9) (qAL W1 (w.heap.size + 1 + 1) u0 u1 u2 u3 u4 u5 u6 u7)
 have ⟨hle9', hb9', hfin', k9'⟩ := hyd4 hle9 hb9 hfin k9
 clear k9 hfin hb9 hle9
 go_wp2
 obtain ⟨d0, d1, d2, d3, d4, d5, d6, d7⟩ := hb9'.out (.bool rs1) (.slice rA1 rn1 rc1) (.bool rt1) (.slice rB1 rm1 rd1) (.bool rs2) (.slice rA2 rn2 rc2) (.bool rt2) (.slice rB2 rm2 rd2)
 exact bodyPost_ret (v := .tuple #[.agg #[.bool rs1, .slice rA1 rn1 rc1, .bool rt1, .slice rB1 rm1 rd1, .bool rs2, .slice rA2 rn2 rc2, .bool rt2, .slice rB2 rm2 rd2], .int .i64 cc]) (by simp [results, Tryz.results29, go_sem, d0, d1, d2, d3, d4, d5, d6, d7]) rfl ⟨hle9'.out _ _ _ _ _ _ _ _, _, _, rfl, hfin'.out _ _ _ _ _ _ _ _⟩
end Go.Proofs.YtlhfonhbbpbmpaaGreat

