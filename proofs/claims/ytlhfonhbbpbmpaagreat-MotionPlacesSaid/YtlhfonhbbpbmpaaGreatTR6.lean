/- barleycornref01: Power. -/
import Derived.Test.YtlhfonhbbpbmpaaGreatTRA
import Derived.Test.YtlhfonhbbpbmpaaGreatTrnR
namespace Go.Proofs.YtlhfonhbbpbmpaaGreat
set_option maxRecDepth 100000
set_option maxHeartbeats 4000000
open Go.RowKit Go.Shelf
set_option linter.unusedVariables false
set_option linter.unusedSimpArgs false
theorem qGi (x : FracA × FracA) (n : Int) (v : Value) (w : World) (hv : IsTurnA w v x) (hr : tval x = none) : Calls Tryz.prog 62 #[v, .int .i64 n] w (qAa (powG x n) w) := by
 have hpw := qH4 (n := n) hr
 have hpw' := hyd1 hpw
 clear hpw
 obtain ⟨x1A, x1c, x1B, x1d, x2A, x2c, x2B, x2d, rfl, p1, p2⟩ := hv
 obtain ⟨W0, hW0, hsz, hle, k0, k1⟩ := qAQ w (.cells #[.bool x.1.sn, .slice x1A x.1.gn.length x1c, .bool x.1.sd, .slice x1B x.1.gd.length x1d, .bool x.2.sn, .slice x2A x.2.gn.length x2c, .bool x.2.sd, .slice x2B x.2.gd.length x2d] 29) (.cells #[.bool false, .slice none 0 0, .bool false, .slice none 0 0, .bool false, .slice none 0 0, .bool false, .slice none 0 0] 29)
 obtain ⟨c0, c1, c2, c3, c4, c5, c6, c7⟩ := qAB k0
 have r1 := qBI x _ W0 (IsTurnA.mk (p1.le hle) (p2.le hle))
 obtain ⟨b1, hb1⟩ : ∃ b, (tval x).isSome = b := ⟨_, rfl⟩
 unfold qCO at r1
 rw [hb1] at r1
 have ⟨hle', k0', k1', p1', p2', r1', hb1'⟩ := hyd7 hle k0 k1 p1 p2 r1 hb1
 clear hb1 r1 p2 p1 k1 k0 hle
 go_enter Tryz.func62, Tryz.ntmps62
 go_wp2_with (fail)
 clear hW0
 go_at_call 21
 refine r1'.out.mono ?_
 rintro e W1 ⟨hle1, v1, rfl, ⟨⟨ps1, pA1, pn1, pc1, pB1, pm1, pd1, ps2, pA2, pn2, pc2, pB2, pm2, pd2, rfl⟩, hc1⟩⟩
 clear c0 c1 c2 c3 c4 c5 c6 c7
 obtain ⟨V, hV, hle2, kx⟩ := al1 W1 (.cells #[.bool ps1, .slice pA1 pn1 pc1, .slice pB1 pm1 pd1, .bool ps2, .slice pA2 pn2 pc2, .slice pB2 pm2 pd2] 61)
 have hlV := (hle'.out.trans hle1).trans hle2
 have kV := bxl (hle1.trans hle2) k1'.out
 have t1 : TurnC V (.agg #[.bool ps1, .slice pA1 pn1 pc1, .slice pB1 pm1 pd1, .bool ps2, .slice pA2 pn2 pc2, .slice pB2 pm2 pd2]) x := TurnC.le ⟨⟨_, _, _, _, _, _, _, _, _, _, _, _, _, _, rfl⟩, hc1⟩ hle2
 obtain ⟨cp0, cp1, cp2, cp3, cp4, cp5⟩ := qAC kx
 have ⟨hle1', hle2', hlV', kV', kx', hc1', t1'⟩ := hyd7 hle1 hle2 hlV kV kx hc1 t1
 clear t1 hc1 kx kV hlV hle2 hle1
 have kVo := kV'.out
 obtain rfl : b1 = false := by have h := hb1'.out; rw [hr] at h; exact h.symm
 have hr' := hyd1 hr
 clear hr
 obtain ⟨z0, z1, z2, z3, z4, z5, z6, z7⟩ := qAB kVo
 have ⟨g0, g1, g2, g3, g4, g5, g6, g7⟩ := frz8 kVo
 have hle9 := fun u0 u1 u2 u3 u4 u5 u6 u7 => qAW (hlV'.out) (show w.heap.size ≤ w.heap.size + 1 by omega) u0 u1 u2 u3 u4 u5 u6 u7
 have hb9 := fun u0 u1 u2 u3 u4 u5 u6 u7 => qAB (qAI kVo u0 u1 u2 u3 u4 u5 u6 u7)
 simp only [set8] at hb9
 have ⟨hle9', hb9', kVo'⟩ := hyd3 hle9 hb9 kVo
 clear kVo hb9 hle9
 go_wp2
 obtain ⟨d0, d1, d2, d3, d4, d5, d6, d7⟩ := hb9'.out (.bool false) (.slice none 0 0) (.bool false) (.slice none 0 0) (.bool false) (.slice none 0 0) (.bool false) (.slice none 0 0)
 exact bodyPost_ret (v := .tuple #[.agg #[.bool false, .slice none 0 0, .bool false, .slice none 0 0, .bool false, .slice none 0 0, .bool false, .slice none 0 0], .int .i64 10]) (by simp [results, Tryz.results62, go_sem, d0, d1, d2, d3, d4, d5, d6, d7]) rfl ⟨hle9'.out _ _ _ _ _ _ _ _, _, _, rfl, by rw [hpw'.out]; exact ⟨rfl, rfl⟩⟩
theorem qHK (x : FracA × FracA) (n : Int) (v : Value) (w : World) (hv : IsTurnA w v x) (r : G2) (hr : tval x = some r) (hfar : n < -64 ∨ 64 < n) : Calls Tryz.prog 62 #[v, .int .i64 n] w (qAa (powG x n) w) := by
 have hpw := qIW hr hfar
 have hpw' := hyd1 hpw
 clear hpw
 obtain ⟨x1A, x1c, x1B, x1d, x2A, x2c, x2B, x2d, rfl, p1, p2⟩ := hv
 obtain ⟨W0, hW0, hsz, hle, k0, k1⟩ := qAQ w (.cells #[.bool x.1.sn, .slice x1A x.1.gn.length x1c, .bool x.1.sd, .slice x1B x.1.gd.length x1d, .bool x.2.sn, .slice x2A x.2.gn.length x2c, .bool x.2.sd, .slice x2B x.2.gd.length x2d] 29) (.cells #[.bool false, .slice none 0 0, .bool false, .slice none 0 0, .bool false, .slice none 0 0, .bool false, .slice none 0 0] 29)
 obtain ⟨c0, c1, c2, c3, c4, c5, c6, c7⟩ := qAB k0
 have r1 := qBI x _ W0 (IsTurnA.mk (p1.le hle) (p2.le hle))
 obtain ⟨b1, hb1⟩ : ∃ b, (tval x).isSome = b := ⟨_, rfl⟩
 unfold qCO at r1
 rw [hb1] at r1
 have ⟨hle', k0', k1', p1', p2', r1', hb1'⟩ := hyd7 hle k0 k1 p1 p2 r1 hb1
 clear hb1 r1 p2 p1 k1 k0 hle
 go_enter Tryz.func62, Tryz.ntmps62
 go_wp2_with (fail)
 clear hW0
 go_at_call 21
 refine r1'.out.mono ?_
 rintro e W1 ⟨hle1, v1, rfl, ⟨⟨ps1, pA1, pn1, pc1, pB1, pm1, pd1, ps2, pA2, pn2, pc2, pB2, pm2, pd2, rfl⟩, hc1⟩⟩
 clear c0 c1 c2 c3 c4 c5 c6 c7
 obtain ⟨V, hV, hle2, kx⟩ := al1 W1 (.cells #[.bool ps1, .slice pA1 pn1 pc1, .slice pB1 pm1 pd1, .bool ps2, .slice pA2 pn2 pc2, .slice pB2 pm2 pd2] 61)
 have hlV := (hle'.out.trans hle1).trans hle2
 have kV := bxl (hle1.trans hle2) k1'.out
 have t1 : TurnC V (.agg #[.bool ps1, .slice pA1 pn1 pc1, .slice pB1 pm1 pd1, .bool ps2, .slice pA2 pn2 pc2, .slice pB2 pm2 pd2]) x := TurnC.le ⟨⟨_, _, _, _, _, _, _, _, _, _, _, _, _, _, rfl⟩, hc1⟩ hle2
 obtain ⟨cp0, cp1, cp2, cp3, cp4, cp5⟩ := qAC kx
 have ⟨hle1', hle2', hlV', kV', kx', hc1', t1'⟩ := hyd7 hle1 hle2 hlV kV kx hc1 t1
 clear t1 hc1 kx kV hlV hle2 hle1
 have kVo := kV'.out
 obtain rfl : b1 = true := by have h := hb1'.out; rw [hr] at h; exact h.symm
 have hr' := hyd1 hr
 clear hr
 rcases hfar with h1 | h1
 ·skip
  obtain ⟨z0, z1, z2, z3, z4, z5, z6, z7⟩ := qAB kVo
  have ⟨g0, g1, g2, g3, g4, g5, g6, g7⟩ := frz8 kVo
  have hle9 := fun u0 u1 u2 u3 u4 u5 u6 u7 => qAW (hlV'.out) (show w.heap.size ≤ w.heap.size + 1 by omega) u0 u1 u2 u3 u4 u5 u6 u7
  have hb9 := fun u0 u1 u2 u3 u4 u5 u6 u7 => qAB (qAI kVo u0 u1 u2 u3 u4 u5 u6 u7)
  simp only [set8] at hb9
  have ⟨hle9', hb9', kVo'⟩ := hyd3 hle9 hb9 kVo
  clear kVo hb9 hle9
  go_wp2
  obtain ⟨d0, d1, d2, d3, d4, d5, d6, d7⟩ := hb9'.out (.bool false) (.slice none 0 0) (.bool false) (.slice none 0 0) (.bool false) (.slice none 0 0) (.bool false) (.slice none 0 0)
  exact bodyPost_ret (v := .tuple #[.agg #[.bool false, .slice none 0 0, .bool false, .slice none 0 0, .bool false, .slice none 0 0, .bool false, .slice none 0 0], .int .i64 2]) (by simp [results, Tryz.results62, go_sem, d0, d1, d2, d3, d4, d5, d6, d7]) rfl ⟨hle9'.out _ _ _ _ _ _ _ _, _, _, rfl, by rw [hpw'.out]; exact ⟨rfl, rfl⟩⟩
 ·have h2 : ¬ n < -64 := by omega
  obtain ⟨z0, z1, z2, z3, z4, z5, z6, z7⟩ := qAB kVo
  have ⟨g0, g1, g2, g3, g4, g5, g6, g7⟩ := frz8 kVo
  have hle9 := fun u0 u1 u2 u3 u4 u5 u6 u7 => qAW (hlV'.out) (show w.heap.size ≤ w.heap.size + 1 by omega) u0 u1 u2 u3 u4 u5 u6 u7
  have hb9 := fun u0 u1 u2 u3 u4 u5 u6 u7 => qAB (qAI kVo u0 u1 u2 u3 u4 u5 u6 u7)
  simp only [set8] at hb9
  have ⟨hle9', hb9', kVo'⟩ := hyd3 hle9 hb9 kVo
  clear kVo hb9 hle9
  go_wp2
  obtain ⟨d0, d1, d2, d3, d4, d5, d6, d7⟩ := hb9'.out (.bool false) (.slice none 0 0) (.bool false) (.slice none 0 0) (.bool false) (.slice none 0 0) (.bool false) (.slice none 0 0)
  exact bodyPost_ret (v := .tuple #[.agg #[.bool false, .slice none 0 0, .bool false, .slice none 0 0, .bool false, .slice none 0 0, .bool false, .slice none 0 0], .int .i64 2]) (by simp [results, Tryz.results62, go_sem, d0, d1, d2, d3, d4, d5, d6, d7]) rfl ⟨hle9'.out _ _ _ _ _ _ _ _, _, _, rfl, by rw [hpw'.out]; exact ⟨rfl, rfl⟩⟩
theorem qHL (x : FracA × FracA) (m : Nat) (v : Value) (w : World) (hv : IsTurnA w v x) (r : G2) (hr : tval x = some r) (hz2 : TSz r 2) (hm : m ≤ 64) : Calls Tryz.prog 62 #[v, .int .i64 (m : Int)] w (qAa (powG x (m : Int)) w) := by
 have hpw : powG x (m : Int) = outG (gpow r m) := qFo hr (by omega) (by omega)
 have hs1 : ∀ i, i ≤ m → TSz (gpow r i) 1000000 := fun i hi => (qFA hz2 (by omega)).up (by decide)
 have h2 : ¬ (m : Int) < -64 := by omega
 have h3 : ¬ (64 : Int) < (m : Int) := by omega
 have h4 : ¬ (m : Int) < 0 := by omega
 have h5 : (m : Int) ≤ 64 := by omega
 have ⟨hpw', hs1'⟩ := hyd2 hpw hs1
 clear hs1 hpw
 obtain ⟨x1A, x1c, x1B, x1d, x2A, x2c, x2B, x2d, rfl, p1, p2⟩ := hv
 obtain ⟨W0, hW0, hsz, hle, k0, k1⟩ := qAQ w (.cells #[.bool x.1.sn, .slice x1A x.1.gn.length x1c, .bool x.1.sd, .slice x1B x.1.gd.length x1d, .bool x.2.sn, .slice x2A x.2.gn.length x2c, .bool x.2.sd, .slice x2B x.2.gd.length x2d] 29) (.cells #[.bool false, .slice none 0 0, .bool false, .slice none 0 0, .bool false, .slice none 0 0, .bool false, .slice none 0 0] 29)
 obtain ⟨c0, c1, c2, c3, c4, c5, c6, c7⟩ := qAB k0
 have r1 := qBI x _ W0 (IsTurnA.mk (p1.le hle) (p2.le hle))
 obtain ⟨b1, hb1⟩ : ∃ b, (tval x).isSome = b := ⟨_, rfl⟩
 unfold qCO at r1
 rw [hb1] at r1
 have ⟨hle', k0', k1', p1', p2', r1', hb1'⟩ := hyd7 hle k0 k1 p1 p2 r1 hb1
 clear hb1 r1 p2 p1 k1 k0 hle
 go_enter Tryz.func62, Tryz.ntmps62
 go_wp2_with (fail)
 clear hW0
 go_at_call 21
 refine r1'.out.mono ?_
 rintro e W1 ⟨hle1, v1, rfl, ⟨⟨ps1, pA1, pn1, pc1, pB1, pm1, pd1, ps2, pA2, pn2, pc2, pB2, pm2, pd2, rfl⟩, hc1⟩⟩
 clear c0 c1 c2 c3 c4 c5 c6 c7
 obtain ⟨V, hV, hle2, kx⟩ := al1 W1 (.cells #[.bool ps1, .slice pA1 pn1 pc1, .slice pB1 pm1 pd1, .bool ps2, .slice pA2 pn2 pc2, .slice pB2 pm2 pd2] 61)
 have hlV := (hle'.out.trans hle1).trans hle2
 have kV := bxl (hle1.trans hle2) k1'.out
 have t1 : TurnC V (.agg #[.bool ps1, .slice pA1 pn1 pc1, .slice pB1 pm1 pd1, .bool ps2, .slice pA2 pn2 pc2, .slice pB2 pm2 pd2]) x := TurnC.le ⟨⟨_, _, _, _, _, _, _, _, _, _, _, _, _, _, rfl⟩, hc1⟩ hle2
 obtain ⟨cp0, cp1, cp2, cp3, cp4, cp5⟩ := qAC kx
 have ⟨hle1', hle2', hlV', kV', kx', hc1', t1'⟩ := hyd7 hle1 hle2 hlV kV kx hc1 t1
 clear t1 hc1 kx kV hlV hle2 hle1
 have kVo := kV'.out
 obtain rfl : b1 = true := by have h := hb1'.out; rw [hr] at h; exact h.symm
 have hta := t1'.out.2 r hr
 have ⟨hr', hta', kVo'⟩ := hyd3 hr hta kVo
 clear kVo hta hr
 go_wp2_with (fail)
 clear hV
 go_at_call 105
 refine (qFM r m _ V hta'.out hs1'.out (hz2.up (by decide)) hm).mono ?_
 rintro e W5 ⟨v5, rfl, hle5, h5⟩
 have h50 := h5
 obtain ⟨ts1, tA1, tn1, tc1, tB1, tm1, td1, ts2, tA2, tn2, tc2, tB2, tm2, td2, rfl, -, -⟩ := h5
 have k5 := bxl hle5 kV'.out
 have hl5 := hlV'.out.trans hle5
 have ⟨hle5', h50', k5', hl5'⟩ := hyd4 hle5 h50 k5 hl5
 clear hl5 k5 h50 hle5
 go_wp2_with (fail)
 go_at_call 78
 refine (qBy (gpow r m) _ W5 h50'.out).mono ?_
 rintro e W9 ⟨hle9a, v9, c9, rfl, hres⟩
 have hres0 := hres
 obtain ⟨rs1, rA1, rn1, rc1, rt1, rB1, rm1, rd1, rs2, rA2, rn2, rc2, rt2, rB2, rm2, rd2, rfl⟩ := hres.form
 have k9 := bxl hle9a k5'.out
 have hl9 := hl5'.out.trans hle9a
 have ⟨hle9a', hres', hres0', hl9'⟩ := hyd4 hle9a hres hres0 hl9
 clear hl9 hres0 hres hle9a
 obtain ⟨z0, z1, z2, z3, z4, z5, z6, z7⟩ := qAB k9
 have ⟨g0, g1, g2, g3, g4, g5, g6, g7⟩ := frz8 k9
 have hle9 := fun u0 u1 u2 u3 u4 u5 u6 u7 => qAW (hl9'.out) (show w.heap.size ≤ w.heap.size + 1 by omega) u0 u1 u2 u3 u4 u5 u6 u7
 have hb9 := fun u0 u1 u2 u3 u4 u5 u6 u7 => qAB (qAI k9 u0 u1 u2 u3 u4 u5 u6 u7)
 simp only [set8] at hb9
 have hf0 := fun u0 u1 u2 u3 u4 u5 u6 u7 => hres'.out.touch (qA9 k9) (qAL W9 (w.heap.size + 1) u0 u1 u2 u3 u4 u5 u6 u7)
 have ⟨hle9', hb9', k9', hf0'⟩ := hyd4 hle9 hb9 k9 hf0
 clear hf0 k9 hb9 hle9
 go_wp2
 obtain ⟨d0, d1, d2, d3, d4, d5, d6, d7⟩ := hb9'.out (.bool rs1) (.slice rA1 rn1 rc1) (.bool rt1) (.slice rB1 rm1 rd1) (.bool rs2) (.slice rA2 rn2 rc2) (.bool rt2) (.slice rB2 rm2 rd2)
 exact bodyPost_ret (v := .tuple #[.agg #[.bool rs1, .slice rA1 rn1 rc1, .bool rt1, .slice rB1 rm1 rd1, .bool rs2, .slice rA2 rn2 rc2, .bool rt2, .slice rB2 rm2 rd2], .int .i64 c9]) (by simp [results, Tryz.results62, go_sem, d0, d1, d2, d3, d4, d5, d6, d7]) rfl ⟨hle9'.out _ _ _ _ _ _ _ _, _, _, rfl, by rw [hpw'.out]; exact hf0'.out _ _ _ _ _ _ _ _⟩
theorem qGj (x : FracA × FracA) (m : Nat) (v : Value) (w : World) (hv : IsTurnA w v x) (r : G2) (hr : tval x = some r) (hm0 : 0 < m) (hm : m ≤ 64) (hnz : qAH r = 0) : Calls Tryz.prog 62 #[v, .int .i64 (-(m : Int))] w (qAa (powG x (-(m : Int))) w) := by
 have hpw : powG x (-(m : Int)) = .error 11 := qH5 hr (by omega) (by omega) hnz
 have h2 : ¬ -(m : Int) < -64 := by omega
 have h3 : ¬ (64 : Int) < -(m : Int) := by omega
 have h4 : -(m : Int) < 0 := by omega
 have h5 : -(m : Int) ≤ 64 := by omega
 have hpw' := hyd1 hpw
 clear hpw
 obtain ⟨x1A, x1c, x1B, x1d, x2A, x2c, x2B, x2d, rfl, p1, p2⟩ := hv
 obtain ⟨W0, hW0, hsz, hle, k0, k1⟩ := qAQ w (.cells #[.bool x.1.sn, .slice x1A x.1.gn.length x1c, .bool x.1.sd, .slice x1B x.1.gd.length x1d, .bool x.2.sn, .slice x2A x.2.gn.length x2c, .bool x.2.sd, .slice x2B x.2.gd.length x2d] 29) (.cells #[.bool false, .slice none 0 0, .bool false, .slice none 0 0, .bool false, .slice none 0 0, .bool false, .slice none 0 0] 29)
 obtain ⟨c0, c1, c2, c3, c4, c5, c6, c7⟩ := qAB k0
 have r1 := qBI x _ W0 (IsTurnA.mk (p1.le hle) (p2.le hle))
 obtain ⟨b1, hb1⟩ : ∃ b, (tval x).isSome = b := ⟨_, rfl⟩
 unfold qCO at r1
 rw [hb1] at r1
 have ⟨hle', k0', k1', p1', p2', r1', hb1'⟩ := hyd7 hle k0 k1 p1 p2 r1 hb1
 clear hb1 r1 p2 p1 k1 k0 hle
 go_enter Tryz.func62, Tryz.ntmps62
 go_wp2_with (fail)
 clear hW0
 go_at_call 21
 refine r1'.out.mono ?_
 rintro e W1 ⟨hle1, v1, rfl, ⟨⟨ps1, pA1, pn1, pc1, pB1, pm1, pd1, ps2, pA2, pn2, pc2, pB2, pm2, pd2, rfl⟩, hc1⟩⟩
 clear c0 c1 c2 c3 c4 c5 c6 c7
 obtain ⟨V, hV, hle2, kx⟩ := al1 W1 (.cells #[.bool ps1, .slice pA1 pn1 pc1, .slice pB1 pm1 pd1, .bool ps2, .slice pA2 pn2 pc2, .slice pB2 pm2 pd2] 61)
 have hlV := (hle'.out.trans hle1).trans hle2
 have kV := bxl (hle1.trans hle2) k1'.out
 have t1 : TurnC V (.agg #[.bool ps1, .slice pA1 pn1 pc1, .slice pB1 pm1 pd1, .bool ps2, .slice pA2 pn2 pc2, .slice pB2 pm2 pd2]) x := TurnC.le ⟨⟨_, _, _, _, _, _, _, _, _, _, _, _, _, _, rfl⟩, hc1⟩ hle2
 obtain ⟨cp0, cp1, cp2, cp3, cp4, cp5⟩ := qAC kx
 have ⟨hle1', hle2', hlV', kV', kx', hc1', t1'⟩ := hyd7 hle1 hle2 hlV kV kx hc1 t1
 clear t1 hc1 kx kV hlV hle2 hle1
 have kVo := kV'.out
 obtain rfl : b1 = true := by have h := hb1'.out; rw [hr] at h; exact h.symm
 have hta := t1'.out.2 r hr
 have hnil := qGE r _ V hta
 rw [decide_eq_true hnz] at hnil
 have ⟨hr', hta', kVo', hnil', hnz'⟩ := hyd5 hr hta kVo hnil hnz
 clear hnz hnil kVo hta hr
 go_wp2_with (fail)
 clear hV
 go_at_call 54
 refine hnil'.out.mono ?_
 rintro e W4 ⟨rfl, hle4⟩
 have kW := bxl hle4 kV'.out
 have hlW := hlV'.out.trans hle4
 have hta4 := hta'.out.le hle4
 clear cp0 cp1 cp2 cp3 cp4 cp5
 obtain ⟨cp0, cp1, cp2, cp3, cp4, cp5⟩ := qAC (bxl hle4 kx'.out)
 have ⟨hle4', hlW', hta4'⟩ := hyd3 hle4 hlW hta4
 clear hta4 hlW hle4
 obtain ⟨z0, z1, z2, z3, z4, z5, z6, z7⟩ := qAB kW
 have ⟨g0, g1, g2, g3, g4, g5, g6, g7⟩ := frz8 kW
 have hle9 := fun u0 u1 u2 u3 u4 u5 u6 u7 => qAW (hlW'.out) (show w.heap.size ≤ w.heap.size + 1 by omega) u0 u1 u2 u3 u4 u5 u6 u7
 have hb9 := fun u0 u1 u2 u3 u4 u5 u6 u7 => qAB (qAI kW u0 u1 u2 u3 u4 u5 u6 u7)
 simp only [set8] at hb9
 have ⟨hle9', hb9', kW'⟩ := hyd3 hle9 hb9 kW
 clear kW hb9 hle9
 go_wp2
 obtain ⟨d0, d1, d2, d3, d4, d5, d6, d7⟩ := hb9'.out (.bool false) (.slice none 0 0) (.bool false) (.slice none 0 0) (.bool false) (.slice none 0 0) (.bool false) (.slice none 0 0)
 exact bodyPost_ret (v := .tuple #[.agg #[.bool false, .slice none 0 0, .bool false, .slice none 0 0, .bool false, .slice none 0 0, .bool false, .slice none 0 0], .int .i64 11]) (by simp [results, Tryz.results62, go_sem, d0, d1, d2, d3, d4, d5, d6, d7]) rfl ⟨hle9'.out _ _ _ _ _ _ _ _, _, _, rfl, by rw [hpw'.out]; exact ⟨rfl, rfl⟩⟩
theorem qHM (x : FracA × FracA) (m : Nat) (v : Value) (w : World) (hv : IsTurnA w v x) (r : G2) (hr : tval x = some r) (hz2 : TSz r 2) (hm0 : 0 < m) (hm : m ≤ 64) (hnz : qAH r ≠ 0) : Calls Tryz.prog 62 #[v, .int .i64 (-(m : Int))] w (qAa (powG x (-(m : Int))) w) := by
 have hpw : powG x (-(m : Int)) = outG (gpow (ginv r) m) := by rw [qIX hr (by omega) (by omega) hnz, show (-(m : Int)).natAbs = m by omega]
 have h2 : ¬ -(m : Int) < -64 := by omega
 have h3 : ¬ (64 : Int) < -(m : Int) := by omega
 have h4 : -(m : Int) < 0 := by omega
 have h5 : -(m : Int) ≤ 64 := by omega
 have hpw' := hyd1 hpw
 clear hpw
 obtain ⟨x1A, x1c, x1B, x1d, x2A, x2c, x2B, x2d, rfl, p1, p2⟩ := hv
 obtain ⟨W0, hW0, hsz, hle, k0, k1⟩ := qAQ w (.cells #[.bool x.1.sn, .slice x1A x.1.gn.length x1c, .bool x.1.sd, .slice x1B x.1.gd.length x1d, .bool x.2.sn, .slice x2A x.2.gn.length x2c, .bool x.2.sd, .slice x2B x.2.gd.length x2d] 29) (.cells #[.bool false, .slice none 0 0, .bool false, .slice none 0 0, .bool false, .slice none 0 0, .bool false, .slice none 0 0] 29)
 obtain ⟨c0, c1, c2, c3, c4, c5, c6, c7⟩ := qAB k0
 have r1 := qBI x _ W0 (IsTurnA.mk (p1.le hle) (p2.le hle))
 obtain ⟨b1, hb1⟩ : ∃ b, (tval x).isSome = b := ⟨_, rfl⟩
 unfold qCO at r1
 rw [hb1] at r1
 have ⟨hle', k0', k1', p1', p2', r1', hb1'⟩ := hyd7 hle k0 k1 p1 p2 r1 hb1
 clear hb1 r1 p2 p1 k1 k0 hle
 go_enter Tryz.func62, Tryz.ntmps62
 go_wp2_with (fail)
 clear hW0
 go_at_call 21
 refine r1'.out.mono ?_
 rintro e W1 ⟨hle1, v1, rfl, ⟨⟨ps1, pA1, pn1, pc1, pB1, pm1, pd1, ps2, pA2, pn2, pc2, pB2, pm2, pd2, rfl⟩, hc1⟩⟩
 clear c0 c1 c2 c3 c4 c5 c6 c7
 obtain ⟨V, hV, hle2, kx⟩ := al1 W1 (.cells #[.bool ps1, .slice pA1 pn1 pc1, .slice pB1 pm1 pd1, .bool ps2, .slice pA2 pn2 pc2, .slice pB2 pm2 pd2] 61)
 have hlV := (hle'.out.trans hle1).trans hle2
 have kV := bxl (hle1.trans hle2) k1'.out
 have t1 : TurnC V (.agg #[.bool ps1, .slice pA1 pn1 pc1, .slice pB1 pm1 pd1, .bool ps2, .slice pA2 pn2 pc2, .slice pB2 pm2 pd2]) x := TurnC.le ⟨⟨_, _, _, _, _, _, _, _, _, _, _, _, _, _, rfl⟩, hc1⟩ hle2
 obtain ⟨cp0, cp1, cp2, cp3, cp4, cp5⟩ := qAC kx
 have ⟨hle1', hle2', hlV', kV', kx', hc1', t1'⟩ := hyd7 hle1 hle2 hlV kV kx hc1 t1
 clear t1 hc1 kx kV hlV hle2 hle1
 have kVo := kV'.out
 obtain rfl : b1 = true := by have h := hb1'.out; rw [hr] at h; exact h.symm
 have hta := t1'.out.2 r hr
 have hnil := qGE r _ V hta
 rw [decide_eq_false hnz] at hnil
 have ⟨hr', hta', kVo', hnil', hnz'⟩ := hyd5 hr hta kVo hnil hnz
 clear hnz hnil kVo hta hr
 go_wp2_with (fail)
 clear hV
 go_at_call 54
 refine hnil'.out.mono ?_
 rintro e W4 ⟨rfl, hle4⟩
 have kW := bxl hle4 kV'.out
 have hlW := hlV'.out.trans hle4
 have hta4 := hta'.out.le hle4
 clear cp0 cp1 cp2 cp3 cp4 cp5
 obtain ⟨cp0, cp1, cp2, cp3, cp4, cp5⟩ := qAC (bxl hle4 kx'.out)
 have ⟨hle4', hlW', hta4'⟩ := hyd3 hle4 hlW hta4
 clear hta4 hlW hle4
 have kW' := hyd1 kW
 clear kW
 go_wp2_with (fail)
 go_at_call 105
 refine (qIg r m _ W4 hta4'.out hz2 hnz'.out hm0 hm).mono ?_
 rintro e W5 ⟨v5, rfl, hle5, h5⟩
 have h50 := h5
 obtain ⟨ts1, tA1, tn1, tc1, tB1, tm1, td1, ts2, tA2, tn2, tc2, tB2, tm2, td2, rfl, -, -⟩ := h5
 have k5 := bxl hle5 kW'.out
 have hl5 := hlW'.out.trans hle5
 have ⟨hle5', h50', k5', hl5'⟩ := hyd4 hle5 h50 k5 hl5
 clear hl5 k5 h50 hle5
 go_wp2_with (fail)
 go_at_call 78
 refine (qBy (gpow (ginv r) m) _ W5 h50'.out).mono ?_
 rintro e W9 ⟨hle9a, v9, c9, rfl, hres⟩
 have hres0 := hres
 obtain ⟨rs1, rA1, rn1, rc1, rt1, rB1, rm1, rd1, rs2, rA2, rn2, rc2, rt2, rB2, rm2, rd2, rfl⟩ := hres.form
 have k9 := bxl hle9a k5'.out
 have hl9 := hl5'.out.trans hle9a
 have ⟨hle9a', hres', hres0', hl9'⟩ := hyd4 hle9a hres hres0 hl9
 clear hl9 hres0 hres hle9a
 obtain ⟨z0, z1, z2, z3, z4, z5, z6, z7⟩ := qAB k9
 have ⟨g0, g1, g2, g3, g4, g5, g6, g7⟩ := frz8 k9
 have hle9 := fun u0 u1 u2 u3 u4 u5 u6 u7 => qAW (hl9'.out) (show w.heap.size ≤ w.heap.size + 1 by omega) u0 u1 u2 u3 u4 u5 u6 u7
 have hb9 := fun u0 u1 u2 u3 u4 u5 u6 u7 => qAB (qAI k9 u0 u1 u2 u3 u4 u5 u6 u7)
 simp only [set8] at hb9
 have hf0 := fun u0 u1 u2 u3 u4 u5 u6 u7 => hres'.out.touch (qA9 k9) (qAL W9 (w.heap.size + 1) u0 u1 u2 u3 u4 u5 u6 u7)
 have ⟨hle9', hb9', k9', hf0'⟩ := hyd4 hle9 hb9 k9 hf0
 clear hf0 k9 hb9 hle9
 go_wp2
 obtain ⟨d0, d1, d2, d3, d4, d5, d6, d7⟩ := hb9'.out (.bool rs1) (.slice rA1 rn1 rc1) (.bool rt1) (.slice rB1 rm1 rd1) (.bool rs2) (.slice rA2 rn2 rc2) (.bool rt2) (.slice rB2 rm2 rd2)
 exact bodyPost_ret (v := .tuple #[.agg #[.bool rs1, .slice rA1 rn1 rc1, .bool rt1, .slice rB1 rm1 rd1, .bool rs2, .slice rA2 rn2 rc2, .bool rt2, .slice rB2 rm2 rd2], .int .i64 c9]) (by simp [results, Tryz.results62, go_sem, d0, d1, d2, d3, d4, d5, d6, d7]) rfl ⟨hle9'.out _ _ _ _ _ _ _ _, _, _, rfl, by rw [hpw'.out]; exact hf0'.out _ _ _ _ _ _ _ _⟩
theorem qKC (x : FracA × FracA) (n : Int) (v : Value) (w : World) (hv : IsTurnA w v x) (hz : ∀ g, tval x = some g → TSz g 2) : Calls Tryz.prog 62 #[v, .int .i64 n] w (qAa (powG x n) w) := by
 rcases qBV x with ⟨r, hr⟩ | hr
 ·by_cases hfar : n < -64 ∨ 64 < n
  ·exact qHK x n v w hv r hr hfar
  ·by_cases h0 : n < 0
   ·obtain ⟨m, rfl⟩ : ∃ m : Nat, n = -(m : Int) := ⟨n.natAbs, by omega⟩
    by_cases hnz : qAH r = 0
    ·exact qGj x m v w hv r hr (by omega) (by omega) hnz
    ·exact qHM x m v w hv r hr (hz r hr) (by omega) (by omega) hnz
   ·obtain ⟨m, rfl⟩ : ∃ m : Nat, n = (m : Int) := ⟨n.natAbs, by omega⟩
    exact qHL x m v w hv r hr (hz r hr) (by omega)
 ·exact qGi x n v w hv hr
end Go.Proofs.YtlhfonhbbpbmpaaGreat

