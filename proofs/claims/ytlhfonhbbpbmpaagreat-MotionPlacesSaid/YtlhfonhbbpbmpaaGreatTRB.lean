/- barleycornref01: AddTurn, MulTurn. barleycornref01: DivTurn. barleycornref01: Circled, Around. -/
import Derived.Test.YtlhfonhbbpbmpaaGreatTRA
import Derived.Test.YtlhfonhbbpbmpaaGreatTrnR
namespace Go.Proofs.YtlhfonhbbpbmpaaGreat
set_option maxRecDepth 100000
set_option maxHeartbeats 4000000
open Go.RowKit Go.Shelf
set_option linter.unusedVariables false
set_option linter.unusedSimpArgs false
theorem qIl (x y : FracA × FracA) (va vb : Value) (w : World) (h1 : IsTurnA w va x) (h2 : IsTurnA w vb y) : Calls Tryz.prog 63 #[va, vb] w (qAa (opG (fun a b => outG (gadd a b)) x y) w) := by
 obtain ⟨x1A, x1c, x1B, x1d, x2A, x2c, x2B, x2d, rfl, p1, p2⟩ := h1
 obtain ⟨y1A, y1c, y1B, y1d, y2A, y2c, y2B, y2d, rfl, q1, q2⟩ := h2
 obtain ⟨W0, hW0, hsz, hle, k0, k1, k2⟩ := qAw w (.cells #[.bool x.1.sn, .slice x1A x.1.gn.length x1c, .bool x.1.sd, .slice x1B x.1.gd.length x1d, .bool x.2.sn, .slice x2A x.2.gn.length x2c, .bool x.2.sd, .slice x2B x.2.gd.length x2d] 29) (.cells #[.bool y.1.sn, .slice y1A y.1.gn.length y1c, .bool y.1.sd, .slice y1B y.1.gd.length y1d, .bool y.2.sn, .slice y2A y.2.gn.length y2c, .bool y.2.sd, .slice y2B y.2.gd.length y2d] 29) (.cells #[.bool false, .slice none 0 0, .bool false, .slice none 0 0, .bool false, .slice none 0 0, .bool false, .slice none 0 0] 29)
 obtain ⟨a0, a1, a2, a3, a4, a5, a6, a7⟩ := qAB k0
 obtain ⟨b0, b1, b2, b3, b4, b5, b6, b7⟩ := qAB k1
 have r1 := qHd x y _ _ W0 (IsTurnA.mk (p1.le hle) (p2.le hle)) (IsTurnA.mk (q1.le hle) (q2.le hle))
 obtain ⟨bb, hbb⟩ : ∃ b, ((tval x).isSome && (tval y).isSome) = b := ⟨_, rfl⟩
 unfold qEf at r1
 rw [hbb] at r1
 have ⟨hle', k0', k1', k2', p1', p2', q1', q2'⟩ := hyd8 hle k0 k1 k2 p1 p2 q1 q2
 have ⟨r1', hbb'⟩ := hyd2 r1 hbb
 clear hbb r1 q2 q1 p2 p1 k2 k1 k0 hle
 go_enter Tryz.func63, Tryz.ntmps63
 go_wp2_with (fail)
 clear hW0
 go_at_call 80
 refine r1'.out.mono ?_
 rintro e W1 ⟨hle1, v1, v2, rfl, ⟨⟨ps1, pA1, pn1, pc1, pB1, pm1, pd1, ps2, pA2, pn2, pc2, pB2, pm2, pd2, rfl⟩, hc1⟩, ⟨⟨qs1, qA1, qn1, qc1, qB1, qm1, qd1, qs2, qA2, qn2, qc2, qB2, qm2, qd2, rfl⟩, hc2⟩⟩
 clear a0 a1 a2 a3 a4 a5 a6 a7 b0 b1 b2 b3 b4 b5 b6 b7
 obtain ⟨V, hV, hsV, hle2, kx, ky⟩ := qAQ W1 (.cells #[.bool ps1, .slice pA1 pn1 pc1, .slice pB1 pm1 pd1, .bool ps2, .slice pA2 pn2 pc2, .slice pB2 pm2 pd2] 61) (.cells #[.bool qs1, .slice qA1 qn1 qc1, .slice qB1 qm1 qd1, .bool qs2, .slice qA2 qn2 qc2, .slice qB2 qm2 qd2] 61)
 have hl2 := hle1.trans hle2
 have hlV := hle'.out.trans hl2
 have kV := bxl hl2 k2'.out
 have t1 : TurnC V (.agg #[.bool ps1, .slice pA1 pn1 pc1, .slice pB1 pm1 pd1, .bool ps2, .slice pA2 pn2 pc2, .slice pB2 pm2 pd2]) x := TurnC.le ⟨⟨_, _, _, _, _, _, _, _, _, _, _, _, _, _, rfl⟩, hc1⟩ hle2
 have t2 : TurnC V (.agg #[.bool qs1, .slice qA1 qn1 qc1, .slice qB1 qm1 qd1, .bool qs2, .slice qA2 qn2 qc2, .slice qB2 qm2 qd2]) y := TurnC.le ⟨⟨_, _, _, _, _, _, _, _, _, _, _, _, _, _, rfl⟩, hc2⟩ hle2
 obtain ⟨cp0, cp1, cp2, cp3, cp4, cp5⟩ := qAC kx
 obtain ⟨cq0, cq1, cq2, cq3, cq4, cq5⟩ := qAC ky
 have hs1 := hle1.size
 have hs2 := hle2.size
 have ⟨hle1', hle2', hl2', hlV', kV', kx', ky', hc1'⟩ := hyd8 hle1 hle2 hl2 hlV kV kx ky hc1
 have ⟨hc2', t1', t2'⟩ := hyd3 hc2 t1 t2
 clear t2 t1 hc2 hc1 ky kx kV hlV hl2 hle2 hle1
 have kVo := kV'.out
 cases bb with
 | false =>
  have hno := qIY (f := fun a b => outG (gadd a b)) hbb'.out
  have hno' := hyd1 hno
  clear hno
  obtain ⟨z0, z1, z2, z3, z4, z5, z6, z7⟩ := qAB kVo
  have ⟨g0, g1, g2, g3, g4, g5, g6, g7⟩ := frz8 kVo
  have hle9 := fun u0 u1 u2 u3 u4 u5 u6 u7 => qAW (hlV'.out) (show w.heap.size ≤ w.heap.size + 1 + 1 by omega) u0 u1 u2 u3 u4 u5 u6 u7
  have hb9 := fun u0 u1 u2 u3 u4 u5 u6 u7 => qAB (qAI kVo u0 u1 u2 u3 u4 u5 u6 u7)
  simp only [set8] at hb9
  have ⟨hle9', hb9', kVo'⟩ := hyd3 hle9 hb9 kVo
  clear kVo hb9 hle9
  go_wp2
  obtain ⟨d0, d1, d2, d3, d4, d5, d6, d7⟩ := hb9'.out (.bool false) (.slice none 0 0) (.bool false) (.slice none 0 0) (.bool false) (.slice none 0 0) (.bool false) (.slice none 0 0)
  exact bodyPost_ret (v := .tuple #[.agg #[.bool false, .slice none 0 0, .bool false, .slice none 0 0, .bool false, .slice none 0 0, .bool false, .slice none 0 0], .int .i64 10]) (by simp [results, Tryz.results63, go_sem, d0, d1, d2, d3, d4, d5, d6, d7]) rfl ⟨hle9'.out _ _ _ _ _ _ _ _, _, _, rfl, by rw [hno'.out]; exact ⟨rfl, rfl⟩⟩
 | true =>
  obtain ⟨a, b, ha, hb⟩ := qIZ hbb'.out
  have hop := qCr (f := fun a b => outG (gadd a b)) ha hb
  have hta := t1'.out.2 a ha
  have htb := t2'.out.2 b hb
  have hsa := qDQ ha
  have hsb := qDQ hb
  have ⟨ha', hb', hop', hta', htb', hsa', hsb', kVo'⟩ := hyd8 ha hb hop hta htb hsa hsb kVo
  clear kVo hsb hsa htb hta hop hb ha
  go_wp2_with (fail)
  clear hV
  go_at_call 106
  refine (qKB a b _ _ V hta'.out htb'.out (hsa'.out.up (by decide)) (hsb'.out.up (by decide))).mono ?_
  rintro e W2 ⟨v3, rfl, hle3, h3⟩
  have h30 := h3
  obtain ⟨ts1, tA1, tn1, tc1, tB1, tm1, td1, ts2, tA2, tn2, tc2, tB2, tm2, td2, rfl, -, -⟩ := h3
  have k3 := bxl hle3 kV'.out
  have hl3 := hlV'.out.trans hle3
  have ⟨hle3', h30', k3', hl3'⟩ := hyd4 hle3 h30 k3 hl3
  clear hl3 k3 h30 hle3
  go_wp2_with (fail)
  go_at_call 78
  refine (qBy (gadd a b) _ W2 h30'.out).mono ?_
  rintro e W9 ⟨hle9a, v9, c9, rfl, hres⟩
  have hres0 := hres
  obtain ⟨rs1, rA1, rn1, rc1, rt1, rB1, rm1, rd1, rs2, rA2, rn2, rc2, rt2, rB2, rm2, rd2, rfl⟩ := hres.form
  have k9 := bxl hle9a k3'.out
  have hl9 := hl3'.out.trans hle9a
  have ⟨hle9a', hres', hres0', hl9'⟩ := hyd4 hle9a hres hres0 hl9
  clear hl9 hres0 hres hle9a
  obtain ⟨z0, z1, z2, z3, z4, z5, z6, z7⟩ := qAB k9
  have ⟨g0, g1, g2, g3, g4, g5, g6, g7⟩ := frz8 k9
  have hle9 := fun u0 u1 u2 u3 u4 u5 u6 u7 => qAW (hl9'.out) (show w.heap.size ≤ w.heap.size + 1 + 1 by omega) u0 u1 u2 u3 u4 u5 u6 u7
  have hb9 := fun u0 u1 u2 u3 u4 u5 u6 u7 => qAB (qAI k9 u0 u1 u2 u3 u4 u5 u6 u7)
  simp only [set8] at hb9
  have hf0 := fun u0 u1 u2 u3 u4 u5 u6 u7 => hres'.out.touch (qA9 k9) (qAL W9 (w.heap.size + 1 + 1) u0 u1 u2 u3 u4 u5 u6 u7)
  have ⟨hle9', hb9', k9', hf0'⟩ := hyd4 hle9 hb9 k9 hf0
  clear hf0 k9 hb9 hle9
  go_wp2
  obtain ⟨d0, d1, d2, d3, d4, d5, d6, d7⟩ := hb9'.out (.bool rs1) (.slice rA1 rn1 rc1) (.bool rt1) (.slice rB1 rm1 rd1) (.bool rs2) (.slice rA2 rn2 rc2) (.bool rt2) (.slice rB2 rm2 rd2)
  exact bodyPost_ret (v := .tuple #[.agg #[.bool rs1, .slice rA1 rn1 rc1, .bool rt1, .slice rB1 rm1 rd1, .bool rs2, .slice rA2 rn2 rc2, .bool rt2, .slice rB2 rm2 rd2], .int .i64 c9]) (by simp [results, Tryz.results63, go_sem, d0, d1, d2, d3, d4, d5, d6, d7]) rfl ⟨hle9'.out _ _ _ _ _ _ _ _, _, _, rfl, by rw [hop'.out]; exact hf0'.out _ _ _ _ _ _ _ _⟩
theorem qDv (x y : FracA × FracA) (va vb : Value) (w : World) (h1 : IsTurnA w va x) (h2 : IsTurnA w vb y) : Calls Tryz.prog 34 #[va, vb] w (qAa (opG (fun a b => outG (gmul a b)) x y) w) := by
 obtain ⟨x1A, x1c, x1B, x1d, x2A, x2c, x2B, x2d, rfl, p1, p2⟩ := h1
 obtain ⟨y1A, y1c, y1B, y1d, y2A, y2c, y2B, y2d, rfl, q1, q2⟩ := h2
 obtain ⟨W0, hW0, hsz, hle, k0, k1, k2⟩ := qAw w (.cells #[.bool x.1.sn, .slice x1A x.1.gn.length x1c, .bool x.1.sd, .slice x1B x.1.gd.length x1d, .bool x.2.sn, .slice x2A x.2.gn.length x2c, .bool x.2.sd, .slice x2B x.2.gd.length x2d] 29) (.cells #[.bool y.1.sn, .slice y1A y.1.gn.length y1c, .bool y.1.sd, .slice y1B y.1.gd.length y1d, .bool y.2.sn, .slice y2A y.2.gn.length y2c, .bool y.2.sd, .slice y2B y.2.gd.length y2d] 29) (.cells #[.bool false, .slice none 0 0, .bool false, .slice none 0 0, .bool false, .slice none 0 0, .bool false, .slice none 0 0] 29)
 obtain ⟨a0, a1, a2, a3, a4, a5, a6, a7⟩ := qAB k0
 obtain ⟨b0, b1, b2, b3, b4, b5, b6, b7⟩ := qAB k1
 have r1 := qHd x y _ _ W0 (IsTurnA.mk (p1.le hle) (p2.le hle)) (IsTurnA.mk (q1.le hle) (q2.le hle))
 obtain ⟨bb, hbb⟩ : ∃ b, ((tval x).isSome && (tval y).isSome) = b := ⟨_, rfl⟩
 unfold qEf at r1
 rw [hbb] at r1
 have ⟨hle', k0', k1', k2', p1', p2', q1', q2'⟩ := hyd8 hle k0 k1 k2 p1 p2 q1 q2
 have ⟨r1', hbb'⟩ := hyd2 r1 hbb
 clear hbb r1 q2 q1 p2 p1 k2 k1 k0 hle
 go_enter Tryz.func34, Tryz.ntmps34
 go_wp2_with (fail)
 clear hW0
 go_at_call 80
 refine r1'.out.mono ?_
 rintro e W1 ⟨hle1, v1, v2, rfl, ⟨⟨ps1, pA1, pn1, pc1, pB1, pm1, pd1, ps2, pA2, pn2, pc2, pB2, pm2, pd2, rfl⟩, hc1⟩, ⟨⟨qs1, qA1, qn1, qc1, qB1, qm1, qd1, qs2, qA2, qn2, qc2, qB2, qm2, qd2, rfl⟩, hc2⟩⟩
 clear a0 a1 a2 a3 a4 a5 a6 a7 b0 b1 b2 b3 b4 b5 b6 b7
 obtain ⟨V, hV, hsV, hle2, kx, ky⟩ := qAQ W1 (.cells #[.bool ps1, .slice pA1 pn1 pc1, .slice pB1 pm1 pd1, .bool ps2, .slice pA2 pn2 pc2, .slice pB2 pm2 pd2] 61) (.cells #[.bool qs1, .slice qA1 qn1 qc1, .slice qB1 qm1 qd1, .bool qs2, .slice qA2 qn2 qc2, .slice qB2 qm2 qd2] 61)
 have hl2 := hle1.trans hle2
 have hlV := hle'.out.trans hl2
 have kV := bxl hl2 k2'.out
 have t1 : TurnC V (.agg #[.bool ps1, .slice pA1 pn1 pc1, .slice pB1 pm1 pd1, .bool ps2, .slice pA2 pn2 pc2, .slice pB2 pm2 pd2]) x := TurnC.le ⟨⟨_, _, _, _, _, _, _, _, _, _, _, _, _, _, rfl⟩, hc1⟩ hle2
 have t2 : TurnC V (.agg #[.bool qs1, .slice qA1 qn1 qc1, .slice qB1 qm1 qd1, .bool qs2, .slice qA2 qn2 qc2, .slice qB2 qm2 qd2]) y := TurnC.le ⟨⟨_, _, _, _, _, _, _, _, _, _, _, _, _, _, rfl⟩, hc2⟩ hle2
 obtain ⟨cp0, cp1, cp2, cp3, cp4, cp5⟩ := qAC kx
 obtain ⟨cq0, cq1, cq2, cq3, cq4, cq5⟩ := qAC ky
 have hs1 := hle1.size
 have hs2 := hle2.size
 have ⟨hle1', hle2', hl2', hlV', kV', kx', ky', hc1'⟩ := hyd8 hle1 hle2 hl2 hlV kV kx ky hc1
 have ⟨hc2', t1', t2'⟩ := hyd3 hc2 t1 t2
 clear t2 t1 hc2 hc1 ky kx kV hlV hl2 hle2 hle1
 have kVo := kV'.out
 cases bb with
 | false =>
  have hno := qIY (f := fun a b => outG (gmul a b)) hbb'.out
  have hno' := hyd1 hno
  clear hno
  obtain ⟨z0, z1, z2, z3, z4, z5, z6, z7⟩ := qAB kVo
  have ⟨g0, g1, g2, g3, g4, g5, g6, g7⟩ := frz8 kVo
  have hle9 := fun u0 u1 u2 u3 u4 u5 u6 u7 => qAW (hlV'.out) (show w.heap.size ≤ w.heap.size + 1 + 1 by omega) u0 u1 u2 u3 u4 u5 u6 u7
  have hb9 := fun u0 u1 u2 u3 u4 u5 u6 u7 => qAB (qAI kVo u0 u1 u2 u3 u4 u5 u6 u7)
  simp only [set8] at hb9
  have ⟨hle9', hb9', kVo'⟩ := hyd3 hle9 hb9 kVo
  clear kVo hb9 hle9
  go_wp2
  obtain ⟨d0, d1, d2, d3, d4, d5, d6, d7⟩ := hb9'.out (.bool false) (.slice none 0 0) (.bool false) (.slice none 0 0) (.bool false) (.slice none 0 0) (.bool false) (.slice none 0 0)
  exact bodyPost_ret (v := .tuple #[.agg #[.bool false, .slice none 0 0, .bool false, .slice none 0 0, .bool false, .slice none 0 0, .bool false, .slice none 0 0], .int .i64 10]) (by simp [results, Tryz.results34, go_sem, d0, d1, d2, d3, d4, d5, d6, d7]) rfl ⟨hle9'.out _ _ _ _ _ _ _ _, _, _, rfl, by rw [hno'.out]; exact ⟨rfl, rfl⟩⟩
 | true =>
  obtain ⟨a, b, ha, hb⟩ := qIZ hbb'.out
  have hop := qCr (f := fun a b => outG (gmul a b)) ha hb
  have hta := t1'.out.2 a ha
  have htb := t2'.out.2 b hb
  have hsa := qDQ ha
  have hsb := qDQ hb
  have ⟨ha', hb', hop', hta', htb', hsa', hsb', kVo'⟩ := hyd8 ha hb hop hta htb hsa hsb kVo
  clear kVo hsb hsa htb hta hop hb ha
  go_wp2_with (fail)
  clear hV
  go_at_call 81
  refine (qEJ a b _ _ V hta'.out htb'.out (hsa'.out.up (by decide)) (hsb'.out.up (by decide))).mono ?_
  rintro e W2 ⟨v3, rfl, hle3, h3⟩
  have h30 := h3
  obtain ⟨ts1, tA1, tn1, tc1, tB1, tm1, td1, ts2, tA2, tn2, tc2, tB2, tm2, td2, rfl, -, -⟩ := h3
  have k3 := bxl hle3 kV'.out
  have hl3 := hlV'.out.trans hle3
  have ⟨hle3', h30', k3', hl3'⟩ := hyd4 hle3 h30 k3 hl3
  clear hl3 k3 h30 hle3
  go_wp2_with (fail)
  go_at_call 78
  refine (qBy (gmul a b) _ W2 h30'.out).mono ?_
  rintro e W9 ⟨hle9a, v9, c9, rfl, hres⟩
  have hres0 := hres
  obtain ⟨rs1, rA1, rn1, rc1, rt1, rB1, rm1, rd1, rs2, rA2, rn2, rc2, rt2, rB2, rm2, rd2, rfl⟩ := hres.form
  have k9 := bxl hle9a k3'.out
  have hl9 := hl3'.out.trans hle9a
  have ⟨hle9a', hres', hres0', hl9'⟩ := hyd4 hle9a hres hres0 hl9
  clear hl9 hres0 hres hle9a
  obtain ⟨z0, z1, z2, z3, z4, z5, z6, z7⟩ := qAB k9
  have ⟨g0, g1, g2, g3, g4, g5, g6, g7⟩ := frz8 k9
  have hle9 := fun u0 u1 u2 u3 u4 u5 u6 u7 => qAW (hl9'.out) (show w.heap.size ≤ w.heap.size + 1 + 1 by omega) u0 u1 u2 u3 u4 u5 u6 u7
  have hb9 := fun u0 u1 u2 u3 u4 u5 u6 u7 => qAB (qAI k9 u0 u1 u2 u3 u4 u5 u6 u7)
  simp only [set8] at hb9
  have hf0 := fun u0 u1 u2 u3 u4 u5 u6 u7 => hres'.out.touch (qA9 k9) (qAL W9 (w.heap.size + 1 + 1) u0 u1 u2 u3 u4 u5 u6 u7)
  have ⟨hle9', hb9', k9', hf0'⟩ := hyd4 hle9 hb9 k9 hf0
  clear hf0 k9 hb9 hle9
  go_wp2
  obtain ⟨d0, d1, d2, d3, d4, d5, d6, d7⟩ := hb9'.out (.bool rs1) (.slice rA1 rn1 rc1) (.bool rt1) (.slice rB1 rm1 rd1) (.bool rs2) (.slice rA2 rn2 rc2) (.bool rt2) (.slice rB2 rm2 rd2)
  exact bodyPost_ret (v := .tuple #[.agg #[.bool rs1, .slice rA1 rn1 rc1, .bool rt1, .slice rB1 rm1 rd1, .bool rs2, .slice rA2 rn2 rc2, .bool rt2, .slice rB2 rm2 rd2], .int .i64 c9]) (by simp [results, Tryz.results34, go_sem, d0, d1, d2, d3, d4, d5, d6, d7]) rfl ⟨hle9'.out _ _ _ _ _ _ _ _, _, _, rfl, by rw [hop'.out]; exact hf0'.out _ _ _ _ _ _ _ _⟩
theorem qLL {b : G2} (h : TSz b 40) (hn : qAH b ≠ 0) : TSz (ginv b) 1000000 := by
 have h2 := qEc h (m := 200) (by decide)
 have h3 : Rsz (b.1 / qAH b) 400 := qJQ hn (h.1.up (by decide)) h2
 have h4 : Rsz (-b.2 / qAH b) 400 := qJQ hn (qEV (h.2.up (by decide))) h2
 exact ⟨h3.up (by decide), h4.up (by decide)⟩
theorem qIm (n d : Int) (w : World) (hn0 : -9223372036854775808 ≤ n) (hn1 : n ≤ 9223372036854775807) (hd0 : -9223372036854775808 ≤ d) (hd1 : d ≤ 9223372036854775807) (hnz : ¬ (n = 0 ∧ d = 0)) : Calls Tryz.prog 79 #[.int .i64 n, .int .i64 d] w fun e w' => ∃ v', e = .returned v' ∧ Le w w' ∧ TurnL .i64 w' v' (gmul (ndG n d) (ginv (qAP (ndG n d)))) := by
 obtain ⟨W0, hW0, hle, k0⟩ := al1 w (.cells #[.bool false, .slice none 0 0, .slice none 0 0, .bool false, .slice none 0 0, .slice none 0 0] 61)
 have hsz := qK9 hn0 hn1 hd0 hd1
 have hnm := qFp hnz
 have hsc : TSz (qAP (ndG n d)) 100000 := qEb (hsz.up (by decide))
 have hsi : TSz (ginv (qAP (ndG n d))) 1000000 := qLL (qEb (hsz.up (by decide))) hnm
 have ⟨hle', k0', hsz', hnm', hnz', hsc', hsi'⟩ := hyd7 hle k0 hsz hnm hnz hsc hsi
 clear hsi hsc hnz hnm hsz k0 hle
 go_enter Tryz.func79, Tryz.ntmps79
 go_wp2_with (fail)
 clear hW0
 go_at_call 25
 refine (qDO (fun _ => True) d W0 (Up.any _) hd0 hd1).mono ?_
 rintro e W1 ⟨v1, rfl, hle1, h1⟩
 obtain ⟨ps1, pA1, pn1, pc1, pB1, pm1, pd1, rfl⟩ := h1.qform
 have ⟨hle1', h1'⟩ := hyd2 hle1 h1
 clear h1 hle1
 go_wp2_with (fail)
 go_at_call 25
 refine (qDO (fun _ => True) n W1 (Up.any _) hn0 hn1).mono ?_
 rintro e W2 ⟨v2, rfl, hle2, h2⟩
 obtain ⟨ps2, pA2, pn2, pc2, pB2, pm2, pd2, rfl⟩ := h2.qform
 obtain ⟨V, hV, hle3, k5⟩ := al1 W2 (.cells #[.bool ps1, .slice pA1 pn1 pc1, .slice pB1 pm1 pd1, .bool ps2, .slice pA2 pn2 pc2, .slice pB2 pm2 pd2] 61)
 have hl2 := hle1'.out.trans (hle2.trans hle3)
 have hlV := hle'.out.trans hl2
 have k0V := bxl hl2 k0'.out
 have j1 : RatT .i64 V (.agg #[.bool ps1, .slice pA1 pn1 pc1, .slice pB1 pm1 pd1]) (ndG n d).1 := h1'.out.le (hle2.trans hle3)
 have j2 : RatT .i64 V (.agg #[.bool ps2, .slice pA2 pn2 pc2, .slice pB2 pm2 pd2]) (ndG n d).2 := h2.le hle3
 have hv := TurnL.mk (g := ndG n d) j1 j2
 obtain ⟨cp0, cp1, cp2, cp3, cp4, cp5⟩ := qAC k5
 have hl5 := (gsl k5)
 have hl0 := (gsl k0V)
 have ⟨hle2', hle3', h2', hl2', hlV', k0V', j1', j2'⟩ := hyd8 hle2 hle3 h2 hl2 hlV k0V j1 j2
 have ⟨hv', k5'⟩ := hyd2 hv k5
 clear k5 hv j2 j1 k0V hlV hl2 h2 hle3 hle2
 go_wp2_with (fail)
 clear hV
 refine qAG (R := leRel) 9 [some 11, some 12, some 13, some 14, some 15, some 16, some 17, some 18, some 19, none] [[], [], [1], [], [3], [4], [2, 5], [6], [0, 7], [8]]
  [.eq (.agg #[.bool ps1, .slice pA1 pn1 pc1, .slice pB1 pm1 pd1, .bool ps2, .slice pA2 pn2 pc2, .slice pB2 pm2 pd2]), .eq (.pointer (some ⟨W2.heap.size, 0, none⟩)), .eq (.agg #[.bool ps1, .slice pA1 pn1 pc1, .slice pB1 pm1 pd1]), .eq (.pointer (some ⟨W2.heap.size, 3, none⟩)), .eq (.agg #[.bool ps2, .slice pA2 pn2 pc2, .slice pB2 pm2 pd2]), MPred.ratT .i64 (-(ndG n d).2), MPred.turn .i64 (qAP (ndG n d)), MPred.turn .i64 (ginv (qAP (ndG n d))), MPred.turn .i64 (gmul (ndG n d) (ginv (qAP (ndG n d))))] (fun _ _ => False) (by kernel_rfl) (by kernel_rfl) (by kernel_rfl) (by kernel_rfl) ?_ (fun _ _ _ _ _ h => h.elim) ?_
 ·simp only [List.take_succ_cons, List.take_zero]
  refine mSc ?_ (mSc ?_ (mSc ?_ (mSc ?_ (mSc ?_ (mSc ?_ (mSc ?_ (mSc ?_ (mSc ?_ (qAJ)))))))))
  ·refine mSl rfl fun xv W hR hf Q hK hP => ?_
   have cc0 := (Below.cell hR (p := ⟨W2.heap.size, 0, none⟩) (by show W2.heap.size < V.heap.size; omega)).trans cp0
   have cc1 := (Below.cell hR (p := ⟨W2.heap.size, 1, none⟩) (by show W2.heap.size < V.heap.size; omega)).trans cp1
   have cc2 := (Below.cell hR (p := ⟨W2.heap.size, 2, none⟩) (by show W2.heap.size < V.heap.size; omega)).trans cp2
   have cc3 := (Below.cell hR (p := ⟨W2.heap.size, 3, none⟩) (by show W2.heap.size < V.heap.size; omega)).trans cp3
   have cc4 := (Below.cell hR (p := ⟨W2.heap.size, 4, none⟩) (by show W2.heap.size < V.heap.size; omega)).trans cp4
   have cc5 := (Below.cell hR (p := ⟨W2.heap.size, 5, none⟩) (by show W2.heap.size < V.heap.size; omega)).trans cp5
   simp only [fA] at hK ⊢
   go_wp2
   exact hK _ _ lrR rfl
  ·refine mSl rfl fun xv W hR hf Q hK hP => ?_
   simp only [fA] at hK ⊢
   go_wp2
   exact hK _ _ lrR rfl
  ·refine mSl rfl fun xv W hR hf Q hK hP => ?_
   obtain ⟨e0, -⟩ := hf
   change _ = _ at e0
   have cc0 := (Below.cell hR (p := ⟨W2.heap.size, 0, none⟩) (by show W2.heap.size < V.heap.size; omega)).trans cp0
   have cc1 := (Below.cell hR (p := ⟨W2.heap.size, 1, none⟩) (by show W2.heap.size < V.heap.size; omega)).trans cp1
   have cc2 := (Below.cell hR (p := ⟨W2.heap.size, 2, none⟩) (by show W2.heap.size < V.heap.size; omega)).trans cp2
   simp only [fA, e0] at hK ⊢
   go_wp2
   exact hK _ _ lrR rfl
  ·refine mSl rfl fun xv W hR hf Q hK hP => ?_
   simp only [fA] at hK ⊢
   go_wp2
   exact hK _ _ lrR rfl
  ·refine mSl rfl fun xv W hR hf Q hK hP => ?_
   obtain ⟨e0, -⟩ := hf
   change _ = _ at e0
   have cc3 := (Below.cell hR (p := ⟨W2.heap.size, 3, none⟩) (by show W2.heap.size < V.heap.size; omega)).trans cp3
   have cc4 := (Below.cell hR (p := ⟨W2.heap.size, 4, none⟩) (by show W2.heap.size < V.heap.size; omega)).trans cp4
   have cc5 := (Below.cell hR (p := ⟨W2.heap.size, 5, none⟩) (by show W2.heap.size < V.heap.size; omega)).trans cp5
   simp only [fA, e0] at hK ⊢
   go_wp2
   exact hK _ _ lrR rfl
  ·refine mSl rfl fun xv W hR hf Q hK hP => ?_
   obtain ⟨e0, -⟩ := hf
   change _ = _ at e0
   simp only [fA, e0] at hK ⊢
   go_wp2_with (fail)
   go_at_call 58
   refine (qCi (fun _ => True) (ndG n d).2 _ W (j2'.out.le hR)).mono ?_
   rintro e w' ⟨v', rfl, y1, y2⟩
   obtain ⟨zs1, zA1, zn1, zc1, zB1, zm1, zd1, qz⟩ := y2.qform
   subst qz
   have y2' := hyd1 y2
   clear y2
   go_wp2
   exact hK _ _ y1 y2'.out
  ·refine mSl rfl fun xv W hR hf Q hK hP => ?_
   obtain ⟨e0, e1, -⟩ := hf
   change _ = _ at e0
   replace e1 : RatT .i64 W (xv 5) (-(ndG n d).2) := e1
   obtain ⟨u1s1, u1A1, u1n1, u1c1, u1B1, u1m1, u1d1, qu1⟩ := e1.qform
   rw [qu1] at e1
   simp only [fA, e0, qu1] at hK ⊢
   go_wp2
   exact hK _ _ lrR (TurnL.mk (j1'.out.le hR) e1)
  ·refine mSl rfl fun xv W hR hf Q hK hP => ?_
   obtain ⟨e0, -⟩ := hf
   replace e0 : TurnL .i64 W (xv 6) (qAP (ndG n d)) := e0
   simp only [fA] at hK ⊢
   go_wp2_with (fail)
   go_at_call 116
   refine (qFL (qAP (ndG n d)) _ W e0 hsc'.out hnm'.out).mono ?_
   rintro e w' ⟨v', rfl, y1, y2⟩
   obtain ⟨zs1, zA1, zn1, zc1, zB1, zm1, zd1, zs2, zA2, zn2, zc2, zB2, zm2, zd2, qz⟩ := y2.form
   subst qz
   have y2' := hyd1 y2
   clear y2
   go_wp2
   exact hK _ _ y1 y2'.out
  ·refine mSl rfl fun xv W hR hf Q hK hP => ?_
   obtain ⟨e0, e1, -⟩ := hf
   change _ = _ at e0
   replace e1 : TurnL .i64 W (xv 7) (ginv (qAP (ndG n d))) := e1
   simp only [fA, e0] at hK ⊢
   go_wp2_with (fail)
   go_at_call 81
   refine (qEJ (ndG n d) (ginv (qAP (ndG n d))) _ _ W (hv'.out.le hR) e1 (hsz'.out.up (by decide)) hsi'.out).mono ?_
   rintro e w' ⟨v', rfl, y1, y2⟩
   obtain ⟨zs1, zA1, zn1, zc1, zB1, zm1, zd1, zs2, zA2, zn2, zc2, zB2, zm2, zd2, qz⟩ := y2.form
   subst qz
   have y2' := hyd1 y2
   clear y2
   go_wp2
   exact hK _ _ y1 y2'.out
 ·intro xv W hR hf Q' hQ1 _
  have eL : TurnL .i64 W (xv 8) (gmul (ndG n d) (ginv (qAP (ndG n d)))) := hf 8 (by decide)
  obtain ⟨rs1, rA1, rn1, rc1, rB1, rm1, rd1, rs2, rA2, rn2, rc2, rB2, rm2, rd2, qL, y1, y2⟩ := eL
  have kW := (Below.block hR (w.heap.size) (by omega)).trans k0V'.out
  obtain ⟨z0, z1, z2, z3, z4, z5⟩ := qAC kW
  have ⟨g0, g1, g2, g3, g4, g5⟩ := frz6 kW
  simp only [List.drop_succ_cons, List.drop_zero]
  rw [show List.range 9 = [0, 1, 2, 3, 4, 5, 6, 7, 8] from rfl]
  simp only [fA, qL]
  have hle9 := fun u0 u1 u2 u3 u4 u5 => qAh (Le.trans hlV'.out hR) (show w.heap.size ≤ w.heap.size by omega) u0 u1 u2 u3 u4 u5
  have hb9 := fun u0 u1 u2 u3 u4 u5 => qAC (qAZ kW u0 u1 u2 u3 u4 u5)
  simp only [set6] at hb9
  have hfin := fun u0 u1 u2 u3 u4 u5 => And.intro (y1.touch (qAN kW) (qAE W (w.heap.size) u0 u1 u2 u3 u4 u5)) (y2.touch (qAN kW) (qAE W (w.heap.size) u0 u1 u2 u3 u4 u5))
  have ⟨hle9', hb9', hfin', kW', y1', y2', qL', hR'⟩ := hyd8 hle9 hb9 hfin kW y1 y2 qL hR
  clear hR qL y2 y1 kW hfin hb9 hle9
  go_wp2
  refine hQ1 _ _ ?_
  go_wp2
  obtain ⟨d0, d1, d2, d3, d4, d5⟩ := hb9'.out (.bool rs1) (.slice rA1 rn1 rc1) (.slice rB1 rm1 rd1) (.bool rs2) (.slice rA2 rn2 rc2) (.slice rB2 rm2 rd2)
  exact bodyPost_ret (v := .agg #[.bool rs1, .slice rA1 rn1 rc1, .slice rB1 rm1 rd1, .bool rs2, .slice rA2 rn2 rc2, .slice rB2 rm2 rd2]) (by simp [results, Tryz.results79, go_sem, d0, d1, d2, d3, d4, d5]) rfl ⟨_, rfl, hle9'.out _ _ _ _ _ _, TurnL.mk (hfin'.out _ _ _ _ _ _).1 (hfin'.out _ _ _ _ _ _).2⟩
theorem qFa (n d : Int) (w : World) (hn0 : -9223372036854775808 ≤ n) (hn1 : n ≤ 9223372036854775807) (hd0 : -9223372036854775808 ≤ d) (hd1 : d ≤ 9223372036854775807) : Calls Tryz.prog 33 #[.int .i64 n, .int .i64 d] w (qAa (qAs n d) w) := by
 obtain ⟨W0, hW0, hle, k0⟩ := al1 w (.cells #[.bool false, .slice none 0 0, .bool false, .slice none 0 0, .bool false, .slice none 0 0, .bool false, .slice none 0 0] 29)
 by_cases hnz : n = 0 ∧ d = 0
 ·obtain ⟨rfl, rfl⟩ := hnz
  have har : qAs 0 0 = .error 11 := if_pos ⟨rfl, rfl⟩
  have har' := hyd1 har
  clear har
  go_enter Tryz.func33, Tryz.ntmps33
  obtain ⟨z0, z1, z2, z3, z4, z5, z6, z7⟩ := qAB k0
  have ⟨g0, g1, g2, g3, g4, g5, g6, g7⟩ := frz8 k0
  have hle9 := fun u0 u1 u2 u3 u4 u5 u6 u7 => qAW (hle) (show w.heap.size ≤ w.heap.size by omega) u0 u1 u2 u3 u4 u5 u6 u7
  have hb9 := fun u0 u1 u2 u3 u4 u5 u6 u7 => qAB (qAI k0 u0 u1 u2 u3 u4 u5 u6 u7)
  simp only [set8] at hb9
  have ⟨hle9', hb9', k0'⟩ := hyd3 hle9 hb9 k0
  clear k0 hb9 hle9
  go_wp2
  obtain ⟨d0, d1, d2, d3, d4, d5, d6, d7⟩ := hb9'.out (.bool false) (.slice none 0 0) (.bool false) (.slice none 0 0) (.bool false) (.slice none 0 0) (.bool false) (.slice none 0 0)
  exact bodyPost_ret (v := .tuple #[.agg #[.bool false, .slice none 0 0, .bool false, .slice none 0 0, .bool false, .slice none 0 0, .bool false, .slice none 0 0], .int .i64 11]) (by simp [results, Tryz.results33, go_sem, d0, d1, d2, d3, d4, d5, d6, d7]) rfl ⟨hle9'.out _ _ _ _ _ _ _ _, _, _, rfl, by rw [har'.out]; exact ⟨rfl, rfl⟩⟩
 ·have har := qJq hnz
  have hcir := qIm n d W0 hn0 hn1 hd0 hd1 hnz
  have ⟨hle', k0', har', hcir'⟩ := hyd4 hle k0 har hcir
  clear hcir har k0 hle
  by_cases h0 : n = 0
  ·subst h0
   have h1 : ¬ d = 0 := fun h => hnz ⟨rfl, h⟩
   clear hnz
   go_enter Tryz.func33, Tryz.ntmps33
   go_wp2_with (fail)
   clear hW0
   go_at_call 79
   refine hcir'.out.mono ?_
   rintro e W1 ⟨v1, rfl, hle1, h1⟩
   have h10 := h1
   obtain ⟨ts1, tA1, tn1, tc1, tB1, tm1, td1, ts2, tA2, tn2, tc2, tB2, tm2, td2, rfl, -, -⟩ := h1
   have k1 := bxl hle1 k0'.out
   have hl1 := hle'.out.trans hle1
   have ⟨hle1', h10', k1', hl1'⟩ := hyd4 hle1 h10 k1 hl1
   clear hl1 k1 h10 hle1
   go_wp2_with (fail)
   go_at_call 78
   refine (qBy (gmul (ndG 0 d) (ginv (qAP (ndG 0 d)))) _ W1 h10'.out).mono ?_
   rintro e W9 ⟨hle9a, v9, c9, rfl, hres⟩
   have hres0 := hres
   obtain ⟨rs1, rA1, rn1, rc1, rt1, rB1, rm1, rd1, rs2, rA2, rn2, rc2, rt2, rB2, rm2, rd2, rfl⟩ := hres.form
   have k9 := bxl hle9a k1'.out
   have hl9 := hl1'.out.trans hle9a
   have ⟨hle9a', hres', hres0', hl9'⟩ := hyd4 hle9a hres hres0 hl9
   clear hl9 hres0 hres hle9a
   obtain ⟨z0, z1, z2, z3, z4, z5, z6, z7⟩ := qAB k9
   have ⟨g0, g1, g2, g3, g4, g5, g6, g7⟩ := frz8 k9
   have hle9 := fun u0 u1 u2 u3 u4 u5 u6 u7 => qAW (hl9'.out) (show w.heap.size ≤ w.heap.size by omega) u0 u1 u2 u3 u4 u5 u6 u7
   have hb9 := fun u0 u1 u2 u3 u4 u5 u6 u7 => qAB (qAI k9 u0 u1 u2 u3 u4 u5 u6 u7)
   simp only [set8] at hb9
   have hf0 := fun u0 u1 u2 u3 u4 u5 u6 u7 => hres'.out.touch (qA9 k9) (qAL W9 (w.heap.size) u0 u1 u2 u3 u4 u5 u6 u7)
   have ⟨hle9', hb9', k9', hf0'⟩ := hyd4 hle9 hb9 k9 hf0
   clear hf0 k9 hb9 hle9
   go_wp2
   obtain ⟨d0, d1, d2, d3, d4, d5, d6, d7⟩ := hb9'.out (.bool rs1) (.slice rA1 rn1 rc1) (.bool rt1) (.slice rB1 rm1 rd1) (.bool rs2) (.slice rA2 rn2 rc2) (.bool rt2) (.slice rB2 rm2 rd2)
   exact bodyPost_ret (v := .tuple #[.agg #[.bool rs1, .slice rA1 rn1 rc1, .bool rt1, .slice rB1 rm1 rd1, .bool rs2, .slice rA2 rn2 rc2, .bool rt2, .slice rB2 rm2 rd2], .int .i64 c9]) (by simp [results, Tryz.results33, go_sem, d0, d1, d2, d3, d4, d5, d6, d7]) rfl ⟨hle9'.out _ _ _ _ _ _ _ _, _, _, rfl, by rw [har'.out]; exact hf0'.out _ _ _ _ _ _ _ _⟩
  ·clear hnz
   go_enter Tryz.func33, Tryz.ntmps33
   go_wp2_with (fail)
   clear hW0
   go_at_call 79
   refine hcir'.out.mono ?_
   rintro e W1 ⟨v1, rfl, hle1, h1⟩
   have h10 := h1
   obtain ⟨ts1, tA1, tn1, tc1, tB1, tm1, td1, ts2, tA2, tn2, tc2, tB2, tm2, td2, rfl, -, -⟩ := h1
   have k1 := bxl hle1 k0'.out
   have hl1 := hle'.out.trans hle1
   have ⟨hle1', h10', k1', hl1'⟩ := hyd4 hle1 h10 k1 hl1
   clear hl1 k1 h10 hle1
   go_wp2_with (fail)
   go_at_call 78
   refine (qBy (gmul (ndG n d) (ginv (qAP (ndG n d)))) _ W1 h10'.out).mono ?_
   rintro e W9 ⟨hle9a, v9, c9, rfl, hres⟩
   have hres0 := hres
   obtain ⟨rs1, rA1, rn1, rc1, rt1, rB1, rm1, rd1, rs2, rA2, rn2, rc2, rt2, rB2, rm2, rd2, rfl⟩ := hres.form
   have k9 := bxl hle9a k1'.out
   have hl9 := hl1'.out.trans hle9a
   have ⟨hle9a', hres', hres0', hl9'⟩ := hyd4 hle9a hres hres0 hl9
   clear hl9 hres0 hres hle9a
   obtain ⟨z0, z1, z2, z3, z4, z5, z6, z7⟩ := qAB k9
   have ⟨g0, g1, g2, g3, g4, g5, g6, g7⟩ := frz8 k9
   have hle9 := fun u0 u1 u2 u3 u4 u5 u6 u7 => qAW (hl9'.out) (show w.heap.size ≤ w.heap.size by omega) u0 u1 u2 u3 u4 u5 u6 u7
   have hb9 := fun u0 u1 u2 u3 u4 u5 u6 u7 => qAB (qAI k9 u0 u1 u2 u3 u4 u5 u6 u7)
   simp only [set8] at hb9
   have hf0 := fun u0 u1 u2 u3 u4 u5 u6 u7 => hres'.out.touch (qA9 k9) (qAL W9 (w.heap.size) u0 u1 u2 u3 u4 u5 u6 u7)
   have ⟨hle9', hb9', k9', hf0'⟩ := hyd4 hle9 hb9 k9 hf0
   clear hf0 k9 hb9 hle9
   go_wp2
   obtain ⟨d0, d1, d2, d3, d4, d5, d6, d7⟩ := hb9'.out (.bool rs1) (.slice rA1 rn1 rc1) (.bool rt1) (.slice rB1 rm1 rd1) (.bool rs2) (.slice rA2 rn2 rc2) (.bool rt2) (.slice rB2 rm2 rd2)
   exact bodyPost_ret (v := .tuple #[.agg #[.bool rs1, .slice rA1 rn1 rc1, .bool rt1, .slice rB1 rm1 rd1, .bool rs2, .slice rA2 rn2 rc2, .bool rt2, .slice rB2 rm2 rd2], .int .i64 c9]) (by simp [results, Tryz.results33, go_sem, d0, d1, d2, d3, d4, d5, d6, d7]) rfl ⟨hle9'.out _ _ _ _ _ _ _ _, _, _, rfl, by rw [har'.out]; exact hf0'.out _ _ _ _ _ _ _ _⟩
end Go.Proofs.YtlhfonhbbpbmpaaGreat

