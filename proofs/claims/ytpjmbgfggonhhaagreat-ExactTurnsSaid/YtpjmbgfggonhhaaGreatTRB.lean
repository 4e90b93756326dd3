/- barleycornref01: AddTurn, MulTurn. barleycornref01: DivTurn. barleycornref01: Circled, Around. -/
import Derived.Test.YtpjmbgfggonhhaaGreatTRA
import Derived.Test.YtpjmbgfggonhhaaGreatTrnR
namespace Go.Proofs.YtpjmbgfggonhhaaGreat
open Go.RowKit Go.Shelf
set_option linter.unusedVariables false
set_option linter.unusedSimpArgs false
set_option maxRecDepth 100000 in
set_option maxHeartbeats 4000000 in
theorem pf_n_AddTurn (x y : FracA × FracA) (va vb : Value) (w : World) (h1 : IsTurnA w va x) (h2 : IsTurnA w vb y) : Calls Tryz.prog 6 #[va, vb] w (ResPostT (opG (fun a b => outG (gadd a b)) x y) w) := by
  obtain ⟨x1A, x1c, x1B, x1d, x2A, x2c, x2B, x2d, rfl, p1, p2⟩ := h1
  obtain ⟨y1A, y1c, y1B, y1d, y2A, y2c, y2B, y2d, rfl, q1, q2⟩ := h2
  obtain ⟨W0, hW0, hsz, hle, k0, k1, k2⟩ := new3_le w (.cells #[.bool x.1.sn, .slice x1A x.1.gn.length x1c, .bool x.1.sd, .slice x1B x.1.gd.length x1d, .bool x.2.sn, .slice x2A x.2.gn.length x2c, .bool x.2.sd, .slice x2B x.2.gd.length x2d] 28) (.cells #[.bool y.1.sn, .slice y1A y.1.gn.length y1c, .bool y.1.sd, .slice y1B y.1.gd.length y1d, .bool y.2.sn, .slice y2A y.2.gn.length y2c, .bool y.2.sd, .slice y2B y.2.gd.length y2d] 28) (.cells #[.bool false, .slice none 0 0, .bool false, .slice none 0 0, .bool false, .slice none 0 0, .bool false, .slice none 0 0] 28)
  obtain ⟨a0, a1, a2, a3, a4, a5, a6, a7⟩ := cells8 k0
  obtain ⟨b0, b1, b2, b3, b4, b5, b6, b7⟩ := cells8 k1
  have r1 := pf_n_pair x y _ _ W0 (IsTurnA.mk (p1.le hle) (p2.le hle)) (IsTurnA.mk (q1.le hle) (q2.le hle))
  obtain ⟨bb, hbb⟩ : ∃ b, ((tval x).isSome && (tval y).isSome) = b := ⟨_, rfl⟩
  unfold PairPost at r1
  rw [hbb] at r1
  have hle' := Lib.hid hle
  have k0' := Lib.hid k0
  have k1' := Lib.hid k1
  have k2' := Lib.hid k2
  have p1' := Lib.hid p1
  have p2' := Lib.hid p2
  have q1' := Lib.hid q1
  have q2' := Lib.hid q2
  have r1' := Lib.hid r1
  have hbb' := Lib.hid hbb
  clear hbb r1 q2 q1 p2 p1 k2 k1 k0 hle
  go_enter Tryz.func6, Tryz.ntmps6
  go_wp2_with (fail)
  clear hW0
  go_at_call 24
  refine r1'.out.mono ?_
  rintro e W1 ⟨hle1, v1, v2, rfl, ⟨⟨ps1, pA1, pn1, pc1, pB1, pm1, pd1, ps2, pA2, pn2, pc2, pB2, pm2, pd2, rfl⟩, hc1⟩, ⟨⟨qs1, qA1, qn1, qc1, qB1, qm1, qd1, qs2, qA2, qn2, qc2, qB2, qm2, qd2, rfl⟩, hc2⟩⟩
  clear a0 a1 a2 a3 a4 a5 a6 a7 b0 b1 b2 b3 b4 b5 b6 b7
  obtain ⟨V, hV, hsV, hle2, kx, ky⟩ := new2_le W1 (.cells #[.bool ps1, .slice pA1 pn1 pc1, .slice pB1 pm1 pd1, .bool ps2, .slice pA2 pn2 pc2, .slice pB2 pm2 pd2] 61) (.cells #[.bool qs1, .slice qA1 qn1 qc1, .slice qB1 qm1 qd1, .bool qs2, .slice qA2 qn2 qc2, .slice qB2 qm2 qd2] 61)
  have hl2 := hle1.trans hle2
  have hlV := hle'.out.trans hl2
  have kV := box_later hl2 k2'.out
  have t1 : TurnC V (.agg #[.bool ps1, .slice pA1 pn1 pc1, .slice pB1 pm1 pd1, .bool ps2, .slice pA2 pn2 pc2, .slice pB2 pm2 pd2]) x := TurnC.le ⟨⟨_, _, _, _, _, _, _, _, _, _, _, _, _, _, rfl⟩, hc1⟩ hle2
  have t2 : TurnC V (.agg #[.bool qs1, .slice qA1 qn1 qc1, .slice qB1 qm1 qd1, .bool qs2, .slice qA2 qn2 qc2, .slice qB2 qm2 qd2]) y := TurnC.le ⟨⟨_, _, _, _, _, _, _, _, _, _, _, _, _, _, rfl⟩, hc2⟩ hle2
  obtain ⟨cp0, cp1, cp2, cp3, cp4, cp5⟩ := cells6 kx
  obtain ⟨cq0, cq1, cq2, cq3, cq4, cq5⟩ := cells6 ky
  have hs1 := hle1.size
  have hs2 := hle2.size
  have hle1' := Lib.hid hle1
  have hle2' := Lib.hid hle2
  have hl2' := Lib.hid hl2
  have hlV' := Lib.hid hlV
  have kV' := Lib.hid kV
  have kx' := Lib.hid kx
  have ky' := Lib.hid ky
  have hc1' := Lib.hid hc1
  have hc2' := Lib.hid hc2
  have t1' := Lib.hid t1
  have t2' := Lib.hid t2
  clear t2 t1 hc2 hc1 ky kx kV hlV hl2 hle2 hle1
  have kVo := kV'.out
  cases bb with
  | false =>
    have hno := opG_none (f := fun a b => outG (gadd a b)) hbb'.out
    have hno' := Lib.hid hno
    clear hno
    obtain ⟨z0, z1, z2, z3, z4, z5, z6, z7⟩ := cells8 kVo
    have g0 := frozen00 kVo 0
    have g1 := frozen00 kVo 1
    have g2 := frozen00 kVo 2
    have g3 := frozen00 kVo 3
    have g4 := frozen00 kVo 4
    have g5 := frozen00 kVo 5
    have g6 := frozen00 kVo 6
    have g7 := frozen00 kVo 7
    have hle9 := fun u0 u1 u2 u3 u4 u5 u6 u7 => le_set8 (hlV'.out) (show w.heap.size ≤ w.heap.size + 1 + 1 by omega) u0 u1 u2 u3 u4 u5 u6 u7
    have hb9 := fun u0 u1 u2 u3 u4 u5 u6 u7 => cells8 (heap_set8 kVo u0 u1 u2 u3 u4 u5 u6 u7)
    simp only [set8] at hb9
    have hle9' := Lib.hid hle9
    have hb9' := Lib.hid hb9
    have kVo' := Lib.hid kVo
    clear kVo hb9 hle9
    go_wp2
    obtain ⟨d0, d1, d2, d3, d4, d5, d6, d7⟩ := hb9'.out (.bool false) (.slice none 0 0) (.bool false) (.slice none 0 0) (.bool false) (.slice none 0 0) (.bool false) (.slice none 0 0)
    exact bodyPost_ret (v := .tuple #[.agg #[.bool false, .slice none 0 0, .bool false, .slice none 0 0, .bool false, .slice none 0 0, .bool false, .slice none 0 0], .int .i64 10]) (by simp [results, Tryz.results6, go_sem, d0, d1, d2, d3, d4, d5, d6, d7]) rfl ⟨hle9'.out _ _ _ _ _ _ _ _, _, _, rfl, by rw [hno'.out]; exact ⟨rfl, rfl⟩⟩
  | true =>
    obtain ⟨a, b, ha, hb⟩ := tval_two hbb'.out
    have hop := opG_some (f := fun a b => outG (gadd a b)) ha hb
    have hta := t1'.out.2 a ha
    have htb := t2'.out.2 b hb
    have hsa := tval_sz ha
    have hsb := tval_sz hb
    have ha' := Lib.hid ha
    have hb' := Lib.hid hb
    have hop' := Lib.hid hop
    have hta' := Lib.hid hta
    have htb' := Lib.hid htb
    have hsa' := Lib.hid hsa
    have hsb' := Lib.hid hsb
    have kVo' := Lib.hid kVo
    clear kVo hsb hsa htb hta hop hb ha
    go_wp2_with (fail)
    clear hV
    go_at_call 26
    refine (pf_n_PlusZ a b _ _ V hta'.out htb'.out (hsa'.out.up (by decide)) (hsb'.out.up (by decide))).mono ?_
    rintro e W2 ⟨v3, rfl, hle3, h3⟩
    have h30 := h3
    obtain ⟨ts1, tA1, tn1, tc1, tB1, tm1, td1, ts2, tA2, tn2, tc2, tB2, tm2, td2, rfl, -, -⟩ := h3
    have k3 := box_later hle3 kV'.out
    have hl3 := hlV'.out.trans hle3
    have hle3' := Lib.hid hle3
    have h30' := Lib.hid h30
    have k3' := Lib.hid k3
    have hl3' := Lib.hid hl3
    clear hl3 k3 h30 hle3
    go_wp2_with (fail)
    go_at_call 25
    refine (pf_n_OutTurn (gadd a b) _ W2 h30'.out).mono ?_
    rintro e W9 ⟨hle9a, v9, c9, rfl, hres⟩
    have hres0 := hres
    obtain ⟨rs1, rA1, rn1, rc1, rt1, rB1, rm1, rd1, rs2, rA2, rn2, rc2, rt2, rB2, rm2, rd2, rfl⟩ := hres.form
    have k9 := box_later hle9a k3'.out
    have hl9 := hl3'.out.trans hle9a
    have hle9a' := Lib.hid hle9a
    have hres' := Lib.hid hres
    have hres0' := Lib.hid hres0
    have hl9' := Lib.hid hl9
    clear hl9 hres0 hres hle9a
    obtain ⟨z0, z1, z2, z3, z4, z5, z6, z7⟩ := cells8 k9
    have g0 := frozen00 k9 0
    have g1 := frozen00 k9 1
    have g2 := frozen00 k9 2
    have g3 := frozen00 k9 3
    have g4 := frozen00 k9 4
    have g5 := frozen00 k9 5
    have g6 := frozen00 k9 6
    have g7 := frozen00 k9 7
    have hle9 := fun u0 u1 u2 u3 u4 u5 u6 u7 => le_set8 (hl9'.out) (show w.heap.size ≤ w.heap.size + 1 + 1 by omega) u0 u1 u2 u3 u4 u5 u6 u7
    have hb9 := fun u0 u1 u2 u3 u4 u5 u6 u7 => cells8 (heap_set8 k9 u0 u1 u2 u3 u4 u5 u6 u7)
    simp only [set8] at hb9
    have hf0 := fun u0 u1 u2 u3 u4 u5 u6 u7 => hres'.out.touch (noInt8 k9) (touch_set8 W9 (w.heap.size + 1 + 1) u0 u1 u2 u3 u4 u5 u6 u7)
    have hle9' := Lib.hid hle9
    have hb9' := Lib.hid hb9
    have k9' := Lib.hid k9
    have hf0' := Lib.hid hf0
    clear hf0 k9 hb9 hle9
    go_wp2
    obtain ⟨d0, d1, d2, d3, d4, d5, d6, d7⟩ := hb9'.out (.bool rs1) (.slice rA1 rn1 rc1) (.bool rt1) (.slice rB1 rm1 rd1) (.bool rs2) (.slice rA2 rn2 rc2) (.bool rt2) (.slice rB2 rm2 rd2)
    exact bodyPost_ret (v := .tuple #[.agg #[.bool rs1, .slice rA1 rn1 rc1, .bool rt1, .slice rB1 rm1 rd1, .bool rs2, .slice rA2 rn2 rc2, .bool rt2, .slice rB2 rm2 rd2], .int .i64 c9]) (by simp [results, Tryz.results6, go_sem, d0, d1, d2, d3, d4, d5, d6, d7]) rfl ⟨hle9'.out _ _ _ _ _ _ _ _, _, _, rfl, by rw [hop'.out]; exact hf0'.out _ _ _ _ _ _ _ _⟩
set_option maxRecDepth 100000 in
set_option maxHeartbeats 4000000 in
theorem pf_n_MulTurn (x y : FracA × FracA) (va vb : Value) (w : World) (h1 : IsTurnA w va x) (h2 : IsTurnA w vb y) : Calls Tryz.prog 8 #[va, vb] w (ResPostT (opG (fun a b => outG (gmul a b)) x y) w) := by
  obtain ⟨x1A, x1c, x1B, x1d, x2A, x2c, x2B, x2d, rfl, p1, p2⟩ := h1
  obtain ⟨y1A, y1c, y1B, y1d, y2A, y2c, y2B, y2d, rfl, q1, q2⟩ := h2
  obtain ⟨W0, hW0, hsz, hle, k0, k1, k2⟩ := new3_le w (.cells #[.bool x.1.sn, .slice x1A x.1.gn.length x1c, .bool x.1.sd, .slice x1B x.1.gd.length x1d, .bool x.2.sn, .slice x2A x.2.gn.length x2c, .bool x.2.sd, .slice x2B x.2.gd.length x2d] 28) (.cells #[.bool y.1.sn, .slice y1A y.1.gn.length y1c, .bool y.1.sd, .slice y1B y.1.gd.length y1d, .bool y.2.sn, .slice y2A y.2.gn.length y2c, .bool y.2.sd, .slice y2B y.2.gd.length y2d] 28) (.cells #[.bool false, .slice none 0 0, .bool false, .slice none 0 0, .bool false, .slice none 0 0, .bool false, .slice none 0 0] 28)
  obtain ⟨a0, a1, a2, a3, a4, a5, a6, a7⟩ := cells8 k0
  obtain ⟨b0, b1, b2, b3, b4, b5, b6, b7⟩ := cells8 k1
  have r1 := pf_n_pair x y _ _ W0 (IsTurnA.mk (p1.le hle) (p2.le hle)) (IsTurnA.mk (q1.le hle) (q2.le hle))
  obtain ⟨bb, hbb⟩ : ∃ b, ((tval x).isSome && (tval y).isSome) = b := ⟨_, rfl⟩
  unfold PairPost at r1
  rw [hbb] at r1
  have hle' := Lib.hid hle
  have k0' := Lib.hid k0
  have k1' := Lib.hid k1
  have k2' := Lib.hid k2
  have p1' := Lib.hid p1
  have p2' := Lib.hid p2
  have q1' := Lib.hid q1
  have q2' := Lib.hid q2
  have r1' := Lib.hid r1
  have hbb' := Lib.hid hbb
  clear hbb r1 q2 q1 p2 p1 k2 k1 k0 hle
  go_enter Tryz.func8, Tryz.ntmps8
  go_wp2_with (fail)
  clear hW0
  go_at_call 24
  refine r1'.out.mono ?_
  rintro e W1 ⟨hle1, v1, v2, rfl, ⟨⟨ps1, pA1, pn1, pc1, pB1, pm1, pd1, ps2, pA2, pn2, pc2, pB2, pm2, pd2, rfl⟩, hc1⟩, ⟨⟨qs1, qA1, qn1, qc1, qB1, qm1, qd1, qs2, qA2, qn2, qc2, qB2, qm2, qd2, rfl⟩, hc2⟩⟩
  clear a0 a1 a2 a3 a4 a5 a6 a7 b0 b1 b2 b3 b4 b5 b6 b7
  obtain ⟨V, hV, hsV, hle2, kx, ky⟩ := new2_le W1 (.cells #[.bool ps1, .slice pA1 pn1 pc1, .slice pB1 pm1 pd1, .bool ps2, .slice pA2 pn2 pc2, .slice pB2 pm2 pd2] 61) (.cells #[.bool qs1, .slice qA1 qn1 qc1, .slice qB1 qm1 qd1, .bool qs2, .slice qA2 qn2 qc2, .slice qB2 qm2 qd2] 61)
  have hl2 := hle1.trans hle2
  have hlV := hle'.out.trans hl2
  have kV := box_later hl2 k2'.out
  have t1 : TurnC V (.agg #[.bool ps1, .slice pA1 pn1 pc1, .slice pB1 pm1 pd1, .bool ps2, .slice pA2 pn2 pc2, .slice pB2 pm2 pd2]) x := TurnC.le ⟨⟨_, _, _, _, _, _, _, _, _, _, _, _, _, _, rfl⟩, hc1⟩ hle2
  have t2 : TurnC V (.agg #[.bool qs1, .slice qA1 qn1 qc1, .slice qB1 qm1 qd1, .bool qs2, .slice qA2 qn2 qc2, .slice qB2 qm2 qd2]) y := TurnC.le ⟨⟨_, _, _, _, _, _, _, _, _, _, _, _, _, _, rfl⟩, hc2⟩ hle2
  obtain ⟨cp0, cp1, cp2, cp3, cp4, cp5⟩ := cells6 kx
  obtain ⟨cq0, cq1, cq2, cq3, cq4, cq5⟩ := cells6 ky
  have hs1 := hle1.size
  have hs2 := hle2.size
  have hle1' := Lib.hid hle1
  have hle2' := Lib.hid hle2
  have hl2' := Lib.hid hl2
  have hlV' := Lib.hid hlV
  have kV' := Lib.hid kV
  have kx' := Lib.hid kx
  have ky' := Lib.hid ky
  have hc1' := Lib.hid hc1
  have hc2' := Lib.hid hc2
  have t1' := Lib.hid t1
  have t2' := Lib.hid t2
  clear t2 t1 hc2 hc1 ky kx kV hlV hl2 hle2 hle1
  have kVo := kV'.out
  cases bb with
  | false =>
    have hno := opG_none (f := fun a b => outG (gmul a b)) hbb'.out
    have hno' := Lib.hid hno
    clear hno
    obtain ⟨z0, z1, z2, z3, z4, z5, z6, z7⟩ := cells8 kVo
    have g0 := frozen00 kVo 0
    have g1 := frozen00 kVo 1
    have g2 := frozen00 kVo 2
    have g3 := frozen00 kVo 3
    have g4 := frozen00 kVo 4
    have g5 := frozen00 kVo 5
    have g6 := frozen00 kVo 6
    have g7 := frozen00 kVo 7
    have hle9 := fun u0 u1 u2 u3 u4 u5 u6 u7 => le_set8 (hlV'.out) (show w.heap.size ≤ w.heap.size + 1 + 1 by omega) u0 u1 u2 u3 u4 u5 u6 u7
    have hb9 := fun u0 u1 u2 u3 u4 u5 u6 u7 => cells8 (heap_set8 kVo u0 u1 u2 u3 u4 u5 u6 u7)
    simp only [set8] at hb9
    have hle9' := Lib.hid hle9
    have hb9' := Lib.hid hb9
    have kVo' := Lib.hid kVo
    clear kVo hb9 hle9
    go_wp2
    obtain ⟨d0, d1, d2, d3, d4, d5, d6, d7⟩ := hb9'.out (.bool false) (.slice none 0 0) (.bool false) (.slice none 0 0) (.bool false) (.slice none 0 0) (.bool false) (.slice none 0 0)
    exact bodyPost_ret (v := .tuple #[.agg #[.bool false, .slice none 0 0, .bool false, .slice none 0 0, .bool false, .slice none 0 0, .bool false, .slice none 0 0], .int .i64 10]) (by simp [results, Tryz.results8, go_sem, d0, d1, d2, d3, d4, d5, d6, d7]) rfl ⟨hle9'.out _ _ _ _ _ _ _ _, _, _, rfl, by rw [hno'.out]; exact ⟨rfl, rfl⟩⟩
  | true =>
    obtain ⟨a, b, ha, hb⟩ := tval_two hbb'.out
    have hop := opG_some (f := fun a b => outG (gmul a b)) ha hb
    have hta := t1'.out.2 a ha
    have htb := t2'.out.2 b hb
    have hsa := tval_sz ha
    have hsb := tval_sz hb
    have ha' := Lib.hid ha
    have hb' := Lib.hid hb
    have hop' := Lib.hid hop
    have hta' := Lib.hid hta
    have htb' := Lib.hid htb
    have hsa' := Lib.hid hsa
    have hsb' := Lib.hid hsb
    have kVo' := Lib.hid kVo
    clear kVo hsb hsa htb hta hop hb ha
    go_wp2_with (fail)
    clear hV
    go_at_call 28
    refine (pf_n_TimesZ a b _ _ V hta'.out htb'.out (hsa'.out.up (by decide)) (hsb'.out.up (by decide))).mono ?_
    rintro e W2 ⟨v3, rfl, hle3, h3⟩
    have h30 := h3
    obtain ⟨ts1, tA1, tn1, tc1, tB1, tm1, td1, ts2, tA2, tn2, tc2, tB2, tm2, td2, rfl, -, -⟩ := h3
    have k3 := box_later hle3 kV'.out
    have hl3 := hlV'.out.trans hle3
    have hle3' := Lib.hid hle3
    have h30' := Lib.hid h30
    have k3' := Lib.hid k3
    have hl3' := Lib.hid hl3
    clear hl3 k3 h30 hle3
    go_wp2_with (fail)
    go_at_call 25
    refine (pf_n_OutTurn (gmul a b) _ W2 h30'.out).mono ?_
    rintro e W9 ⟨hle9a, v9, c9, rfl, hres⟩
    have hres0 := hres
    obtain ⟨rs1, rA1, rn1, rc1, rt1, rB1, rm1, rd1, rs2, rA2, rn2, rc2, rt2, rB2, rm2, rd2, rfl⟩ := hres.form
    have k9 := box_later hle9a k3'.out
    have hl9 := hl3'.out.trans hle9a
    have hle9a' := Lib.hid hle9a
    have hres' := Lib.hid hres
    have hres0' := Lib.hid hres0
    have hl9' := Lib.hid hl9
    clear hl9 hres0 hres hle9a
    obtain ⟨z0, z1, z2, z3, z4, z5, z6, z7⟩ := cells8 k9
    have g0 := frozen00 k9 0
    have g1 := frozen00 k9 1
    have g2 := frozen00 k9 2
    have g3 := frozen00 k9 3
    have g4 := frozen00 k9 4
    have g5 := frozen00 k9 5
    have g6 := frozen00 k9 6
    have g7 := frozen00 k9 7
    have hle9 := fun u0 u1 u2 u3 u4 u5 u6 u7 => le_set8 (hl9'.out) (show w.heap.size ≤ w.heap.size + 1 + 1 by omega) u0 u1 u2 u3 u4 u5 u6 u7
    have hb9 := fun u0 u1 u2 u3 u4 u5 u6 u7 => cells8 (heap_set8 k9 u0 u1 u2 u3 u4 u5 u6 u7)
    simp only [set8] at hb9
    have hf0 := fun u0 u1 u2 u3 u4 u5 u6 u7 => hres'.out.touch (noInt8 k9) (touch_set8 W9 (w.heap.size + 1 + 1) u0 u1 u2 u3 u4 u5 u6 u7)
    have hle9' := Lib.hid hle9
    have hb9' := Lib.hid hb9
    have k9' := Lib.hid k9
    have hf0' := Lib.hid hf0
    clear hf0 k9 hb9 hle9
    go_wp2
    obtain ⟨d0, d1, d2, d3, d4, d5, d6, d7⟩ := hb9'.out (.bool rs1) (.slice rA1 rn1 rc1) (.bool rt1) (.slice rB1 rm1 rd1) (.bool rs2) (.slice rA2 rn2 rc2) (.bool rt2) (.slice rB2 rm2 rd2)
    exact bodyPost_ret (v := .tuple #[.agg #[.bool rs1, .slice rA1 rn1 rc1, .bool rt1, .slice rB1 rm1 rd1, .bool rs2, .slice rA2 rn2 rc2, .bool rt2, .slice rB2 rm2 rd2], .int .i64 c9]) (by simp [results, Tryz.results8, go_sem, d0, d1, d2, d3, d4, d5, d6, d7]) rfl ⟨hle9'.out _ _ _ _ _ _ _ _, _, _, rfl, by rw [hop'.out]; exact hf0'.out _ _ _ _ _ _ _ _⟩
end Go.Proofs.YtpjmbgfggonhhaaGreat
namespace Go.Proofs.YtpjmbgfggonhhaaGreat
open Go.RowKit Go.Shelf
set_option linter.unusedVariables false
set_option linter.unusedSimpArgs false
theorem inv_sz40 {b : G2} (h : TSz b 40) (hn : gnorm b ≠ 0) : TSz (ginv b) 1000000 := by
  have h2 := rsz_norm h (m := 200) (by decide)
  have h3 : Rsz (b.1 / gnorm b) 400 := rsz_div hn (h.1.up (by decide)) h2
  have h4 : Rsz (-b.2 / gnorm b) 400 := rsz_div hn (rsz_neg (h.2.up (by decide))) h2
  exact ⟨h3.up (by decide), h4.up (by decide)⟩
set_option maxRecDepth 100000 in
set_option maxHeartbeats 4000000 in
theorem pf_n_DivTurn (x y : FracA × FracA) (va vb : Value) (w : World) (h1 : IsTurnA w va x) (h2 : IsTurnA w vb y) : Calls Tryz.prog 10 #[va, vb] w (ResPostT (opG (divG) x y) w) := by
  obtain ⟨x1A, x1c, x1B, x1d, x2A, x2c, x2B, x2d, rfl, p1, p2⟩ := h1
  obtain ⟨y1A, y1c, y1B, y1d, y2A, y2c, y2B, y2d, rfl, q1, q2⟩ := h2
  obtain ⟨W0, hW0, hsz, hle, k0, k1, k2⟩ := new3_le w (.cells #[.bool x.1.sn, .slice x1A x.1.gn.length x1c, .bool x.1.sd, .slice x1B x.1.gd.length x1d, .bool x.2.sn, .slice x2A x.2.gn.length x2c, .bool x.2.sd, .slice x2B x.2.gd.length x2d] 28) (.cells #[.bool y.1.sn, .slice y1A y.1.gn.length y1c, .bool y.1.sd, .slice y1B y.1.gd.length y1d, .bool y.2.sn, .slice y2A y.2.gn.length y2c, .bool y.2.sd, .slice y2B y.2.gd.length y2d] 28) (.cells #[.bool false, .slice none 0 0, .bool false, .slice none 0 0, .bool false, .slice none 0 0, .bool false, .slice none 0 0] 28)
  obtain ⟨a0, a1, a2, a3, a4, a5, a6, a7⟩ := cells8 k0
  obtain ⟨b0, b1, b2, b3, b4, b5, b6, b7⟩ := cells8 k1
  have r1 := pf_n_pair x y _ _ W0 (IsTurnA.mk (p1.le hle) (p2.le hle)) (IsTurnA.mk (q1.le hle) (q2.le hle))
  obtain ⟨bb, hbb⟩ : ∃ b, ((tval x).isSome && (tval y).isSome) = b := ⟨_, rfl⟩
  unfold PairPost at r1
  rw [hbb] at r1
  have hle' := Lib.hid hle
  have k0' := Lib.hid k0
  have k1' := Lib.hid k1
  have k2' := Lib.hid k2
  have p1' := Lib.hid p1
  have p2' := Lib.hid p2
  have q1' := Lib.hid q1
  have q2' := Lib.hid q2
  have r1' := Lib.hid r1
  have hbb' := Lib.hid hbb
  clear hbb r1 q2 q1 p2 p1 k2 k1 k0 hle
  go_enter Tryz.func10, Tryz.ntmps10
  go_wp2_with (fail)
  clear hW0
  go_at_call 24
  refine r1'.out.mono ?_
  rintro e W1 ⟨hle1, v1, v2, rfl, ⟨⟨ps1, pA1, pn1, pc1, pB1, pm1, pd1, ps2, pA2, pn2, pc2, pB2, pm2, pd2, rfl⟩, hc1⟩, ⟨⟨qs1, qA1, qn1, qc1, qB1, qm1, qd1, qs2, qA2, qn2, qc2, qB2, qm2, qd2, rfl⟩, hc2⟩⟩
  clear a0 a1 a2 a3 a4 a5 a6 a7 b0 b1 b2 b3 b4 b5 b6 b7
  obtain ⟨V, hV, hsV, hle2, kx, ky⟩ := new2_le W1 (.cells #[.bool ps1, .slice pA1 pn1 pc1, .slice pB1 pm1 pd1, .bool ps2, .slice pA2 pn2 pc2, .slice pB2 pm2 pd2] 61) (.cells #[.bool qs1, .slice qA1 qn1 qc1, .slice qB1 qm1 qd1, .bool qs2, .slice qA2 qn2 qc2, .slice qB2 qm2 qd2] 61)
  have hl2 := hle1.trans hle2
  have hlV := hle'.out.trans hl2
  have kV := box_later hl2 k2'.out
  have t1 : TurnC V (.agg #[.bool ps1, .slice pA1 pn1 pc1, .slice pB1 pm1 pd1, .bool ps2, .slice pA2 pn2 pc2, .slice pB2 pm2 pd2]) x := TurnC.le ⟨⟨_, _, _, _, _, _, _, _, _, _, _, _, _, _, rfl⟩, hc1⟩ hle2
  have t2 : TurnC V (.agg #[.bool qs1, .slice qA1 qn1 qc1, .slice qB1 qm1 qd1, .bool qs2, .slice qA2 qn2 qc2, .slice qB2 qm2 qd2]) y := TurnC.le ⟨⟨_, _, _, _, _, _, _, _, _, _, _, _, _, _, rfl⟩, hc2⟩ hle2
  obtain ⟨cp0, cp1, cp2, cp3, cp4, cp5⟩ := cells6 kx
  obtain ⟨cq0, cq1, cq2, cq3, cq4, cq5⟩ := cells6 ky
  have hs1 := hle1.size
  have hs2 := hle2.size
  have hle1' := Lib.hid hle1
  have hle2' := Lib.hid hle2
  have hl2' := Lib.hid hl2
  have hlV' := Lib.hid hlV
  have kV' := Lib.hid kV
  have kx' := Lib.hid kx
  have ky' := Lib.hid ky
  have hc1' := Lib.hid hc1
  have hc2' := Lib.hid hc2
  have t1' := Lib.hid t1
  have t2' := Lib.hid t2
  clear t2 t1 hc2 hc1 ky kx kV hlV hl2 hle2 hle1
  have kVo := kV'.out
  cases bb with
  | false =>
    have hno := opG_none (f := divG) hbb'.out
    have hno' := Lib.hid hno
    clear hno
    obtain ⟨z0, z1, z2, z3, z4, z5, z6, z7⟩ := cells8 kVo
    have g0 := frozen00 kVo 0
    have g1 := frozen00 kVo 1
    have g2 := frozen00 kVo 2
    have g3 := frozen00 kVo 3
    have g4 := frozen00 kVo 4
    have g5 := frozen00 kVo 5
    have g6 := frozen00 kVo 6
    have g7 := frozen00 kVo 7
    have hle9 := fun u0 u1 u2 u3 u4 u5 u6 u7 => le_set8 (hlV'.out) (show w.heap.size ≤ w.heap.size + 1 + 1 by omega) u0 u1 u2 u3 u4 u5 u6 u7
    have hb9 := fun u0 u1 u2 u3 u4 u5 u6 u7 => cells8 (heap_set8 kVo u0 u1 u2 u3 u4 u5 u6 u7)
    simp only [set8] at hb9
    have hle9' := Lib.hid hle9
    have hb9' := Lib.hid hb9
    have kVo' := Lib.hid kVo
    clear kVo hb9 hle9
    go_wp2
    obtain ⟨d0, d1, d2, d3, d4, d5, d6, d7⟩ := hb9'.out (.bool false) (.slice none 0 0) (.bool false) (.slice none 0 0) (.bool false) (.slice none 0 0) (.bool false) (.slice none 0 0)
    exact bodyPost_ret (v := .tuple #[.agg #[.bool false, .slice none 0 0, .bool false, .slice none 0 0, .bool false, .slice none 0 0, .bool false, .slice none 0 0], .int .i64 10]) (by simp [results, Tryz.results10, go_sem, d0, d1, d2, d3, d4, d5, d6, d7]) rfl ⟨hle9'.out _ _ _ _ _ _ _ _, _, _, rfl, by rw [hno'.out]; exact ⟨rfl, rfl⟩⟩
  | true =>
    obtain ⟨a, b, ha, hb⟩ := tval_two hbb'.out
    have hop := opG_some (f := divG) ha hb
    have hta := t1'.out.2 a ha
    have htb := t2'.out.2 b hb
    have hsa := tval_sz ha
    have hsb := tval_sz hb
    have ha' := Lib.hid ha
    have hb' := Lib.hid hb
    have hop' := Lib.hid hop
    have hta' := Lib.hid hta
    have htb' := Lib.hid htb
    have hsa' := Lib.hid hsa
    have hsb' := Lib.hid hsb
    have kVo' := Lib.hid kVo
    clear kVo hsb hsa htb hta hop hb ha
    have hnil := pf_n_Nil b _ V htb'.out
    by_cases hn : gnorm b = 0
    · have hdv : divG a b = .error 11 := if_pos hn
      rw [decide_eq_true hn] at hnil
      have hdv' := Lib.hid hdv
      have hnil' := Lib.hid hnil
      have hn' := Lib.hid hn
      clear hn hnil hdv
      go_wp2_with (fail)
      clear hV
      go_at_call 33
      refine hnil'.out.mono ?_
      rintro e W2 ⟨rfl, hle3⟩
      have k3 := box_later hle3 kV'.out
      have hl3 := hlV'.out.trans hle3
      have hle3' := Lib.hid hle3
      have hl3' := Lib.hid hl3
      clear hl3 hle3
      obtain ⟨z0, z1, z2, z3, z4, z5, z6, z7⟩ := cells8 k3
      have g0 := frozen00 k3 0
      have g1 := frozen00 k3 1
      have g2 := frozen00 k3 2
      have g3 := frozen00 k3 3
      have g4 := frozen00 k3 4
      have g5 := frozen00 k3 5
      have g6 := frozen00 k3 6
      have g7 := frozen00 k3 7
      have hle9 := fun u0 u1 u2 u3 u4 u5 u6 u7 => le_set8 (hl3'.out) (show w.heap.size ≤ w.heap.size + 1 + 1 by omega) u0 u1 u2 u3 u4 u5 u6 u7
      have hb9 := fun u0 u1 u2 u3 u4 u5 u6 u7 => cells8 (heap_set8 k3 u0 u1 u2 u3 u4 u5 u6 u7)
      simp only [set8] at hb9
      have hle9' := Lib.hid hle9
      have hb9' := Lib.hid hb9
      have k3' := Lib.hid k3
      clear k3 hb9 hle9
      go_wp2
      obtain ⟨d0, d1, d2, d3, d4, d5, d6, d7⟩ := hb9'.out (.bool false) (.slice none 0 0) (.bool false) (.slice none 0 0) (.bool false) (.slice none 0 0) (.bool false) (.slice none 0 0)
      exact bodyPost_ret (v := .tuple #[.agg #[.bool false, .slice none 0 0, .bool false, .slice none 0 0, .bool false, .slice none 0 0, .bool false, .slice none 0 0], .int .i64 11]) (by simp [results, Tryz.results10, go_sem, d0, d1, d2, d3, d4, d5, d6, d7]) rfl ⟨hle9'.out _ _ _ _ _ _ _ _, _, _, rfl, by rw [hop'.out, hdv'.out]; exact ⟨rfl, rfl⟩⟩
    · have hdv := divG_eq (a := a) hn
      rw [decide_eq_false hn] at hnil
      have hdv' := Lib.hid hdv
      have hnil' := Lib.hid hnil
      have hn' := Lib.hid hn
      clear hn hnil hdv
      go_wp2_with (fail)
      clear hV cp0 cp1 cp2 cp3 cp4 cp5 cq0 cq1 cq2 cq3 cq4 cq5
      go_at_call 33
      refine hnil'.out.mono ?_
      rintro e W2 ⟨rfl, hle3⟩
      have k3 := box_later hle3 kV'.out
      have hl3 := hlV'.out.trans hle3
      have kx3 := box_later hle3 kx'.out
      have ky3 := box_later hle3 ky'.out
      have hta3 := hta'.out.le hle3
      have htb3 := htb'.out.le hle3
      have hsi : TSz (ginv b) 1000000 := by
        have hsb9 := hsb'.out
        exact inv_sz40 hsb9 hn'.out
      obtain ⟨cp0, cp1, cp2, cp3, cp4, cp5⟩ := cells6 kx3
      obtain ⟨cq0, cq1, cq2, cq3, cq4, cq5⟩ := cells6 ky3
      have hly := (Array.getElem?_eq_some_iff.1 ky3).1
      have hlk := (Array.getElem?_eq_some_iff.1 k3).1
      have hle3' := Lib.hid hle3
      have hl3' := Lib.hid hl3
      have k3' := Lib.hid k3
      have kx3' := Lib.hid kx3
      have ky3' := Lib.hid ky3
      have hta3' := Lib.hid hta3
      have htb3' := Lib.hid htb3
      have hsi' := Lib.hid hsi
      clear hsi htb3 hta3 ky3 kx3 k3 hl3 hle3
      go_wp2_with (fail)
      refine wp_region_monoT (R := leRel) 7 [some 22, some 23, some 24, some 25, some 26, some 27, some 28, none, some 5] [[], [], [1], [0, 2], [3], [4], [4], [5], [6]]
        [.eq (.agg #[.bool ps1, .slice pA1 pn1 pc1, .slice pB1 pm1 pd1, .bool ps2, .slice pA2 pn2 pc2, .slice pB2 pm2 pd2]), .eq (.agg #[.bool qs1, .slice qA1 qn1 qc1, .slice qB1 qm1 qd1, .bool qs2, .slice qA2 qn2 qc2, .slice qB2 qm2 qd2]), MPred.turn .i64 (ginv b), MPred.turn .i64 (gmul a (ginv b)), MPred.tresP (outG (gmul a (ginv b))), MPred.tresV (outG (gmul a (ginv b))), .eq (.int .i64 (codeT (outG (gmul a (ginv b)))))] (fun _ _ => False) (by kernel_rfl) (by kernel_rfl) (by kernel_rfl) (by kernel_rfl) (by kernel_rfl) ?_ (fun _ _ _ _ h => h.elim) ?_
      · simp only [List.take_succ_cons, List.take_zero]
        refine stepsM_cons rfl ?_ (stepsM_cons rfl ?_ (stepsM_cons rfl ?_ (stepsM_cons rfl ?_ (stepsM_cons rfl ?_ (stepsM_cons rfl ?_ (stepsM_cons rfl ?_ (stepsG_nil)))))))
        · intro xv W hR hf Q hK hP
          have cc0 := (Below.cell hR (p := ⟨W1.heap.size, 0, none⟩) (by show W1.heap.size < W2.heap.size; omega)).trans cp0
          have cc1 := (Below.cell hR (p := ⟨W1.heap.size, 1, none⟩) (by show W1.heap.size < W2.heap.size; omega)).trans cp1
          have cc2 := (Below.cell hR (p := ⟨W1.heap.size, 2, none⟩) (by show W1.heap.size < W2.heap.size; omega)).trans cp2
          have cc3 := (Below.cell hR (p := ⟨W1.heap.size, 3, none⟩) (by show W1.heap.size < W2.heap.size; omega)).trans cp3
          have cc4 := (Below.cell hR (p := ⟨W1.heap.size, 4, none⟩) (by show W1.heap.size < W2.heap.size; omega)).trans cp4
          have cc5 := (Below.cell hR (p := ⟨W1.heap.size, 5, none⟩) (by show W1.heap.size < W2.heap.size; omega)).trans cp5
          simp only [fillAct, List.getD_cons_succ, List.getD_cons_zero, Act.put, List.setIfInBounds_toArray, List.set_cons_succ, List.set_cons_zero] at hK ⊢
          go_wp2
          exact hK _ _ (leRel.refl _) rfl
        · intro xv W hR hf Q hK hP
          have cc0 := (Below.cell hR (p := ⟨W1.heap.size + 1, 0, none⟩) (by show W1.heap.size + 1 < W2.heap.size; omega)).trans cq0
          have cc1 := (Below.cell hR (p := ⟨W1.heap.size + 1, 1, none⟩) (by show W1.heap.size + 1 < W2.heap.size; omega)).trans cq1
          have cc2 := (Below.cell hR (p := ⟨W1.heap.size + 1, 2, none⟩) (by show W1.heap.size + 1 < W2.heap.size; omega)).trans cq2
          have cc3 := (Below.cell hR (p := ⟨W1.heap.size + 1, 3, none⟩) (by show W1.heap.size + 1 < W2.heap.size; omega)).trans cq3
          have cc4 := (Below.cell hR (p := ⟨W1.heap.size + 1, 4, none⟩) (by show W1.heap.size + 1 < W2.heap.size; omega)).trans cq4
          have cc5 := (Below.cell hR (p := ⟨W1.heap.size + 1, 5, none⟩) (by show W1.heap.size + 1 < W2.heap.size; omega)).trans cq5
          simp only [fillAct, List.getD_cons_succ, List.getD_cons_zero, Act.put, List.setIfInBounds_toArray, List.set_cons_succ, List.set_cons_zero] at hK ⊢
          go_wp2
          exact hK _ _ (leRel.refl _) rfl
        · intro xv W hR hf Q hK hP
          obtain ⟨e0, -⟩ := hf
          change _ = _ at e0
          simp only [fillAct, List.getD_cons_succ, List.getD_cons_zero, Act.put, List.setIfInBounds_toArray, List.set_cons_succ, List.set_cons_zero, e0] at hK ⊢
          go_wp2_with (fail)
          go_at_call 34
          refine (pf_n_Inverse b _ W (htb3'.out.le hR) (hsb'.out.up (by decide)) hn'.out).mono ?_
          rintro e w' ⟨v', rfl, y1, y2⟩
          obtain ⟨zs1, zA1, zn1, zc1, zB1, zm1, zd1, zs2, zA2, zn2, zc2, zB2, zm2, zd2, qz⟩ := y2.form
          subst qz
          have y2' := Lib.hid y2
          clear y2
          go_wp2
          exact hK _ _ y1 y2'.out
        · intro xv W hR hf Q hK hP
          obtain ⟨e0, e1, -⟩ := hf
          change _ = _ at e0
          replace e1 : TurnL .i64 W (xv 2) (ginv b) := e1
          simp only [fillAct, List.getD_cons_succ, List.getD_cons_zero, Act.put, List.setIfInBounds_toArray, List.set_cons_succ, List.set_cons_zero, e0] at hK ⊢
          go_wp2_with (fail)
          go_at_call 28
          refine (pf_n_TimesZ a (ginv b) _ _ W (hta3'.out.le hR) e1 (hsa'.out.up (by decide)) hsi'.out).mono ?_
          rintro e w' ⟨v', rfl, y1, y2⟩
          obtain ⟨zs1, zA1, zn1, zc1, zB1, zm1, zd1, zs2, zA2, zn2, zc2, zB2, zm2, zd2, qz⟩ := y2.form
          subst qz
          have y2' := Lib.hid y2
          clear y2
          go_wp2
          exact hK _ _ y1 y2'.out
        · intro xv W hR hf Q hK hP
          obtain ⟨e0, -⟩ := hf
          replace e0 : TurnL .i64 W (xv 3) (gmul a (ginv b)) := e0
          simp only [fillAct, List.getD_cons_succ, List.getD_cons_zero, Act.put, List.setIfInBounds_toArray, List.set_cons_succ, List.set_cons_zero] at hK ⊢
          go_wp2_with (fail)
          go_at_call 25
          refine (pf_n_OutTurn (gmul a (ginv b)) _ W e0).mono ?_
          rintro e w' ⟨y1, v1, cc, rfl, y2⟩
          have y3 := y2.code
          subst y3
          have y4 := y2
          obtain ⟨fs1, fA1, fn1, fc1, ft1, fB1, fm1, fd1, fs2, fA2, fn2, fc2, ft2, fB2, fm2, fd2, rfl⟩ := y2.form
          have y2' := Lib.hid y2
          have y4' := Lib.hid y4
          clear y4 y2
          go_wp2
          exact hK _ _ y1 ⟨_, rfl, y4'.out⟩
        · intro xv W hR hf Q hK hP
          obtain ⟨e0, -⟩ := hf
          replace e0 : ∃ v1, (xv 4) = .tuple #[v1, .int .i64 (codeT (outG (gmul a (ginv b))))] ∧ IsResT W v1 (codeT (outG (gmul a (ginv b)))) (outG (gmul a (ginv b))) := e0
          obtain ⟨vv, qv, hv1⟩ := e0
          have hv2 := hv1
          obtain ⟨fs1, fA1, fn1, fc1, ft1, fB1, fm1, fd1, fs2, fA2, fn2, fc2, ft2, fB2, fm2, fd2, rfl⟩ := hv1.form
          simp only [fillAct, List.getD_cons_succ, List.getD_cons_zero, Act.put, List.setIfInBounds_toArray, List.set_cons_succ, List.set_cons_zero, qv] at hK ⊢
          clear qv hv1
          have hv2' := Lib.hid hv2
          clear hv2
          go_wp2
          exact hK _ _ (leRel.refl _) hv2'.out
        · intro xv W hR hf Q hK hP
          obtain ⟨e0, -⟩ := hf
          replace e0 : ∃ v1, (xv 4) = .tuple #[v1, .int .i64 (codeT (outG (gmul a (ginv b))))] ∧ IsResT W v1 (codeT (outG (gmul a (ginv b)))) (outG (gmul a (ginv b))) := e0
          obtain ⟨vv, qv, hv1⟩ := e0
          have hv2 := hv1
          obtain ⟨fs1, fA1, fn1, fc1, ft1, fB1, fm1, fd1, fs2, fA2, fn2, fc2, ft2, fB2, fm2, fd2, rfl⟩ := hv1.form
          simp only [fillAct, List.getD_cons_succ, List.getD_cons_zero, Act.put, List.setIfInBounds_toArray, List.set_cons_succ, List.set_cons_zero, qv] at hK ⊢
          clear qv hv1
          have hv2' := Lib.hid hv2
          clear hv2
          go_wp2
          exact hK _ _ (leRel.refl _) rfl
      · intro xv W hR hf Q' hQ1 _
        have e5 : IsResT W (xv 5) (codeT (outG (gmul a (ginv b)))) (outG (gmul a (ginv b))) := hf 5 (by decide)
        have e6 : xv 6 = .int .i64 (codeT (outG (gmul a (ginv b)))) := hf 6 (by decide)
        obtain ⟨rs1, rA1, rn1, rc1, rt1, rB1, rm1, rd1, rs2, rA2, rn2, rc2, rt2, rB2, rm2, rd2, q5⟩ := e5.form
        rw [q5] at e5
        simp only [List.drop_succ_cons, List.drop_zero]
        rw [show List.range 7 = [0, 1, 2, 3, 4, 5, 6] from rfl]
        simp only [fillAct, List.getD_cons_succ, List.getD_cons_zero, Act.put, List.setIfInBounds_toArray, List.set_cons_succ, List.set_cons_zero, q5, e6]
        clear q5 e6 hf
        obtain ⟨cc, hcc⟩ : ∃ c, codeT (outG (gmul a (ginv b))) = c := ⟨_, rfl⟩
        rw [hcc] at e5 ⊢
        have kW := box_later hR k3'.out
        have hlW := hl3'.out.trans hR
        have hcc' := Lib.hid hcc
        have e5' := Lib.hid e5
        have hR' := Lib.hid hR
        have hlW' := Lib.hid hlW
        clear hlW hR e5 hcc
        obtain ⟨z0, z1, z2, z3, z4, z5, z6, z7⟩ := cells8 kW
        have g0 := frozen00 kW 0
        have g1 := frozen00 kW 1
        have g2 := frozen00 kW 2
        have g3 := frozen00 kW 3
        have g4 := frozen00 kW 4
        have g5 := frozen00 kW 5
        have g6 := frozen00 kW 6
        have g7 := frozen00 kW 7
        have hle9 := fun u0 u1 u2 u3 u4 u5 u6 u7 => le_set8 (hlW'.out) (show w.heap.size ≤ w.heap.size + 1 + 1 by omega) u0 u1 u2 u3 u4 u5 u6 u7
        have hb9 := fun u0 u1 u2 u3 u4 u5 u6 u7 => cells8 (heap_set8 kW u0 u1 u2 u3 u4 u5 u6 u7)
        simp only [set8] at hb9
        have hf0 := fun u0 u1 u2 u3 u4 u5 u6 u7 => e5'.out.touch (noInt8 kW) (touch_set8 W (w.heap.size + 1 + 1) u0 u1 u2 u3 u4 u5 u6 u7)
        have hle9' := Lib.hid hle9
        have hb9' := Lib.hid hb9
        have kW' := Lib.hid kW
        have hf0' := Lib.hid hf0
        clear hf0 kW hb9 hle9
        go_wp2
        refine hQ1 _ _ ?_
        go_wp2
        obtain ⟨d0, d1, d2, d3, d4, d5, d6, d7⟩ := hb9'.out (.bool rs1) (.slice rA1 rn1 rc1) (.bool rt1) (.slice rB1 rm1 rd1) (.bool rs2) (.slice rA2 rn2 rc2) (.bool rt2) (.slice rB2 rm2 rd2)
        exact bodyPost_ret (v := .tuple #[.agg #[.bool rs1, .slice rA1 rn1 rc1, .bool rt1, .slice rB1 rm1 rd1, .bool rs2, .slice rA2 rn2 rc2, .bool rt2, .slice rB2 rm2 rd2], .int .i64 cc]) (by simp [results, Tryz.results10, go_sem, d0, d1, d2, d3, d4, d5, d6, d7]) rfl ⟨hle9'.out _ _ _ _ _ _ _ _, _, _, rfl, by rw [hop'.out, hdv'.out]; exact hf0'.out _ _ _ _ _ _ _ _⟩
end Go.Proofs.YtpjmbgfggonhhaaGreat
namespace Go.Proofs.YtpjmbgfggonhhaaGreat
open Go.RowKit Go.Shelf
set_option linter.unusedVariables false
set_option linter.unusedSimpArgs false
set_option maxRecDepth 100000 in
set_option maxHeartbeats 4000000 in
theorem pf_n_Circled (n d : Int) (w : World) (hn0 : -9223372036854775808 ≤ n) (hn1 : n ≤ 9223372036854775807) (hd0 : -9223372036854775808 ≤ d) (hd1 : d ≤ 9223372036854775807) (hnz : ¬ (n = 0 ∧ d = 0)) : Calls Tryz.prog 50 #[.int .i64 n, .int .i64 d] w fun e w' => ∃ v', e = .returned v' ∧ Le w w' ∧ TurnL .i64 w' v' (gmul (ndG n d) (ginv (gconj (ndG n d)))) := by
  obtain ⟨W0, hW0, hle, k0⟩ : ∃ V, w.alloc (.cells #[.bool false, .slice none 0 0, .slice none 0 0, .bool false, .slice none 0 0, .slice none 0 0] 61) = V ∧ Le w V ∧ V.heap[w.heap.size]? = some (.cells #[.bool false, .slice none 0 0, .slice none 0 0, .bool false, .slice none 0 0, .slice none 0 0] 61) := ⟨_, rfl, le_alloc _ _, by unfold World.alloc; exact Array.getElem?_push_size⟩
  have hsz := ndG_sz hn0 hn1 hd0 hd1
  have hnm := ndG_norm hnz
  have hsc : TSz (gconj (ndG n d)) 100000 := tsz_conj (hsz.up (by decide))
  have hsi : TSz (ginv (gconj (ndG n d))) 1000000 := inv_sz40 (tsz_conj (hsz.up (by decide))) hnm
  have hle' := Lib.hid hle
  have k0' := Lib.hid k0
  have hsz' := Lib.hid hsz
  have hnm' := Lib.hid hnm
  have hnz' := Lib.hid hnz
  have hsc' := Lib.hid hsc
  have hsi' := Lib.hid hsi
  clear hsi hsc hnz hnm hsz k0 hle
  go_enter Tryz.func50, Tryz.ntmps50
  go_wp2_with (fail)
  clear hW0
  go_at_call 77
  refine (pf_n_Int (fun _ => True) d W0 (Up.any _) hd0 hd1).mono ?_
  rintro e W1 ⟨v1, rfl, hle1, h1⟩
  obtain ⟨ps1, pA1, pn1, pc1, pB1, pm1, pd1, rfl⟩ := h1.qform
  have hle1' := Lib.hid hle1
  have h1' := Lib.hid h1
  clear h1 hle1
  go_wp2_with (fail)
  go_at_call 77
  refine (pf_n_Int (fun _ => True) n W1 (Up.any _) hn0 hn1).mono ?_
  rintro e W2 ⟨v2, rfl, hle2, h2⟩
  obtain ⟨ps2, pA2, pn2, pc2, pB2, pm2, pd2, rfl⟩ := h2.qform
  obtain ⟨V, hV, hle3, k5⟩ : ∃ V, W2.alloc (.cells #[.bool ps1, .slice pA1 pn1 pc1, .slice pB1 pm1 pd1, .bool ps2, .slice pA2 pn2 pc2, .slice pB2 pm2 pd2] 61) = V ∧ Le W2 V ∧ V.heap[W2.heap.size]? = some (.cells #[.bool ps1, .slice pA1 pn1 pc1, .slice pB1 pm1 pd1, .bool ps2, .slice pA2 pn2 pc2, .slice pB2 pm2 pd2] 61) := ⟨_, rfl, le_alloc _ _, by unfold World.alloc; exact Array.getElem?_push_size⟩
  have hl2 := hle1'.out.trans (hle2.trans hle3)
  have hlV := hle'.out.trans hl2
  have k0V := box_later hl2 k0'.out
  have j1 : RatT .i64 V (.agg #[.bool ps1, .slice pA1 pn1 pc1, .slice pB1 pm1 pd1]) (ndG n d).1 := h1'.out.le (hle2.trans hle3)
  have j2 : RatT .i64 V (.agg #[.bool ps2, .slice pA2 pn2 pc2, .slice pB2 pm2 pd2]) (ndG n d).2 := h2.le hle3
  have hv := TurnL.mk (g := ndG n d) j1 j2
  obtain ⟨cp0, cp1, cp2, cp3, cp4, cp5⟩ := cells6 k5
  have hl5 := (Array.getElem?_eq_some_iff.1 k5).1
  have hl0 := (Array.getElem?_eq_some_iff.1 k0V).1
  have hle2' := Lib.hid hle2
  have hle3' := Lib.hid hle3
  have h2' := Lib.hid h2
  have hl2' := Lib.hid hl2
  have hlV' := Lib.hid hlV
  have k0V' := Lib.hid k0V
  have j1' := Lib.hid j1
  have j2' := Lib.hid j2
  have hv' := Lib.hid hv
  have k5' := Lib.hid k5
  clear k5 hv j2 j1 k0V hlV hl2 h2 hle3 hle2
  go_wp2_with (fail)
  clear hV
  refine wp_region_monoL (R := leRel) 9 [some 11, some 12, some 13, some 14, some 15, some 16, some 17, some 18, some 19, none] [[], [], [1], [], [3], [4], [2, 5], [6], [0, 7], [8]]
    [.eq (.agg #[.bool ps1, .slice pA1 pn1 pc1, .slice pB1 pm1 pd1, .bool ps2, .slice pA2 pn2 pc2, .slice pB2 pm2 pd2]), .eq (.pointer (some ⟨W2.heap.size, 0, none⟩)), .eq (.agg #[.bool ps1, .slice pA1 pn1 pc1, .slice pB1 pm1 pd1]), .eq (.pointer (some ⟨W2.heap.size, 3, none⟩)), .eq (.agg #[.bool ps2, .slice pA2 pn2 pc2, .slice pB2 pm2 pd2]), MPred.ratT .i64 (-(ndG n d).2), MPred.turn .i64 (gconj (ndG n d)), MPred.turn .i64 (ginv (gconj (ndG n d))), MPred.turn .i64 (gmul (ndG n d) (ginv (gconj (ndG n d))))] (fun _ _ => False) (by kernel_rfl) (by kernel_rfl) (by kernel_rfl) (by kernel_rfl) ?_ (fun _ _ _ _ _ h => h.elim) ?_
  · simp only [List.take_succ_cons, List.take_zero]
    refine monoSteps_cons ?_ (monoSteps_cons ?_ (monoSteps_cons ?_ (monoSteps_cons ?_ (monoSteps_cons ?_ (monoSteps_cons ?_ (monoSteps_cons ?_ (monoSteps_cons ?_ (monoSteps_cons ?_ (monoSteps_nil)))))))))
    · refine monoStep_list rfl fun xv W hR hf Q hK hP => ?_
      have cc0 := (Below.cell hR (p := ⟨W2.heap.size, 0, none⟩) (by show W2.heap.size < V.heap.size; omega)).trans cp0
      have cc1 := (Below.cell hR (p := ⟨W2.heap.size, 1, none⟩) (by show W2.heap.size < V.heap.size; omega)).trans cp1
      have cc2 := (Below.cell hR (p := ⟨W2.heap.size, 2, none⟩) (by show W2.heap.size < V.heap.size; omega)).trans cp2
      have cc3 := (Below.cell hR (p := ⟨W2.heap.size, 3, none⟩) (by show W2.heap.size < V.heap.size; omega)).trans cp3
      have cc4 := (Below.cell hR (p := ⟨W2.heap.size, 4, none⟩) (by show W2.heap.size < V.heap.size; omega)).trans cp4
      have cc5 := (Below.cell hR (p := ⟨W2.heap.size, 5, none⟩) (by show W2.heap.size < V.heap.size; omega)).trans cp5
      simp only [fillAct, List.getD_cons_succ, List.getD_cons_zero, Act.put, List.setIfInBounds_toArray, List.set_cons_succ, List.set_cons_zero] at hK ⊢
      go_wp2
      exact hK _ _ (leRel.refl _) rfl
    · refine monoStep_list rfl fun xv W hR hf Q hK hP => ?_
      simp only [fillAct, List.getD_cons_succ, List.getD_cons_zero, Act.put, List.setIfInBounds_toArray, List.set_cons_succ, List.set_cons_zero] at hK ⊢
      go_wp2
      exact hK _ _ (leRel.refl _) rfl
    · refine monoStep_list rfl fun xv W hR hf Q hK hP => ?_
      obtain ⟨e0, -⟩ := hf
      change _ = _ at e0
      have cc0 := (Below.cell hR (p := ⟨W2.heap.size, 0, none⟩) (by show W2.heap.size < V.heap.size; omega)).trans cp0
      have cc1 := (Below.cell hR (p := ⟨W2.heap.size, 1, none⟩) (by show W2.heap.size < V.heap.size; omega)).trans cp1
      have cc2 := (Below.cell hR (p := ⟨W2.heap.size, 2, none⟩) (by show W2.heap.size < V.heap.size; omega)).trans cp2
      simp only [fillAct, List.getD_cons_succ, List.getD_cons_zero, Act.put, List.setIfInBounds_toArray, List.set_cons_succ, List.set_cons_zero, e0] at hK ⊢
      go_wp2
      exact hK _ _ (leRel.refl _) rfl
    · refine monoStep_list rfl fun xv W hR hf Q hK hP => ?_
      simp only [fillAct, List.getD_cons_succ, List.getD_cons_zero, Act.put, List.setIfInBounds_toArray, List.set_cons_succ, List.set_cons_zero] at hK ⊢
      go_wp2
      exact hK _ _ (leRel.refl _) rfl
    · refine monoStep_list rfl fun xv W hR hf Q hK hP => ?_
      obtain ⟨e0, -⟩ := hf
      change _ = _ at e0
      have cc3 := (Below.cell hR (p := ⟨W2.heap.size, 3, none⟩) (by show W2.heap.size < V.heap.size; omega)).trans cp3
      have cc4 := (Below.cell hR (p := ⟨W2.heap.size, 4, none⟩) (by show W2.heap.size < V.heap.size; omega)).trans cp4
      have cc5 := (Below.cell hR (p := ⟨W2.heap.size, 5, none⟩) (by show W2.heap.size < V.heap.size; omega)).trans cp5
      simp only [fillAct, List.getD_cons_succ, List.getD_cons_zero, Act.put, List.setIfInBounds_toArray, List.set_cons_succ, List.set_cons_zero, e0] at hK ⊢
      go_wp2
      exact hK _ _ (leRel.refl _) rfl
    · refine monoStep_list rfl fun xv W hR hf Q hK hP => ?_
      obtain ⟨e0, -⟩ := hf
      change _ = _ at e0
      simp only [fillAct, List.getD_cons_succ, List.getD_cons_zero, Act.put, List.setIfInBounds_toArray, List.set_cons_succ, List.set_cons_zero, e0] at hK ⊢
      go_wp2_with (fail)
      go_at_call 63
      refine (pf_n_opposite (fun _ => True) (ndG n d).2 _ W (j2'.out.le hR)).mono ?_
      rintro e w' ⟨v', rfl, y1, y2⟩
      obtain ⟨zs1, zA1, zn1, zc1, zB1, zm1, zd1, qz⟩ := y2.qform
      subst qz
      have y2' := Lib.hid y2
      clear y2
      go_wp2
      exact hK _ _ y1 y2'.out
    · refine monoStep_list rfl fun xv W hR hf Q hK hP => ?_
      obtain ⟨e0, e1, -⟩ := hf
      change _ = _ at e0
      replace e1 : RatT .i64 W (xv 5) (-(ndG n d).2) := e1
      obtain ⟨u1s1, u1A1, u1n1, u1c1, u1B1, u1m1, u1d1, qu1⟩ := e1.qform
      rw [qu1] at e1
      simp only [fillAct, List.getD_cons_succ, List.getD_cons_zero, Act.put, List.setIfInBounds_toArray, List.set_cons_succ, List.set_cons_zero, e0, qu1] at hK ⊢
      go_wp2
      exact hK _ _ (leRel.refl _) (TurnL.mk (j1'.out.le hR) e1)
    · refine monoStep_list rfl fun xv W hR hf Q hK hP => ?_
      obtain ⟨e0, -⟩ := hf
      replace e0 : TurnL .i64 W (xv 6) (gconj (ndG n d)) := e0
      simp only [fillAct, List.getD_cons_succ, List.getD_cons_zero, Act.put, List.setIfInBounds_toArray, List.set_cons_succ, List.set_cons_zero] at hK ⊢
      go_wp2_with (fail)
      go_at_call 34
      refine (pf_n_Inverse (gconj (ndG n d)) _ W e0 hsc'.out hnm'.out).mono ?_
      rintro e w' ⟨v', rfl, y1, y2⟩
      obtain ⟨zs1, zA1, zn1, zc1, zB1, zm1, zd1, zs2, zA2, zn2, zc2, zB2, zm2, zd2, qz⟩ := y2.form
      subst qz
      have y2' := Lib.hid y2
      clear y2
      go_wp2
      exact hK _ _ y1 y2'.out
    · refine monoStep_list rfl fun xv W hR hf Q hK hP => ?_
      obtain ⟨e0, e1, -⟩ := hf
      change _ = _ at e0
      replace e1 : TurnL .i64 W (xv 7) (ginv (gconj (ndG n d))) := e1
      simp only [fillAct, List.getD_cons_succ, List.getD_cons_zero, Act.put, List.setIfInBounds_toArray, List.set_cons_succ, List.set_cons_zero, e0] at hK ⊢
      go_wp2_with (fail)
      go_at_call 28
      refine (pf_n_TimesZ (ndG n d) (ginv (gconj (ndG n d))) _ _ W (hv'.out.le hR) e1 (hsz'.out.up (by decide)) hsi'.out).mono ?_
      rintro e w' ⟨v', rfl, y1, y2⟩
      obtain ⟨zs1, zA1, zn1, zc1, zB1, zm1, zd1, zs2, zA2, zn2, zc2, zB2, zm2, zd2, qz⟩ := y2.form
      subst qz
      have y2' := Lib.hid y2
      clear y2
      go_wp2
      exact hK _ _ y1 y2'.out
  · intro xv W hR hf Q' hQ1 _
    have eL : TurnL .i64 W (xv 8) (gmul (ndG n d) (ginv (gconj (ndG n d)))) := hf 8 (by decide)
    obtain ⟨rs1, rA1, rn1, rc1, rB1, rm1, rd1, rs2, rA2, rn2, rc2, rB2, rm2, rd2, qL, y1, y2⟩ := eL
    have kW := (Below.block hR (w.heap.size) (by omega)).trans k0V'.out
    obtain ⟨z0, z1, z2, z3, z4, z5⟩ := cells6 kW
    have g0 := frozen00 kW 0
    have g1 := frozen00 kW 1
    have g2 := frozen00 kW 2
    have g3 := frozen00 kW 3
    have g4 := frozen00 kW 4
    have g5 := frozen00 kW 5
    simp only [List.drop_succ_cons, List.drop_zero]
    rw [show List.range 9 = [0, 1, 2, 3, 4, 5, 6, 7, 8] from rfl]
    simp only [fillAct, List.getD_cons_succ, List.getD_cons_zero, Act.put, List.setIfInBounds_toArray, List.set_cons_succ, List.set_cons_zero, qL]
    have hle9 := fun u0 u1 u2 u3 u4 u5 => le_set6 (Le.trans hlV'.out hR) (show w.heap.size ≤ w.heap.size by omega) u0 u1 u2 u3 u4 u5
    have hb9 := fun u0 u1 u2 u3 u4 u5 => cells6 (heap_set6 kW u0 u1 u2 u3 u4 u5)
    simp only [set6] at hb9
    have hfin := fun u0 u1 u2 u3 u4 u5 => And.intro (y1.touch (noInt6 kW) (touch_set6 W (w.heap.size) u0 u1 u2 u3 u4 u5)) (y2.touch (noInt6 kW) (touch_set6 W (w.heap.size) u0 u1 u2 u3 u4 u5))
    have hle9' := Lib.hid hle9
    have hb9' := Lib.hid hb9
    have hfin' := Lib.hid hfin
    have kW' := Lib.hid kW
    have y1' := Lib.hid y1
    have y2' := Lib.hid y2
    have qL' := Lib.hid qL
    have hR' := Lib.hid hR
    clear hR qL y2 y1 kW hfin hb9 hle9
    go_wp2
    refine hQ1 _ _ ?_
    go_wp2
    obtain ⟨d0, d1, d2, d3, d4, d5⟩ := hb9'.out (.bool rs1) (.slice rA1 rn1 rc1) (.slice rB1 rm1 rd1) (.bool rs2) (.slice rA2 rn2 rc2) (.slice rB2 rm2 rd2)
    exact bodyPost_ret (v := .agg #[.bool rs1, .slice rA1 rn1 rc1, .slice rB1 rm1 rd1, .bool rs2, .slice rA2 rn2 rc2, .slice rB2 rm2 rd2]) (by simp [results, Tryz.results50, go_sem, d0, d1, d2, d3, d4, d5]) rfl ⟨_, rfl, hle9'.out _ _ _ _ _ _, TurnL.mk (hfin'.out _ _ _ _ _ _).1 (hfin'.out _ _ _ _ _ _).2⟩
set_option maxRecDepth 100000 in
set_option maxHeartbeats 4000000 in
theorem pf_n_Around (n d : Int) (w : World) (hn0 : -9223372036854775808 ≤ n) (hn1 : n ≤ 9223372036854775807) (hd0 : -9223372036854775808 ≤ d) (hd1 : d ≤ 9223372036854775807) : Calls Tryz.prog 17 #[.int .i64 n, .int .i64 d] w (ResPostT (aroundG n d) w) := by
  obtain ⟨W0, hW0, hle, k0⟩ : ∃ V, w.alloc (.cells #[.bool false, .slice none 0 0, .bool false, .slice none 0 0, .bool false, .slice none 0 0, .bool false, .slice none 0 0] 28) = V ∧ Le w V ∧ V.heap[w.heap.size]? = some (.cells #[.bool false, .slice none 0 0, .bool false, .slice none 0 0, .bool false, .slice none 0 0, .bool false, .slice none 0 0] 28) := ⟨_, rfl, le_alloc _ _, by unfold World.alloc; exact Array.getElem?_push_size⟩
  by_cases hnz : n = 0 ∧ d = 0
  · obtain ⟨rfl, rfl⟩ := hnz
    have har : aroundG 0 0 = .error 11 := if_pos ⟨rfl, rfl⟩
    have har' := Lib.hid har
    clear har
    go_enter Tryz.func17, Tryz.ntmps17
    obtain ⟨z0, z1, z2, z3, z4, z5, z6, z7⟩ := cells8 k0
    have g0 := frozen00 k0 0
    have g1 := frozen00 k0 1
    have g2 := frozen00 k0 2
    have g3 := frozen00 k0 3
    have g4 := frozen00 k0 4
    have g5 := frozen00 k0 5
    have g6 := frozen00 k0 6
    have g7 := frozen00 k0 7
    have hle9 := fun u0 u1 u2 u3 u4 u5 u6 u7 => le_set8 (hle) (show w.heap.size ≤ w.heap.size by omega) u0 u1 u2 u3 u4 u5 u6 u7
    have hb9 := fun u0 u1 u2 u3 u4 u5 u6 u7 => cells8 (heap_set8 k0 u0 u1 u2 u3 u4 u5 u6 u7)
    simp only [set8] at hb9
    have hle9' := Lib.hid hle9
    have hb9' := Lib.hid hb9
    have k0' := Lib.hid k0
    clear k0 hb9 hle9
    go_wp2
    obtain ⟨d0, d1, d2, d3, d4, d5, d6, d7⟩ := hb9'.out (.bool false) (.slice none 0 0) (.bool false) (.slice none 0 0) (.bool false) (.slice none 0 0) (.bool false) (.slice none 0 0)
    exact bodyPost_ret (v := .tuple #[.agg #[.bool false, .slice none 0 0, .bool false, .slice none 0 0, .bool false, .slice none 0 0, .bool false, .slice none 0 0], .int .i64 11]) (by simp [results, Tryz.results17, go_sem, d0, d1, d2, d3, d4, d5, d6, d7]) rfl ⟨hle9'.out _ _ _ _ _ _ _ _, _, _, rfl, by rw [har'.out]; exact ⟨rfl, rfl⟩⟩
  · have har := aroundG_eq hnz
    have hcir := pf_n_Circled n d W0 hn0 hn1 hd0 hd1 hnz
    have hle' := Lib.hid hle
    have k0' := Lib.hid k0
    have har' := Lib.hid har
    have hcir' := Lib.hid hcir
    clear hcir har k0 hle
    by_cases h0 : n = 0
    · subst h0
      have h1 : ¬ d = 0 := fun h => hnz ⟨rfl, h⟩
      clear hnz
      go_enter Tryz.func17, Tryz.ntmps17
      go_wp2_with (fail)
      clear hW0
      go_at_call 50
      refine hcir'.out.mono ?_
      rintro e W1 ⟨v1, rfl, hle1, h1⟩
      have h10 := h1
      obtain ⟨ts1, tA1, tn1, tc1, tB1, tm1, td1, ts2, tA2, tn2, tc2, tB2, tm2, td2, rfl, -, -⟩ := h1
      have k1 := box_later hle1 k0'.out
      have hl1 := hle'.out.trans hle1
      have hle1' := Lib.hid hle1
      have h10' := Lib.hid h10
      have k1' := Lib.hid k1
      have hl1' := Lib.hid hl1
      clear hl1 k1 h10 hle1
      go_wp2_with (fail)
      go_at_call 25
      refine (pf_n_OutTurn (gmul (ndG 0 d) (ginv (gconj (ndG 0 d)))) _ W1 h10'.out).mono ?_
      rintro e W9 ⟨hle9a, v9, c9, rfl, hres⟩
      have hres0 := hres
      obtain ⟨rs1, rA1, rn1, rc1, rt1, rB1, rm1, rd1, rs2, rA2, rn2, rc2, rt2, rB2, rm2, rd2, rfl⟩ := hres.form
      have k9 := box_later hle9a k1'.out
      have hl9 := hl1'.out.trans hle9a
      have hle9a' := Lib.hid hle9a
      have hres' := Lib.hid hres
      have hres0' := Lib.hid hres0
      have hl9' := Lib.hid hl9
      clear hl9 hres0 hres hle9a
      obtain ⟨z0, z1, z2, z3, z4, z5, z6, z7⟩ := cells8 k9
      have g0 := frozen00 k9 0
      have g1 := frozen00 k9 1
      have g2 := frozen00 k9 2
      have g3 := frozen00 k9 3
      have g4 := frozen00 k9 4
      have g5 := frozen00 k9 5
      have g6 := frozen00 k9 6
      have g7 := frozen00 k9 7
      have hle9 := fun u0 u1 u2 u3 u4 u5 u6 u7 => le_set8 (hl9'.out) (show w.heap.size ≤ w.heap.size by omega) u0 u1 u2 u3 u4 u5 u6 u7
      have hb9 := fun u0 u1 u2 u3 u4 u5 u6 u7 => cells8 (heap_set8 k9 u0 u1 u2 u3 u4 u5 u6 u7)
      simp only [set8] at hb9
      have hf0 := fun u0 u1 u2 u3 u4 u5 u6 u7 => hres'.out.touch (noInt8 k9) (touch_set8 W9 (w.heap.size) u0 u1 u2 u3 u4 u5 u6 u7)
      have hle9' := Lib.hid hle9
      have hb9' := Lib.hid hb9
      have k9' := Lib.hid k9
      have hf0' := Lib.hid hf0
      clear hf0 k9 hb9 hle9
      go_wp2
      obtain ⟨d0, d1, d2, d3, d4, d5, d6, d7⟩ := hb9'.out (.bool rs1) (.slice rA1 rn1 rc1) (.bool rt1) (.slice rB1 rm1 rd1) (.bool rs2) (.slice rA2 rn2 rc2) (.bool rt2) (.slice rB2 rm2 rd2)
      exact bodyPost_ret (v := .tuple #[.agg #[.bool rs1, .slice rA1 rn1 rc1, .bool rt1, .slice rB1 rm1 rd1, .bool rs2, .slice rA2 rn2 rc2, .bool rt2, .slice rB2 rm2 rd2], .int .i64 c9]) (by simp [results, Tryz.results17, go_sem, d0, d1, d2, d3, d4, d5, d6, d7]) rfl ⟨hle9'.out _ _ _ _ _ _ _ _, _, _, rfl, by rw [har'.out]; exact hf0'.out _ _ _ _ _ _ _ _⟩
    · clear hnz
      go_enter Tryz.func17, Tryz.ntmps17
      go_wp2_with (fail)
      clear hW0
      go_at_call 50
      refine hcir'.out.mono ?_
      rintro e W1 ⟨v1, rfl, hle1, h1⟩
      have h10 := h1
      obtain ⟨ts1, tA1, tn1, tc1, tB1, tm1, td1, ts2, tA2, tn2, tc2, tB2, tm2, td2, rfl, -, -⟩ := h1
      have k1 := box_later hle1 k0'.out
      have hl1 := hle'.out.trans hle1
      have hle1' := Lib.hid hle1
      have h10' := Lib.hid h10
      have k1' := Lib.hid k1
      have hl1' := Lib.hid hl1
      clear hl1 k1 h10 hle1
      go_wp2_with (fail)
      go_at_call 25
      refine (pf_n_OutTurn (gmul (ndG n d) (ginv (gconj (ndG n d)))) _ W1 h10'.out).mono ?_
      rintro e W9 ⟨hle9a, v9, c9, rfl, hres⟩
      have hres0 := hres
      obtain ⟨rs1, rA1, rn1, rc1, rt1, rB1, rm1, rd1, rs2, rA2, rn2, rc2, rt2, rB2, rm2, rd2, rfl⟩ := hres.form
      have k9 := box_later hle9a k1'.out
      have hl9 := hl1'.out.trans hle9a
      have hle9a' := Lib.hid hle9a
      have hres' := Lib.hid hres
      have hres0' := Lib.hid hres0
      have hl9' := Lib.hid hl9
      clear hl9 hres0 hres hle9a
      obtain ⟨z0, z1, z2, z3, z4, z5, z6, z7⟩ := cells8 k9
      have g0 := frozen00 k9 0
      have g1 := frozen00 k9 1
      have g2 := frozen00 k9 2
      have g3 := frozen00 k9 3
      have g4 := frozen00 k9 4
      have g5 := frozen00 k9 5
      have g6 := frozen00 k9 6
      have g7 := frozen00 k9 7
      have hle9 := fun u0 u1 u2 u3 u4 u5 u6 u7 => le_set8 (hl9'.out) (show w.heap.size ≤ w.heap.size by omega) u0 u1 u2 u3 u4 u5 u6 u7
      have hb9 := fun u0 u1 u2 u3 u4 u5 u6 u7 => cells8 (heap_set8 k9 u0 u1 u2 u3 u4 u5 u6 u7)
      simp only [set8] at hb9
      have hf0 := fun u0 u1 u2 u3 u4 u5 u6 u7 => hres'.out.touch (noInt8 k9) (touch_set8 W9 (w.heap.size) u0 u1 u2 u3 u4 u5 u6 u7)
      have hle9' := Lib.hid hle9
      have hb9' := Lib.hid hb9
      have k9' := Lib.hid k9
      have hf0' := Lib.hid hf0
      clear hf0 k9 hb9 hle9
      go_wp2
      obtain ⟨d0, d1, d2, d3, d4, d5, d6, d7⟩ := hb9'.out (.bool rs1) (.slice rA1 rn1 rc1) (.bool rt1) (.slice rB1 rm1 rd1) (.bool rs2) (.slice rA2 rn2 rc2) (.bool rt2) (.slice rB2 rm2 rd2)
      exact bodyPost_ret (v := .tuple #[.agg #[.bool rs1, .slice rA1 rn1 rc1, .bool rt1, .slice rB1 rm1 rd1, .bool rs2, .slice rA2 rn2 rc2, .bool rt2, .slice rB2 rm2 rd2], .int .i64 c9]) (by simp [results, Tryz.results17, go_sem, d0, d1, d2, d3, d4, d5, d6, d7]) rfl ⟨hle9'.out _ _ _ _ _ _ _ _, _, _, rfl, by rw [har'.out]; exact hf0'.out _ _ _ _ _ _ _ _⟩
end Go.Proofs.YtpjmbgfggonhhaaGreat
