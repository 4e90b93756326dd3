/- barleycornref01: Power. -/
import Derived.Test.YtpjmbgfggonhhaaGreatTRA
import Derived.Test.YtpjmbgfggonhhaaGreatTrnR
namespace Go.Proofs.YtpjmbgfggonhhaaGreat
open Go.RowKit Go.Shelf
set_option linter.unusedVariables false
set_option linter.unusedSimpArgs false
set_option maxRecDepth 100000 in
set_option maxHeartbeats 4000000 in
theorem pf_n_Power_none (x : FracA × FracA) (n : Int) (v : Value) (w : World) (hv : IsTurnA w v x) (hr : tval x = none) : Calls Tryz.prog 20 #[v, .int .i64 n] w (ResPostT (powG x n) w) := by
  have hpw := powG_none (n := n) hr
  have hpw' := Lib.hid hpw
  clear hpw
  obtain ⟨x1A, x1c, x1B, x1d, x2A, x2c, x2B, x2d, rfl, p1, p2⟩ := hv
  obtain ⟨W0, hW0, hsz, hle, k0, k1⟩ := new2_le w (.cells #[.bool x.1.sn, .slice x1A x.1.gn.length x1c, .bool x.1.sd, .slice x1B x.1.gd.length x1d, .bool x.2.sn, .slice x2A x.2.gn.length x2c, .bool x.2.sd, .slice x2B x.2.gd.length x2d] 28) (.cells #[.bool false, .slice none 0 0, .bool false, .slice none 0 0, .bool false, .slice none 0 0, .bool false, .slice none 0 0] 28)
  obtain ⟨c0, c1, c2, c3, c4, c5, c6, c7⟩ := cells8 k0
  have r1 := pf_n_InTurn x _ W0 (IsTurnA.mk (p1.le hle) (p2.le hle))
  obtain ⟨b1, hb1⟩ : ∃ b, (tval x).isSome = b := ⟨_, rfl⟩
  unfold InPostN at r1
  rw [hb1] at r1
  have hle' := Lib.hid hle
  have k0' := Lib.hid k0
  have k1' := Lib.hid k1
  have p1' := Lib.hid p1
  have p2' := Lib.hid p2
  have r1' := Lib.hid r1
  have hb1' := Lib.hid hb1
  clear hb1 r1 p2 p1 k1 k0 hle
  go_enter Tryz.func20, Tryz.ntmps20
  go_wp2_with (fail)
  clear hW0
  go_at_call 38
  refine r1'.out.mono ?_
  rintro e W1 ⟨hle1, v1, rfl, ⟨⟨ps1, pA1, pn1, pc1, pB1, pm1, pd1, ps2, pA2, pn2, pc2, pB2, pm2, pd2, rfl⟩, hc1⟩⟩
  clear c0 c1 c2 c3 c4 c5 c6 c7
  obtain ⟨V, hV, hle2, kx⟩ : ∃ V, W1.alloc (.cells #[.bool ps1, .slice pA1 pn1 pc1, .slice pB1 pm1 pd1, .bool ps2, .slice pA2 pn2 pc2, .slice pB2 pm2 pd2] 61) = V ∧ Le W1 V ∧ V.heap[W1.heap.size]? = some (.cells #[.bool ps1, .slice pA1 pn1 pc1, .slice pB1 pm1 pd1, .bool ps2, .slice pA2 pn2 pc2, .slice pB2 pm2 pd2] 61) := ⟨_, rfl, le_alloc _ _, by unfold World.alloc; exact Array.getElem?_push_size⟩
  have hlV := (hle'.out.trans hle1).trans hle2
  have kV := box_later (hle1.trans hle2) k1'.out
  have t1 : TurnC V (.agg #[.bool ps1, .slice pA1 pn1 pc1, .slice pB1 pm1 pd1, .bool ps2, .slice pA2 pn2 pc2, .slice pB2 pm2 pd2]) x := TurnC.le ⟨⟨_, _, _, _, _, _, _, _, _, _, _, _, _, _, rfl⟩, hc1⟩ hle2
  obtain ⟨cp0, cp1, cp2, cp3, cp4, cp5⟩ := cells6 kx
  have hle1' := Lib.hid hle1
  have hle2' := Lib.hid hle2
  have hlV' := Lib.hid hlV
  have kV' := Lib.hid kV
  have kx' := Lib.hid kx
  have hc1' := Lib.hid hc1
  have t1' := Lib.hid t1
  clear t1 hc1 kx kV hlV hle2 hle1
  have kVo := kV'.out
  obtain rfl : b1 = false := by have h := hb1'.out; rw [hr] at h; exact h.symm
  have hr' := Lib.hid hr
  clear hr
  obtain ⟨z0, z1, z2, z3, z4, z5, z6, z7⟩ := cells8 kVo
  have g0 := frozen00 kVo 0
  have g1 := frozen00 kVo 1
  have g2 := frozen00 kVo 2
  have g3 := frozen00 kVo 3
  have g4 := frozen00 kVo 4
  have g5 := frozen00 kVo 5
  have g6 := frozen00 kVo 6
  have g7 := frozen00 kVo 7
  have hle9 := fun u0 u1 u2 u3 u4 u5 u6 u7 => le_set8 (hlV'.out) (show w.heap.size ≤ w.heap.size + 1 by omega) u0 u1 u2 u3 u4 u5 u6 u7
  have hb9 := fun u0 u1 u2 u3 u4 u5 u6 u7 => cells8 (heap_set8 kVo u0 u1 u2 u3 u4 u5 u6 u7)
  simp only [set8] at hb9
  have hle9' := Lib.hid hle9
  have hb9' := Lib.hid hb9
  have kVo' := Lib.hid kVo
  clear kVo hb9 hle9
  go_wp2
  obtain ⟨d0, d1, d2, d3, d4, d5, d6, d7⟩ := hb9'.out (.bool false) (.slice none 0 0) (.bool false) (.slice none 0 0) (.bool false) (.slice none 0 0) (.bool false) (.slice none 0 0)
  exact bodyPost_ret (v := .tuple #[.agg #[.bool false, .slice none 0 0, .bool false, .slice none 0 0, .bool false, .slice none 0 0, .bool false, .slice none 0 0], .int .i64 10]) (by simp [results, Tryz.results20, go_sem, d0, d1, d2, d3, d4, d5, d6, d7]) rfl ⟨hle9'.out _ _ _ _ _ _ _ _, _, _, rfl, by rw [hpw'.out]; exact ⟨rfl, rfl⟩⟩
set_option maxRecDepth 100000 in
set_option maxHeartbeats 4000000 in
theorem pf_n_Power_far (x : FracA × FracA) (n : Int) (v : Value) (w : World) (hv : IsTurnA w v x) (r : G2) (hr : tval x = some r) (hfar : n < -64 ∨ 64 < n) : Calls Tryz.prog 20 #[v, .int .i64 n] w (ResPostT (powG x n) w) := by
  have hpw := powG_far hr hfar
  have hpw' := Lib.hid hpw
  clear hpw
  obtain ⟨x1A, x1c, x1B, x1d, x2A, x2c, x2B, x2d, rfl, p1, p2⟩ := hv
  obtain ⟨W0, hW0, hsz, hle, k0, k1⟩ := new2_le w (.cells #[.bool x.1.sn, .slice x1A x.1.gn.length x1c, .bool x.1.sd, .slice x1B x.1.gd.length x1d, .bool x.2.sn, .slice x2A x.2.gn.length x2c, .bool x.2.sd, .slice x2B x.2.gd.length x2d] 28) (.cells #[.bool false, .slice none 0 0, .bool false, .slice none 0 0, .bool false, .slice none 0 0, .bool false, .slice none 0 0] 28)
  obtain ⟨c0, c1, c2, c3, c4, c5, c6, c7⟩ := cells8 k0
  have r1 := pf_n_InTurn x _ W0 (IsTurnA.mk (p1.le hle) (p2.le hle))
  obtain ⟨b1, hb1⟩ : ∃ b, (tval x).isSome = b := ⟨_, rfl⟩
  unfold InPostN at r1
  rw [hb1] at r1
  have hle' := Lib.hid hle
  have k0' := Lib.hid k0
  have k1' := Lib.hid k1
  have p1' := Lib.hid p1
  have p2' := Lib.hid p2
  have r1' := Lib.hid r1
  have hb1' := Lib.hid hb1
  clear hb1 r1 p2 p1 k1 k0 hle
  go_enter Tryz.func20, Tryz.ntmps20
  go_wp2_with (fail)
  clear hW0
  go_at_call 38
  refine r1'.out.mono ?_
  rintro e W1 ⟨hle1, v1, rfl, ⟨⟨ps1, pA1, pn1, pc1, pB1, pm1, pd1, ps2, pA2, pn2, pc2, pB2, pm2, pd2, rfl⟩, hc1⟩⟩
  clear c0 c1 c2 c3 c4 c5 c6 c7
  obtain ⟨V, hV, hle2, kx⟩ : ∃ V, W1.alloc (.cells #[.bool ps1, .slice pA1 pn1 pc1, .slice pB1 pm1 pd1, .bool ps2, .slice pA2 pn2 pc2, .slice pB2 pm2 pd2] 61) = V ∧ Le W1 V ∧ V.heap[W1.heap.size]? = some (.cells #[.bool ps1, .slice pA1 pn1 pc1, .slice pB1 pm1 pd1, .bool ps2, .slice pA2 pn2 pc2, .slice pB2 pm2 pd2] 61) := ⟨_, rfl, le_alloc _ _, by unfold World.alloc; exact Array.getElem?_push_size⟩
  have hlV := (hle'.out.trans hle1).trans hle2
  have kV := box_later (hle1.trans hle2) k1'.out
  have t1 : TurnC V (.agg #[.bool ps1, .slice pA1 pn1 pc1, .slice pB1 pm1 pd1, .bool ps2, .slice pA2 pn2 pc2, .slice pB2 pm2 pd2]) x := TurnC.le ⟨⟨_, _, _, _, _, _, _, _, _, _, _, _, _, _, rfl⟩, hc1⟩ hle2
  obtain ⟨cp0, cp1, cp2, cp3, cp4, cp5⟩ := cells6 kx
  have hle1' := Lib.hid hle1
  have hle2' := Lib.hid hle2
  have hlV' := Lib.hid hlV
  have kV' := Lib.hid kV
  have kx' := Lib.hid kx
  have hc1' := Lib.hid hc1
  have t1' := Lib.hid t1
  clear t1 hc1 kx kV hlV hle2 hle1
  have kVo := kV'.out
  obtain rfl : b1 = true := by have h := hb1'.out; rw [hr] at h; exact h.symm
  have hr' := Lib.hid hr
  clear hr
  rcases hfar with h1 | h1
  · skip
    obtain ⟨z0, z1, z2, z3, z4, z5, z6, z7⟩ := cells8 kVo
    have g0 := frozen00 kVo 0
    have g1 := frozen00 kVo 1
    have g2 := frozen00 kVo 2
    have g3 := frozen00 kVo 3
    have g4 := frozen00 kVo 4
    have g5 := frozen00 kVo 5
    have g6 := frozen00 kVo 6
    have g7 := frozen00 kVo 7
    have hle9 := fun u0 u1 u2 u3 u4 u5 u6 u7 => le_set8 (hlV'.out) (show w.heap.size ≤ w.heap.size + 1 by omega) u0 u1 u2 u3 u4 u5 u6 u7
    have hb9 := fun u0 u1 u2 u3 u4 u5 u6 u7 => cells8 (heap_set8 kVo u0 u1 u2 u3 u4 u5 u6 u7)
    simp only [set8] at hb9
    have hle9' := Lib.hid hle9
    have hb9' := Lib.hid hb9
    have kVo' := Lib.hid kVo
    clear kVo hb9 hle9
    go_wp2
    obtain ⟨d0, d1, d2, d3, d4, d5, d6, d7⟩ := hb9'.out (.bool false) (.slice none 0 0) (.bool false) (.slice none 0 0) (.bool false) (.slice none 0 0) (.bool false) (.slice none 0 0)
    exact bodyPost_ret (v := .tuple #[.agg #[.bool false, .slice none 0 0, .bool false, .slice none 0 0, .bool false, .slice none 0 0, .bool false, .slice none 0 0], .int .i64 2]) (by simp [results, Tryz.results20, go_sem, d0, d1, d2, d3, d4, d5, d6, d7]) rfl ⟨hle9'.out _ _ _ _ _ _ _ _, _, _, rfl, by rw [hpw'.out]; exact ⟨rfl, rfl⟩⟩
  · have h2 : ¬ n < -64 := by omega
    obtain ⟨z0, z1, z2, z3, z4, z5, z6, z7⟩ := cells8 kVo
    have g0 := frozen00 kVo 0
    have g1 := frozen00 kVo 1
    have g2 := frozen00 kVo 2
    have g3 := frozen00 kVo 3
    have g4 := frozen00 kVo 4
    have g5 := frozen00 kVo 5
    have g6 := frozen00 kVo 6
    have g7 := frozen00 kVo 7
    have hle9 := fun u0 u1 u2 u3 u4 u5 u6 u7 => le_set8 (hlV'.out) (show w.heap.size ≤ w.heap.size + 1 by omega) u0 u1 u2 u3 u4 u5 u6 u7
    have hb9 := fun u0 u1 u2 u3 u4 u5 u6 u7 => cells8 (heap_set8 kVo u0 u1 u2 u3 u4 u5 u6 u7)
    simp only [set8] at hb9
    have hle9' := Lib.hid hle9
    have hb9' := Lib.hid hb9
    have kVo' := Lib.hid kVo
    clear kVo hb9 hle9
    go_wp2
    obtain ⟨d0, d1, d2, d3, d4, d5, d6, d7⟩ := hb9'.out (.bool false) (.slice none 0 0) (.bool false) (.slice none 0 0) (.bool false) (.slice none 0 0) (.bool false) (.slice none 0 0)
    exact bodyPost_ret (v := .tuple #[.agg #[.bool false, .slice none 0 0, .bool false, .slice none 0 0, .bool false, .slice none 0 0, .bool false, .slice none 0 0], .int .i64 2]) (by simp [results, Tryz.results20, go_sem, d0, d1, d2, d3, d4, d5, d6, d7]) rfl ⟨hle9'.out _ _ _ _ _ _ _ _, _, _, rfl, by rw [hpw'.out]; exact ⟨rfl, rfl⟩⟩
set_option maxRecDepth 100000 in
set_option maxHeartbeats 4000000 in
theorem pf_n_Power_pos (x : FracA × FracA) (m : Nat) (v : Value) (w : World) (hv : IsTurnA w v x) (r : G2) (hr : tval x = some r) (hz2 : TSz r 2) (hm : m ≤ 64) : Calls Tryz.prog 20 #[v, .int .i64 (m : Int)] w (ResPostT (powG x (m : Int)) w) := by
  have hpw : powG x (m : Int) = outG (gpow r m) := powG_pos hr (by omega) (by omega)
  have hs1 : ∀ i, i ≤ m → TSz (gpow r i) 1000000 := fun i hi => (pow_sz hz2 (by omega)).up (by decide)
  have h2 : ¬ (m : Int) < -64 := by omega
  have h3 : ¬ (64 : Int) < (m : Int) := by omega
  have h4 : ¬ (m : Int) < 0 := by omega
  have h5 : (m : Int) ≤ 64 := by omega
  have hpw' := Lib.hid hpw
  have hs1' := Lib.hid hs1
  clear hs1 hpw
  obtain ⟨x1A, x1c, x1B, x1d, x2A, x2c, x2B, x2d, rfl, p1, p2⟩ := hv
  obtain ⟨W0, hW0, hsz, hle, k0, k1⟩ := new2_le w (.cells #[.bool x.1.sn, .slice x1A x.1.gn.length x1c, .bool x.1.sd, .slice x1B x.1.gd.length x1d, .bool x.2.sn, .slice x2A x.2.gn.length x2c, .bool x.2.sd, .slice x2B x.2.gd.length x2d] 28) (.cells #[.bool false, .slice none 0 0, .bool false, .slice none 0 0, .bool false, .slice none 0 0, .bool false, .slice none 0 0] 28)
  obtain ⟨c0, c1, c2, c3, c4, c5, c6, c7⟩ := cells8 k0
  have r1 := pf_n_InTurn x _ W0 (IsTurnA.mk (p1.le hle) (p2.le hle))
  obtain ⟨b1, hb1⟩ : ∃ b, (tval x).isSome = b := ⟨_, rfl⟩
  unfold InPostN at r1
  rw [hb1] at r1
  have hle' := Lib.hid hle
  have k0' := Lib.hid k0
  have k1' := Lib.hid k1
  have p1' := Lib.hid p1
  have p2' := Lib.hid p2
  have r1' := Lib.hid r1
  have hb1' := Lib.hid hb1
  clear hb1 r1 p2 p1 k1 k0 hle
  go_enter Tryz.func20, Tryz.ntmps20
  go_wp2_with (fail)
  clear hW0
  go_at_call 38
  refine r1'.out.mono ?_
  rintro e W1 ⟨hle1, v1, rfl, ⟨⟨ps1, pA1, pn1, pc1, pB1, pm1, pd1, ps2, pA2, pn2, pc2, pB2, pm2, pd2, rfl⟩, hc1⟩⟩
  clear c0 c1 c2 c3 c4 c5 c6 c7
  obtain ⟨V, hV, hle2, kx⟩ : ∃ V, W1.alloc (.cells #[.bool ps1, .slice pA1 pn1 pc1, .slice pB1 pm1 pd1, .bool ps2, .slice pA2 pn2 pc2, .slice pB2 pm2 pd2] 61) = V ∧ Le W1 V ∧ V.heap[W1.heap.size]? = some (.cells #[.bool ps1, .slice pA1 pn1 pc1, .slice pB1 pm1 pd1, .bool ps2, .slice pA2 pn2 pc2, .slice pB2 pm2 pd2] 61) := ⟨_, rfl, le_alloc _ _, by unfold World.alloc; exact Array.getElem?_push_size⟩
  have hlV := (hle'.out.trans hle1).trans hle2
  have kV := box_later (hle1.trans hle2) k1'.out
  have t1 : TurnC V (.agg #[.bool ps1, .slice pA1 pn1 pc1, .slice pB1 pm1 pd1, .bool ps2, .slice pA2 pn2 pc2, .slice pB2 pm2 pd2]) x := TurnC.le ⟨⟨_, _, _, _, _, _, _, _, _, _, _, _, _, _, rfl⟩, hc1⟩ hle2
  obtain ⟨cp0, cp1, cp2, cp3, cp4, cp5⟩ := cells6 kx
  have hle1' := Lib.hid hle1
  have hle2' := Lib.hid hle2
  have hlV' := Lib.hid hlV
  have kV' := Lib.hid kV
  have kx' := Lib.hid kx
  have hc1' := Lib.hid hc1
  have t1' := Lib.hid t1
  clear t1 hc1 kx kV hlV hle2 hle1
  have kVo := kV'.out
  obtain rfl : b1 = true := by have h := hb1'.out; rw [hr] at h; exact h.symm
  have hta := t1'.out.2 r hr
  have hr' := Lib.hid hr
  have hta' := Lib.hid hta
  have kVo' := Lib.hid kVo
  clear kVo hta hr
  go_wp2_with (fail)
  clear hV
  go_at_call 55
  refine (pf_n_RaisedP r m _ V hta'.out hs1'.out (hz2.up (by decide)) hm).mono ?_
  rintro e W5 ⟨v5, rfl, hle5, h5⟩
  have h50 := h5
  obtain ⟨ts1, tA1, tn1, tc1, tB1, tm1, td1, ts2, tA2, tn2, tc2, tB2, tm2, td2, rfl, -, -⟩ := h5
  have k5 := box_later hle5 kV'.out
  have hl5 := hlV'.out.trans hle5
  have hle5' := Lib.hid hle5
  have h50' := Lib.hid h50
  have k5' := Lib.hid k5
  have hl5' := Lib.hid hl5
  clear hl5 k5 h50 hle5
  go_wp2_with (fail)
  go_at_call 25
  refine (pf_n_OutTurn (gpow r m) _ W5 h50'.out).mono ?_
  rintro e W9 ⟨hle9a, v9, c9, rfl, hres⟩
  have hres0 := hres
  obtain ⟨rs1, rA1, rn1, rc1, rt1, rB1, rm1, rd1, rs2, rA2, rn2, rc2, rt2, rB2, rm2, rd2, rfl⟩ := hres.form
  have k9 := box_later hle9a k5'.out
  have hl9 := hl5'.out.trans hle9a
  have hle9a' := Lib.hid hle9a
  have hres' := Lib.hid hres
  have hres0' := Lib.hid hres0
  have hl9' := Lib.hid hl9
  clear hl9 hres0 hres hle9a
  obtain ⟨z0, z1, z2, z3, z4, z5, z6, z7⟩ := cells8 k9
  have g0 := frozen00 k9 0
  have g1 := frozen00 k9 1
  have g2 := frozen00 k9 2
  have g3 := frozen00 k9 3
  have g4 := frozen00 k9 4
  have g5 := frozen00 k9 5
  have g6 := frozen00 k9 6
  have g7 := frozen00 k9 7
  have hle9 := fun u0 u1 u2 u3 u4 u5 u6 u7 => le_set8 (hl9'.out) (show w.heap.size ≤ w.heap.size + 1 by omega) u0 u1 u2 u3 u4 u5 u6 u7
  have hb9 := fun u0 u1 u2 u3 u4 u5 u6 u7 => cells8 (heap_set8 k9 u0 u1 u2 u3 u4 u5 u6 u7)
  simp only [set8] at hb9
  have hf0 := fun u0 u1 u2 u3 u4 u5 u6 u7 => hres'.out.touch (noInt8 k9) (touch_set8 W9 (w.heap.size + 1) u0 u1 u2 u3 u4 u5 u6 u7)
  have hle9' := Lib.hid hle9
  have hb9' := Lib.hid hb9
  have k9' := Lib.hid k9
  have hf0' := Lib.hid hf0
  clear hf0 k9 hb9 hle9
  go_wp2
  obtain ⟨d0, d1, d2, d3, d4, d5, d6, d7⟩ := hb9'.out (.bool rs1) (.slice rA1 rn1 rc1) (.bool rt1) (.slice rB1 rm1 rd1) (.bool rs2) (.slice rA2 rn2 rc2) (.bool rt2) (.slice rB2 rm2 rd2)
  exact bodyPost_ret (v := .tuple #[.agg #[.bool rs1, .slice rA1 rn1 rc1, .bool rt1, .slice rB1 rm1 rd1, .bool rs2, .slice rA2 rn2 rc2, .bool rt2, .slice rB2 rm2 rd2], .int .i64 c9]) (by simp [results, Tryz.results20, go_sem, d0, d1, d2, d3, d4, d5, d6, d7]) rfl ⟨hle9'.out _ _ _ _ _ _ _ _, _, _, rfl, by rw [hpw'.out]; exact hf0'.out _ _ _ _ _ _ _ _⟩
set_option maxRecDepth 100000 in
set_option maxHeartbeats 4000000 in
theorem pf_n_Power_zero (x : FracA × FracA) (m : Nat) (v : Value) (w : World) (hv : IsTurnA w v x) (r : G2) (hr : tval x = some r) (hm0 : 0 < m) (hm : m ≤ 64) (hnz : gnorm r = 0) : Calls Tryz.prog 20 #[v, .int .i64 (-(m : Int))] w (ResPostT (powG x (-(m : Int))) w) := by
  have hpw : powG x (-(m : Int)) = .error 11 := powG_zero hr (by omega) (by omega) hnz
  have h2 : ¬ -(m : Int) < -64 := by omega
  have h3 : ¬ (64 : Int) < -(m : Int) := by omega
  have h4 : -(m : Int) < 0 := by omega
  have h5 : -(m : Int) ≤ 64 := by omega
  have hpw' := Lib.hid hpw
  clear hpw
  obtain ⟨x1A, x1c, x1B, x1d, x2A, x2c, x2B, x2d, rfl, p1, p2⟩ := hv
  obtain ⟨W0, hW0, hsz, hle, k0, k1⟩ := new2_le w (.cells #[.bool x.1.sn, .slice x1A x.1.gn.length x1c, .bool x.1.sd, .slice x1B x.1.gd.length x1d, .bool x.2.sn, .slice x2A x.2.gn.length x2c, .bool x.2.sd, .slice x2B x.2.gd.length x2d] 28) (.cells #[.bool false, .slice none 0 0, .bool false, .slice none 0 0, .bool false, .slice none 0 0, .bool false, .slice none 0 0] 28)
  obtain ⟨c0, c1, c2, c3, c4, c5, c6, c7⟩ := cells8 k0
  have r1 := pf_n_InTurn x _ W0 (IsTurnA.mk (p1.le hle) (p2.le hle))
  obtain ⟨b1, hb1⟩ : ∃ b, (tval x).isSome = b := ⟨_, rfl⟩
  unfold InPostN at r1
  rw [hb1] at r1
  have hle' := Lib.hid hle
  have k0' := Lib.hid k0
  have k1' := Lib.hid k1
  have p1' := Lib.hid p1
  have p2' := Lib.hid p2
  have r1' := Lib.hid r1
  have hb1' := Lib.hid hb1
  clear hb1 r1 p2 p1 k1 k0 hle
  go_enter Tryz.func20, Tryz.ntmps20
  go_wp2_with (fail)
  clear hW0
  go_at_call 38
  refine r1'.out.mono ?_
  rintro e W1 ⟨hle1, v1, rfl, ⟨⟨ps1, pA1, pn1, pc1, pB1, pm1, pd1, ps2, pA2, pn2, pc2, pB2, pm2, pd2, rfl⟩, hc1⟩⟩
  clear c0 c1 c2 c3 c4 c5 c6 c7
  obtain ⟨V, hV, hle2, kx⟩ : ∃ V, W1.alloc (.cells #[.bool ps1, .slice pA1 pn1 pc1, .slice pB1 pm1 pd1, .bool ps2, .slice pA2 pn2 pc2, .slice pB2 pm2 pd2] 61) = V ∧ Le W1 V ∧ V.heap[W1.heap.size]? = some (.cells #[.bool ps1, .slice pA1 pn1 pc1, .slice pB1 pm1 pd1, .bool ps2, .slice pA2 pn2 pc2, .slice pB2 pm2 pd2] 61) := ⟨_, rfl, le_alloc _ _, by unfold World.alloc; exact Array.getElem?_push_size⟩
  have hlV := (hle'.out.trans hle1).trans hle2
  have kV := box_later (hle1.trans hle2) k1'.out
  have t1 : TurnC V (.agg #[.bool ps1, .slice pA1 pn1 pc1, .slice pB1 pm1 pd1, .bool ps2, .slice pA2 pn2 pc2, .slice pB2 pm2 pd2]) x := TurnC.le ⟨⟨_, _, _, _, _, _, _, _, _, _, _, _, _, _, rfl⟩, hc1⟩ hle2
  obtain ⟨cp0, cp1, cp2, cp3, cp4, cp5⟩ := cells6 kx
  have hle1' := Lib.hid hle1
  have hle2' := Lib.hid hle2
  have hlV' := Lib.hid hlV
  have kV' := Lib.hid kV
  have kx' := Lib.hid kx
  have hc1' := Lib.hid hc1
  have t1' := Lib.hid t1
  clear t1 hc1 kx kV hlV hle2 hle1
  have kVo := kV'.out
  obtain rfl : b1 = true := by have h := hb1'.out; rw [hr] at h; exact h.symm
  have hta := t1'.out.2 r hr
  have hnil := pf_n_Nil r _ V hta
  rw [decide_eq_true hnz] at hnil
  have hr' := Lib.hid hr
  have hta' := Lib.hid hta
  have kVo' := Lib.hid kVo
  have hnil' := Lib.hid hnil
  have hnz' := Lib.hid hnz
  clear hnz hnil kVo hta hr
  go_wp2_with (fail)
  clear hV
  go_at_call 33
  refine hnil'.out.mono ?_
  rintro e W4 ⟨rfl, hle4⟩
  have kW := box_later hle4 kV'.out
  have hlW := hlV'.out.trans hle4
  have hta4 := hta'.out.le hle4
  clear cp0 cp1 cp2 cp3 cp4 cp5
  obtain ⟨cp0, cp1, cp2, cp3, cp4, cp5⟩ := cells6 (box_later hle4 kx'.out)
  have hle4' := Lib.hid hle4
  have hlW' := Lib.hid hlW
  have hta4' := Lib.hid hta4
  clear hta4 hlW hle4
  obtain ⟨z0, z1, z2, z3, z4, z5, z6, z7⟩ := cells8 kW
  have g0 := frozen00 kW 0
  have g1 := frozen00 kW 1
  have g2 := frozen00 kW 2
  have g3 := frozen00 kW 3
  have g4 := frozen00 kW 4
  have g5 := frozen00 kW 5
  have g6 := frozen00 kW 6
  have g7 := frozen00 kW 7
  have hle9 := fun u0 u1 u2 u3 u4 u5 u6 u7 => le_set8 (hlW'.out) (show w.heap.size ≤ w.heap.size + 1 by omega) u0 u1 u2 u3 u4 u5 u6 u7
  have hb9 := fun u0 u1 u2 u3 u4 u5 u6 u7 => cells8 (heap_set8 kW u0 u1 u2 u3 u4 u5 u6 u7)
  simp only [set8] at hb9
  have hle9' := Lib.hid hle9
  have hb9' := Lib.hid hb9
  have kW' := Lib.hid kW
  clear kW hb9 hle9
  go_wp2
  obtain ⟨d0, d1, d2, d3, d4, d5, d6, d7⟩ := hb9'.out (.bool false) (.slice none 0 0) (.bool false) (.slice none 0 0) (.bool false) (.slice none 0 0) (.bool false) (.slice none 0 0)
  exact bodyPost_ret (v := .tuple #[.agg #[.bool false, .slice none 0 0, .bool false, .slice none 0 0, .bool false, .slice none 0 0, .bool false, .slice none 0 0], .int .i64 11]) (by simp [results, Tryz.results20, go_sem, d0, d1, d2, d3, d4, d5, d6, d7]) rfl ⟨hle9'.out _ _ _ _ _ _ _ _, _, _, rfl, by rw [hpw'.out]; exact ⟨rfl, rfl⟩⟩
set_option maxRecDepth 100000 in
set_option maxHeartbeats 4000000 in
theorem pf_n_Power_neg (x : FracA × FracA) (m : Nat) (v : Value) (w : World) (hv : IsTurnA w v x) (r : G2) (hr : tval x = some r) (hz2 : TSz r 2) (hm0 : 0 < m) (hm : m ≤ 64) (hnz : gnorm r ≠ 0) : Calls Tryz.prog 20 #[v, .int .i64 (-(m : Int))] w (ResPostT (powG x (-(m : Int))) w) := by
  have hpw : powG x (-(m : Int)) = outG (gpow (ginv r) m) := by rw [powG_neg hr (by omega) (by omega) hnz, show (-(m : Int)).natAbs = m by omega]
  have h2 : ¬ -(m : Int) < -64 := by omega
  have h3 : ¬ (64 : Int) < -(m : Int) := by omega
  have h4 : -(m : Int) < 0 := by omega
  have h5 : -(m : Int) ≤ 64 := by omega
  have hpw' := Lib.hid hpw
  clear hpw
  obtain ⟨x1A, x1c, x1B, x1d, x2A, x2c, x2B, x2d, rfl, p1, p2⟩ := hv
  obtain ⟨W0, hW0, hsz, hle, k0, k1⟩ := new2_le w (.cells #[.bool x.1.sn, .slice x1A x.1.gn.length x1c, .bool x.1.sd, .slice x1B x.1.gd.length x1d, .bool x.2.sn, .slice x2A x.2.gn.length x2c, .bool x.2.sd, .slice x2B x.2.gd.length x2d] 28) (.cells #[.bool false, .slice none 0 0, .bool false, .slice none 0 0, .bool false, .slice none 0 0, .bool false, .slice none 0 0] 28)
  obtain ⟨c0, c1, c2, c3, c4, c5, c6, c7⟩ := cells8 k0
  have r1 := pf_n_InTurn x _ W0 (IsTurnA.mk (p1.le hle) (p2.le hle))
  obtain ⟨b1, hb1⟩ : ∃ b, (tval x).isSome = b := ⟨_, rfl⟩
  unfold InPostN at r1
  rw [hb1] at r1
  have hle' := Lib.hid hle
  have k0' := Lib.hid k0
  have k1' := Lib.hid k1
  have p1' := Lib.hid p1
  have p2' := Lib.hid p2
  have r1' := Lib.hid r1
  have hb1' := Lib.hid hb1
  clear hb1 r1 p2 p1 k1 k0 hle
  go_enter Tryz.func20, Tryz.ntmps20
  go_wp2_with (fail)
  clear hW0
  go_at_call 38
  refine r1'.out.mono ?_
  rintro e W1 ⟨hle1, v1, rfl, ⟨⟨ps1, pA1, pn1, pc1, pB1, pm1, pd1, ps2, pA2, pn2, pc2, pB2, pm2, pd2, rfl⟩, hc1⟩⟩
  clear c0 c1 c2 c3 c4 c5 c6 c7
  obtain ⟨V, hV, hle2, kx⟩ : ∃ V, W1.alloc (.cells #[.bool ps1, .slice pA1 pn1 pc1, .slice pB1 pm1 pd1, .bool ps2, .slice pA2 pn2 pc2, .slice pB2 pm2 pd2] 61) = V ∧ Le W1 V ∧ V.heap[W1.heap.size]? = some (.cells #[.bool ps1, .slice pA1 pn1 pc1, .slice pB1 pm1 pd1, .bool ps2, .slice pA2 pn2 pc2, .slice pB2 pm2 pd2] 61) := ⟨_, rfl, le_alloc _ _, by unfold World.alloc; exact Array.getElem?_push_size⟩
  have hlV := (hle'.out.trans hle1).trans hle2
  have kV := box_later (hle1.trans hle2) k1'.out
  have t1 : TurnC V (.agg #[.bool ps1, .slice pA1 pn1 pc1, .slice pB1 pm1 pd1, .bool ps2, .slice pA2 pn2 pc2, .slice pB2 pm2 pd2]) x := TurnC.le ⟨⟨_, _, _, _, _, _, _, _, _, _, _, _, _, _, rfl⟩, hc1⟩ hle2
  obtain ⟨cp0, cp1, cp2, cp3, cp4, cp5⟩ := cells6 kx
  have hle1' := Lib.hid hle1
  have hle2' := Lib.hid hle2
  have hlV' := Lib.hid hlV
  have kV' := Lib.hid kV
  have kx' := Lib.hid kx
  have hc1' := Lib.hid hc1
  have t1' := Lib.hid t1
  clear t1 hc1 kx kV hlV hle2 hle1
  have kVo := kV'.out
  obtain rfl : b1 = true := by have h := hb1'.out; rw [hr] at h; exact h.symm
  have hta := t1'.out.2 r hr
  have hnil := pf_n_Nil r _ V hta
  rw [decide_eq_false hnz] at hnil
  have hr' := Lib.hid hr
  have hta' := Lib.hid hta
  have kVo' := Lib.hid kVo
  have hnil' := Lib.hid hnil
  have hnz' := Lib.hid hnz
  clear hnz hnil kVo hta hr
  go_wp2_with (fail)
  clear hV
  go_at_call 33
  refine hnil'.out.mono ?_
  rintro e W4 ⟨rfl, hle4⟩
  have kW := box_later hle4 kV'.out
  have hlW := hlV'.out.trans hle4
  have hta4 := hta'.out.le hle4
  clear cp0 cp1 cp2 cp3 cp4 cp5
  obtain ⟨cp0, cp1, cp2, cp3, cp4, cp5⟩ := cells6 (box_later hle4 kx'.out)
  have hle4' := Lib.hid hle4
  have hlW' := Lib.hid hlW
  have hta4' := Lib.hid hta4
  clear hta4 hlW hle4
  have kW' := Lib.hid kW
  clear kW
  go_wp2_with (fail)
  go_at_call 55
  refine (pf_n_RaisedN r m _ W4 hta4'.out hz2 hnz'.out hm0 hm).mono ?_
  rintro e W5 ⟨v5, rfl, hle5, h5⟩
  have h50 := h5
  obtain ⟨ts1, tA1, tn1, tc1, tB1, tm1, td1, ts2, tA2, tn2, tc2, tB2, tm2, td2, rfl, -, -⟩ := h5
  have k5 := box_later hle5 kW'.out
  have hl5 := hlW'.out.trans hle5
  have hle5' := Lib.hid hle5
  have h50' := Lib.hid h50
  have k5' := Lib.hid k5
  have hl5' := Lib.hid hl5
  clear hl5 k5 h50 hle5
  go_wp2_with (fail)
  go_at_call 25
  refine (pf_n_OutTurn (gpow (ginv r) m) _ W5 h50'.out).mono ?_
  rintro e W9 ⟨hle9a, v9, c9, rfl, hres⟩
  have hres0 := hres
  obtain ⟨rs1, rA1, rn1, rc1, rt1, rB1, rm1, rd1, rs2, rA2, rn2, rc2, rt2, rB2, rm2, rd2, rfl⟩ := hres.form
  have k9 := box_later hle9a k5'.out
  have hl9 := hl5'.out.trans hle9a
  have hle9a' := Lib.hid hle9a
  have hres' := Lib.hid hres
  have hres0' := Lib.hid hres0
  have hl9' := Lib.hid hl9
  clear hl9 hres0 hres hle9a
  obtain ⟨z0, z1, z2, z3, z4, z5, z6, z7⟩ := cells8 k9
  have g0 := frozen00 k9 0
  have g1 := frozen00 k9 1
  have g2 := frozen00 k9 2
  have g3 := frozen00 k9 3
  have g4 := frozen00 k9 4
  have g5 := frozen00 k9 5
  have g6 := frozen00 k9 6
  have g7 := frozen00 k9 7
  have hle9 := fun u0 u1 u2 u3 u4 u5 u6 u7 => le_set8 (hl9'.out) (show w.heap.size ≤ w.heap.size + 1 by omega) u0 u1 u2 u3 u4 u5 u6 u7
  have hb9 := fun u0 u1 u2 u3 u4 u5 u6 u7 => cells8 (heap_set8 k9 u0 u1 u2 u3 u4 u5 u6 u7)
  simp only [set8] at hb9
  have hf0 := fun u0 u1 u2 u3 u4 u5 u6 u7 => hres'.out.touch (noInt8 k9) (touch_set8 W9 (w.heap.size + 1) u0 u1 u2 u3 u4 u5 u6 u7)
  have hle9' := Lib.hid hle9
  have hb9' := Lib.hid hb9
  have k9' := Lib.hid k9
  have hf0' := Lib.hid hf0
  clear hf0 k9 hb9 hle9
  go_wp2
  obtain ⟨d0, d1, d2, d3, d4, d5, d6, d7⟩ := hb9'.out (.bool rs1) (.slice rA1 rn1 rc1) (.bool rt1) (.slice rB1 rm1 rd1) (.bool rs2) (.slice rA2 rn2 rc2) (.bool rt2) (.slice rB2 rm2 rd2)
  exact bodyPost_ret (v := .tuple #[.agg #[.bool rs1, .slice rA1 rn1 rc1, .bool rt1, .slice rB1 rm1 rd1, .bool rs2, .slice rA2 rn2 rc2, .bool rt2, .slice rB2 rm2 rd2], .int .i64 c9]) (by simp [results, Tryz.results20, go_sem, d0, d1, d2, d3, d4, d5, d6, d7]) rfl ⟨hle9'.out _ _ _ _ _ _ _ _, _, _, rfl, by rw [hpw'.out]; exact hf0'.out _ _ _ _ _ _ _ _⟩
set_option maxRecDepth 100000 in
set_option maxHeartbeats 4000000 in
theorem pf_n_Power (x : FracA × FracA) (n : Int) (v : Value) (w : World) (hv : IsTurnA w v x) (hz : ∀ g, tval x = some g → TSz g 2) : Calls Tryz.prog 20 #[v, .int .i64 n] w (ResPostT (powG x n) w) := by
  rcases tval_cases x with ⟨r, hr⟩ | hr
  · by_cases hfar : n < -64 ∨ 64 < n
    · exact pf_n_Power_far x n v w hv r hr hfar
    · by_cases h0 : n < 0
      · obtain ⟨m, rfl⟩ : ∃ m : Nat, n = -(m : Int) := ⟨n.natAbs, by omega⟩
        by_cases hnz : gnorm r = 0
        · exact pf_n_Power_zero x m v w hv r hr (by omega) (by omega) hnz
        · exact pf_n_Power_neg x m v w hv r hr (hz r hr) (by omega) (by omega) hnz
      · obtain ⟨m, rfl⟩ : ∃ m : Nat, n = (m : Int) := ⟨n.natAbs, by omega⟩
        exact pf_n_Power_pos x m v w hv r hr (hz r hr) (by omega)
  · exact pf_n_Power_none x n v w hv hr
end Go.Proofs.YtpjmbgfggonhhaaGreat
