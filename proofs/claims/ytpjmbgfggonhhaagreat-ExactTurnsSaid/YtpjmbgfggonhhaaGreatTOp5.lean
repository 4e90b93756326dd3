/- exact, turning numbers: Power. -/
import Derived.Test.YtpjmbgfggonhhaaGreatTOpA
import Derived.Test.YtpjmbgfggonhhaaGreatTrnB
namespace Go.Proofs.YtpjmbgfggonhhaaGreat
open Go.RowKit Go.Shelf
set_option linter.unusedVariables false
set_option linter.unusedSimpArgs false
theorem plain_Power1 : Plain Tryz.prog 52 := fun _ _ => by kernel_rfl
set_option maxRecDepth 100000 in
set_option maxHeartbeats 4000000 in
theorem pf_Power1_none (x : FracA × FracA) (n : Int) (Bx Bn : Nat) (t : TypeId) (w : World) (hx : ABox w Bx x) (kn : w.heap[Bn]? = some (.cells #[.int .i64 n] t)) (hr : tval x = none) : Calls Tryz.prog 52 #[.pointer (some ⟨Bx, 0, none⟩), .pointer (some ⟨Bn, 0, none⟩)] w (OperPostT (powG x n) w) := by
  obtain ⟨W0, hW0, hle, k0⟩ : ∃ W0, w.alloc (.cells #[.bool false, .slice none 0 0, .bool false, .slice none 0 0, .bool false, .slice none 0 0, .bool false, .slice none 0 0] 28) = W0 ∧ Le w W0 ∧ W0.heap[w.heap.size]? = some (.cells #[.bool false, .slice none 0 0, .bool false, .slice none 0 0, .bool false, .slice none 0 0, .bool false, .slice none 0 0] 28) := ⟨_, rfl, le_alloc _ _, by unfold World.alloc; exact Array.getElem?_push_size⟩
  have hx1 := hx.le hle
  have kn1 := box_later hle kn
  have hs0 := hle.size
  have hbn := (Array.getElem?_eq_some_iff.1 kn).1
  clear kn
  obtain ⟨x1A, x1c, x1B, x1d, x2A, x2c, x2B, x2d, kx, hx2, hx3⟩ := hx1
  obtain ⟨ca0, ca1, ca2, ca3, ca4, ca5, ca6, ca7⟩ := cells8 kx
  have hin := pf_inTurn_no x _ W0 (IsTurnA.mk hx2 hx3) hr
  have hpw := powG_none (n := n) hr
  have hx' := Lib.hid hx
  have hle' := Lib.hid hle
  have k0' := Lib.hid k0
  have kx' := Lib.hid kx
  have hx2' := Lib.hid hx2
  have hx3' := Lib.hid hx3
  have hin' := Lib.hid hin
  have hr' := Lib.hid hr
  have hpw' := Lib.hid hpw
  clear hpw hr hin hx3 hx2 kx k0 hle hx
  go_enter Tryz.func52, Tryz.ntmps52
  go_wp2_with (fail)
  clear hW0
  go_at_call 37
  refine hin'.out.mono ?_
  rintro e W1 ⟨rfl, hle1⟩
  have hl1 := hle'.out.trans hle1
  have hle1' := Lib.hid hle1
  have hl1' := Lib.hid hl1
  clear hl1 hle1
  go_wp2_with (fail)
  exact ⟨rfl, hl1'.out, .inr ⟨10, hpw'.out, rfl⟩⟩
set_option maxRecDepth 100000 in
set_option maxHeartbeats 4000000 in
theorem pf_Power1_far (x : FracA × FracA) (r : G2) (n : Int) (Bx Bn : Nat) (t : TypeId) (w : World) (hx : ABox w Bx x) (kn : w.heap[Bn]? = some (.cells #[.int .i64 n] t)) (hr : tval x = some r) (hfar : n < -64 ∨ 64 < n) : Calls Tryz.prog 52 #[.pointer (some ⟨Bx, 0, none⟩), .pointer (some ⟨Bn, 0, none⟩)] w (OperPostT (powG x n) w) := by
  obtain ⟨W0, hW0, hle, k0⟩ : ∃ W0, w.alloc (.cells #[.bool false, .slice none 0 0, .bool false, .slice none 0 0, .bool false, .slice none 0 0, .bool false, .slice none 0 0] 28) = W0 ∧ Le w W0 ∧ W0.heap[w.heap.size]? = some (.cells #[.bool false, .slice none 0 0, .bool false, .slice none 0 0, .bool false, .slice none 0 0, .bool false, .slice none 0 0] 28) := ⟨_, rfl, le_alloc _ _, by unfold World.alloc; exact Array.getElem?_push_size⟩
  have hx1 := hx.le hle
  have kn1 := box_later hle kn
  have hs0 := hle.size
  have hbn := (Array.getElem?_eq_some_iff.1 kn).1
  clear kn
  obtain ⟨x1A, x1c, x1B, x1d, x2A, x2c, x2B, x2d, kx, hx2, hx3⟩ := hx1
  obtain ⟨ca0, ca1, ca2, ca3, ca4, ca5, ca6, ca7⟩ := cells8 kx
  have hin := pf_inTurn_ok x r _ W0 (IsTurnA.mk hx2 hx3) hr
  have hpw := powG_far hr hfar
  have hz2 := True.intro
  have hsz := True.intro
  rcases hfar with h1 | h1
  · have h2 : ¬ (-64 ≤ n) := by omega
    have hx' := Lib.hid hx
    have hle' := Lib.hid hle
    have k0' := Lib.hid k0
    have kx' := Lib.hid kx
    have hx2' := Lib.hid hx2
    have hx3' := Lib.hid hx3
    have hin' := Lib.hid hin
    have hr' := Lib.hid hr
    have hz2' := Lib.hid hz2
    have hsz' := Lib.hid hsz
    have hpw' := Lib.hid hpw
    clear hpw hsz hz2 hr hin hx3 hx2 kx k0 hle hx
    go_enter Tryz.func52, Tryz.ntmps52
    go_wp2_with (fail)
    clear hW0
    go_at_call 37
    refine hin'.out.mono ?_
    rintro e W1 ⟨v1, rfl, hle1, h1⟩
    obtain ⟨ps1, pA1, pn1, pc1, pB1, pm1, pd1, ps2, pA2, pn2, pc2, pB2, pm2, pd2, rfl, y1, y2⟩ := h1
    obtain ⟨V, hV, hle2, k5⟩ : ∃ V, W1.alloc (.cells #[.bool ps1, .slice pA1 pn1 pc1, .slice pB1 pm1 pd1, .bool ps2, .slice pA2 pn2 pc2, .slice pB2 pm2 pd2] 56) = V ∧ Le W1 V ∧ V.heap[W1.heap.size]? = some (.cells #[.bool ps1, .slice pA1 pn1 pc1, .slice pB1 pm1 pd1, .bool ps2, .slice pA2 pn2 pc2, .slice pB2 pm2 pd2] 56) := ⟨_, rfl, le_alloc _ _, by unfold World.alloc; exact Array.getElem?_push_size⟩
    have hle02 := hle1.trans hle2
    have hleV := hle'.out.trans hle02
    have k0V := box_later hle02 k0'.out
    have cn := cell00 (box_later hle02 kn1)
    have hv := TurnL.mk (g := r) (y1.le hle2) (y2.le hle2)
    obtain ⟨cp0, cp1, cp2, cp3, cp4, cp5⟩ := cells6 k5
    have hbn1 := (Array.getElem?_eq_some_iff.1 (box_later hle02 kn1)).1
    have hle1' := Lib.hid hle1
    have hle2' := Lib.hid hle2
    have k5' := Lib.hid k5
    have hle02' := Lib.hid hle02
    have hleV' := Lib.hid hleV
    have k0V' := Lib.hid k0V
    have hv' := Lib.hid hv
    have y1' := Lib.hid y1
    have y2' := Lib.hid y2
    clear y2 y1 hv k0V hleV hle02 k5 hle2 hle1
    go_wp2_with (fail)
    clear hV
    go_at_call 30
    refine (pf_must_no 2 V).mono ?_
    rintro e W2 ⟨rfl, rfl⟩
    go_wp2_with (fail)
    exact ⟨rfl, hleV'.out, .inr ⟨2, hpw'.out, rfl⟩⟩
  · have h2 : -64 ≤ n := by omega
    have h3 : ¬ (n ≤ 64) := by omega
    have hx' := Lib.hid hx
    have hle' := Lib.hid hle
    have k0' := Lib.hid k0
    have kx' := Lib.hid kx
    have hx2' := Lib.hid hx2
    have hx3' := Lib.hid hx3
    have hin' := Lib.hid hin
    have hr' := Lib.hid hr
    have hz2' := Lib.hid hz2
    have hsz' := Lib.hid hsz
    have hpw' := Lib.hid hpw
    clear hpw hsz hz2 hr hin hx3 hx2 kx k0 hle hx
    go_enter Tryz.func52, Tryz.ntmps52
    go_wp2_with (fail)
    clear hW0
    go_at_call 37
    refine hin'.out.mono ?_
    rintro e W1 ⟨v1, rfl, hle1, h1⟩
    obtain ⟨ps1, pA1, pn1, pc1, pB1, pm1, pd1, ps2, pA2, pn2, pc2, pB2, pm2, pd2, rfl, y1, y2⟩ := h1
    obtain ⟨V, hV, hle2, k5⟩ : ∃ V, W1.alloc (.cells #[.bool ps1, .slice pA1 pn1 pc1, .slice pB1 pm1 pd1, .bool ps2, .slice pA2 pn2 pc2, .slice pB2 pm2 pd2] 56) = V ∧ Le W1 V ∧ V.heap[W1.heap.size]? = some (.cells #[.bool ps1, .slice pA1 pn1 pc1, .slice pB1 pm1 pd1, .bool ps2, .slice pA2 pn2 pc2, .slice pB2 pm2 pd2] 56) := ⟨_, rfl, le_alloc _ _, by unfold World.alloc; exact Array.getElem?_push_size⟩
    have hle02 := hle1.trans hle2
    have hleV := hle'.out.trans hle02
    have k0V := box_later hle02 k0'.out
    have cn := cell00 (box_later hle02 kn1)
    have hv := TurnL.mk (g := r) (y1.le hle2) (y2.le hle2)
    obtain ⟨cp0, cp1, cp2, cp3, cp4, cp5⟩ := cells6 k5
    have hbn1 := (Array.getElem?_eq_some_iff.1 (box_later hle02 kn1)).1
    have hle1' := Lib.hid hle1
    have hle2' := Lib.hid hle2
    have k5' := Lib.hid k5
    have hle02' := Lib.hid hle02
    have hleV' := Lib.hid hleV
    have k0V' := Lib.hid k0V
    have hv' := Lib.hid hv
    have y1' := Lib.hid y1
    have y2' := Lib.hid y2
    clear y2 y1 hv k0V hleV hle02 k5 hle2 hle1
    go_wp2_with (fail)
    clear hV
    rw [decide_eq_false (show ¬ n ≤ 64 by omega)]
    go_at_call 30
    refine (pf_must_no 2 V).mono ?_
    rintro e W2 ⟨rfl, rfl⟩
    go_wp2_with (fail)
    exact ⟨rfl, hleV'.out, .inr ⟨2, hpw'.out, rfl⟩⟩
set_option maxRecDepth 100000 in
set_option maxHeartbeats 4000000 in
theorem pf_Power1_pos (x : FracA × FracA) (r : G2) (m : Nat) (Bx Bn : Nat) (t : TypeId) (w : World) (hx : ABox w Bx x) (kn : w.heap[Bn]? = some (.cells #[.int .i64 (m : Int)] t)) (hr : tval x = some r) (hz2 : TSz r 2) (hm : m ≤ 64) : Calls Tryz.prog 52 #[.pointer (some ⟨Bx, 0, none⟩), .pointer (some ⟨Bn, 0, none⟩)] w (OperPostT (powG x (m : Int)) w) := by
  obtain ⟨W0, hW0, hle, k0⟩ : ∃ W0, w.alloc (.cells #[.bool false, .slice none 0 0, .bool false, .slice none 0 0, .bool false, .slice none 0 0, .bool false, .slice none 0 0] 28) = W0 ∧ Le w W0 ∧ W0.heap[w.heap.size]? = some (.cells #[.bool false, .slice none 0 0, .bool false, .slice none 0 0, .bool false, .slice none 0 0, .bool false, .slice none 0 0] 28) := ⟨_, rfl, le_alloc _ _, by unfold World.alloc; exact Array.getElem?_push_size⟩
  have hx1 := hx.le hle
  have kn1 := box_later hle kn
  have hs0 := hle.size
  have hbn := (Array.getElem?_eq_some_iff.1 kn).1
  clear kn
  obtain ⟨x1A, x1c, x1B, x1d, x2A, x2c, x2B, x2d, kx, hx2, hx3⟩ := hx1
  obtain ⟨ca0, ca1, ca2, ca3, ca4, ca5, ca6, ca7⟩ := cells8 kx
  have hin := pf_inTurn_ok x r _ W0 (IsTurnA.mk hx2 hx3) hr
  have hpw : powG x (m : Int) = outG (gpow r m) := powG_pos hr (by omega) (by omega)
  have hsz := True.intro
  have h2 : (-64 : Int) ≤ (m : Int) := by omega
  have h3 : (m : Int) ≤ 64 := by omega
  have h4 : ¬ (m : Int) < 0 := by omega
  · skip
    have hx' := Lib.hid hx
    have hle' := Lib.hid hle
    have k0' := Lib.hid k0
    have kx' := Lib.hid kx
    have hx2' := Lib.hid hx2
    have hx3' := Lib.hid hx3
    have hin' := Lib.hid hin
    have hr' := Lib.hid hr
    have hz2' := Lib.hid hz2
    have hsz' := Lib.hid hsz
    have hpw' := Lib.hid hpw
    clear hpw hsz hz2 hr hin hx3 hx2 kx k0 hle hx
    go_enter Tryz.func52, Tryz.ntmps52
    go_wp2_with (fail)
    clear hW0
    go_at_call 37
    refine hin'.out.mono ?_
    rintro e W1 ⟨v1, rfl, hle1, h1⟩
    obtain ⟨ps1, pA1, pn1, pc1, pB1, pm1, pd1, ps2, pA2, pn2, pc2, pB2, pm2, pd2, rfl, y1, y2⟩ := h1
    obtain ⟨V, hV, hle2, k5⟩ : ∃ V, W1.alloc (.cells #[.bool ps1, .slice pA1 pn1 pc1, .slice pB1 pm1 pd1, .bool ps2, .slice pA2 pn2 pc2, .slice pB2 pm2 pd2] 56) = V ∧ Le W1 V ∧ V.heap[W1.heap.size]? = some (.cells #[.bool ps1, .slice pA1 pn1 pc1, .slice pB1 pm1 pd1, .bool ps2, .slice pA2 pn2 pc2, .slice pB2 pm2 pd2] 56) := ⟨_, rfl, le_alloc _ _, by unfold World.alloc; exact Array.getElem?_push_size⟩
    have hle02 := hle1.trans hle2
    have hleV := hle'.out.trans hle02
    have k0V := box_later hle02 k0'.out
    have cn := cell00 (box_later hle02 kn1)
    have hv := TurnL.mk (g := r) (y1.le hle2) (y2.le hle2)
    obtain ⟨cp0, cp1, cp2, cp3, cp4, cp5⟩ := cells6 k5
    have hbn1 := (Array.getElem?_eq_some_iff.1 (box_later hle02 kn1)).1
    have hle1' := Lib.hid hle1
    have hle2' := Lib.hid hle2
    have k5' := Lib.hid k5
    have hle02' := Lib.hid hle02
    have hleV' := Lib.hid hleV
    have k0V' := Lib.hid k0V
    have hv' := Lib.hid hv
    have y1' := Lib.hid y1
    have y2' := Lib.hid y2
    clear y2 y1 hv k0V hleV hle02 k5 hle2 hle1
    go_wp2_with (fail)
    clear hV
    go_at_call 30
    refine (pf_must_ok 2 V).mono ?_
    rintro e W2 ⟨rfl, rfl⟩
    go_wp2_with (fail)
    go_at_call 54
    refine (pf_tpower r m _ V hv'.out hz2'.out hm).mono ?_
    rintro e W3 ⟨v3, rfl, hle3, h5⟩
    have h6 := h5
    obtain ⟨ts1, tA1, tn1, tc1, tB1, tm1, td1, ts2, tA2, tn2, tc2, tB2, tm2, td2, rfl, -, -⟩ := h5
    have k3 := box_later hle3 k0V'.out
    have hl3 := hleV'.out.trans hle3
    have hle3' := Lib.hid hle3
    have hl3' := Lib.hid hl3
    have h6' := Lib.hid h6
    have k3' := Lib.hid k3
    clear k3 h6 hl3 hle3
    rcases Classical.em (TSz (gpow r m) 40) with hs | hs
    · have hout := pf_outTurn_ok (gpow r m) _ W3 h6'.out hs
      have hout' := Lib.hid hout
      have hs' := Lib.hid hs
      clear hs hout
      go_wp2_with (fail)
      go_at_call 48
      refine hout'.out.mono ?_
      rintro e W8 ⟨v8, rfl, hle8, h8⟩
      obtain ⟨rs1, rA1, rn1, rc1, rt1, rB1, rm1, rd1, rs2, rA2, rn2, rc2, rt2, rB2, rm2, rd2, rfl, y1, y2⟩ := h8
      have k8 := box_later hle8 k3'.out
      have hl8 := hl3'.out.trans hle8
      have hle8' := Lib.hid hle8
      have y1' := Lib.hid y1
      have y2' := Lib.hid y2
      have hl8' := Lib.hid hl8
      clear hl8 y2 y1 hle8
      obtain ⟨z0, z1, z2, z3, z4, z5, z6, z7⟩ := cells8 k8
      have g0 := frozen00 k8 0
      have g1 := frozen00 k8 1
      have g2 := frozen00 k8 2
      have g3 := frozen00 k8 3
      have g4 := frozen00 k8 4
      have g5 := frozen00 k8 5
      have g6 := frozen00 k8 6
      have g7 := frozen00 k8 7
      have hle9 := fun u0 u1 u2 u3 u4 u5 u6 u7 => le_set8 (hl8'.out) (show w.heap.size ≤ w.heap.size by omega) u0 u1 u2 u3 u4 u5 u6 u7
      have hb9 := fun u0 u1 u2 u3 u4 u5 u6 u7 => cells8 (heap_set8 k8 u0 u1 u2 u3 u4 u5 u6 u7)
      simp only [set8] at hb9
      have hfin := fun u0 u1 u2 u3 u4 u5 u6 u7 => And.intro (y1'.out.touch (noInt8 k8) (touch_set8 W8 (w.heap.size) u0 u1 u2 u3 u4 u5 u6 u7)) (y2'.out.touch (noInt8 k8) (touch_set8 W8 (w.heap.size) u0 u1 u2 u3 u4 u5 u6 u7))
      have hle9' := Lib.hid hle9
      have hb9' := Lib.hid hb9
      have hfin' := Lib.hid hfin
      have k8' := Lib.hid k8
      clear k8 hfin hb9 hle9
      go_wp2
      obtain ⟨d0, d1, d2, d3, d4, d5, d6, d7⟩ := hb9'.out (.bool rs1) (.slice rA1 rn1 rc1) (.bool rt1) (.slice rB1 rm1 rd1) (.bool rs2) (.slice rA2 rn2 rc2) (.bool rt2) (.slice rB2 rm2 rd2)
      exact bodyPost_ret (v := .agg #[.bool rs1, .slice rA1 rn1 rc1, .bool rt1, .slice rB1 rm1 rd1, .bool rs2, .slice rA2 rn2 rc2, .bool rt2, .slice rB2 rm2 rd2]) (by simp [results, Tryz.results52, go_sem, d0, d1, d2, d3, d4, d5, d6, d7]) rfl ⟨hle9'.out _ _ _ _ _ _ _ _, .inl ⟨_, _, by rw [hpw'.out, outG_ok hs'.out], rfl, TurnF.mk (hfin'.out _ _ _ _ _ _ _ _).1 (hfin'.out _ _ _ _ _ _ _ _).2⟩⟩
    · have hout := pf_outTurn_no (gpow r m) _ W3 h6'.out hs
      have hout' := Lib.hid hout
      have hs' := Lib.hid hs
      clear hs hout
      go_wp2_with (fail)
      go_at_call 48
      refine hout'.out.mono ?_
      rintro e W8 ⟨rfl, hle8⟩
      go_wp2_with (fail)
      exact ⟨rfl, hl3'.out.trans hle8, .inr ⟨12, by rw [hpw'.out, outG_no hs'.out], rfl⟩⟩
set_option maxRecDepth 100000 in
set_option maxHeartbeats 4000000 in
theorem pf_Power1_zero (x : FracA × FracA) (r : G2) (m : Nat) (Bx Bn : Nat) (t : TypeId) (w : World) (hx : ABox w Bx x) (kn : w.heap[Bn]? = some (.cells #[.int .i64 (-(m : Int))] t)) (hr : tval x = some r) (hm0 : 0 < m) (hm : m ≤ 64) (hnz : gnorm r = 0) : Calls Tryz.prog 52 #[.pointer (some ⟨Bx, 0, none⟩), .pointer (some ⟨Bn, 0, none⟩)] w (OperPostT (powG x (-(m : Int))) w) := by
  obtain ⟨W0, hW0, hle, k0⟩ : ∃ W0, w.alloc (.cells #[.bool false, .slice none 0 0, .bool false, .slice none 0 0, .bool false, .slice none 0 0, .bool false, .slice none 0 0] 28) = W0 ∧ Le w W0 ∧ W0.heap[w.heap.size]? = some (.cells #[.bool false, .slice none 0 0, .bool false, .slice none 0 0, .bool false, .slice none 0 0, .bool false, .slice none 0 0] 28) := ⟨_, rfl, le_alloc _ _, by unfold World.alloc; exact Array.getElem?_push_size⟩
  have hx1 := hx.le hle
  have kn1 := box_later hle kn
  have hs0 := hle.size
  have hbn := (Array.getElem?_eq_some_iff.1 kn).1
  clear kn
  obtain ⟨x1A, x1c, x1B, x1d, x2A, x2c, x2B, x2d, kx, hx2, hx3⟩ := hx1
  obtain ⟨ca0, ca1, ca2, ca3, ca4, ca5, ca6, ca7⟩ := cells8 kx
  have hin := pf_inTurn_ok x r _ W0 (IsTurnA.mk hx2 hx3) hr
  have h2 : (-64 : Int) ≤ -(m : Int) := by omega
  have h3 : -(m : Int) ≤ 64 := by omega
  have h4 : -(m : Int) < 0 := by omega
  have hneg : -(-(m : Int)) = (m : Int) := by omega
  have hsz := True.intro
  have hpw : powG x (-(m : Int)) = .error 11 := powG_zero hr (by omega) (by omega) hnz
  have hdz := decide_eq_true hnz
  have hz2 := True.intro
  · skip
    have hx' := Lib.hid hx
    have hle' := Lib.hid hle
    have k0' := Lib.hid k0
    have kx' := Lib.hid kx
    have hx2' := Lib.hid hx2
    have hx3' := Lib.hid hx3
    have hin' := Lib.hid hin
    have hr' := Lib.hid hr
    have hz2' := Lib.hid hz2
    have hsz' := Lib.hid hsz
    have hpw' := Lib.hid hpw
    have hnz' := Lib.hid hnz
    have hneg' := Lib.hid hneg
    clear hneg hnz hpw hsz hz2 hr hin hx3 hx2 kx k0 hle hx
    go_enter Tryz.func52, Tryz.ntmps52
    go_wp2_with (fail)
    clear hW0
    go_at_call 37
    refine hin'.out.mono ?_
    rintro e W1 ⟨v1, rfl, hle1, h1⟩
    obtain ⟨ps1, pA1, pn1, pc1, pB1, pm1, pd1, ps2, pA2, pn2, pc2, pB2, pm2, pd2, rfl, y1, y2⟩ := h1
    obtain ⟨V, hV, hle2, k5⟩ : ∃ V, W1.alloc (.cells #[.bool ps1, .slice pA1 pn1 pc1, .slice pB1 pm1 pd1, .bool ps2, .slice pA2 pn2 pc2, .slice pB2 pm2 pd2] 56) = V ∧ Le W1 V ∧ V.heap[W1.heap.size]? = some (.cells #[.bool ps1, .slice pA1 pn1 pc1, .slice pB1 pm1 pd1, .bool ps2, .slice pA2 pn2 pc2, .slice pB2 pm2 pd2] 56) := ⟨_, rfl, le_alloc _ _, by unfold World.alloc; exact Array.getElem?_push_size⟩
    have hle02 := hle1.trans hle2
    have hleV := hle'.out.trans hle02
    have k0V := box_later hle02 k0'.out
    have cn := cell00 (box_later hle02 kn1)
    have hv := TurnL.mk (g := r) (y1.le hle2) (y2.le hle2)
    obtain ⟨cp0, cp1, cp2, cp3, cp4, cp5⟩ := cells6 k5
    have hbn1 := (Array.getElem?_eq_some_iff.1 (box_later hle02 kn1)).1
    have hle1' := Lib.hid hle1
    have hle2' := Lib.hid hle2
    have k5' := Lib.hid k5
    have hle02' := Lib.hid hle02
    have hleV' := Lib.hid hleV
    have k0V' := Lib.hid k0V
    have hv' := Lib.hid hv
    have y1' := Lib.hid y1
    have y2' := Lib.hid y2
    clear y2 y1 hv k0V hleV hle02 k5 hle2 hle1
    go_wp2_with (fail)
    clear hV
    go_at_call 30
    refine (pf_must_ok 2 V).mono ?_
    rintro e W2 ⟨rfl, rfl⟩
    go_wp2_with (fail)
    go_at_call 31
    refine (pf_tisZero r _ V hv'.out).mono ?_
    rintro e W4 ⟨rfl, hle4⟩
    rw [hdz]
    have hl4 := hleV'.out.trans hle4
    have hle4' := Lib.hid hle4
    have hl4' := Lib.hid hl4
    clear hl4 hle4
    go_wp2_with (fail)
    go_at_call 30
    refine (pf_must_no 11 W4).mono ?_
    rintro e W5 ⟨rfl, rfl⟩
    go_wp2_with (fail)
    exact ⟨rfl, hl4'.out, .inr ⟨11, hpw'.out, rfl⟩⟩
set_option maxRecDepth 100000 in
set_option maxHeartbeats 4000000 in
theorem pf_Power1_neg (x : FracA × FracA) (r : G2) (m : Nat) (Bx Bn : Nat) (t : TypeId) (w : World) (hx : ABox w Bx x) (kn : w.heap[Bn]? = some (.cells #[.int .i64 (-(m : Int))] t)) (hr : tval x = some r) (hz2 : TSz r 2) (hm0 : 0 < m) (hm : m ≤ 64) (hnz : gnorm r ≠ 0) : Calls Tryz.prog 52 #[.pointer (some ⟨Bx, 0, none⟩), .pointer (some ⟨Bn, 0, none⟩)] w (OperPostT (powG x (-(m : Int))) w) := by
  obtain ⟨W0, hW0, hle, k0⟩ : ∃ W0, w.alloc (.cells #[.bool false, .slice none 0 0, .bool false, .slice none 0 0, .bool false, .slice none 0 0, .bool false, .slice none 0 0] 28) = W0 ∧ Le w W0 ∧ W0.heap[w.heap.size]? = some (.cells #[.bool false, .slice none 0 0, .bool false, .slice none 0 0, .bool false, .slice none 0 0, .bool false, .slice none 0 0] 28) := ⟨_, rfl, le_alloc _ _, by unfold World.alloc; exact Array.getElem?_push_size⟩
  have hx1 := hx.le hle
  have kn1 := box_later hle kn
  have hs0 := hle.size
  have hbn := (Array.getElem?_eq_some_iff.1 kn).1
  clear kn
  obtain ⟨x1A, x1c, x1B, x1d, x2A, x2c, x2B, x2d, kx, hx2, hx3⟩ := hx1
  obtain ⟨ca0, ca1, ca2, ca3, ca4, ca5, ca6, ca7⟩ := cells8 kx
  have hin := pf_inTurn_ok x r _ W0 (IsTurnA.mk hx2 hx3) hr
  have h2 : (-64 : Int) ≤ -(m : Int) := by omega
  have h3 : -(m : Int) ≤ 64 := by omega
  have h4 : -(m : Int) < 0 := by omega
  have hneg : -(-(m : Int)) = (m : Int) := by omega
  have hsz := True.intro
  have hnp := gnorm_pow hnz m
  have hgi : gpow (ginv r) m = gdiv gone (gpow r m) := by rw [gpow_inv hnz m, gdiv_eq hnp, one_gmul]
  have hpw : powG x (-(m : Int)) = outG (gdiv gone (gpow r m)) := by
    rw [powG_neg hr (by omega) (by omega) hnz, show (-(m : Int)).natAbs = m by omega, hgi]
  have hdz := decide_eq_false hnz
  have hs1 : TSz gone 100000 := (show TSz (gpow r 0) 650 from pow_sz hz2 (by decide)).up (by decide)
  have hs2 : TSz (gpow r m) 100000 := (pow_sz hz2 (by omega)).up (by decide)
  · skip
    have hx' := Lib.hid hx
    have hle' := Lib.hid hle
    have k0' := Lib.hid k0
    have kx' := Lib.hid kx
    have hx2' := Lib.hid hx2
    have hx3' := Lib.hid hx3
    have hin' := Lib.hid hin
    have hr' := Lib.hid hr
    have hz2' := Lib.hid hz2
    have hsz' := Lib.hid hsz
    have hpw' := Lib.hid hpw
    have hnz' := Lib.hid hnz
    have hgi' := Lib.hid hgi
    have hnp' := Lib.hid hnp
    have hs1' := Lib.hid hs1
    have hs2' := Lib.hid hs2
    clear hs2 hs1 hnp hgi hnz hpw hsz hz2 hr hin hx3 hx2 kx k0 hle hx
    go_enter Tryz.func52, Tryz.ntmps52
    go_wp2_with (fail)
    clear hW0
    go_at_call 37
    refine hin'.out.mono ?_
    rintro e W1 ⟨v1, rfl, hle1, h1⟩
    obtain ⟨ps1, pA1, pn1, pc1, pB1, pm1, pd1, ps2, pA2, pn2, pc2, pB2, pm2, pd2, rfl, y1, y2⟩ := h1
    obtain ⟨V, hV, hle2, k5⟩ : ∃ V, W1.alloc (.cells #[.bool ps1, .slice pA1 pn1 pc1, .slice pB1 pm1 pd1, .bool ps2, .slice pA2 pn2 pc2, .slice pB2 pm2 pd2] 56) = V ∧ Le W1 V ∧ V.heap[W1.heap.size]? = some (.cells #[.bool ps1, .slice pA1 pn1 pc1, .slice pB1 pm1 pd1, .bool ps2, .slice pA2 pn2 pc2, .slice pB2 pm2 pd2] 56) := ⟨_, rfl, le_alloc _ _, by unfold World.alloc; exact Array.getElem?_push_size⟩
    have hle02 := hle1.trans hle2
    have hleV := hle'.out.trans hle02
    have k0V := box_later hle02 k0'.out
    have cn := cell00 (box_later hle02 kn1)
    have hv := TurnL.mk (g := r) (y1.le hle2) (y2.le hle2)
    obtain ⟨cp0, cp1, cp2, cp3, cp4, cp5⟩ := cells6 k5
    have hbn1 := (Array.getElem?_eq_some_iff.1 (box_later hle02 kn1)).1
    have hle1' := Lib.hid hle1
    have hle2' := Lib.hid hle2
    have k5' := Lib.hid k5
    have hle02' := Lib.hid hle02
    have hleV' := Lib.hid hleV
    have k0V' := Lib.hid k0V
    have hv' := Lib.hid hv
    have y1' := Lib.hid y1
    have y2' := Lib.hid y2
    clear y2 y1 hv k0V hleV hle02 k5 hle2 hle1
    go_wp2_with (fail)
    clear hV
    go_at_call 30
    refine (pf_must_ok 2 V).mono ?_
    rintro e W2 ⟨rfl, rfl⟩
    go_wp2_with (fail)
    go_at_call 31
    refine (pf_tisZero r _ V hv'.out).mono ?_
    rintro e W4 ⟨rfl, hle4⟩
    rw [hdz]
    have hl4 := hleV'.out.trans hle4
    have k0W := box_later hle4 k0V'.out
    have hl0 := (Array.getElem?_eq_some_iff.1 k0W).1
    have k5W := box_later hle4 k5'.out
    have hl5 := (Array.getElem?_eq_some_iff.1 k5W).1
    have hs4 := hle4.size
    have hv4 := hv'.out.le hle4
    have cn0 := cell00 (box_later hle4 (box_later hle02'.out kn1))
    obtain ⟨cq0, cq1, cq2, cq3, cq4, cq5⟩ := cells6 k5W
    have hle4' := Lib.hid hle4
    have hl4' := Lib.hid hl4
    have k0W' := Lib.hid k0W
    have k5W' := Lib.hid k5W
    have hv4' := Lib.hid hv4
    clear hv4 k5W k0W hl4 hle4
    go_wp2_with (fail)
    go_at_call 30
    refine (pf_must_ok 11 W4).mono ?_
    rintro e W5 ⟨rfl, rfl⟩
    clear cp0 cp1 cp2 cp3 cp4 cp5
    go_wp2_with (fail)
    refine wp_region_monoL (R := leRel) 7 [some 19, some 20, some 21, some 22, some 23, some 24, some 25, none] [[], [], [], [2], [1, 3], [0, 4], [5], [6]]
      [MPred.turn .u32 (gone), .eq (.agg #[.bool ps1, .slice pA1 pn1 pc1, .slice pB1 pm1 pd1, .bool ps2, .slice pA2 pn2 pc2, .slice pB2 pm2 pd2]), .eq (.int .i64 (-(m : Int))), .eq (.int .i64 (m : Int)), MPred.turn .u32 (gpow r m), MPred.turn .u32 (gdiv gone (gpow r m)), MPred.turnFO (gdiv gone (gpow r m))] (fun ch W => ch = flt 12 ∧ ¬ TSz (gdiv gone (gpow r m)) 40 ∧ Le W4 W) (by kernel_rfl) (by kernel_rfl) (by kernel_rfl) (by kernel_rfl) ?_ (by rintro a9 ch W hdf - ⟨rfl, hbad, hle9⟩; exact ⟨hdf, hl4'.out.trans hle9, .inr ⟨12, by rw [hpw'.out, outG_no hbad], rfl⟩⟩) ?_
    · simp only [List.take_succ_cons, List.take_zero]
      refine monoSteps_cons ?_ (monoSteps_cons ?_ (monoSteps_cons ?_ (monoSteps_cons ?_ (monoSteps_cons ?_ (monoSteps_cons ?_ (monoSteps_cons ?_ (monoSteps_nil)))))))
      · refine monoStep_list rfl fun xv W hR hf Q hK hP => ?_
        simp only [fillAct, List.getD_cons_succ, List.getD_cons_zero, Act.put, List.setIfInBounds_toArray, List.set_cons_succ, List.set_cons_zero] at hK ⊢
        go_wp2_with (fail)
        go_at_call 53
        refine (pf_unit W).mono ?_
        rintro e w' ⟨v', rfl, y1, y2⟩
        obtain ⟨zs1, zA1, zn1, zc1, zB1, zm1, zd1, zs2, zA2, zn2, zc2, zB2, zm2, zd2, qz⟩ := y2.form
        subst qz
        have y2' := Lib.hid y2
        clear y2
        go_wp2
        exact hK _ _ y1 y2'.out
      · refine monoStep_list rfl fun xv W hR hf Q hK hP => ?_
        have cc0 := (Below.cell hR (p := ⟨W1.heap.size, 0, none⟩) (by show W1.heap.size < W4.heap.size; omega)).trans cq0
        have cc1 := (Below.cell hR (p := ⟨W1.heap.size, 1, none⟩) (by show W1.heap.size < W4.heap.size; omega)).trans cq1
        have cc2 := (Below.cell hR (p := ⟨W1.heap.size, 2, none⟩) (by show W1.heap.size < W4.heap.size; omega)).trans cq2
        have cc3 := (Below.cell hR (p := ⟨W1.heap.size, 3, none⟩) (by show W1.heap.size < W4.heap.size; omega)).trans cq3
        have cc4 := (Below.cell hR (p := ⟨W1.heap.size, 4, none⟩) (by show W1.heap.size < W4.heap.size; omega)).trans cq4
        have cc5 := (Below.cell hR (p := ⟨W1.heap.size, 5, none⟩) (by show W1.heap.size < W4.heap.size; omega)).trans cq5
        simp only [fillAct, List.getD_cons_succ, List.getD_cons_zero, Act.put, List.setIfInBounds_toArray, List.set_cons_succ, List.set_cons_zero] at hK ⊢
        go_wp2
        exact hK _ _ (leRel.refl _) rfl
      · refine monoStep_list rfl fun xv W hR hf Q hK hP => ?_
        have cc0 := (Below.cell hR (p := ⟨Bn, 0, none⟩) (by show Bn < W4.heap.size; omega)).trans cn0
        simp only [fillAct, List.getD_cons_succ, List.getD_cons_zero, Act.put, List.setIfInBounds_toArray, List.set_cons_succ, List.set_cons_zero] at hK ⊢
        go_wp2
        exact hK _ _ (leRel.refl _) rfl
      · refine monoStep_list rfl fun xv W hR hf Q hK hP => ?_
        obtain ⟨e0, -⟩ := hf
        change _ = _ at e0
        simp only [fillAct, List.getD_cons_succ, List.getD_cons_zero, Act.put, List.setIfInBounds_toArray, List.set_cons_succ, List.set_cons_zero, e0] at hK ⊢
        go_wp2
        exact hK _ _ (leRel.refl _) rfl
      · refine monoStep_list rfl fun xv W hR hf Q hK hP => ?_
        obtain ⟨e0, e1, -⟩ := hf
        change _ = _ at e0 e1
        simp only [fillAct, List.getD_cons_succ, List.getD_cons_zero, Act.put, List.setIfInBounds_toArray, List.set_cons_succ, List.set_cons_zero, e0, e1] at hK ⊢
        go_wp2_with (fail)
        go_at_call 54
        refine (pf_tpower r m _ W (hv4'.out.le hR) hz2'.out hm).mono ?_
        rintro e w' ⟨v', rfl, y1, y2⟩
        obtain ⟨zs1, zA1, zn1, zc1, zB1, zm1, zd1, zs2, zA2, zn2, zc2, zB2, zm2, zd2, qz⟩ := y2.form
        subst qz
        have y2' := Lib.hid y2
        clear y2
        go_wp2
        exact hK _ _ y1 y2'.out
      · refine monoStep_list rfl fun xv W hR hf Q hK hP => ?_
        obtain ⟨e0, e1, -⟩ := hf
        replace e0 : TurnL .u32 W (xv 0) (gone) := e0
        replace e1 : TurnL .u32 W (xv 4) (gpow r m) := e1
        simp only [fillAct, List.getD_cons_succ, List.getD_cons_zero, Act.put, List.setIfInBounds_toArray, List.set_cons_succ, List.set_cons_zero] at hK ⊢
        go_wp2_with (fail)
        go_at_call 32
        refine (pf_tover gone (gpow r m) _ _ W e0 e1 hs1'.out hs2'.out hnp'.out).mono ?_
        rintro e w' ⟨v', rfl, y1, y2⟩
        obtain ⟨zs1, zA1, zn1, zc1, zB1, zm1, zd1, zs2, zA2, zn2, zc2, zB2, zm2, zd2, qz⟩ := y2.form
        subst qz
        have y2' := Lib.hid y2
        clear y2
        go_wp2
        exact hK _ _ y1 y2'.out
      · refine monoStep_list rfl fun xv W hR hf Q hK hP => ?_
        obtain ⟨e0, -⟩ := hf
        replace e0 : TurnL .u32 W (xv 5) (gdiv gone (gpow r m)) := e0
        simp only [fillAct, List.getD_cons_succ, List.getD_cons_zero, Act.put, List.setIfInBounds_toArray, List.set_cons_succ, List.set_cons_zero] at hK ⊢
        rcases Classical.em (TSz (gdiv gone (gpow r m)) 40) with hs | hs
        · have hcall := pf_outTurn_ok (gdiv gone (gpow r m)) _ W e0 hs
          have hcall' := Lib.hid hcall
          have hR' := Lib.hid hR
          have hs' := Lib.hid hs
          clear hs hR hcall
          go_wp2_with (fail)
          go_at_call 48
          refine hcall'.out.mono ?_
          rintro e w' ⟨v', rfl, y1, y2⟩
          have y3 := y2
          obtain ⟨zs1, zA1, zn1, zc1, zt1, zB1, zm1, zd1, zs2, zA2, zn2, zc2, zt2, zB2, zm2, zd2, qz, -, -⟩ := y3
          subst qz
          have y2' := Lib.hid y2
          clear y2
          go_wp2
          exact hK _ _ y1 ⟨hs'.out, y2'.out⟩
        · have hcall := pf_outTurn_no (gdiv gone (gpow r m)) _ W e0 hs
          have hcall' := Lib.hid hcall
          have hR' := Lib.hid hR
          have hs' := Lib.hid hs
          clear hs hR hcall
          go_wp2_with (fail)
          go_at_call 48
          refine hcall'.out.mono ?_
          rintro e w' ⟨rfl, y1⟩
          go_wp2_with (fail)
          exact hP _ _ _ (Le.trans hR'.out y1) ⟨rfl, hs'.out, hR'.out.trans y1⟩
    · intro xv W hR hf Q' hQ1 _
      have eL : TSz (gdiv gone (gpow r m)) 40 ∧ TurnF W (xv 6) (gdiv gone (gpow r m)) := hf 6 (by decide)
      obtain ⟨hg, rs1, rA1, rn1, rc1, rt1, rB1, rm1, rd1, rs2, rA2, rn2, rc2, rt2, rB2, rm2, rd2, qL, y1, y2⟩ := eL
      have kW := (Below.block hR (w.heap.size) (by omega)).trans k0W'.out
      obtain ⟨z0, z1, z2, z3, z4, z5, z6, z7⟩ := cells8 kW
      have g0 := frozen00 kW 0
      have g1 := frozen00 kW 1
      have g2 := frozen00 kW 2
      have g3 := frozen00 kW 3
      have g4 := frozen00 kW 4
      have g5 := frozen00 kW 5
      have g6 := frozen00 kW 6
      have g7 := frozen00 kW 7
      simp only [List.drop_succ_cons, List.drop_zero]
      rw [show List.range 7 = [0, 1, 2, 3, 4, 5, 6] from rfl]
      simp only [fillAct, List.getD_cons_succ, List.getD_cons_zero, Act.put, List.setIfInBounds_toArray, List.set_cons_succ, List.set_cons_zero, qL]
      have hle9 := fun u0 u1 u2 u3 u4 u5 u6 u7 => le_set8 (Le.trans hl4'.out hR) (show w.heap.size ≤ w.heap.size by omega) u0 u1 u2 u3 u4 u5 u6 u7
      have hb9 := fun u0 u1 u2 u3 u4 u5 u6 u7 => cells8 (heap_set8 kW u0 u1 u2 u3 u4 u5 u6 u7)
      simp only [set8] at hb9
      have hfin := fun u0 u1 u2 u3 u4 u5 u6 u7 => And.intro (y1.touch (noInt8 kW) (touch_set8 W (w.heap.size) u0 u1 u2 u3 u4 u5 u6 u7)) (y2.touch (noInt8 kW) (touch_set8 W (w.heap.size) u0 u1 u2 u3 u4 u5 u6 u7))
      have hle9' := Lib.hid hle9
      have hb9' := Lib.hid hb9
      have hfin' := Lib.hid hfin
      have kW' := Lib.hid kW
      have y1' := Lib.hid y1
      have y2' := Lib.hid y2
      have qL' := Lib.hid qL
      have hR' := Lib.hid hR
      clear hR qL y2 y1 kW hfin hb9 hle9
      have hg' := Lib.hid hg
      clear hg
      go_wp2
      refine hQ1 _ _ ?_
      go_wp2
      obtain ⟨d0, d1, d2, d3, d4, d5, d6, d7⟩ := hb9'.out (.bool rs1) (.slice rA1 rn1 rc1) (.bool rt1) (.slice rB1 rm1 rd1) (.bool rs2) (.slice rA2 rn2 rc2) (.bool rt2) (.slice rB2 rm2 rd2)
      exact bodyPost_ret (v := .agg #[.bool rs1, .slice rA1 rn1 rc1, .bool rt1, .slice rB1 rm1 rd1, .bool rs2, .slice rA2 rn2 rc2, .bool rt2, .slice rB2 rm2 rd2]) (by simp [results, Tryz.results52, go_sem, d0, d1, d2, d3, d4, d5, d6, d7]) rfl ⟨hle9'.out _ _ _ _ _ _ _ _, .inl ⟨_, _, by rw [hpw'.out, outG_ok hg'.out], rfl, TurnF.mk (hfin'.out _ _ _ _ _ _ _ _).1 (hfin'.out _ _ _ _ _ _ _ _).2⟩⟩
set_option maxRecDepth 100000 in
set_option maxHeartbeats 4000000 in
theorem pf_Power1 (x : FracA × FracA) (n : Int) (Bx Bn : Nat) (t : TypeId) (w : World) (hx : ABox w Bx x) (kn : w.heap[Bn]? = some (.cells #[.int .i64 n] t)) (hz : ∀ g, tval x = some g → TSz g 2) : Calls Tryz.prog 52 #[.pointer (some ⟨Bx, 0, none⟩), .pointer (some ⟨Bn, 0, none⟩)] w (OperPostT (powG x n) w) := by
  rcases tval_cases x with ⟨r, hr⟩ | hr
  · by_cases hfar : n < -64 ∨ 64 < n
    · exact pf_Power1_far x r n Bx Bn t w hx kn hr hfar
    · by_cases h0 : n < 0
      · obtain ⟨m, rfl⟩ : ∃ m : Nat, n = -(m : Int) := ⟨n.natAbs, by omega⟩
        by_cases hnz : gnorm r = 0
        · exact pf_Power1_zero x r m Bx Bn t w hx kn hr (by omega) (by omega) hnz
        · exact pf_Power1_neg x r m Bx Bn t w hx kn hr (hz r hr) (by omega) (by omega) hnz
      · obtain ⟨m, rfl⟩ : ∃ m : Nat, n = (m : Int) := ⟨n.natAbs, by omega⟩
        exact pf_Power1_pos x r m Bx Bn t w hx kn hr (hz r hr) (by omega)
  · exact pf_Power1_none x n Bx Bn t w hx kn hr
set_option maxRecDepth 100000 in
set_option maxHeartbeats 4000000 in
theorem pf_Power (x : FracA × FracA) (n : Int) (v : Value) (w : World) (hv : IsTurnA w v x) (hz : ∀ g, tval x = some g → TSz g 2) : Calls Tryz.prog 19 #[v, .int .i64 n] w (ResPostT (powG x n) w) := by
  obtain ⟨x1A, x1c, x1B, x1d, x2A, x2c, x2B, x2d, rfl, p1, p2⟩ := hv
  obtain ⟨W0, hW0, hsz, hle, k0, k1, k2⟩ := new3_le w (.cells #[.bool x.1.sn, .slice x1A x.1.gn.length x1c, .bool x.1.sd, .slice x1B x.1.gd.length x1d, .bool x.2.sn, .slice x2A x.2.gn.length x2c, .bool x.2.sd, .slice x2B x.2.gd.length x2d] 28) (.cells #[.int .i64 n] 3) (.cells #[.bool false, .slice none 0 0, .bool false, .slice none 0 0, .bool false, .slice none 0 0, .bool false, .slice none 0 0] 28)
  have hbx : ABox W0 w.heap.size x := ⟨_, _, _, _, _, _, _, _, k0, p1.le hle, p2.le hle⟩
  have hmf : ∀ (fn : Fn) (first cap : Array Value) (w : World), (Instr.makeFunc fn first cap).run Tryz.prog w = .ok (.func fn first cap) w := fun _ _ _ _ => rfl
  have hrun := pf_run_aturn (powG x n) 52 #[.pointer (some ⟨w.heap.size, 0, none⟩), .pointer (some ⟨w.heap.size + 1, 0, none⟩)] W0 plain_Power1 fun W hW => pf_Power1 x n _ _ _ W (hbx.le hW) (box_later hW k1) hz
  have hle' := Lib.hid hle
  have k0' := Lib.hid k0
  have k1' := Lib.hid k1
  have k2' := Lib.hid k2
  have hbx' := Lib.hid hbx
  have p1' := Lib.hid p1
  have p2' := Lib.hid p2
  have hrun' := Lib.hid hrun
  have hz' := Lib.hid hz
  clear hz hrun p2 p1 hbx k2 k1 k0 hle
  go_enter Tryz.func19, Tryz.ntmps19
  go_wp2_with (fail)
  clear hW0
  go_at_call 45
  refine hrun'.out.mono ?_
  rintro e W1 ⟨hle1, v1, cc, rfl, hres⟩
  have hres0 := hres
  obtain ⟨rs1, rA1, rn1, rc1, rt1, rB1, rm1, rd1, rs2, rA2, rn2, rc2, rt2, rB2, rm2, rd2, rfl⟩ := hres.form
  have k9 := box_later hle1 k2'.out
  have hl9 := hle'.out.trans hle1
  have hle1' := Lib.hid hle1
  have hres' := Lib.hid hres
  have hres0' := Lib.hid hres0
  have hl9' := Lib.hid hl9
  clear hl9 hres0 hres hle1
  obtain ⟨z0, z1, z2, z3, z4, z5, z6, z7⟩ := cells8 k9
  have g0 := frozen00 k9 0
  have g1 := frozen00 k9 1
  have g2 := frozen00 k9 2
  have g3 := frozen00 k9 3
  have g4 := frozen00 k9 4
  have g5 := frozen00 k9 5
  have g6 := frozen00 k9 6
  have g7 := frozen00 k9 7
  have hle9 := fun u0 u1 u2 u3 u4 u5 u6 u7 => le_set8 (hl9'.out) (show w.heap.size ≤ w.heap.size + 1 + 1 by omega) u0 u1 u2 u3 u4 u5 u6 u7
  have hb9 := fun u0 u1 u2 u3 u4 u5 u6 u7 => cells8 (heap_set8 k9 u0 u1 u2 u3 u4 u5 u6 u7)
  simp only [set8] at hb9
  have hfin := fun u0 u1 u2 u3 u4 u5 u6 u7 => hres'.out.touch (noInt8 k9) (touch_set8 W1 (w.heap.size + 1 + 1) u0 u1 u2 u3 u4 u5 u6 u7)
  have hle9' := Lib.hid hle9
  have hb9' := Lib.hid hb9
  have hfin' := Lib.hid hfin
  have k9' := Lib.hid k9
  clear k9 hfin hb9 hle9
  go_wp2
  obtain ⟨d0, d1, d2, d3, d4, d5, d6, d7⟩ := hb9'.out (.bool rs1) (.slice rA1 rn1 rc1) (.bool rt1) (.slice rB1 rm1 rd1) (.bool rs2) (.slice rA2 rn2 rc2) (.bool rt2) (.slice rB2 rm2 rd2)
  exact bodyPost_ret (v := .tuple #[.agg #[.bool rs1, .slice rA1 rn1 rc1, .bool rt1, .slice rB1 rm1 rd1, .bool rs2, .slice rA2 rn2 rc2, .bool rt2, .slice rB2 rm2 rd2], .int .i64 cc]) (by simp [results, Tryz.results19, go_sem, d0, d1, d2, d3, d4, d5, d6, d7]) rfl ⟨hle9'.out _ _ _ _ _ _ _ _, _, _, rfl, hfin'.out _ _ _ _ _ _ _ _⟩
end Go.Proofs.YtpjmbgfggonhhaaGreat
