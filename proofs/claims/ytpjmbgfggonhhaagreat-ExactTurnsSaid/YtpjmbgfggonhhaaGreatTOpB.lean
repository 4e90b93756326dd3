/- exact, turning numbers: CheckTurn, Norm. exact, turning numbers: Around. -/
import Derived.Test.YtpjmbgfggonhhaaGreatTOpA
import Derived.Test.YtpjmbgfggonhhaaGreatOper2
import Derived.Test.YtpjmbgfggonhhaaGreatTrnA
namespace Go.Proofs.YtpjmbgfggonhhaaGreat
open Go.RowKit Go.Shelf
set_option linter.unusedVariables false
set_option linter.unusedSimpArgs false
theorem plain_CheckTurn1 : Plain Tryz.prog 36 := fun _ _ => by kernel_rfl
set_option maxRecDepth 100000 in
set_option maxHeartbeats 4000000 in
theorem pf_CheckTurn1_ok (x : FracA × FracA) (B : Nat) (w : World) (hx : ABox w B x) (r : G2) (hr : tval x = some r) : Calls Tryz.prog 36 #[.pointer (some ⟨B, 0, none⟩)] w fun e w' => ∃ v, e = .returned v ∧ Le w w' ∧ TForm v := by
  obtain ⟨W0, hW0, hle, k0⟩ : ∃ W0, w.alloc (.cells #[.bool false, .slice none 0 0, .slice none 0 0, .bool false, .slice none 0 0, .slice none 0 0] 56) = W0 ∧ Le w W0 ∧ W0.heap[w.heap.size]? = some (.cells #[.bool false, .slice none 0 0, .slice none 0 0, .bool false, .slice none 0 0, .slice none 0 0] 56) := ⟨_, rfl, le_alloc _ _, by unfold World.alloc; exact Array.getElem?_push_size⟩
  have hx1 := hx.le hle
  obtain ⟨x1A, x1c, x1B, x1d, x2A, x2c, x2B, x2d, kx, hx2, hx3⟩ := hx1
  obtain ⟨ca0, ca1, ca2, ca3, ca4, ca5, ca6, ca7⟩ := cells8 kx
  have hin := pf_inTurn_ok x r _ W0 (IsTurnA.mk hx2 hx3) hr
  have hx' := Lib.hid hx
  have hle' := Lib.hid hle
  have k0' := Lib.hid k0
  have kx' := Lib.hid kx
  have hx2' := Lib.hid hx2
  have hx3' := Lib.hid hx3
  have hin' := Lib.hid hin
  have hr' := Lib.hid hr
  clear hr hin hx3 hx2 kx k0 hle hx
  go_enter Tryz.func36, Tryz.ntmps36
  go_wp2_with (fail)
  clear hW0
  go_at_call 37
  refine hin'.out.mono ?_
  rintro e W1 ⟨v1, rfl, hle1, h1⟩
  obtain ⟨rs1, rA1, rn1, rc1, rB1, rm1, rd1, rs2, rA2, rn2, rc2, rB2, rm2, rd2, rfl, y1, y2⟩ := h1
  have k1 := box_later hle1 k0'.out
  have hl1 := hle'.out.trans hle1
  have hle1' := Lib.hid hle1
  have hl1' := Lib.hid hl1
  have y1' := Lib.hid y1
  have y2' := Lib.hid y2
  clear y2 y1 hl1 hle1
  obtain ⟨z0, z1, z2, z3, z4, z5⟩ := cells6 k1
  have g0 := frozen00 k1 0
  have g1 := frozen00 k1 1
  have g2 := frozen00 k1 2
  have g3 := frozen00 k1 3
  have g4 := frozen00 k1 4
  have g5 := frozen00 k1 5
  have hle9 := fun u0 u1 u2 u3 u4 u5 => le_set6 (hl1'.out) (show w.heap.size ≤ w.heap.size by omega) u0 u1 u2 u3 u4 u5
  have hb9 := fun u0 u1 u2 u3 u4 u5 => cells6 (heap_set6 k1 u0 u1 u2 u3 u4 u5)
  simp only [set6] at hb9
  have hfin := fun u0 u1 u2 u3 u4 u5 => And.intro (y1'.out.touch (noInt6 k1) (touch_set6 W1 (w.heap.size) u0 u1 u2 u3 u4 u5)) (y2'.out.touch (noInt6 k1) (touch_set6 W1 (w.heap.size) u0 u1 u2 u3 u4 u5))
  have hle9' := Lib.hid hle9
  have hb9' := Lib.hid hb9
  have hfin' := Lib.hid hfin
  have k1' := Lib.hid k1
  clear k1 hfin hb9 hle9
  go_wp2
  obtain ⟨d0, d1, d2, d3, d4, d5⟩ := hb9'.out (.bool rs1) (.slice rA1 rn1 rc1) (.slice rB1 rm1 rd1) (.bool rs2) (.slice rA2 rn2 rc2) (.slice rB2 rm2 rd2)
  exact bodyPost_ret (v := .agg #[.bool rs1, .slice rA1 rn1 rc1, .slice rB1 rm1 rd1, .bool rs2, .slice rA2 rn2 rc2, .slice rB2 rm2 rd2]) (by simp [results, Tryz.results36, go_sem, d0, d1, d2, d3, d4, d5]) rfl ⟨_, rfl, hle9'.out _ _ _ _ _ _, _, _, _, _, _, _, _, _, _, _, _, _, _, _, rfl⟩
set_option maxRecDepth 100000 in
set_option maxHeartbeats 4000000 in
theorem pf_CheckTurn1_no (x : FracA × FracA) (B : Nat) (w : World) (hx : ABox w B x) (hr : tval x = none) : Calls Tryz.prog 36 #[.pointer (some ⟨B, 0, none⟩)] w fun e w' => e = .panicked (flt 10) ∧ Le w w' := by
  obtain ⟨W0, hW0, hle, k0⟩ : ∃ W0, w.alloc (.cells #[.bool false, .slice none 0 0, .slice none 0 0, .bool false, .slice none 0 0, .slice none 0 0] 56) = W0 ∧ Le w W0 ∧ W0.heap[w.heap.size]? = some (.cells #[.bool false, .slice none 0 0, .slice none 0 0, .bool false, .slice none 0 0, .slice none 0 0] 56) := ⟨_, rfl, le_alloc _ _, by unfold World.alloc; exact Array.getElem?_push_size⟩
  have hx1 := hx.le hle
  obtain ⟨x1A, x1c, x1B, x1d, x2A, x2c, x2B, x2d, kx, hx2, hx3⟩ := hx1
  obtain ⟨ca0, ca1, ca2, ca3, ca4, ca5, ca6, ca7⟩ := cells8 kx
  have hin := pf_inTurn_no x _ W0 (IsTurnA.mk hx2 hx3) hr
  have hx' := Lib.hid hx
  have hle' := Lib.hid hle
  have k0' := Lib.hid k0
  have kx' := Lib.hid kx
  have hx2' := Lib.hid hx2
  have hx3' := Lib.hid hx3
  have hin' := Lib.hid hin
  have hr' := Lib.hid hr
  clear hr hin hx3 hx2 kx k0 hle hx
  go_enter Tryz.func36, Tryz.ntmps36
  go_wp2_with (fail)
  clear hW0
  go_at_call 37
  refine hin'.out.mono ?_
  rintro e W1 ⟨rfl, hle1⟩
  have hl1 := hle'.out.trans hle1
  have hle1' := Lib.hid hle1
  have hl1' := Lib.hid hl1
  clear hl1 hle1
  go_wp2_with (fail)
  exact ⟨rfl, rfl, hl1'.out⟩
set_option maxRecDepth 100000 in
set_option maxHeartbeats 4000000 in
theorem pf_CheckTurn (x : FracA × FracA) (v : Value) (w : World) (hv : IsTurnA w v x) : Calls Tryz.prog 11 #[v] w fun e w' => e = .returned (.int .i64 (okE (tval x).isSome)) ∧ Le w w' := by
  obtain ⟨x1A, x1c, x1B, x1d, x2A, x2c, x2B, x2d, rfl, p1, p2⟩ := hv
  obtain ⟨W0, hW0, hle, k0⟩ : ∃ W0, w.alloc (.cells #[.bool x.1.sn, .slice x1A x.1.gn.length x1c, .bool x.1.sd, .slice x1B x.1.gd.length x1d, .bool x.2.sn, .slice x2A x.2.gn.length x2c, .bool x.2.sd, .slice x2B x.2.gd.length x2d] 28) = W0 ∧ Le w W0 ∧ W0.heap[w.heap.size]? = some (.cells #[.bool x.1.sn, .slice x1A x.1.gn.length x1c, .bool x.1.sd, .slice x1B x.1.gd.length x1d, .bool x.2.sn, .slice x2A x.2.gn.length x2c, .bool x.2.sd, .slice x2B x.2.gd.length x2d] 28) := ⟨_, rfl, le_alloc _ _, by unfold World.alloc; exact Array.getElem?_push_size⟩
  have hbx : ABox W0 w.heap.size x := ⟨_, _, _, _, _, _, _, _, k0, p1.le hle, p2.le hle⟩
  have hmf : ∀ (fn : Fn) (first cap : Array Value) (w : World), (Instr.makeFunc fn first cap).run Tryz.prog w = .ok (.func fn first cap) w := fun _ _ _ _ => rfl
  rcases tval_cases x with ⟨r, hr⟩ | hr
  · have he : okE (tval x).isSome = 0 := by rw [hr]; rfl
    rw [he]
    have hrun := pf_run_turn_ok 36 #[.pointer (some ⟨w.heap.size, 0, none⟩)] W0 plain_CheckTurn1 fun W hW => pf_CheckTurn1_ok x w.heap.size W (hbx.le hW) r hr
    have hle' := Lib.hid hle
    have k0' := Lib.hid k0
    have hbx' := Lib.hid hbx
    have p1' := Lib.hid p1
    have p2' := Lib.hid p2
    have hrun' := Lib.hid hrun
    have hr' := Lib.hid hr
    have he' := Lib.hid he
    clear he hr hrun p2 p1 hbx k0 hle
    go_enter Tryz.func11, Tryz.ntmps11
    go_wp2_with (fail)
    clear hW0
    go_at_call 35
    refine hrun'.out.mono ?_
    rintro e W1 ⟨v1, rfl, hle1, ⟨rs1, rA1, rn1, rc1, rB1, rm1, rd1, rs2, rA2, rn2, rc2, rB2, rm2, rd2, rfl⟩⟩
    have hle2 := (hle'.out.trans hle1).trans (le_alloc W1 (.cells #[.bool rs1, .slice rA1 rn1 rc1, .slice rB1 rm1 rd1, .bool rs2, .slice rA2 rn2 rc2, .slice rB2 rm2 rd2] 56))
    have hle1' := Lib.hid hle1
    have hle2' := Lib.hid hle2
    clear hle2 hle1
    go_wp2
    go_ret
    exact ⟨rfl, hle2'.out⟩
  · have he : okE (tval x).isSome = 10 := by rw [hr]; rfl
    rw [he]
    have hrun := pf_run_turn_err 10 36 #[.pointer (some ⟨w.heap.size, 0, none⟩)] W0 plain_CheckTurn1 fun W hW => pf_CheckTurn1_no x w.heap.size W (hbx.le hW) hr
    have hle' := Lib.hid hle
    have k0' := Lib.hid k0
    have hbx' := Lib.hid hbx
    have p1' := Lib.hid p1
    have p2' := Lib.hid p2
    have hrun' := Lib.hid hrun
    have hr' := Lib.hid hr
    have he' := Lib.hid he
    clear he hr hrun p2 p1 hbx k0 hle
    go_enter Tryz.func11, Tryz.ntmps11
    go_wp2_with (fail)
    clear hW0
    go_at_call 35
    refine hrun'.out.mono ?_
    rintro e W1 ⟨rfl, hle1⟩
    have hle2 := (hle'.out.trans hle1).trans (le_alloc W1 (.cells #[.bool false, .slice none 0 0, .slice none 0 0, .bool false, .slice none 0 0, .slice none 0 0] 56))
    have hle1' := Lib.hid hle1
    have hle2' := Lib.hid hle2
    clear hle2 hle1
    go_wp2
    go_ret
    exact ⟨rfl, hle2'.out⟩
theorem plain_Norm1 : Plain Tryz.prog 40 := fun _ _ => by kernel_rfl
set_option maxRecDepth 100000 in
set_option maxHeartbeats 4000000 in
theorem pf_Norm1 (x : FracA × FracA) (B : Nat) (w : World) (hx : ABox w B x) : Calls Tryz.prog 40 #[.pointer (some ⟨B, 0, none⟩)] w (OperPost (fun _ => True) (normR x) w) := by
  obtain ⟨W0, hW0, hle, k0⟩ : ∃ W0, w.alloc (.cells #[.bool false, .slice none 0 0, .bool false, .slice none 0 0] 26) = W0 ∧ Le w W0 ∧ W0.heap[w.heap.size]? = some (.cells #[.bool false, .slice none 0 0, .bool false, .slice none 0 0] 26) := ⟨_, rfl, le_alloc _ _, by unfold World.alloc; exact Array.getElem?_push_size⟩
  have hx1 := hx.le hle
  obtain ⟨x1A, x1c, x1B, x1d, x2A, x2c, x2B, x2d, kx, hx2, hx3⟩ := hx1
  obtain ⟨ca0, ca1, ca2, ca3, ca4, ca5, ca6, ca7⟩ := cells8 kx
  rcases tval_cases x with ⟨r, hr⟩ | hr
  · have hin := pf_inTurn_ok x r _ W0 (IsTurnA.mk hx2 hx3) hr
    have hnr := normR_some hr
    have hsz := tval_sz hr
    have hx' := Lib.hid hx
    have hle' := Lib.hid hle
    have k0' := Lib.hid k0
    have kx' := Lib.hid kx
    have hx2' := Lib.hid hx2
    have hx3' := Lib.hid hx3
    have hin' := Lib.hid hin
    have hr' := Lib.hid hr
    have hnr' := Lib.hid hnr
    have hsz' := Lib.hid hsz
    clear hsz hnr hr hin hx3 hx2 kx k0 hle hx
    go_enter Tryz.func40, Tryz.ntmps40
    go_wp2_with (fail)
    clear hW0
    go_at_call 37
    refine hin'.out.mono ?_
    rintro e W1 ⟨v1, rfl, hle1, h1⟩
    have h0 := h1
    obtain ⟨rs1, rA1, rn1, rc1, rB1, rm1, rd1, rs2, rA2, rn2, rc2, rB2, rm2, rd2, rfl, -, -⟩ := h1
    have hle1' := Lib.hid hle1
    have h0' := Lib.hid h0
    clear h0 hle1
    go_wp2_with (fail)
    go_at_call 42
    refine (pf_tnorm r _ W1 h0'.out (hsz'.out.up (by decide))).mono ?_
    rintro e W2 ⟨v2, rfl, hle2, h2⟩
    have h20 := h2
    obtain ⟨qs1, qA1, qn1, qc1, qB1, qm1, qd1, rfl⟩ := h2.qform
    have hl2 := (hle'.out.trans hle1'.out).trans hle2
    have k2 := box_later hle2 (box_later hle1'.out k0'.out)
    have hle2' := Lib.hid hle2
    have h2' := Lib.hid h2
    have h20' := Lib.hid h20
    have hl2' := Lib.hid hl2
    have k2' := Lib.hid k2
    clear k2 hl2 h20 h2 hle2
    rcases Classical.em (Rsz (gnorm r) 40) with hs | hs
    · have hout := pf_out_ok (fun _ => True) (fun _ => True) (gnorm r) _ W2 (Up.any _) h20'.out hs
      have hout' := Lib.hid hout
      have hs' := Lib.hid hs
      clear hs hout
      go_wp2_with (fail)
      go_at_call 41
      refine hout'.out.mono ?_
      rintro e W8 ⟨v8, rfl, hle8, h8⟩
      obtain ⟨ps1, pA1, pn1, pc1, pt1, pB1, pm1, pd1, rfl⟩ := h8.fform
      have k8 := box_later hle8 k2'.out
      have hl8 := hl2'.out.trans hle8
      have hle8' := Lib.hid hle8
      have h8' := Lib.hid h8
      have hl8' := Lib.hid hl8
      clear hl8 h8 hle8
      obtain ⟨z0, z1, z2, z3⟩ := cells4 k8
      have g0 := frozen00 k8 0
      have g1 := frozen00 k8 1
      have g2 := frozen00 k8 2
      have g3 := frozen00 k8 3
      have hle9 := fun u0 u1 u2 u3 => le_set4 (u0 := u0) (u1 := u1) (u2 := u2) (u3 := u3) (hl8'.out) (show w.heap.size ≤ w.heap.size by omega)
      have hb9 := fun u0 u1 u2 u3 => cells4 (heap_set4 (u0 := u0) (u1 := u1) (u2 := u2) (u3 := u3) k8)
      have hfin := fun u0 u1 u2 u3 => h8'.out.touch (noInt4 k8) (touch_set4 W8 (w.heap.size) u0 u1 u2 u3)
      have hle9' := Lib.hid hle9
      have hb9' := Lib.hid hb9
      have hfin' := Lib.hid hfin
      have k8' := Lib.hid k8
      clear k8 hfin hb9 hle9
      go_wp2
      obtain ⟨d0, d1, d2, d3⟩ := hb9'.out (.bool ps1) (.slice pA1 pn1 pc1) (.bool pt1) (.slice pB1 pm1 pd1)
      exact bodyPost_ret (v := .agg #[.bool ps1, .slice pA1 pn1 pc1, .bool pt1, .slice pB1 pm1 pd1]) (by simp [results, Tryz.results40, go_sem, d0, d1, d2, d3]) rfl ⟨hle9'.out _ _ _ _, .inl ⟨_, _, by rw [hnr'.out, outR_ok hs'.out], rfl, hfin'.out _ _ _ _⟩⟩
    · have hout := pf_out_no (fun _ => True) (gnorm r) _ W2 h20'.out hs
      have hout' := Lib.hid hout
      have hs' := Lib.hid hs
      clear hs hout
      go_wp2_with (fail)
      go_at_call 41
      refine hout'.out.mono ?_
      rintro e W8 ⟨rfl, hle8⟩
      go_wp2_with (fail)
      exact ⟨rfl, hl2'.out.trans hle8, .inr ⟨12, by rw [hnr'.out, outR_no hs'.out], rfl⟩⟩
  · have hin := pf_inTurn_no x _ W0 (IsTurnA.mk hx2 hx3) hr
    have hnr := normR_none hr
    have hx' := Lib.hid hx
    have hle' := Lib.hid hle
    have k0' := Lib.hid k0
    have kx' := Lib.hid kx
    have hx2' := Lib.hid hx2
    have hx3' := Lib.hid hx3
    have hin' := Lib.hid hin
    have hr' := Lib.hid hr
    have hnr' := Lib.hid hnr
    clear hnr hr hin hx3 hx2 kx k0 hle hx
    go_enter Tryz.func40, Tryz.ntmps40
    go_wp2_with (fail)
    clear hW0
    go_at_call 37
    refine hin'.out.mono ?_
    rintro e W1 ⟨rfl, hle1⟩
    have hl1 := hle'.out.trans hle1
    have hle1' := Lib.hid hle1
    have hl1' := Lib.hid hl1
    clear hl1 hle1
    go_wp2_with (fail)
    exact ⟨rfl, hl1'.out, .inr ⟨10, hnr'.out, rfl⟩⟩
set_option maxRecDepth 100000 in
set_option maxHeartbeats 4000000 in
theorem pf_Norm (x : FracA × FracA) (v : Value) (w : World) (hv : IsTurnA w v x) : Calls Tryz.prog 14 #[v] w (ResPost (fun _ => True) (normR x) w) := by
  obtain ⟨x1A, x1c, x1B, x1d, x2A, x2c, x2B, x2d, rfl, p1, p2⟩ := hv
  obtain ⟨W0, hW0, hsz, hle, k0, k1⟩ := new2_le w (.cells #[.bool x.1.sn, .slice x1A x.1.gn.length x1c, .bool x.1.sd, .slice x1B x.1.gd.length x1d, .bool x.2.sn, .slice x2A x.2.gn.length x2c, .bool x.2.sd, .slice x2B x.2.gd.length x2d] 28) (.cells #[.bool false, .slice none 0 0, .bool false, .slice none 0 0] 26)
  have hbx : ABox W0 w.heap.size x := ⟨_, _, _, _, _, _, _, _, k0, p1.le hle, p2.le hle⟩
  have hmf : ∀ (fn : Fn) (first cap : Array Value) (w : World), (Instr.makeFunc fn first cap).run Tryz.prog w = .ok (.func fn first cap) w := fun _ _ _ _ => rfl
  have hrun := pf_run_frac (fun _ => True) (normR x) 40 #[.pointer (some ⟨w.heap.size, 0, none⟩)] W0 plain_Norm1 fun W hW => pf_Norm1 x w.heap.size W (hbx.le hW)
  have hle' := Lib.hid hle
  have k0' := Lib.hid k0
  have k1' := Lib.hid k1
  have hbx' := Lib.hid hbx
  have p1' := Lib.hid p1
  have p2' := Lib.hid p2
  have hrun' := Lib.hid hrun
  clear hrun p2 p1 hbx k1 k0 hle
  go_enter Tryz.func14, Tryz.ntmps14
  go_wp2_with (fail)
  clear hW0
  go_at_call 39
  refine hrun'.out.mono ?_
  rintro e W1 ⟨hle1, v1, cc, rfl, hres⟩
  have hf0 := hres.form
  obtain ⟨rs1, rA1, rn1, rc1, rt1, rB1, rm1, rd1, rfl⟩ := hf0
  have k9 := box_later hle1 k1'.out
  have hl9 := hle'.out.trans hle1
  have hle1' := Lib.hid hle1
  have hres' := Lib.hid hres
  have hl9' := Lib.hid hl9
  clear hl9 hres hle1
  obtain ⟨z0, z1, z2, z3⟩ := cells4 k9
  have g0 := frozen00 k9 0
  have g1 := frozen00 k9 1
  have g2 := frozen00 k9 2
  have g3 := frozen00 k9 3
  have hle9 := fun u0 u1 u2 u3 => le_set4 (u0 := u0) (u1 := u1) (u2 := u2) (u3 := u3) (hl9'.out) (show w.heap.size ≤ w.heap.size + 1 by omega)
  have hb9 := fun u0 u1 u2 u3 => cells4 (heap_set4 (u0 := u0) (u1 := u1) (u2 := u2) (u3 := u3) k9)
  have hfin := fun u0 u1 u2 u3 => hres'.out.touch (noInt4 k9) (touch_set4 W1 (w.heap.size + 1) u0 u1 u2 u3)
  have hle9' := Lib.hid hle9
  have hb9' := Lib.hid hb9
  have hfin' := Lib.hid hfin
  have k9' := Lib.hid k9
  clear k9 hfin hb9 hle9
  go_wp2
  obtain ⟨d0, d1, d2, d3⟩ := hb9'.out (.bool rs1) (.slice rA1 rn1 rc1) (.bool rt1) (.slice rB1 rm1 rd1)
  exact bodyPost_ret (v := .tuple #[.agg #[.bool rs1, .slice rA1 rn1 rc1, .bool rt1, .slice rB1 rm1 rd1], .int .i64 cc]) (by simp [results, Tryz.results14, go_sem, d0, d1, d2, d3]) rfl ⟨hle9'.out _ _ _ _, _, _, rfl, hfin'.out _ _ _ _⟩
end Go.Proofs.YtpjmbgfggonhhaaGreat
namespace Go.Proofs.YtpjmbgfggonhhaaGreat
open Go.RowKit Go.Shelf
set_option linter.unusedVariables false
set_option linter.unusedSimpArgs false
theorem plain_Around1 : Plain Tryz.prog 46 := fun _ _ => by kernel_rfl
set_option maxRecDepth 100000 in
set_option maxHeartbeats 4000000 in
theorem pf_Around1 (n d : Int) (Bn Bd : Nat) (t : TypeId) (w : World) (hn0 : -9223372036854775808 ≤ n) (hn1 : n ≤ 9223372036854775807) (hd0 : -9223372036854775808 ≤ d) (hd1 : d ≤ 9223372036854775807) (hnz : ¬ (n = 0 ∧ d = 0)) (kn : w.heap[Bn]? = some (.cells #[.int .i64 n] t)) (kd : w.heap[Bd]? = some (.cells #[.int .i64 d] t)) :
    Calls Tryz.prog 46 #[.pointer (some ⟨Bd, 0, none⟩), .pointer (some ⟨Bn, 0, none⟩)] w (OperPostT (outG (gdiv (ndG n d) (gconj (ndG n d)))) w) := by
  obtain ⟨W0, hW0, hle, k0⟩ : ∃ W0, w.alloc (.cells #[.bool false, .slice none 0 0, .bool false, .slice none 0 0, .bool false, .slice none 0 0, .bool false, .slice none 0 0] 28) = W0 ∧ Le w W0 ∧ W0.heap[w.heap.size]? = some (.cells #[.bool false, .slice none 0 0, .bool false, .slice none 0 0, .bool false, .slice none 0 0, .bool false, .slice none 0 0] 28) := ⟨_, rfl, le_alloc _ _, by unfold World.alloc; exact Array.getElem?_push_size⟩
  have hbn := (Array.getElem?_eq_some_iff.1 kn).1
  have hbd := (Array.getElem?_eq_some_iff.1 kd).1
  have cn0 := cell00 (box_later hle kn)
  have cd0 := cell00 (box_later hle kd)
  have hs0 := hle.size
  have hsz := ndG_sz hn0 hn1 hd0 hd1
  have hnm := ndG_norm hnz
  have hle' := Lib.hid hle
  have k0' := Lib.hid k0
  have kn' := Lib.hid kn
  have kd' := Lib.hid kd
  have hsz' := Lib.hid hsz
  have hnm' := Lib.hid hnm
  have hnz' := Lib.hid hnz
  clear hnz hnm hsz kd kn k0 hle
  go_enter Tryz.func46, Tryz.ntmps46
  go_wp2_with (fail)
  clear hW0
  refine wp_region_monoL (R := leRel) 6 [some 4, some 5, some 6, some 7, some 8, some 3, none] [[], [0], [], [2], [1, 3], [], [4, 5]]
    [.eq (.int .i64 d), MPred.ratT .u32 ((d : Rat)), .eq (.int .i64 n), MPred.ratT .u32 ((n : Rat)), MPred.turn .u32 (ndG n d), MPred.box W0.heap.size (.cells #[.bool false, .slice none 0 0, .slice none 0 0, .bool false, .slice none 0 0, .slice none 0 0] 56)] (fun _ _ => False) (by kernel_rfl) (by kernel_rfl) (by kernel_rfl) (by kernel_rfl) ?_ (fun _ _ _ _ _ h => h.elim) ?_
  · simp only [List.take_succ_cons, List.take_zero]
    refine monoSteps_cons ?_ (monoSteps_cons ?_ (monoSteps_cons ?_ (monoSteps_cons ?_ (monoSteps_cons ?_ (monoSteps_cons ?_ (monoSteps_nil))))))
    · refine monoStep_list rfl fun xv W hR hf Q hK hP => ?_
      have cc0 := (Below.cell hR (p := ⟨Bd, 0, none⟩) (by show Bd < W0.heap.size; omega)).trans cd0
      simp only [fillAct, List.getD_cons_succ, List.getD_cons_zero, Act.put, List.setIfInBounds_toArray, List.set_cons_succ, List.set_cons_zero] at hK ⊢
      go_wp2
      exact hK _ _ (leRel.refl _) rfl
    · refine monoStep_list rfl fun xv W hR hf Q hK hP => ?_
      obtain ⟨e0, -⟩ := hf
      change _ = _ at e0
      simp only [fillAct, List.getD_cons_succ, List.getD_cons_zero, Act.put, List.setIfInBounds_toArray, List.set_cons_succ, List.set_cons_zero, e0] at hK ⊢
      go_wp2_with (fail)
      go_at_call 47
      refine (pf_number (fun _ => True) d W (Up.any _) hd0 hd1).mono ?_
      rintro e w' ⟨v', rfl, y1, y2⟩
      obtain ⟨zs1, zA1, zn1, zc1, zB1, zm1, zd1, qz⟩ := y2.qform
      subst qz
      have y2' := Lib.hid y2
      clear y2
      go_wp2
      exact hK _ _ y1 y2'.out
    · refine monoStep_list rfl fun xv W hR hf Q hK hP => ?_
      have cc0 := (Below.cell hR (p := ⟨Bn, 0, none⟩) (by show Bn < W0.heap.size; omega)).trans cn0
      simp only [fillAct, List.getD_cons_succ, List.getD_cons_zero, Act.put, List.setIfInBounds_toArray, List.set_cons_succ, List.set_cons_zero] at hK ⊢
      go_wp2
      exact hK _ _ (leRel.refl _) rfl
    · refine monoStep_list rfl fun xv W hR hf Q hK hP => ?_
      obtain ⟨e0, -⟩ := hf
      change _ = _ at e0
      simp only [fillAct, List.getD_cons_succ, List.getD_cons_zero, Act.put, List.setIfInBounds_toArray, List.set_cons_succ, List.set_cons_zero, e0] at hK ⊢
      go_wp2_with (fail)
      go_at_call 47
      refine (pf_number (fun _ => True) n W (Up.any _) hn0 hn1).mono ?_
      rintro e w' ⟨v', rfl, y1, y2⟩
      obtain ⟨zs1, zA1, zn1, zc1, zB1, zm1, zd1, qz⟩ := y2.qform
      subst qz
      have y2' := Lib.hid y2
      clear y2
      go_wp2
      exact hK _ _ y1 y2'.out
    · refine monoStep_list rfl fun xv W hR hf Q hK hP => ?_
      obtain ⟨e0, e1, -⟩ := hf
      replace e0 : RatT .u32 W (xv 1) ((d : Rat)) := e0
      replace e1 : RatT .u32 W (xv 3) ((n : Rat)) := e1
      obtain ⟨u0s1, u0A1, u0n1, u0c1, u0B1, u0m1, u0d1, qu0⟩ := e0.qform
      rw [qu0] at e0
      obtain ⟨u1s1, u1A1, u1n1, u1c1, u1B1, u1m1, u1d1, qu1⟩ := e1.qform
      rw [qu1] at e1
      simp only [fillAct, List.getD_cons_succ, List.getD_cons_zero, Act.put, List.setIfInBounds_toArray, List.set_cons_succ, List.set_cons_zero, qu0, qu1] at hK ⊢
      go_wp2
      exact hK _ _ (leRel.refl _) (TurnL.mk e0 e1)
    · refine monoStep_list rfl fun xv W hR hf Q hK hP => ?_
      simp only [fillAct, List.getD_cons_succ, List.getD_cons_zero, Act.put, List.setIfInBounds_toArray, List.set_cons_succ, List.set_cons_zero] at hK ⊢
      have hs9 := hR.size
      go_wp2
      exact hK _ _ (le_alloc _ _) ⟨_, rfl, hs9, by unfold World.alloc; exact Array.getElem?_push_size⟩
  · intro xv W hR hf Q' hQ1 _
    have e4 : TurnL .u32 W (xv 4) (ndG n d) := hf 4 (by decide)
    obtain ⟨k5, q5, hk5, hx5⟩ := hf 5 (by decide)
    replace q5 : xv 5 = _ := q5
    obtain ⟨ps1, pA1, pn1, pc1, pB1, pm1, pd1, ps2, pA2, pn2, pc2, pB2, pm2, pd2, qp, y1, y2⟩ := e4
    simp only [List.drop_succ_cons, List.drop_zero]
    rw [show List.range 6 = [0, 1, 2, 3, 4, 5] from rfl]
    simp only [fillAct, List.getD_cons_succ, List.getD_cons_zero, Act.put, List.setIfInBounds_toArray, List.set_cons_succ, List.set_cons_zero, qp, q5]
    clear qp q5 hf
    obtain ⟨V, hV, hle1, l5, j1, j2⟩ : ∃ V, ((((((W.setCell ⟨k5, 0, none⟩ (.bool ps1)).setCell ⟨k5, 1, none⟩ (.slice pA1 pn1 pc1)).setCell ⟨k5, 2, none⟩ (.slice pB1 pm1 pd1)).setCell ⟨k5, 3, none⟩ (.bool ps2)).setCell ⟨k5, 4, none⟩ (.slice pA2 pn2 pc2)).setCell ⟨k5, 5, none⟩ (.slice pB2 pm2 pd2)) = V ∧ Le W0 V ∧ V.heap[k5]? = some (.cells #[.bool ps1, .slice pA1 pn1 pc1, .slice pB1 pm1 pd1, .bool ps2, .slice pA2 pn2 pc2, .slice pB2 pm2 pd2] 56) ∧ RatT .u32 V (.agg #[.bool ps1, .slice pA1 pn1 pc1, .slice pB1 pm1 pd1]) (ndG n d).1 ∧ RatT .u32 V (.agg #[.bool ps2, .slice pA2 pn2 pc2, .slice pB2 pm2 pd2]) (ndG n d).2 :=
      ⟨_, rfl, le_set6 hR hk5 _ _ _ _ _ _, heap_set6 hx5 _ _ _ _ _ _, y1.touch (noInt6 hx5) (touch_set6 _ _ _ _ _ _ _ _), y2.touch (noInt6 hx5) (touch_set6 _ _ _ _ _ _ _ _)⟩
    obtain ⟨z0, z1, z2, z3, z4, z5⟩ := cells6 hx5
    have g0 := frozen00 hx5 0
    have g1 := frozen00 hx5 1
    have g2 := frozen00 hx5 2
    have g3 := frozen00 hx5 3
    have g4 := frozen00 hx5 4
    have g5 := frozen00 hx5 5
    obtain ⟨cp0, cp1, cp2, cp3, cp4, cp5⟩ := cells6 l5
    have hl5 := (Array.getElem?_eq_some_iff.1 l5).1
    have k0V := box_later hle1 k0'.out
    have hl0 := (Array.getElem?_eq_some_iff.1 k0V).1
    have hleV := hle'.out.trans hle1
    have hv := TurnL.mk (g := ndG n d) j1 j2
    have hR' := Lib.hid hR
    have hle1' := Lib.hid hle1
    have hx5' := Lib.hid hx5
    have hk5' := Lib.hid hk5
    have l5' := Lib.hid l5
    have j1' := Lib.hid j1
    have j2' := Lib.hid j2
    have y1' := Lib.hid y1
    have y2' := Lib.hid y2
    have k0V' := Lib.hid k0V
    have hleV' := Lib.hid hleV
    have hv' := Lib.hid hv
    clear hv hleV k0V y2 y1 j2 j1 l5 hk5 hx5 hle1 hR
    go_wp2
    clear z0 z1 z2 z3 z4 z5 g0 g1 g2 g3 g4 g5
    refine hQ1 _ _ ?_
    clear hV hQ1
    go_wp2_with (fail)
    refine wp_region_monoL (R := leRel) 5 [some 9, some 10, some 11, some 12, some 13, none] [[], [], [1], [0, 2], [3], [4]]
      [.eq (.agg #[.bool ps1, .slice pA1 pn1 pc1, .slice pB1 pm1 pd1, .bool ps2, .slice pA2 pn2 pc2, .slice pB2 pm2 pd2]), .eq (.agg #[.bool ps1, .slice pA1 pn1 pc1, .slice pB1 pm1 pd1, .bool ps2, .slice pA2 pn2 pc2, .slice pB2 pm2 pd2]), MPred.turn .u32 (gconj (ndG n d)), MPred.turn .u32 (gdiv (ndG n d) (gconj (ndG n d))), MPred.turnFO (gdiv (ndG n d) (gconj (ndG n d)))] (fun ch W => ch = flt 12 ∧ ¬ TSz (gdiv (ndG n d) (gconj (ndG n d))) 40 ∧ Le V W) (by kernel_rfl) (by kernel_rfl) (by kernel_rfl) (by kernel_rfl) ?_ (by rintro a9 ch W hdf - ⟨rfl, hbad, hle9⟩; exact ⟨hdf, hleV'.out.trans hle9, .inr ⟨12, outG_no hbad, rfl⟩⟩) ?_
    · simp only [List.take_succ_cons, List.take_zero]
      refine monoSteps_cons ?_ (monoSteps_cons ?_ (monoSteps_cons ?_ (monoSteps_cons ?_ (monoSteps_cons ?_ (monoSteps_nil)))))
      · refine monoStep_list rfl fun xv W hR hf Q hK hP => ?_
        have cc0 := (Below.cell hR (p := ⟨k5, 0, none⟩) (by show k5 < V.heap.size; omega)).trans cp0
        have cc1 := (Below.cell hR (p := ⟨k5, 1, none⟩) (by show k5 < V.heap.size; omega)).trans cp1
        have cc2 := (Below.cell hR (p := ⟨k5, 2, none⟩) (by show k5 < V.heap.size; omega)).trans cp2
        have cc3 := (Below.cell hR (p := ⟨k5, 3, none⟩) (by show k5 < V.heap.size; omega)).trans cp3
        have cc4 := (Below.cell hR (p := ⟨k5, 4, none⟩) (by show k5 < V.heap.size; omega)).trans cp4
        have cc5 := (Below.cell hR (p := ⟨k5, 5, none⟩) (by show k5 < V.heap.size; omega)).trans cp5
        simp only [fillAct, List.getD_cons_succ, List.getD_cons_zero, Act.put, List.setIfInBounds_toArray, List.set_cons_succ, List.set_cons_zero] at hK ⊢
        go_wp2
        exact hK _ _ (leRel.refl _) rfl
      · refine monoStep_list rfl fun xv W hR hf Q hK hP => ?_
        have cc0 := (Below.cell hR (p := ⟨k5, 0, none⟩) (by show k5 < V.heap.size; omega)).trans cp0
        have cc1 := (Below.cell hR (p := ⟨k5, 1, none⟩) (by show k5 < V.heap.size; omega)).trans cp1
        have cc2 := (Below.cell hR (p := ⟨k5, 2, none⟩) (by show k5 < V.heap.size; omega)).trans cp2
        have cc3 := (Below.cell hR (p := ⟨k5, 3, none⟩) (by show k5 < V.heap.size; omega)).trans cp3
        have cc4 := (Below.cell hR (p := ⟨k5, 4, none⟩) (by show k5 < V.heap.size; omega)).trans cp4
        have cc5 := (Below.cell hR (p := ⟨k5, 5, none⟩) (by show k5 < V.heap.size; omega)).trans cp5
        simp only [fillAct, List.getD_cons_succ, List.getD_cons_zero, Act.put, List.setIfInBounds_toArray, List.set_cons_succ, List.set_cons_zero] at hK ⊢
        go_wp2
        exact hK _ _ (leRel.refl _) rfl
      · refine monoStep_list rfl fun xv W hR hf Q hK hP => ?_
        obtain ⟨e0, -⟩ := hf
        change _ = _ at e0
        simp only [fillAct, List.getD_cons_succ, List.getD_cons_zero, Act.put, List.setIfInBounds_toArray, List.set_cons_succ, List.set_cons_zero, e0] at hK ⊢
        go_wp2_with (fail)
        go_at_call 49
        refine (pf_tmirrored (ndG n d) _ W (hv'.out.le hR)).mono ?_
        rintro e w' ⟨v', rfl, y1, y2⟩
        obtain ⟨zs1, zA1, zn1, zc1, zB1, zm1, zd1, zs2, zA2, zn2, zc2, zB2, zm2, zd2, qz⟩ := y2.form
        subst qz
        have y2' := Lib.hid y2
        clear y2
        go_wp2
        exact hK _ _ y1 y2'.out
      · refine monoStep_list rfl fun xv W hR hf Q hK hP => ?_
        obtain ⟨e0, e1, -⟩ := hf
        change _ = _ at e0
        replace e1 : TurnL .u32 W (xv 2) (gconj (ndG n d)) := e1
        simp only [fillAct, List.getD_cons_succ, List.getD_cons_zero, Act.put, List.setIfInBounds_toArray, List.set_cons_succ, List.set_cons_zero, e0] at hK ⊢
        go_wp2_with (fail)
        go_at_call 32
        refine (pf_tover (ndG n d) (gconj (ndG n d)) _ _ W (hv'.out.le hR) e1 (hsz'.out.up (by decide)) (tsz_conj (hsz'.out.up (by decide))) hnm'.out).mono ?_
        rintro e w' ⟨v', rfl, y1, y2⟩
        obtain ⟨zs1, zA1, zn1, zc1, zB1, zm1, zd1, zs2, zA2, zn2, zc2, zB2, zm2, zd2, qz⟩ := y2.form
        subst qz
        have y2' := Lib.hid y2
        clear y2
        go_wp2
        exact hK _ _ y1 y2'.out
      · refine monoStep_list rfl fun xv W hR hf Q hK hP => ?_
        obtain ⟨e0, -⟩ := hf
        replace e0 : TurnL .u32 W (xv 3) (gdiv (ndG n d) (gconj (ndG n d))) := e0
        simp only [fillAct, List.getD_cons_succ, List.getD_cons_zero, Act.put, List.setIfInBounds_toArray, List.set_cons_succ, List.set_cons_zero] at hK ⊢
        rcases Classical.em (TSz (gdiv (ndG n d) (gconj (ndG n d))) 40) with hs | hs
        · have hcall := pf_outTurn_ok (gdiv (ndG n d) (gconj (ndG n d))) _ W e0 hs
          have hcall' := Lib.hid hcall
          have hR' := Lib.hid hR
          have hs' := Lib.hid hs
          clear hs hR hcall
          go_wp2_with (fail)
          go_at_call 48
          refine hcall'.out.mono ?_
          rintro e w' ⟨v', rfl, y1, y2⟩
          have y3 := y2
          obtain ⟨zs1, zA1, zn1, zc1, zt1, zB1, zm1, zd1, zs2, zA2, zn2, zc2, zt2, zB2, zm2, zd2, qz, -, -⟩ := y3
          subst qz
          have y2' := Lib.hid y2
          clear y2
          go_wp2
          exact hK _ _ y1 ⟨hs'.out, y2'.out⟩
        · have hcall := pf_outTurn_no (gdiv (ndG n d) (gconj (ndG n d))) _ W e0 hs
          have hcall' := Lib.hid hcall
          have hR' := Lib.hid hR
          have hs' := Lib.hid hs
          clear hs hR hcall
          go_wp2_with (fail)
          go_at_call 48
          refine hcall'.out.mono ?_
          rintro e w' ⟨rfl, y1⟩
          go_wp2_with (fail)
          exact hP _ _ _ (Le.trans hR'.out y1) ⟨rfl, hs'.out, hR'.out.trans y1⟩
    · intro xv W hR hf Q' hQ1 _
      have eL : TSz (gdiv (ndG n d) (gconj (ndG n d))) 40 ∧ TurnF W (xv 4) (gdiv (ndG n d) (gconj (ndG n d))) := hf 4 (by decide)
      obtain ⟨hg, rs1, rA1, rn1, rc1, rt1, rB1, rm1, rd1, rs2, rA2, rn2, rc2, rt2, rB2, rm2, rd2, qL, y1, y2⟩ := eL
      have kW := (Below.block hR (w.heap.size) (by omega)).trans k0V'.out
      obtain ⟨z0, z1, z2, z3, z4, z5, z6, z7⟩ := cells8 kW
      have g0 := frozen00 kW 0
      have g1 := frozen00 kW 1
      have g2 := frozen00 kW 2
      have g3 := frozen00 kW 3
      have g4 := frozen00 kW 4
      have g5 := frozen00 kW 5
      have g6 := frozen00 kW 6
      have g7 := frozen00 kW 7
      simp only [List.drop_succ_cons, List.drop_zero]
      rw [show List.range 5 = [0, 1, 2, 3, 4] from rfl]
      simp only [fillAct, List.getD_cons_succ, List.getD_cons_zero, Act.put, List.setIfInBounds_toArray, List.set_cons_succ, List.set_cons_zero, qL]
      have hle9 := fun u0 u1 u2 u3 u4 u5 u6 u7 => le_set8 (Le.trans hleV'.out hR) (show w.heap.size ≤ w.heap.size by omega) u0 u1 u2 u3 u4 u5 u6 u7
      have hb9 := fun u0 u1 u2 u3 u4 u5 u6 u7 => cells8 (heap_set8 kW u0 u1 u2 u3 u4 u5 u6 u7)
      simp only [set8] at hb9
      have hfin := fun u0 u1 u2 u3 u4 u5 u6 u7 => And.intro (y1.touch (noInt8 kW) (touch_set8 W (w.heap.size) u0 u1 u2 u3 u4 u5 u6 u7)) (y2.touch (noInt8 kW) (touch_set8 W (w.heap.size) u0 u1 u2 u3 u4 u5 u6 u7))
      have hle9' := Lib.hid hle9
      have hb9' := Lib.hid hb9
      have hfin' := Lib.hid hfin
      have kW' := Lib.hid kW
      have y1' := Lib.hid y1
      have y2' := Lib.hid y2
      have qL' := Lib.hid qL
      have hR' := Lib.hid hR
      clear hR qL y2 y1 kW hfin hb9 hle9
      have hg' := Lib.hid hg
      clear hg
      go_wp2
      refine hQ1 _ _ ?_
      go_wp2
      obtain ⟨d0, d1, d2, d3, d4, d5, d6, d7⟩ := hb9'.out (.bool rs1) (.slice rA1 rn1 rc1) (.bool rt1) (.slice rB1 rm1 rd1) (.bool rs2) (.slice rA2 rn2 rc2) (.bool rt2) (.slice rB2 rm2 rd2)
      exact bodyPost_ret (v := .agg #[.bool rs1, .slice rA1 rn1 rc1, .bool rt1, .slice rB1 rm1 rd1, .bool rs2, .slice rA2 rn2 rc2, .bool rt2, .slice rB2 rm2 rd2]) (by simp [results, Tryz.results46, go_sem, d0, d1, d2, d3, d4, d5, d6, d7]) rfl ⟨hle9'.out _ _ _ _ _ _ _ _, .inl ⟨_, _, outG_ok hg'.out, rfl, TurnF.mk (hfin'.out _ _ _ _ _ _ _ _).1 (hfin'.out _ _ _ _ _ _ _ _).2⟩⟩
set_option maxRecDepth 100000 in
set_option maxHeartbeats 4000000 in
theorem pf_Around (n d : Int) (w : World) (hn0 : -9223372036854775808 ≤ n) (hn1 : n ≤ 9223372036854775807) (hd0 : -9223372036854775808 ≤ d) (hd1 : d ≤ 9223372036854775807) : Calls Tryz.prog 16 #[.int .i64 n, .int .i64 d] w (ResPostT (aroundG n d) w) := by
  obtain ⟨W0, hW0, hsz, hle, k0, k1, k2⟩ := new3_le w (.cells #[.int .i64 n] 3) (.cells #[.int .i64 d] 3) (.cells #[.bool false, .slice none 0 0, .bool false, .slice none 0 0, .bool false, .slice none 0 0, .bool false, .slice none 0 0] 28)
  have c0 := cell00 k0
  have c1 := cell00 k1
  have hmf : ∀ (fn : Fn) (first cap : Array Value) (w : World), (Instr.makeFunc fn first cap).run Tryz.prog w = .ok (.func fn first cap) w := fun _ _ _ _ => rfl
  by_cases hnz : n = 0 ∧ d = 0
  · obtain ⟨rfl, rfl⟩ := hnz
    have har : aroundG 0 0 = .error 11 := if_pos ⟨rfl, rfl⟩
    obtain ⟨a0, a1, a2, a3, a4, a5, a6, a7⟩ := cells8 k2
    have g0 := frozen00 k2 0
    have g1 := frozen00 k2 1
    have g2 := frozen00 k2 2
    have g3 := frozen00 k2 3
    have g4 := frozen00 k2 4
    have g5 := frozen00 k2 5
    have g6 := frozen00 k2 6
    have g7 := frozen00 k2 7
    have hle9 := le_set8 hle (show w.heap.size ≤ w.heap.size + 1 + 1 by omega) (.bool false) (.slice none 0 0) (.bool false) (.slice none 0 0) (.bool false) (.slice none 0 0) (.bool false) (.slice none 0 0)
    have hb9 := cells8 (heap_set8 k2 (.bool false) (.slice none 0 0) (.bool false) (.slice none 0 0) (.bool false) (.slice none 0 0) (.bool false) (.slice none 0 0))
    simp only [set8] at hb9
    have hle' := Lib.hid hle
    have k0' := Lib.hid k0
    have k1' := Lib.hid k1
    have k2' := Lib.hid k2
    have har' := Lib.hid har
    have hle9' := Lib.hid hle9
    have hb9' := Lib.hid hb9
    clear hb9 hle9 har k2 k1 k0 hle
    go_enter Tryz.func16, Tryz.ntmps16
    go_wp2
    obtain ⟨d0, d1, d2, d3, d4, d5, d6, d7⟩ := hb9'.out
    exact bodyPost_ret (v := .tuple #[.agg #[.bool false, .slice none 0 0, .bool false, .slice none 0 0, .bool false, .slice none 0 0, .bool false, .slice none 0 0], .int .i64 11]) (by simp [results, Tryz.results16, go_sem, d0, d1, d2, d3, d4, d5, d6, d7]) rfl ⟨hle9'.out, _, _, rfl, by rw [har'.out]; exact ⟨rfl, rfl⟩⟩
  · have har : aroundG n d = outG (gdiv (ndG n d) (gconj (ndG n d))) := if_neg hnz
    have hrun := pf_run_aturn (outG (gdiv (ndG n d) (gconj (ndG n d)))) 46 #[.pointer (some ⟨w.heap.size + 1, 0, none⟩), .pointer (some ⟨w.heap.size, 0, none⟩)] W0 plain_Around1 fun W hW => pf_Around1 n d _ _ _ W hn0 hn1 hd0 hd1 hnz (box_later hW k0) (box_later hW k1)
    rw [← har] at hrun
    have hcond : (decide (n = 0) && decide (d = 0)) = false := by rw [← Bool.decide_and]; exact decide_eq_false hnz
    have hle' := Lib.hid hle
    have k0' := Lib.hid k0
    have k1' := Lib.hid k1
    have k2' := Lib.hid k2
    have har' := Lib.hid har
    have hrun' := Lib.hid hrun
    clear hrun har k2 k1 k0 hle
    by_cases h0 : n = 0
    · subst h0
      have h1 : ¬ d = 0 := fun h => hnz ⟨rfl, h⟩
      clear hnz hcond
      go_enter Tryz.func16, Tryz.ntmps16
      go_wp2_with (fail)
      clear hW0
      go_at_call 45
      refine hrun'.out.mono ?_
      rintro e W1 ⟨hle1, v1, cc, rfl, hres⟩
      have hres0 := hres
      obtain ⟨rs1, rA1, rn1, rc1, rt1, rB1, rm1, rd1, rs2, rA2, rn2, rc2, rt2, rB2, rm2, rd2, rfl⟩ := hres.form
      have k9 := box_later hle1 k2'.out
      have hl9 := hle'.out.trans hle1
      have hle1' := Lib.hid hle1
      have hres' := Lib.hid hres
      have hres0' := Lib.hid hres0
      have hl9' := Lib.hid hl9
      clear hl9 hres0 hres hle1
      obtain ⟨z0, z1, z2, z3, z4, z5, z6, z7⟩ := cells8 k9
      have g0 := frozen00 k9 0
      have g1 := frozen00 k9 1
      have g2 := frozen00 k9 2
      have g3 := frozen00 k9 3
      have g4 := frozen00 k9 4
      have g5 := frozen00 k9 5
      have g6 := frozen00 k9 6
      have g7 := frozen00 k9 7
      have hle9 := fun u0 u1 u2 u3 u4 u5 u6 u7 => le_set8 (hl9'.out) (show w.heap.size ≤ w.heap.size + 1 + 1 by omega) u0 u1 u2 u3 u4 u5 u6 u7
      have hb9 := fun u0 u1 u2 u3 u4 u5 u6 u7 => cells8 (heap_set8 k9 u0 u1 u2 u3 u4 u5 u6 u7)
      simp only [set8] at hb9
      have hfin := fun u0 u1 u2 u3 u4 u5 u6 u7 => hres'.out.touch (noInt8 k9) (touch_set8 W1 (w.heap.size + 1 + 1) u0 u1 u2 u3 u4 u5 u6 u7)
      have hle9' := Lib.hid hle9
      have hb9' := Lib.hid hb9
      have hfin' := Lib.hid hfin
      have k9' := Lib.hid k9
      clear k9 hfin hb9 hle9
      go_wp2
      obtain ⟨d0, d1, d2, d3, d4, d5, d6, d7⟩ := hb9'.out (.bool rs1) (.slice rA1 rn1 rc1) (.bool rt1) (.slice rB1 rm1 rd1) (.bool rs2) (.slice rA2 rn2 rc2) (.bool rt2) (.slice rB2 rm2 rd2)
      exact bodyPost_ret (v := .tuple #[.agg #[.bool rs1, .slice rA1 rn1 rc1, .bool rt1, .slice rB1 rm1 rd1, .bool rs2, .slice rA2 rn2 rc2, .bool rt2, .slice rB2 rm2 rd2], .int .i64 cc]) (by simp [results, Tryz.results16, go_sem, d0, d1, d2, d3, d4, d5, d6, d7]) rfl ⟨hle9'.out _ _ _ _ _ _ _ _, _, _, rfl, hfin'.out _ _ _ _ _ _ _ _⟩
    · clear hnz hcond
      go_enter Tryz.func16, Tryz.ntmps16
      go_wp2_with (fail)
      clear hW0
      go_at_call 45
      refine hrun'.out.mono ?_
      rintro e W1 ⟨hle1, v1, cc, rfl, hres⟩
      have hres0 := hres
      obtain ⟨rs1, rA1, rn1, rc1, rt1, rB1, rm1, rd1, rs2, rA2, rn2, rc2, rt2, rB2, rm2, rd2, rfl⟩ := hres.form
      have k9 := box_later hle1 k2'.out
      have hl9 := hle'.out.trans hle1
      have hle1' := Lib.hid hle1
      have hres' := Lib.hid hres
      have hres0' := Lib.hid hres0
      have hl9' := Lib.hid hl9
      clear hl9 hres0 hres hle1
      obtain ⟨z0, z1, z2, z3, z4, z5, z6, z7⟩ := cells8 k9
      have g0 := frozen00 k9 0
      have g1 := frozen00 k9 1
      have g2 := frozen00 k9 2
      have g3 := frozen00 k9 3
      have g4 := frozen00 k9 4
      have g5 := frozen00 k9 5
      have g6 := frozen00 k9 6
      have g7 := frozen00 k9 7
      have hle9 := fun u0 u1 u2 u3 u4 u5 u6 u7 => le_set8 (hl9'.out) (show w.heap.size ≤ w.heap.size + 1 + 1 by omega) u0 u1 u2 u3 u4 u5 u6 u7
      have hb9 := fun u0 u1 u2 u3 u4 u5 u6 u7 => cells8 (heap_set8 k9 u0 u1 u2 u3 u4 u5 u6 u7)
      simp only [set8] at hb9
      have hfin := fun u0 u1 u2 u3 u4 u5 u6 u7 => hres'.out.touch (noInt8 k9) (touch_set8 W1 (w.heap.size + 1 + 1) u0 u1 u2 u3 u4 u5 u6 u7)
      have hle9' := Lib.hid hle9
      have hb9' := Lib.hid hb9
      have hfin' := Lib.hid hfin
      have k9' := Lib.hid k9
      clear k9 hfin hb9 hle9
      go_wp2
      obtain ⟨d0, d1, d2, d3, d4, d5, d6, d7⟩ := hb9'.out (.bool rs1) (.slice rA1 rn1 rc1) (.bool rt1) (.slice rB1 rm1 rd1) (.bool rs2) (.slice rA2 rn2 rc2) (.bool rt2) (.slice rB2 rm2 rd2)
      exact bodyPost_ret (v := .tuple #[.agg #[.bool rs1, .slice rA1 rn1 rc1, .bool rt1, .slice rB1 rm1 rd1, .bool rs2, .slice rA2 rn2 rc2, .bool rt2, .slice rB2 rm2 rd2], .int .i64 cc]) (by simp [results, Tryz.results16, go_sem, d0, d1, d2, d3, d4, d5, d6, d7]) rfl ⟨hle9'.out _ _ _ _ _ _ _ _, _, _, rfl, hfin'.out _ _ _ _ _ _ _ _⟩
end Go.Proofs.YtpjmbgfggonhhaaGreat
