/- exact, turning numbers: CheckTurn, Norm. exact, turning numbers: Around. -/
import Derived.Test.YtbikpadjmmgpcaaGreatTOpA
import Derived.Test.YtbikpadjmmgpcaaGreatOper2
import Derived.Test.YtbikpadjmmgpcaaGreatTrnA
namespace Go.Proofs.YtbikpadjmmgpcaaGreat
open Go.RowKit Go.Shelf
set_option linter.unusedVariables false
set_option linter.unusedSimpArgs false
theorem plain_CheckTurn1 : Plain Tryz.prog 95 := fun _ _ => by kernel_rfl
set_option maxRecDepth 100000 in
set_option maxHeartbeats 4000000 in
theorem pf_CheckTurn1_ok (x : FracA × FracA) (B : Nat) (w : World) (hx : ABox w B x) (r : G2) (hr : tval x = some r) : Calls Tryz.prog 95 #[.pointer (some ⟨B, 0, none⟩)] w fun e w' => ∃ v, e = .returned v ∧ Le w w' ∧ TForm v := by
  obtain ⟨W0, hW0, hle, k0⟩ : ∃ W0, w.alloc (.cells #[.bool false, .slice none 0 0, .slice none 0 0, .bool false, .slice none 0 0, .slice none 0 0] 127) = W0 ∧ Le w W0 ∧ W0.heap[w.heap.size]? = some (.cells #[.bool false, .slice none 0 0, .slice none 0 0, .bool false, .slice none 0 0, .slice none 0 0] 127) := ⟨_, rfl, le_alloc _ _, by unfold World.alloc; exact Array.getElem?_push_size⟩
  have hx1 := hx.le hle
  obtain ⟨x1A, x1c, x1B, x1d, x2A, x2c, x2B, x2d, kx, hx2, hx3⟩ := hx1
  obtain ⟨ca0, ca1, ca2, ca3, ca4, ca5, ca6, ca7⟩ := cells8 kx
  have hin := pf_inTurn_ok x r _ W0 (IsTurnA.mk hx2 hx3) hr
  have hx' := Lib.hid hx
  have hle' := Lib.hid hle
  have k0' := Lib.hid k0
  have kx' := Lib.hid kx
  have hx2' := Lib.hid hx2
  have hx3' := Lib.hid hx3
  have hin' := Lib.hid hin
  have hr' := Lib.hid hr
  clear hr hin hx3 hx2 kx k0 hle hx
  go_enter Tryz.func95, Tryz.ntmps95
  go_wp2_with (fail)
  clear hW0
  go_at_call 96
  refine hin'.out.mono ?_
  rintro e W1 ⟨v1, rfl, hle1, h1⟩
  obtain ⟨rs1, rA1, rn1, rc1, rB1, rm1, rd1, rs2, rA2, rn2, rc2, rB2, rm2, rd2, rfl, y1, y2⟩ := h1
  have k1 := box_later hle1 k0'.out
  have hl1 := hle'.out.trans hle1
  have hle1' := Lib.hid hle1
  have hl1' := Lib.hid hl1
  have y1' := Lib.hid y1
  have y2' := Lib.hid y2
  clear y2 y1 hl1 hle1
  obtain ⟨z0, z1, z2, z3, z4, z5⟩ := cells6 k1
  have g0 := frozen00 k1 0
  have g1 := frozen00 k1 1
  have g2 := frozen00 k1 2
  have g3 := frozen00 k1 3
  have g4 := frozen00 k1 4
  have g5 := frozen00 k1 5
  have hle9 := fun u0 u1 u2 u3 u4 u5 => le_set6 (hl1'.out) (show w.heap.size ≤ w.heap.size by omega) u0 u1 u2 u3 u4 u5
  have hb9 := fun u0 u1 u2 u3 u4 u5 => cells6 (heap_set6 k1 u0 u1 u2 u3 u4 u5)
  simp only [set6] at hb9
  have hfin := fun u0 u1 u2 u3 u4 u5 => And.intro (y1'.out.touch (noInt6 k1) (touch_set6 W1 (w.heap.size) u0 u1 u2 u3 u4 u5)) (y2'.out.touch (noInt6 k1) (touch_set6 W1 (w.heap.size) u0 u1 u2 u3 u4 u5))
  have hle9' := Lib.hid hle9
  have hb9' := Lib.hid hb9
  have hfin' := Lib.hid hfin
  have k1' := Lib.hid k1
  clear k1 hfin hb9 hle9
  go_wp2
  obtain ⟨d0, d1, d2, d3, d4, d5⟩ := hb9'.out (.bool rs1) (.slice rA1 rn1 rc1) (.slice rB1 rm1 rd1) (.bool rs2) (.slice rA2 rn2 rc2) (.slice rB2 rm2 rd2)
  exact bodyPost_ret (v := .agg #[.bool rs1, .slice rA1 rn1 rc1, .slice rB1 rm1 rd1, .bool rs2, .slice rA2 rn2 rc2, .slice rB2 rm2 rd2]) (by simp [results, Tryz.results95, go_sem, d0, d1, d2, d3, d4, d5]) rfl ⟨_, rfl, hle9'.out _ _ _ _ _ _, _, _, _, _, _, _, _, _, _, _, _, _, _, _, rfl⟩
set_option maxRecDepth 100000 in
set_option maxHeartbeats 4000000 in
theorem pf_CheckTurn1_no (x : FracA × FracA) (B : Nat) (w : World) (hx : ABox w B x) (hr : tval x = none) : Calls Tryz.prog 95 #[.pointer (some ⟨B, 0, none⟩)] w fun e w' => e = .panicked (flt 10) ∧ Le w w' := by
  obtain ⟨W0, hW0, hle, k0⟩ : ∃ W0, w.alloc (.cells #[.bool false, .slice none 0 0, .slice none 0 0, .bool false, .slice none 0 0, .slice none 0 0] 127) = W0 ∧ Le w W0 ∧ W0.heap[w.heap.size]? = some (.cells #[.bool false, .slice none 0 0, .slice none 0 0, .bool false, .slice none 0 0, .slice none 0 0] 127) := ⟨_, rfl, le_alloc _ _, by unfold World.alloc; exact Array.getElem?_push_size⟩
  have hx1 := hx.le hle
  obtain ⟨x1A, x1c, x1B, x1d, x2A, x2c, x2B, x2d, kx, hx2, hx3⟩ := hx1
  obtain ⟨ca0, ca1, ca2, ca3, ca4, ca5, ca6, ca7⟩ := cells8 kx
  have hin := pf_inTurn_no x _ W0 (IsTurnA.mk hx2 hx3) hr
  have hx' := Lib.hid hx
  have hle' := Lib.hid hle
  have k0' := Lib.hid k0
  have kx' := Lib.hid kx
  have hx2' := Lib.hid hx2
  have hx3' := Lib.hid hx3
  have hin' := Lib.hid hin
  have hr' := Lib.hid hr
  clear hr hin hx3 hx2 kx k0 hle hx
  go_enter Tryz.func95, Tryz.ntmps95
  go_wp2_with (fail)
  clear hW0
  go_at_call 96
  refine hin'.out.mono ?_
  rintro e W1 ⟨rfl, hle1⟩
  have hl1 := hle'.out.trans hle1
  have hle1' := Lib.hid hle1
  have hl1' := Lib.hid hl1
  clear hl1 hle1
  go_wp2_with (fail)
  exact ⟨rfl, rfl, hl1'.out⟩
set_option maxRecDepth 100000 in
set_option maxHeartbeats 4000000 in
theorem pf_CheckTurn (x : FracA × FracA) (v : Value) (w : World) (hv : IsTurnA w v x) : Calls Tryz.prog 80 #[v] w fun e w' => e = .returned (.int .i64 (okE (tval x).isSome)) ∧ Le w w' := by
  obtain ⟨x1A, x1c, x1B, x1d, x2A, x2c, x2B, x2d, rfl, p1, p2⟩ := hv
  obtain ⟨W0, hW0, hle, k0⟩ : ∃ W0, w.alloc (.cells #[.bool x.1.sn, .slice x1A x.1.gn.length x1c, .bool x.1.sd, .slice x1B x.1.gd.length x1d, .bool x.2.sn, .slice x2A x.2.gn.length x2c, .bool x.2.sd, .slice x2B x.2.gd.length x2d] 49) = W0 ∧ Le w W0 ∧ W0.heap[w.heap.size]? = some (.cells #[.bool x.1.sn, .slice x1A x.1.gn.length x1c, .bool x.1.sd, .slice x1B x.1.gd.length x1d, .bool x.2.sn, .slice x2A x.2.gn.length x2c, .bool x.2.sd, .slice x2B x.2.gd.length x2d] 49) := ⟨_, rfl, le_alloc _ _, by unfold World.alloc; exact Array.getElem?_push_size⟩
  have hbx : ABox W0 w.heap.size x := ⟨_, _, _, _, _, _, _, _, k0, p1.le hle, p2.le hle⟩
  have hmf : ∀ (fn : Fn) (first cap : Array Value) (w : World), (Instr.makeFunc fn first cap).run Tryz.prog w = .ok (.func fn first cap) w := fun _ _ _ _ => rfl
  rcases tval_cases x with ⟨r, hr⟩ | hr
  · have he : okE (tval x).isSome = 0 := by rw [hr]; rfl
    rw [he]
    have hrun := pf_run_turn_ok 95 #[.pointer (some ⟨w.heap.size, 0, none⟩)] W0 plain_CheckTurn1 fun W hW => pf_CheckTurn1_ok x w.heap.size W (hbx.le hW) r hr
    have hle' := Lib.hid hle
    have k0' := Lib.hid k0
    have hbx' := Lib.hid hbx
    have p1' := Lib.hid p1
    have p2' := Lib.hid p2
    have hrun' := Lib.hid hrun
    have hr' := Lib.hid hr
    have he' := Lib.hid he
    clear he hr hrun p2 p1 hbx k0 hle
    go_enter Tryz.func80, Tryz.ntmps80
    go_wp2_with (fail)
    clear hW0
    go_at_call 94
    refine hrun'.out.mono ?_
    rintro e W1 ⟨v1, rfl, hle1, ⟨rs1, rA1, rn1, rc1, rB1, rm1, rd1, rs2, rA2, rn2, rc2, rB2, rm2, rd2, rfl⟩⟩
    have hle2 := (hle'.out.trans hle1).trans (le_alloc W1 (.cells #[.bool rs1, .slice rA1 rn1 rc1, .slice rB1 rm1 rd1, .bool rs2, .slice rA2 rn2 rc2, .slice rB2 rm2 rd2] 127))
    have hle1' := Lib.hid hle1
    have hle2' := Lib.hid hle2
    clear hle2 hle1
    go_wp2
    go_ret
    exact ⟨rfl, hle2'.out⟩
  · have he : okE (tval x).isSome = 10 := by rw [hr]; rfl
    rw [he]
    have hrun := pf_run_turn_err 10 95 #[.pointer (some ⟨w.heap.size, 0, none⟩)] W0 plain_CheckTurn1 fun W hW => pf_CheckTurn1_no x w.heap.size W (hbx.le hW) hr
    have hle' := Lib.hid hle
    have k0' := Lib.hid k0
    have hbx' := Lib.hid hbx
    have p1' := Lib.hid p1
    have p2' := Lib.hid p2
    have hrun' := Lib.hid hrun
    have hr' := Lib.hid hr
    have he' := Lib.hid he
    clear he hr hrun p2 p1 hbx k0 hle
    go_enter Tryz.func80, Tryz.ntmps80
    go_wp2_with (fail)
    clear hW0
    go_at_call 94
    refine hrun'.out.mono ?_
    rintro e W1 ⟨rfl, hle1⟩
    have hle2 := (hle'.out.trans hle1).trans (le_alloc W1 (.cells #[.bool false, .slice none 0 0, .slice none 0 0, .bool false, .slice none 0 0, .slice none 0 0] 127))
    have hle1' := Lib.hid hle1
    have hle2' := Lib.hid hle2
    clear hle2 hle1
    go_wp2
    go_ret
    exact ⟨rfl, hle2'.out⟩
end Go.Proofs.YtbikpadjmmgpcaaGreat
namespace Go.Proofs.YtbikpadjmmgpcaaGreat
open Go.RowKit Go.Shelf
set_option linter.unusedVariables false
set_option linter.unusedSimpArgs false
end Go.Proofs.YtbikpadjmmgpcaaGreat
