/- exact, turning numbers: in. exact, turning numbers: out. exact, turning numbers: plus, times. exact, turning numbers: mirrored, norm. exact, turning numbers: unit, isZero. -/
import Derived.Test.YtbikpadjmmgpcaaGreatTurnKit
namespace Go.Proofs.YtbikpadjmmgpcaaGreat
open Go.RowKit Go.Shelf
set_option linter.unusedVariables false
set_option linter.unusedSimpArgs false
set_option maxRecDepth 100000 in
set_option maxHeartbeats 4000000 in
theorem pf_inTurn (x : FracA × FracA) (va : Value) (w : World) (ha : IsTurnA w va x) : Calls Tryz.prog 96 #[va] w (InPostT x w) := by
  obtain ⟨x1A, x1c, x1B, x1d, x2A, x2c, x2B, x2d, rfl, ha1, ha2⟩ := ha
  obtain ⟨W0, hW0, hsz, hle, k0, k1⟩ := new2_le w (.cells #[.bool x.1.sn, .slice x1A x.1.gn.length x1c, .bool x.1.sd, .slice x1B x.1.gd.length x1d, .bool x.2.sn, .slice x2A x.2.gn.length x2c, .bool x.2.sd, .slice x2B x.2.gd.length x2d] 49) (.cells #[.bool false, .slice none 0 0, .slice none 0 0, .bool false, .slice none 0 0, .slice none 0 0] 127)
  obtain ⟨ca0, ca1, ca2, ca3, ca4, ca5, ca6, ca7⟩ := cells8 k0
  replace ha1 := ha1.le hle
  replace ha2 := ha2.le hle
  have hle' := Lib.hid hle
  have k0' := Lib.hid k0
  have k1' := Lib.hid k1
  have ha1' := Lib.hid ha1
  have ha2' := Lib.hid ha2
  clear ha2 ha1 k1 k0 hle
  go_enter Tryz.func96, Tryz.ntmps96
  go_wp2_with (fail)
  clear hW0
  refine wp_region_monoL (R := leRel) 7 [some 3, some 4, some 5, some 6, some 7, some 8, some 9, none] [[], [0], [1], [], [3], [4], [2, 5], [6]]
    [.eq (.pointer (some ⟨w.heap.size, 0, none⟩)), .eq (.agg #[.bool x.1.sn, .slice x1A x.1.gn.length x1c, .bool x.1.sd, .slice x1B x.1.gd.length x1d]), MPred.ratO (x.1), .eq (.pointer (some ⟨w.heap.size, 4, none⟩)), .eq (.agg #[.bool x.2.sn, .slice x2A x.2.gn.length x2c, .bool x.2.sd, .slice x2B x.2.gd.length x2d]), MPred.ratO (x.2), MPred.turnO x] (fun ch W => ch = flt 10 ∧ tval x = none ∧ Le W0 W) (by kernel_rfl) (by kernel_rfl) (by kernel_rfl) (by kernel_rfl) ?_ (by rintro a9 ch W hdf - ⟨rfl, hbad, hle9⟩; exact ⟨hdf, hle'.out.trans hle9, .inr ⟨hbad, rfl⟩⟩) ?_
  · simp only [List.take_succ_cons, List.take_zero]
    refine monoSteps_cons ?_ (monoSteps_cons ?_ (monoSteps_cons ?_ (monoSteps_cons ?_ (monoSteps_cons ?_ (monoSteps_cons ?_ (monoSteps_cons ?_ (monoSteps_nil)))))))
    · refine monoStep_list rfl fun xv W hR hf Q hK hP => ?_
      simp only [fillAct, List.getD_cons_succ, List.getD_cons_zero, Act.put, List.setIfInBounds_toArray, List.set_cons_succ, List.set_cons_zero] at hK ⊢
      go_wp2
      exact hK _ _ (leRel.refl _) rfl
    · refine monoStep_list rfl fun xv W hR hf Q hK hP => ?_
      obtain ⟨e0, -⟩ := hf
      change _ = _ at e0
      have cc0 := (Below.cell hR (p := ⟨w.heap.size, 0, none⟩) (by show w.heap.size < W0.heap.size; omega)).trans ca0
      have cc1 := (Below.cell hR (p := ⟨w.heap.size, 1, none⟩) (by show w.heap.size < W0.heap.size; omega)).trans ca1
      have cc2 := (Below.cell hR (p := ⟨w.heap.size, 2, none⟩) (by show w.heap.size < W0.heap.size; omega)).trans ca2
      have cc3 := (Below.cell hR (p := ⟨w.heap.size, 3, none⟩) (by show w.heap.size < W0.heap.size; omega)).trans ca3
      simp only [fillAct, List.getD_cons_succ, List.getD_cons_zero, Act.put, List.setIfInBounds_toArray, List.set_cons_succ, List.set_cons_zero, e0] at hK ⊢
      go_wp2
      exact hK _ _ (leRel.refl _) rfl
    · refine monoStep_list rfl fun xv W hR hf Q hK hP => ?_
      obtain ⟨e0, -⟩ := hf
      change _ = _ at e0
      simp only [fillAct, List.getD_cons_succ, List.getD_cons_zero, Act.put, List.setIfInBounds_toArray, List.set_cons_succ, List.set_cons_zero, e0] at hK ⊢
      rcases rat_cases x.1 with ⟨r, hs⟩ | hs
      · have hcall := pf_in_some (fun _ => True) x.1 r _ W (Up.any _) (ha1'.out.le hR) hs
        have hcall' := Lib.hid hcall
        have hR' := Lib.hid hR
        have hs' := Lib.hid hs
        clear hs hR hcall
        go_wp2_with (fail)
        go_at_call 45
        refine hcall'.out.mono ?_
        rintro e w' ⟨v', rfl, y1, y2⟩
        obtain ⟨zs1, zA1, zn1, zc1, zB1, zm1, zd1, qz⟩ := y2.qform
        subst qz
        have y2' := Lib.hid y2
        clear y2
        go_wp2
        exact hK _ _ y1 ⟨_, hs'.out, y2'.out⟩
      · have hcall := pf_in_none (fun _ => True) x.1 _ W (Up.any _) (ha1'.out.le hR) hs
        have hcall' := Lib.hid hcall
        have hR' := Lib.hid hR
        have hs' := Lib.hid hs
        clear hs hR hcall
        go_wp2_with (fail)
        go_at_call 45
        refine hcall'.out.mono ?_
        rintro e w' ⟨rfl, y1⟩
        go_wp2_with (fail)
        exact hP _ _ _ (Le.trans hR'.out y1) ⟨rfl, tval_left hs'.out, hR'.out.trans y1⟩
    · refine monoStep_list rfl fun xv W hR hf Q hK hP => ?_
      simp only [fillAct, List.getD_cons_succ, List.getD_cons_zero, Act.put, List.setIfInBounds_toArray, List.set_cons_succ, List.set_cons_zero] at hK ⊢
      go_wp2
      exact hK _ _ (leRel.refl _) rfl
    · refine monoStep_list rfl fun xv W hR hf Q hK hP => ?_
      obtain ⟨e0, -⟩ := hf
      change _ = _ at e0
      have cc4 := (Below.cell hR (p := ⟨w.heap.size, 4, none⟩) (by show w.heap.size < W0.heap.size; omega)).trans ca4
      have cc5 := (Below.cell hR (p := ⟨w.heap.size, 5, none⟩) (by show w.heap.size < W0.heap.size; omega)).trans ca5
      have cc6 := (Below.cell hR (p := ⟨w.heap.size, 6, none⟩) (by show w.heap.size < W0.heap.size; omega)).trans ca6
      have cc7 := (Below.cell hR (p := ⟨w.heap.size, 7, none⟩) (by show w.heap.size < W0.heap.size; omega)).trans ca7
      simp only [fillAct, List.getD_cons_succ, List.getD_cons_zero, Act.put, List.setIfInBounds_toArray, List.set_cons_succ, List.set_cons_zero, e0] at hK ⊢
      go_wp2
      exact hK _ _ (leRel.refl _) rfl
    · refine monoStep_list rfl fun xv W hR hf Q hK hP => ?_
      obtain ⟨e0, -⟩ := hf
      change _ = _ at e0
      simp only [fillAct, List.getD_cons_succ, List.getD_cons_zero, Act.put, List.setIfInBounds_toArray, List.set_cons_succ, List.set_cons_zero, e0] at hK ⊢
      rcases rat_cases x.2 with ⟨r, hs⟩ | hs
      · have hcall := pf_in_some (fun _ => True) x.2 r _ W (Up.any _) (ha2'.out.le hR) hs
        have hcall' := Lib.hid hcall
        have hR' := Lib.hid hR
        have hs' := Lib.hid hs
        clear hs hR hcall
        go_wp2_with (fail)
        go_at_call 45
        refine hcall'.out.mono ?_
        rintro e w' ⟨v', rfl, y1, y2⟩
        obtain ⟨zs1, zA1, zn1, zc1, zB1, zm1, zd1, qz⟩ := y2.qform
        subst qz
        have y2' := Lib.hid y2
        clear y2
        go_wp2
        exact hK _ _ y1 ⟨_, hs'.out, y2'.out⟩
      · have hcall := pf_in_none (fun _ => True) x.2 _ W (Up.any _) (ha2'.out.le hR) hs
        have hcall' := Lib.hid hcall
        have hR' := Lib.hid hR
        have hs' := Lib.hid hs
        clear hs hR hcall
        go_wp2_with (fail)
        go_at_call 45
        refine hcall'.out.mono ?_
        rintro e w' ⟨rfl, y1⟩
        go_wp2_with (fail)
        exact hP _ _ _ (Le.trans hR'.out y1) ⟨rfl, tval_right hs'.out, hR'.out.trans y1⟩
    · refine monoStep_list rfl fun xv W hR hf Q hK hP => ?_
      obtain ⟨e0, e1, -⟩ := hf
      replace e0 : ∃ r, (x.1).rat? = some r ∧ RatT .u32 W (xv 2) r := e0
      replace e1 : ∃ r, (x.2).rat? = some r ∧ RatT .u32 W (xv 5) r := e1
      obtain ⟨ru0, hru0, hvu0⟩ := e0
      obtain ⟨u0s1, u0A1, u0n1, u0c1, u0B1, u0m1, u0d1, qu0⟩ := hvu0.qform
      rw [qu0] at hvu0
      obtain ⟨ru1, hru1, hvu1⟩ := e1
      obtain ⟨u1s1, u1A1, u1n1, u1c1, u1B1, u1m1, u1d1, qu1⟩ := hvu1.qform
      rw [qu1] at hvu1
      simp only [fillAct, List.getD_cons_succ, List.getD_cons_zero, Act.put, List.setIfInBounds_toArray, List.set_cons_succ, List.set_cons_zero, qu0, qu1] at hK ⊢
      go_wp2
      exact hK _ _ (leRel.refl _) (⟨(ru0, ru1), tval_some hru0 hru1, TurnL.mk hvu0 hvu1⟩)
  · intro xv W hR hf Q' hQ1 _
    have eL : ∃ g, tval x = some g ∧ TurnL .u32 W (xv 6) g := hf 6 (by decide)
    obtain ⟨g, hg, rs1, rA1, rn1, rc1, rB1, rm1, rd1, rs2, rA2, rn2, rc2, rB2, rm2, rd2, qL, y1, y2⟩ := eL
    have kW := (Below.block hR (w.heap.size + 1) (by omega)).trans k1'.out
    obtain ⟨z0, z1, z2, z3, z4, z5⟩ := cells6 kW
    have g0 := frozen00 kW 0
    have g1 := frozen00 kW 1
    have g2 := frozen00 kW 2
    have g3 := frozen00 kW 3
    have g4 := frozen00 kW 4
    have g5 := frozen00 kW 5
    simp only [List.drop_succ_cons, List.drop_zero]
    rw [show List.range 7 = [0, 1, 2, 3, 4, 5, 6] from rfl]
    simp only [fillAct, List.getD_cons_succ, List.getD_cons_zero, Act.put, List.setIfInBounds_toArray, List.set_cons_succ, List.set_cons_zero, qL]
    have hle9 := fun u0 u1 u2 u3 u4 u5 => le_set6 (Le.trans hle'.out hR) (show w.heap.size ≤ w.heap.size + 1 by omega) u0 u1 u2 u3 u4 u5
    have hb9 := fun u0 u1 u2 u3 u4 u5 => cells6 (heap_set6 kW u0 u1 u2 u3 u4 u5)
    simp only [set6] at hb9
    have hfin := fun u0 u1 u2 u3 u4 u5 => And.intro (y1.touch (noInt6 kW) (touch_set6 W (w.heap.size + 1) u0 u1 u2 u3 u4 u5)) (y2.touch (noInt6 kW) (touch_set6 W (w.heap.size + 1) u0 u1 u2 u3 u4 u5))
    have hle9' := Lib.hid hle9
    have hb9' := Lib.hid hb9
    have hfin' := Lib.hid hfin
    have kW' := Lib.hid kW
    have y1' := Lib.hid y1
    have y2' := Lib.hid y2
    have qL' := Lib.hid qL
    have hR' := Lib.hid hR
    clear hR qL y2 y1 kW hfin hb9 hle9
    have hg' := Lib.hid hg
    clear hg
    go_wp2
    refine hQ1 _ _ ?_
    go_wp2
    obtain ⟨d0, d1, d2, d3, d4, d5⟩ := hb9'.out (.bool rs1) (.slice rA1 rn1 rc1) (.slice rB1 rm1 rd1) (.bool rs2) (.slice rA2 rn2 rc2) (.slice rB2 rm2 rd2)
    exact bodyPost_ret (v := .agg #[.bool rs1, .slice rA1 rn1 rc1, .slice rB1 rm1 rd1, .bool rs2, .slice rA2 rn2 rc2, .slice rB2 rm2 rd2]) (by simp [results, Tryz.results96, go_sem, d0, d1, d2, d3, d4, d5]) rfl ⟨hle9'.out _ _ _ _ _ _, .inl ⟨g, _, hg'.out, rfl, TurnL.mk (hfin'.out _ _ _ _ _ _).1 (hfin'.out _ _ _ _ _ _).2⟩⟩
theorem pf_inTurn_ok (x : FracA × FracA) (r : G2) (va : Value) (w : World) (ha : IsTurnA w va x) (hs : tval x = some r) : Calls Tryz.prog 96 #[va] w fun e w' => ∃ v', e = .returned v' ∧ Le w w' ∧ TurnL .u32 w' v' r := by
  refine (pf_inTurn x va w ha).mono ?_
  rintro e w' ⟨hle, ⟨g, v, hg, rfl, h⟩ | ⟨hg, -⟩⟩
  · rw [hs] at hg
    injection hg with hg
    subst hg
    exact ⟨v, rfl, hle, h⟩
  · rw [hs] at hg
    cases hg
theorem pf_inTurn_no (x : FracA × FracA) (va : Value) (w : World) (ha : IsTurnA w va x) (hs : tval x = none) : Calls Tryz.prog 96 #[va] w fun e w' => e = .panicked (flt 10) ∧ Le w w' := by
  refine (pf_inTurn x va w ha).mono ?_
  rintro e w' ⟨hle, ⟨g, v, hg, -⟩ | ⟨-, h⟩⟩
  · rw [hs] at hg
    cases hg
  · exact ⟨h, hle⟩
end Go.Proofs.YtbikpadjmmgpcaaGreat
namespace Go.Proofs.YtbikpadjmmgpcaaGreat
open Go.RowKit Go.Shelf
set_option linter.unusedVariables false
set_option linter.unusedSimpArgs false
end Go.Proofs.YtbikpadjmmgpcaaGreat
namespace Go.Proofs.YtbikpadjmmgpcaaGreat
open Go.RowKit Go.Shelf
set_option linter.unusedVariables false
set_option linter.unusedSimpArgs false
end Go.Proofs.YtbikpadjmmgpcaaGreat
namespace Go.Proofs.YtbikpadjmmgpcaaGreat
open Go.RowKit Go.Shelf
set_option linter.unusedVariables false
set_option linter.unusedSimpArgs false
end Go.Proofs.YtbikpadjmmgpcaaGreat
namespace Go.Proofs.YtbikpadjmmgpcaaGreat
open Go.RowKit Go.Shelf
set_option linter.unusedVariables false
set_option linter.unusedSimpArgs false
end Go.Proofs.YtbikpadjmmgpcaaGreat
