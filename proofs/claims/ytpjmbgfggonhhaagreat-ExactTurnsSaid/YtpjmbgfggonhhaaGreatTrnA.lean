/- exact, turning numbers: in. exact, turning numbers: out. exact, turning numbers: plus, times. exact, turning numbers: mirrored, norm. exact, turning numbers: unit, isZero. -/
import Derived.Test.YtpjmbgfggonhhaaGreatTurnKit
namespace Go.Proofs.YtpjmbgfggonhhaaGreat
open Go.RowKit Go.Shelf
set_option linter.unusedVariables false
set_option linter.unusedSimpArgs false
set_option maxRecDepth 100000 in
set_option maxHeartbeats 4000000 in
theorem pf_inTurn (x : FracA × FracA) (va : Value) (w : World) (ha : IsTurnA w va x) : Calls Tryz.prog 37 #[va] w (InPostT x w) := by
  obtain ⟨x1A, x1c, x1B, x1d, x2A, x2c, x2B, x2d, rfl, ha1, ha2⟩ := ha
  obtain ⟨W0, hW0, hsz, hle, k0, k1⟩ := new2_le w (.cells #[.bool x.1.sn, .slice x1A x.1.gn.length x1c, .bool x.1.sd, .slice x1B x.1.gd.length x1d, .bool x.2.sn, .slice x2A x.2.gn.length x2c, .bool x.2.sd, .slice x2B x.2.gd.length x2d] 28) (.cells #[.bool false, .slice none 0 0, .slice none 0 0, .bool false, .slice none 0 0, .slice none 0 0] 56)
  obtain ⟨ca0, ca1, ca2, ca3, ca4, ca5, ca6, ca7⟩ := cells8 k0
  replace ha1 := ha1.le hle
  replace ha2 := ha2.le hle
  have hle' := Lib.hid hle
  have k0' := Lib.hid k0
  have k1' := Lib.hid k1
  have ha1' := Lib.hid ha1
  have ha2' := Lib.hid ha2
  clear ha2 ha1 k1 k0 hle
  go_enter Tryz.func37, Tryz.ntmps37
  go_wp2_with (fail)
  clear hW0
  refine wp_region_monoL (R := leRel) 7 [some 3, some 4, some 5, some 6, some 7, some 8, some 9, none] [[], [0], [1], [], [3], [4], [2, 5], [6]]
    [.eq (.pointer (some ⟨w.heap.size, 0, none⟩)), .eq (.agg #[.bool x.1.sn, .slice x1A x.1.gn.length x1c, .bool x.1.sd, .slice x1B x.1.gd.length x1d]), MPred.ratO (x.1), .eq (.pointer (some ⟨w.heap.size, 4, none⟩)), .eq (.agg #[.bool x.2.sn, .slice x2A x.2.gn.length x2c, .bool x.2.sd, .slice x2B x.2.gd.length x2d]), MPred.ratO (x.2), MPred.turnO x] (fun ch W => ch = flt 10 ∧ tval x = none ∧ Le W0 W) (by kernel_rfl) (by kernel_rfl) (by kernel_rfl) (by kernel_rfl) ?_ (by rintro a9 ch W hdf - ⟨rfl, hbad, hle9⟩; exact ⟨hdf, hle'.out.trans hle9, .inr ⟨hbad, rfl⟩⟩) ?_
  · simp only [List.take_succ_cons, List.take_zero]
    refine monoSteps_cons ?_ (monoSteps_cons ?_ (monoSteps_cons ?_ (monoSteps_cons ?_ (monoSteps_cons ?_ (monoSteps_cons ?_ (monoSteps_cons ?_ (monoSteps_nil)))))))
    · refine monoStep_list rfl fun xv W hR hf Q hK hP => ?_
      simp only [fillAct, List.getD_cons_succ, List.getD_cons_zero, Act.put, List.setIfInBounds_toArray, List.set_cons_succ, List.set_cons_zero] at hK ⊢
      go_wp2
      exact hK _ _ (leRel.refl _) rfl
    · refine monoStep_list rfl fun xv W hR hf Q hK hP => ?_
      obtain ⟨e0, -⟩ := hf
      change _ = _ at e0
      have cc0 := (Below.cell hR (p := ⟨w.heap.size, 0, none⟩) (by show w.heap.size < W0.heap.size; omega)).trans ca0
      have cc1 := (Below.cell hR (p := ⟨w.heap.size, 1, none⟩) (by show w.heap.size < W0.heap.size; omega)).trans ca1
      have cc2 := (Below.cell hR (p := ⟨w.heap.size, 2, none⟩) (by show w.heap.size < W0.heap.size; omega)).trans ca2
      have cc3 := (Below.cell hR (p := ⟨w.heap.size, 3, none⟩) (by show w.heap.size < W0.heap.size; omega)).trans ca3
      simp only [fillAct, List.getD_cons_succ, List.getD_cons_zero, Act.put, List.setIfInBounds_toArray, List.set_cons_succ, List.set_cons_zero, e0] at hK ⊢
      go_wp2
      exact hK _ _ (leRel.refl _) rfl
    · refine monoStep_list rfl fun xv W hR hf Q hK hP => ?_
      obtain ⟨e0, -⟩ := hf
      change _ = _ at e0
      simp only [fillAct, List.getD_cons_succ, List.getD_cons_zero, Act.put, List.setIfInBounds_toArray, List.set_cons_succ, List.set_cons_zero, e0] at hK ⊢
      rcases rat_cases x.1 with ⟨r, hs⟩ | hs
      · have hcall := pf_in_some (fun _ => True) x.1 r _ W (Up.any _) (ha1'.out.le hR) hs
        have hcall' := Lib.hid hcall
        have hR' := Lib.hid hR
        have hs' := Lib.hid hs
        clear hs hR hcall
        go_wp2_with (fail)
        go_at_call 69
        refine hcall'.out.mono ?_
        rintro e w' ⟨v', rfl, y1, y2⟩
        obtain ⟨zs1, zA1, zn1, zc1, zB1, zm1, zd1, qz⟩ := y2.qform
        subst qz
        have y2' := Lib.hid y2
        clear y2
        go_wp2
        exact hK _ _ y1 ⟨_, hs'.out, y2'.out⟩
      · have hcall := pf_in_none (fun _ => True) x.1 _ W (Up.any _) (ha1'.out.le hR) hs
        have hcall' := Lib.hid hcall
        have hR' := Lib.hid hR
        have hs' := Lib.hid hs
        clear hs hR hcall
        go_wp2_with (fail)
        go_at_call 69
        refine hcall'.out.mono ?_
        rintro e w' ⟨rfl, y1⟩
        go_wp2_with (fail)
        exact hP _ _ _ (Le.trans hR'.out y1) ⟨rfl, tval_left hs'.out, hR'.out.trans y1⟩
    · refine monoStep_list rfl fun xv W hR hf Q hK hP => ?_
      simp only [fillAct, List.getD_cons_succ, List.getD_cons_zero, Act.put, List.setIfInBounds_toArray, List.set_cons_succ, List.set_cons_zero] at hK ⊢
      go_wp2
      exact hK _ _ (leRel.refl _) rfl
    · refine monoStep_list rfl fun xv W hR hf Q hK hP => ?_
      obtain ⟨e0, -⟩ := hf
      change _ = _ at e0
      have cc4 := (Below.cell hR (p := ⟨w.heap.size, 4, none⟩) (by show w.heap.size < W0.heap.size; omega)).trans ca4
      have cc5 := (Below.cell hR (p := ⟨w.heap.size, 5, none⟩) (by show w.heap.size < W0.heap.size; omega)).trans ca5
      have cc6 := (Below.cell hR (p := ⟨w.heap.size, 6, none⟩) (by show w.heap.size < W0.heap.size; omega)).trans ca6
      have cc7 := (Below.cell hR (p := ⟨w.heap.size, 7, none⟩) (by show w.heap.size < W0.heap.size; omega)).trans ca7
      simp only [fillAct, List.getD_cons_succ, List.getD_cons_zero, Act.put, List.setIfInBounds_toArray, List.set_cons_succ, List.set_cons_zero, e0] at hK ⊢
      go_wp2
      exact hK _ _ (leRel.refl _) rfl
    · refine monoStep_list rfl fun xv W hR hf Q hK hP => ?_
      obtain ⟨e0, -⟩ := hf
      change _ = _ at e0
      simp only [fillAct, List.getD_cons_succ, List.getD_cons_zero, Act.put, List.setIfInBounds_toArray, List.set_cons_succ, List.set_cons_zero, e0] at hK ⊢
      rcases rat_cases x.2 with ⟨r, hs⟩ | hs
      · have hcall := pf_in_some (fun _ => True) x.2 r _ W (Up.any _) (ha2'.out.le hR) hs
        have hcall' := Lib.hid hcall
        have hR' := Lib.hid hR
        have hs' := Lib.hid hs
        clear hs hR hcall
        go_wp2_with (fail)
        go_at_call 69
        refine hcall'.out.mono ?_
        rintro e w' ⟨v', rfl, y1, y2⟩
        obtain ⟨zs1, zA1, zn1, zc1, zB1, zm1, zd1, qz⟩ := y2.qform
        subst qz
        have y2' := Lib.hid y2
        clear y2
        go_wp2
        exact hK _ _ y1 ⟨_, hs'.out, y2'.out⟩
      · have hcall := pf_in_none (fun _ => True) x.2 _ W (Up.any _) (ha2'.out.le hR) hs
        have hcall' := Lib.hid hcall
        have hR' := Lib.hid hR
        have hs' := Lib.hid hs
        clear hs hR hcall
        go_wp2_with (fail)
        go_at_call 69
        refine hcall'.out.mono ?_
        rintro e w' ⟨rfl, y1⟩
        go_wp2_with (fail)
        exact hP _ _ _ (Le.trans hR'.out y1) ⟨rfl, tval_right hs'.out, hR'.out.trans y1⟩
    · refine monoStep_list rfl fun xv W hR hf Q hK hP => ?_
      obtain ⟨e0, e1, -⟩ := hf
      replace e0 : ∃ r, (x.1).rat? = some r ∧ RatT .u32 W (xv 2) r := e0
      replace e1 : ∃ r, (x.2).rat? = some r ∧ RatT .u32 W (xv 5) r := e1
      obtain ⟨ru0, hru0, hvu0⟩ := e0
      obtain ⟨u0s1, u0A1, u0n1, u0c1, u0B1, u0m1, u0d1, qu0⟩ := hvu0.qform
      rw [qu0] at hvu0
      obtain ⟨ru1, hru1, hvu1⟩ := e1
      obtain ⟨u1s1, u1A1, u1n1, u1c1, u1B1, u1m1, u1d1, qu1⟩ := hvu1.qform
      rw [qu1] at hvu1
      simp only [fillAct, List.getD_cons_succ, List.getD_cons_zero, Act.put, List.setIfInBounds_toArray, List.set_cons_succ, List.set_cons_zero, qu0, qu1] at hK ⊢
      go_wp2
      exact hK _ _ (leRel.refl _) (⟨(ru0, ru1), tval_some hru0 hru1, TurnL.mk hvu0 hvu1⟩)
  · intro xv W hR hf Q' hQ1 _
    have eL : ∃ g, tval x = some g ∧ TurnL .u32 W (xv 6) g := hf 6 (by decide)
    obtain ⟨g, hg, rs1, rA1, rn1, rc1, rB1, rm1, rd1, rs2, rA2, rn2, rc2, rB2, rm2, rd2, qL, y1, y2⟩ := eL
    have kW := (Below.block hR (w.heap.size + 1) (by omega)).trans k1'.out
    obtain ⟨z0, z1, z2, z3, z4, z5⟩ := cells6 kW
    have g0 := frozen00 kW 0
    have g1 := frozen00 kW 1
    have g2 := frozen00 kW 2
    have g3 := frozen00 kW 3
    have g4 := frozen00 kW 4
    have g5 := frozen00 kW 5
    simp only [List.drop_succ_cons, List.drop_zero]
    rw [show List.range 7 = [0, 1, 2, 3, 4, 5, 6] from rfl]
    simp only [fillAct, List.getD_cons_succ, List.getD_cons_zero, Act.put, List.setIfInBounds_toArray, List.set_cons_succ, List.set_cons_zero, qL]
    have hle9 := fun u0 u1 u2 u3 u4 u5 => le_set6 (Le.trans hle'.out hR) (show w.heap.size ≤ w.heap.size + 1 by omega) u0 u1 u2 u3 u4 u5
    have hb9 := fun u0 u1 u2 u3 u4 u5 => cells6 (heap_set6 kW u0 u1 u2 u3 u4 u5)
    simp only [set6] at hb9
    have hfin := fun u0 u1 u2 u3 u4 u5 => And.intro (y1.touch (noInt6 kW) (touch_set6 W (w.heap.size + 1) u0 u1 u2 u3 u4 u5)) (y2.touch (noInt6 kW) (touch_set6 W (w.heap.size + 1) u0 u1 u2 u3 u4 u5))
    have hle9' := Lib.hid hle9
    have hb9' := Lib.hid hb9
    have hfin' := Lib.hid hfin
    have kW' := Lib.hid kW
    have y1' := Lib.hid y1
    have y2' := Lib.hid y2
    have qL' := Lib.hid qL
    have hR' := Lib.hid hR
    clear hR qL y2 y1 kW hfin hb9 hle9
    have hg' := Lib.hid hg
    clear hg
    go_wp2
    refine hQ1 _ _ ?_
    go_wp2
    obtain ⟨d0, d1, d2, d3, d4, d5⟩ := hb9'.out (.bool rs1) (.slice rA1 rn1 rc1) (.slice rB1 rm1 rd1) (.bool rs2) (.slice rA2 rn2 rc2) (.slice rB2 rm2 rd2)
    exact bodyPost_ret (v := .agg #[.bool rs1, .slice rA1 rn1 rc1, .slice rB1 rm1 rd1, .bool rs2, .slice rA2 rn2 rc2, .slice rB2 rm2 rd2]) (by simp [results, Tryz.results37, go_sem, d0, d1, d2, d3, d4, d5]) rfl ⟨hle9'.out _ _ _ _ _ _, .inl ⟨g, _, hg'.out, rfl, TurnL.mk (hfin'.out _ _ _ _ _ _).1 (hfin'.out _ _ _ _ _ _).2⟩⟩
theorem pf_inTurn_ok (x : FracA × FracA) (r : G2) (va : Value) (w : World) (ha : IsTurnA w va x) (hs : tval x = some r) : Calls Tryz.prog 37 #[va] w fun e w' => ∃ v', e = .returned v' ∧ Le w w' ∧ TurnL .u32 w' v' r := by
  refine (pf_inTurn x va w ha).mono ?_
  rintro e w' ⟨hle, ⟨g, v, hg, rfl, h⟩ | ⟨hg, -⟩⟩
  · rw [hs] at hg
    injection hg with hg
    subst hg
    exact ⟨v, rfl, hle, h⟩
  · rw [hs] at hg
    cases hg
theorem pf_inTurn_no (x : FracA × FracA) (va : Value) (w : World) (ha : IsTurnA w va x) (hs : tval x = none) : Calls Tryz.prog 37 #[va] w fun e w' => e = .panicked (flt 10) ∧ Le w w' := by
  refine (pf_inTurn x va w ha).mono ?_
  rintro e w' ⟨hle, ⟨g, v, hg, -⟩ | ⟨-, h⟩⟩
  · rw [hs] at hg
    cases hg
  · exact ⟨h, hle⟩
end Go.Proofs.YtpjmbgfggonhhaaGreat
namespace Go.Proofs.YtpjmbgfggonhhaaGreat
open Go.RowKit Go.Shelf
set_option linter.unusedVariables false
set_option linter.unusedSimpArgs false
set_option maxRecDepth 100000 in
set_option maxHeartbeats 4000000 in
theorem pf_outTurn (a : G2) (va : Value) (w : World) (ha : TurnL .u32 w va a) : Calls Tryz.prog 48 #[va] w (OperPostT (outG a) w) := by
  obtain ⟨as1, aA1, an1, ac1, aB1, am1, ad1, as2, aA2, an2, ac2, aB2, am2, ad2, rfl, ha1, ha2⟩ := ha
  obtain ⟨W0, hW0, hsz, hle, k0, k1⟩ := new2_le w (.cells #[.bool as1, .slice aA1 an1 ac1, .slice aB1 am1 ad1, .bool as2, .slice aA2 an2 ac2, .slice aB2 am2 ad2] 56) (.cells #[.bool false, .slice none 0 0, .bool false, .slice none 0 0, .bool false, .slice none 0 0, .bool false, .slice none 0 0] 28)
  obtain ⟨ca0, ca1, ca2, ca3, ca4, ca5⟩ := cells6 k0
  replace ha1 := ha1.le hle
  replace ha2 := ha2.le hle
  have hle' := Lib.hid hle
  have k0' := Lib.hid k0
  have k1' := Lib.hid k1
  have ha1' := Lib.hid ha1
  have ha2' := Lib.hid ha2
  clear ha2 ha1 k1 k0 hle
  go_enter Tryz.func48, Tryz.ntmps48
  go_wp2_with (fail)
  clear hW0
  refine wp_region_monoL (R := leRel) 7 [some 3, some 4, some 5, some 6, some 7, some 8, some 9, none] [[], [0], [1], [], [3], [4], [2, 5], [6]]
    [.eq (.pointer (some ⟨w.heap.size, 0, none⟩)), .eq (.agg #[.bool as1, .slice aA1 an1 ac1, .slice aB1 am1 ad1]), MPred.frO (a.1), .eq (.pointer (some ⟨w.heap.size, 3, none⟩)), .eq (.agg #[.bool as2, .slice aA2 an2 ac2, .slice aB2 am2 ad2]), MPred.frO (a.2), MPred.turnFO (a)] (fun ch W => ch = flt 12 ∧ ¬ TSz a 40 ∧ Le W0 W) (by kernel_rfl) (by kernel_rfl) (by kernel_rfl) (by kernel_rfl) ?_ (by rintro a9 ch W hdf - ⟨rfl, hbad, hle9⟩; exact ⟨hdf, hle'.out.trans hle9, .inr ⟨12, outG_no hbad, rfl⟩⟩) ?_
  · simp only [List.take_succ_cons, List.take_zero]
    refine monoSteps_cons ?_ (monoSteps_cons ?_ (monoSteps_cons ?_ (monoSteps_cons ?_ (monoSteps_cons ?_ (monoSteps_cons ?_ (monoSteps_cons ?_ (monoSteps_nil)))))))
    · refine monoStep_list rfl fun xv W hR hf Q hK hP => ?_
      simp only [fillAct, List.getD_cons_succ, List.getD_cons_zero, Act.put, List.setIfInBounds_toArray, List.set_cons_succ, List.set_cons_zero] at hK ⊢
      go_wp2
      exact hK _ _ (leRel.refl _) rfl
    · refine monoStep_list rfl fun xv W hR hf Q hK hP => ?_
      obtain ⟨e0, -⟩ := hf
      change _ = _ at e0
      have cc0 := (Below.cell hR (p := ⟨w.heap.size, 0, none⟩) (by show w.heap.size < W0.heap.size; omega)).trans ca0
      have cc1 := (Below.cell hR (p := ⟨w.heap.size, 1, none⟩) (by show w.heap.size < W0.heap.size; omega)).trans ca1
      have cc2 := (Below.cell hR (p := ⟨w.heap.size, 2, none⟩) (by show w.heap.size < W0.heap.size; omega)).trans ca2
      simp only [fillAct, List.getD_cons_succ, List.getD_cons_zero, Act.put, List.setIfInBounds_toArray, List.set_cons_succ, List.set_cons_zero, e0] at hK ⊢
      go_wp2
      exact hK _ _ (leRel.refl _) rfl
    · refine monoStep_list rfl fun xv W hR hf Q hK hP => ?_
      obtain ⟨e0, -⟩ := hf
      change _ = _ at e0
      simp only [fillAct, List.getD_cons_succ, List.getD_cons_zero, Act.put, List.setIfInBounds_toArray, List.set_cons_succ, List.set_cons_zero, e0] at hK ⊢
      rcases Classical.em (Rsz a.1 40) with hs | hs
      · have hcall := pf_out_ok (fun _ => True) (fun _ => True) a.1 _ W (Up.any _) (ha1'.out.le hR) hs
        have hcall' := Lib.hid hcall
        have hR' := Lib.hid hR
        have hs' := Lib.hid hs
        clear hs hR hcall
        go_wp2_with (fail)
        go_at_call 41
        refine hcall'.out.mono ?_
        rintro e w' ⟨v', rfl, y1, y2⟩
        obtain ⟨zs1, zA1, zn1, zc1, zt1, zB1, zm1, zd1, qz⟩ := y2.fform
        subst qz
        have y2' := Lib.hid y2
        clear y2
        go_wp2
        exact hK _ _ y1 ⟨hs'.out, y2'.out⟩
      · have hcall := pf_out_no (fun _ => True) a.1 _ W (ha1'.out.le hR) hs
        have hcall' := Lib.hid hcall
        have hR' := Lib.hid hR
        have hs' := Lib.hid hs
        clear hs hR hcall
        go_wp2_with (fail)
        go_at_call 41
        refine hcall'.out.mono ?_
        rintro e w' ⟨rfl, y1⟩
        go_wp2_with (fail)
        exact hP _ _ _ (Le.trans hR'.out y1) ⟨rfl, fun h => hs'.out h.1, hR'.out.trans y1⟩
    · refine monoStep_list rfl fun xv W hR hf Q hK hP => ?_
      simp only [fillAct, List.getD_cons_succ, List.getD_cons_zero, Act.put, List.setIfInBounds_toArray, List.set_cons_succ, List.set_cons_zero] at hK ⊢
      go_wp2
      exact hK _ _ (leRel.refl _) rfl
    · refine monoStep_list rfl fun xv W hR hf Q hK hP => ?_
      obtain ⟨e0, -⟩ := hf
      change _ = _ at e0
      have cc3 := (Below.cell hR (p := ⟨w.heap.size, 3, none⟩) (by show w.heap.size < W0.heap.size; omega)).trans ca3
      have cc4 := (Below.cell hR (p := ⟨w.heap.size, 4, none⟩) (by show w.heap.size < W0.heap.size; omega)).trans ca4
      have cc5 := (Below.cell hR (p := ⟨w.heap.size, 5, none⟩) (by show w.heap.size < W0.heap.size; omega)).trans ca5
      simp only [fillAct, List.getD_cons_succ, List.getD_cons_zero, Act.put, List.setIfInBounds_toArray, List.set_cons_succ, List.set_cons_zero, e0] at hK ⊢
      go_wp2
      exact hK _ _ (leRel.refl _) rfl
    · refine monoStep_list rfl fun xv W hR hf Q hK hP => ?_
      obtain ⟨e0, -⟩ := hf
      change _ = _ at e0
      simp only [fillAct, List.getD_cons_succ, List.getD_cons_zero, Act.put, List.setIfInBounds_toArray, List.set_cons_succ, List.set_cons_zero, e0] at hK ⊢
      rcases Classical.em (Rsz a.2 40) with hs | hs
      · have hcall := pf_out_ok (fun _ => True) (fun _ => True) a.2 _ W (Up.any _) (ha2'.out.le hR) hs
        have hcall' := Lib.hid hcall
        have hR' := Lib.hid hR
        have hs' := Lib.hid hs
        clear hs hR hcall
        go_wp2_with (fail)
        go_at_call 41
        refine hcall'.out.mono ?_
        rintro e w' ⟨v', rfl, y1, y2⟩
        obtain ⟨zs1, zA1, zn1, zc1, zt1, zB1, zm1, zd1, qz⟩ := y2.fform
        subst qz
        have y2' := Lib.hid y2
        clear y2
        go_wp2
        exact hK _ _ y1 ⟨hs'.out, y2'.out⟩
      · have hcall := pf_out_no (fun _ => True) a.2 _ W (ha2'.out.le hR) hs
        have hcall' := Lib.hid hcall
        have hR' := Lib.hid hR
        have hs' := Lib.hid hs
        clear hs hR hcall
        go_wp2_with (fail)
        go_at_call 41
        refine hcall'.out.mono ?_
        rintro e w' ⟨rfl, y1⟩
        go_wp2_with (fail)
        exact hP _ _ _ (Le.trans hR'.out y1) ⟨rfl, fun h => hs'.out h.2, hR'.out.trans y1⟩
    · refine monoStep_list rfl fun xv W hR hf Q hK hP => ?_
      obtain ⟨e0, e1, -⟩ := hf
      replace e0 : Rsz (a.1) 40 ∧ FracT W (xv 2) (a.1) := e0
      replace e1 : Rsz (a.2) 40 ∧ FracT W (xv 5) (a.2) := e1
      obtain ⟨hzu0, hvu0⟩ := e0
      obtain ⟨u0s1, u0A1, u0n1, u0c1, u0t1, u0B1, u0m1, u0d1, qu0⟩ := hvu0.fform
      rw [qu0] at hvu0
      obtain ⟨hzu1, hvu1⟩ := e1
      obtain ⟨u1s1, u1A1, u1n1, u1c1, u1t1, u1B1, u1m1, u1d1, qu1⟩ := hvu1.fform
      rw [qu1] at hvu1
      simp only [fillAct, List.getD_cons_succ, List.getD_cons_zero, Act.put, List.setIfInBounds_toArray, List.set_cons_succ, List.set_cons_zero, qu0, qu1] at hK ⊢
      go_wp2
      exact hK _ _ (leRel.refl _) (⟨⟨hzu0, hzu1⟩, TurnF.mk hvu0 hvu1⟩)
  · intro xv W hR hf Q' hQ1 _
    have eL : TSz (a) 40 ∧ TurnF W (xv 6) (a) := hf 6 (by decide)
    obtain ⟨hg, rs1, rA1, rn1, rc1, rt1, rB1, rm1, rd1, rs2, rA2, rn2, rc2, rt2, rB2, rm2, rd2, qL, y1, y2⟩ := eL
    have kW := (Below.block hR (w.heap.size + 1) (by omega)).trans k1'.out
    obtain ⟨z0, z1, z2, z3, z4, z5, z6, z7⟩ := cells8 kW
    have g0 := frozen00 kW 0
    have g1 := frozen00 kW 1
    have g2 := frozen00 kW 2
    have g3 := frozen00 kW 3
    have g4 := frozen00 kW 4
    have g5 := frozen00 kW 5
    have g6 := frozen00 kW 6
    have g7 := frozen00 kW 7
    simp only [List.drop_succ_cons, List.drop_zero]
    rw [show List.range 7 = [0, 1, 2, 3, 4, 5, 6] from rfl]
    simp only [fillAct, List.getD_cons_succ, List.getD_cons_zero, Act.put, List.setIfInBounds_toArray, List.set_cons_succ, List.set_cons_zero, qL]
    have hle9 := fun u0 u1 u2 u3 u4 u5 u6 u7 => le_set8 (Le.trans hle'.out hR) (show w.heap.size ≤ w.heap.size + 1 by omega) u0 u1 u2 u3 u4 u5 u6 u7
    have hb9 := fun u0 u1 u2 u3 u4 u5 u6 u7 => cells8 (heap_set8 kW u0 u1 u2 u3 u4 u5 u6 u7)
    simp only [set8] at hb9
    have hfin := fun u0 u1 u2 u3 u4 u5 u6 u7 => And.intro (y1.touch (noInt8 kW) (touch_set8 W (w.heap.size + 1) u0 u1 u2 u3 u4 u5 u6 u7)) (y2.touch (noInt8 kW) (touch_set8 W (w.heap.size + 1) u0 u1 u2 u3 u4 u5 u6 u7))
    have hle9' := Lib.hid hle9
    have hb9' := Lib.hid hb9
    have hfin' := Lib.hid hfin
    have kW' := Lib.hid kW
    have y1' := Lib.hid y1
    have y2' := Lib.hid y2
    have qL' := Lib.hid qL
    have hR' := Lib.hid hR
    clear hR qL y2 y1 kW hfin hb9 hle9
    have hg' := Lib.hid hg
    clear hg
    go_wp2
    refine hQ1 _ _ ?_
    go_wp2
    obtain ⟨d0, d1, d2, d3, d4, d5, d6, d7⟩ := hb9'.out (.bool rs1) (.slice rA1 rn1 rc1) (.bool rt1) (.slice rB1 rm1 rd1) (.bool rs2) (.slice rA2 rn2 rc2) (.bool rt2) (.slice rB2 rm2 rd2)
    exact bodyPost_ret (v := .agg #[.bool rs1, .slice rA1 rn1 rc1, .bool rt1, .slice rB1 rm1 rd1, .bool rs2, .slice rA2 rn2 rc2, .bool rt2, .slice rB2 rm2 rd2]) (by simp [results, Tryz.results48, go_sem, d0, d1, d2, d3, d4, d5, d6, d7]) rfl ⟨hle9'.out _ _ _ _ _ _ _ _, .inl ⟨a, _, outG_ok hg'.out, rfl, TurnF.mk (hfin'.out _ _ _ _ _ _ _ _).1 (hfin'.out _ _ _ _ _ _ _ _).2⟩⟩
theorem pf_outTurn_ok (r : G2) (va : Value) (w : World) (ha : TurnL .u32 w va r) (hs : TSz r 40) : Calls Tryz.prog 48 #[va] w fun e w' => ∃ v', e = .returned v' ∧ Le w w' ∧ TurnF w' v' r := by
  refine (pf_outTurn r va w ha).mono ?_
  rw [outG_ok hs]
  rintro e w' ⟨hle, ⟨g, v, hg, rfl, h⟩ | ⟨c, hg, -⟩⟩
  · injection hg with hg
    subst hg
    exact ⟨v, rfl, hle, h⟩
  · cases hg
theorem pf_outTurn_no (r : G2) (va : Value) (w : World) (ha : TurnL .u32 w va r) (hs : ¬ TSz r 40) : Calls Tryz.prog 48 #[va] w fun e w' => e = .panicked (flt 12) ∧ Le w w' := by
  refine (pf_outTurn r va w ha).mono ?_
  rw [outG_no hs]
  rintro e w' ⟨hle, ⟨g, v, hg, -⟩ | ⟨c, hg, rfl⟩⟩
  · cases hg
  · injection hg with hg
    subst hg
    exact ⟨rfl, hle⟩
end Go.Proofs.YtpjmbgfggonhhaaGreat
namespace Go.Proofs.YtpjmbgfggonhhaaGreat
open Go.RowKit Go.Shelf
set_option linter.unusedVariables false
set_option linter.unusedSimpArgs false
set_option maxRecDepth 100000 in
set_option maxHeartbeats 4000000 in
theorem pf_tplus (a b : G2) (va vb : Value) (w : World) (ha : TurnL .u32 w va a) (hb : TurnL .u32 w vb b) (hza : TSz a 1000000) (hzb : TSz b 1000000) :
    Calls Tryz.prog 23 #[va, vb] w fun e w' => ∃ v', e = .returned v' ∧ Le w w' ∧ TurnL .u32 w' v' (gadd a b) := by
  obtain ⟨as1, aA1, an1, ac1, aB1, am1, ad1, as2, aA2, an2, ac2, aB2, am2, ad2, rfl, ha1, ha2⟩ := ha
  obtain ⟨bs1, bA1, bn1, bc1, bB1, bm1, bd1, bs2, bA2, bn2, bc2, bB2, bm2, bd2, rfl, hb1, hb2⟩ := hb
  obtain ⟨W0, hW0, hsz, hle, k0, k1, k2⟩ := new3_le w (.cells #[.bool as1, .slice aA1 an1 ac1, .slice aB1 am1 ad1, .bool as2, .slice aA2 an2 ac2, .slice aB2 am2 ad2] 56) (.cells #[.bool bs1, .slice bA1 bn1 bc1, .slice bB1 bm1 bd1, .bool bs2, .slice bA2 bn2 bc2, .slice bB2 bm2 bd2] 56) (.cells #[.bool false, .slice none 0 0, .slice none 0 0, .bool false, .slice none 0 0, .slice none 0 0] 56)
  obtain ⟨ca0, ca1, ca2, ca3, ca4, ca5⟩ := cells6 k0
  obtain ⟨cb0, cb1, cb2, cb3, cb4, cb5⟩ := cells6 k1
  replace ha1 := ha1.le hle
  replace ha2 := ha2.le hle
  replace hb1 := hb1.le hle
  replace hb2 := hb2.le hle
  have hle' := Lib.hid hle
  have k0' := Lib.hid k0
  have k1' := Lib.hid k1
  have k2' := Lib.hid k2
  have ha1' := Lib.hid ha1
  have ha2' := Lib.hid ha2
  have hb1' := Lib.hid hb1
  have hb2' := Lib.hid hb2
  have hza' := Lib.hid hza
  have hzb' := Lib.hid hzb
  clear hzb hza hb2 hb1 ha2 ha1 k2 k1 k0 hle
  go_enter Tryz.func23, Tryz.ntmps23
  go_wp2_with (fail)
  clear hW0
  refine wp_region_monoL (R := leRel) 11 [some 5, some 6, some 7, some 8, some 9, some 10, some 11, some 12, some 13, some 14, some 15, none] [[], [0], [], [2], [1, 3], [], [5], [], [7], [6, 8], [4, 9], [10]]
    [.eq (.pointer (some ⟨w.heap.size, 0, none⟩)), .eq (.agg #[.bool as1, .slice aA1 an1 ac1, .slice aB1 am1 ad1]), .eq (.pointer (some ⟨w.heap.size + 1, 0, none⟩)), .eq (.agg #[.bool bs1, .slice bA1 bn1 bc1, .slice bB1 bm1 bd1]), MPred.ratT .u32 (a.1 + b.1), .eq (.pointer (some ⟨w.heap.size, 3, none⟩)), .eq (.agg #[.bool as2, .slice aA2 an2 ac2, .slice aB2 am2 ad2]), .eq (.pointer (some ⟨w.heap.size + 1, 3, none⟩)), .eq (.agg #[.bool bs2, .slice bA2 bn2 bc2, .slice bB2 bm2 bd2]), MPred.ratT .u32 (a.2 + b.2), MPred.turn .u32 (gadd a b)] (fun _ _ => False) (by kernel_rfl) (by kernel_rfl) (by kernel_rfl) (by kernel_rfl) ?_ (fun _ _ _ _ _ h => h.elim) ?_
  · simp only [List.take_succ_cons, List.take_zero]
    refine monoSteps_cons ?_ (monoSteps_cons ?_ (monoSteps_cons ?_ (monoSteps_cons ?_ (monoSteps_cons ?_ (monoSteps_cons ?_ (monoSteps_cons ?_ (monoSteps_cons ?_ (monoSteps_cons ?_ (monoSteps_cons ?_ (monoSteps_cons ?_ (monoSteps_nil)))))))))))
    · refine monoStep_list rfl fun xv W hR hf Q hK hP => ?_
      simp only [fillAct, List.getD_cons_succ, List.getD_cons_zero, Act.put, List.setIfInBounds_toArray, List.set_cons_succ, List.set_cons_zero] at hK ⊢
      go_wp2
      exact hK _ _ (leRel.refl _) rfl
    · refine monoStep_list rfl fun xv W hR hf Q hK hP => ?_
      obtain ⟨e0, -⟩ := hf
      change _ = _ at e0
      have cc0 := (Below.cell hR (p := ⟨w.heap.size, 0, none⟩) (by show w.heap.size < W0.heap.size; omega)).trans ca0
      have cc1 := (Below.cell hR (p := ⟨w.heap.size, 1, none⟩) (by show w.heap.size < W0.heap.size; omega)).trans ca1
      have cc2 := (Below.cell hR (p := ⟨w.heap.size, 2, none⟩) (by show w.heap.size < W0.heap.size; omega)).trans ca2
      simp only [fillAct, List.getD_cons_succ, List.getD_cons_zero, Act.put, List.setIfInBounds_toArray, List.set_cons_succ, List.set_cons_zero, e0] at hK ⊢
      go_wp2
      exact hK _ _ (leRel.refl _) rfl
    · refine monoStep_list rfl fun xv W hR hf Q hK hP => ?_
      simp only [fillAct, List.getD_cons_succ, List.getD_cons_zero, Act.put, List.setIfInBounds_toArray, List.set_cons_succ, List.set_cons_zero] at hK ⊢
      go_wp2
      exact hK _ _ (leRel.refl _) rfl
    · refine monoStep_list rfl fun xv W hR hf Q hK hP => ?_
      obtain ⟨e0, -⟩ := hf
      change _ = _ at e0
      have cc0 := (Below.cell hR (p := ⟨w.heap.size + 1, 0, none⟩) (by show w.heap.size + 1 < W0.heap.size; omega)).trans cb0
      have cc1 := (Below.cell hR (p := ⟨w.heap.size + 1, 1, none⟩) (by show w.heap.size + 1 < W0.heap.size; omega)).trans cb1
      have cc2 := (Below.cell hR (p := ⟨w.heap.size + 1, 2, none⟩) (by show w.heap.size + 1 < W0.heap.size; omega)).trans cb2
      simp only [fillAct, List.getD_cons_succ, List.getD_cons_zero, Act.put, List.setIfInBounds_toArray, List.set_cons_succ, List.set_cons_zero, e0] at hK ⊢
      go_wp2
      exact hK _ _ (leRel.refl _) rfl
    · refine monoStep_list rfl fun xv W hR hf Q hK hP => ?_
      obtain ⟨e0, e1, -⟩ := hf
      change _ = _ at e0 e1
      simp only [fillAct, List.getD_cons_succ, List.getD_cons_zero, Act.put, List.setIfInBounds_toArray, List.set_cons_succ, List.set_cons_zero, e0, e1] at hK ⊢
      go_wp2_with (fail)
      go_at_call 58
      refine (pf_rplus (fun _ => True) a.1 b.1 _ _ W (Up.any _) (ha1'.out.le hR) (hb1'.out.le hR) (hza'.out.1.up (by decide)) (hzb'.out.1.up (by decide))).mono ?_
      rintro e w' ⟨v', rfl, y1, y2⟩
      obtain ⟨zs1, zA1, zn1, zc1, zB1, zm1, zd1, qz⟩ := y2.qform
      subst qz
      have y2' := Lib.hid y2
      clear y2
      go_wp2
      exact hK _ _ y1 y2'.out
    · refine monoStep_list rfl fun xv W hR hf Q hK hP => ?_
      simp only [fillAct, List.getD_cons_succ, List.getD_cons_zero, Act.put, List.setIfInBounds_toArray, List.set_cons_succ, List.set_cons_zero] at hK ⊢
      go_wp2
      exact hK _ _ (leRel.refl _) rfl
    · refine monoStep_list rfl fun xv W hR hf Q hK hP => ?_
      obtain ⟨e0, -⟩ := hf
      change _ = _ at e0
      have cc3 := (Below.cell hR (p := ⟨w.heap.size, 3, none⟩) (by show w.heap.size < W0.heap.size; omega)).trans ca3
      have cc4 := (Below.cell hR (p := ⟨w.heap.size, 4, none⟩) (by show w.heap.size < W0.heap.size; omega)).trans ca4
      have cc5 := (Below.cell hR (p := ⟨w.heap.size, 5, none⟩) (by show w.heap.size < W0.heap.size; omega)).trans ca5
      simp only [fillAct, List.getD_cons_succ, List.getD_cons_zero, Act.put, List.setIfInBounds_toArray, List.set_cons_succ, List.set_cons_zero, e0] at hK ⊢
      go_wp2
      exact hK _ _ (leRel.refl _) rfl
    · refine monoStep_list rfl fun xv W hR hf Q hK hP => ?_
      simp only [fillAct, List.getD_cons_succ, List.getD_cons_zero, Act.put, List.setIfInBounds_toArray, List.set_cons_succ, List.set_cons_zero] at hK ⊢
      go_wp2
      exact hK _ _ (leRel.refl _) rfl
    · refine monoStep_list rfl fun xv W hR hf Q hK hP => ?_
      obtain ⟨e0, -⟩ := hf
      change _ = _ at e0
      have cc3 := (Below.cell hR (p := ⟨w.heap.size + 1, 3, none⟩) (by show w.heap.size + 1 < W0.heap.size; omega)).trans cb3
      have cc4 := (Below.cell hR (p := ⟨w.heap.size + 1, 4, none⟩) (by show w.heap.size + 1 < W0.heap.size; omega)).trans cb4
      have cc5 := (Below.cell hR (p := ⟨w.heap.size + 1, 5, none⟩) (by show w.heap.size + 1 < W0.heap.size; omega)).trans cb5
      simp only [fillAct, List.getD_cons_succ, List.getD_cons_zero, Act.put, List.setIfInBounds_toArray, List.set_cons_succ, List.set_cons_zero, e0] at hK ⊢
      go_wp2
      exact hK _ _ (leRel.refl _) rfl
    · refine monoStep_list rfl fun xv W hR hf Q hK hP => ?_
      obtain ⟨e0, e1, -⟩ := hf
      change _ = _ at e0 e1
      simp only [fillAct, List.getD_cons_succ, List.getD_cons_zero, Act.put, List.setIfInBounds_toArray, List.set_cons_succ, List.set_cons_zero, e0, e1] at hK ⊢
      go_wp2_with (fail)
      go_at_call 58
      refine (pf_rplus (fun _ => True) a.2 b.2 _ _ W (Up.any _) (ha2'.out.le hR) (hb2'.out.le hR) (hza'.out.2.up (by decide)) (hzb'.out.2.up (by decide))).mono ?_
      rintro e w' ⟨v', rfl, y1, y2⟩
      obtain ⟨zs1, zA1, zn1, zc1, zB1, zm1, zd1, qz⟩ := y2.qform
      subst qz
      have y2' := Lib.hid y2
      clear y2
      go_wp2
      exact hK _ _ y1 y2'.out
    · refine monoStep_list rfl fun xv W hR hf Q hK hP => ?_
      obtain ⟨e0, e1, -⟩ := hf
      replace e0 : RatT .u32 W (xv 4) (a.1 + b.1) := e0
      replace e1 : RatT .u32 W (xv 9) (a.2 + b.2) := e1
      obtain ⟨u0s1, u0A1, u0n1, u0c1, u0B1, u0m1, u0d1, qu0⟩ := e0.qform
      rw [qu0] at e0
      obtain ⟨u1s1, u1A1, u1n1, u1c1, u1B1, u1m1, u1d1, qu1⟩ := e1.qform
      rw [qu1] at e1
      simp only [fillAct, List.getD_cons_succ, List.getD_cons_zero, Act.put, List.setIfInBounds_toArray, List.set_cons_succ, List.set_cons_zero, qu0, qu1] at hK ⊢
      go_wp2
      exact hK _ _ (leRel.refl _) (TurnL.mk e0 e1)
  · intro xv W hR hf Q' hQ1 _
    have eL : TurnL .u32 W (xv 10) (gadd a b) := hf 10 (by decide)
    obtain ⟨rs1, rA1, rn1, rc1, rB1, rm1, rd1, rs2, rA2, rn2, rc2, rB2, rm2, rd2, qL, y1, y2⟩ := eL
    have kW := (Below.block hR (w.heap.size + 1 + 1) (by omega)).trans k2'.out
    obtain ⟨z0, z1, z2, z3, z4, z5⟩ := cells6 kW
    have g0 := frozen00 kW 0
    have g1 := frozen00 kW 1
    have g2 := frozen00 kW 2
    have g3 := frozen00 kW 3
    have g4 := frozen00 kW 4
    have g5 := frozen00 kW 5
    simp only [List.drop_succ_cons, List.drop_zero]
    rw [show List.range 11 = [0, 1, 2, 3, 4, 5, 6, 7, 8, 9, 10] from rfl]
    simp only [fillAct, List.getD_cons_succ, List.getD_cons_zero, Act.put, List.setIfInBounds_toArray, List.set_cons_succ, List.set_cons_zero, qL]
    have hle9 := fun u0 u1 u2 u3 u4 u5 => le_set6 (Le.trans hle'.out hR) (show w.heap.size ≤ w.heap.size + 1 + 1 by omega) u0 u1 u2 u3 u4 u5
    have hb9 := fun u0 u1 u2 u3 u4 u5 => cells6 (heap_set6 kW u0 u1 u2 u3 u4 u5)
    simp only [set6] at hb9
    have hfin := fun u0 u1 u2 u3 u4 u5 => And.intro (y1.touch (noInt6 kW) (touch_set6 W (w.heap.size + 1 + 1) u0 u1 u2 u3 u4 u5)) (y2.touch (noInt6 kW) (touch_set6 W (w.heap.size + 1 + 1) u0 u1 u2 u3 u4 u5))
    have hle9' := Lib.hid hle9
    have hb9' := Lib.hid hb9
    have hfin' := Lib.hid hfin
    have kW' := Lib.hid kW
    have y1' := Lib.hid y1
    have y2' := Lib.hid y2
    have qL' := Lib.hid qL
    have hR' := Lib.hid hR
    clear hR qL y2 y1 kW hfin hb9 hle9
    go_wp2
    refine hQ1 _ _ ?_
    go_wp2
    obtain ⟨d0, d1, d2, d3, d4, d5⟩ := hb9'.out (.bool rs1) (.slice rA1 rn1 rc1) (.slice rB1 rm1 rd1) (.bool rs2) (.slice rA2 rn2 rc2) (.slice rB2 rm2 rd2)
    exact bodyPost_ret (v := .agg #[.bool rs1, .slice rA1 rn1 rc1, .slice rB1 rm1 rd1, .bool rs2, .slice rA2 rn2 rc2, .slice rB2 rm2 rd2]) (by simp [results, Tryz.results23, go_sem, d0, d1, d2, d3, d4, d5]) rfl ⟨_, rfl, hle9'.out _ _ _ _ _ _, TurnL.mk (hfin'.out _ _ _ _ _ _).1 (hfin'.out _ _ _ _ _ _).2⟩
set_option maxRecDepth 100000 in
set_option maxHeartbeats 4000000 in
theorem pf_ttimes (a b : G2) (va vb : Value) (w : World) (ha : TurnL .u32 w va a) (hb : TurnL .u32 w vb b) (hza : TSz a 1000000) (hzb : TSz b 1000000) :
    Calls Tryz.prog 27 #[va, vb] w fun e w' => ∃ v', e = .returned v' ∧ Le w w' ∧ TurnL .u32 w' v' (gmul a b) := by
  obtain ⟨as1, aA1, an1, ac1, aB1, am1, ad1, as2, aA2, an2, ac2, aB2, am2, ad2, rfl, ha1, ha2⟩ := ha
  obtain ⟨bs1, bA1, bn1, bc1, bB1, bm1, bd1, bs2, bA2, bn2, bc2, bB2, bm2, bd2, rfl, hb1, hb2⟩ := hb
  obtain ⟨W0, hW0, hsz, hle, k0, k1, k2⟩ := new3_le w (.cells #[.bool as1, .slice aA1 an1 ac1, .slice aB1 am1 ad1, .bool as2, .slice aA2 an2 ac2, .slice aB2 am2 ad2] 56) (.cells #[.bool bs1, .slice bA1 bn1 bc1, .slice bB1 bm1 bd1, .bool bs2, .slice bA2 bn2 bc2, .slice bB2 bm2 bd2] 56) (.cells #[.bool false, .slice none 0 0, .slice none 0 0, .bool false, .slice none 0 0, .slice none 0 0] 56)
  obtain ⟨ca0, ca1, ca2, ca3, ca4, ca5⟩ := cells6 k0
  obtain ⟨cb0, cb1, cb2, cb3, cb4, cb5⟩ := cells6 k1
  replace ha1 := ha1.le hle
  replace ha2 := ha2.le hle
  replace hb1 := hb1.le hle
  replace hb2 := hb2.le hle
  have hle' := Lib.hid hle
  have k0' := Lib.hid k0
  have k1' := Lib.hid k1
  have k2' := Lib.hid k2
  have ha1' := Lib.hid ha1
  have ha2' := Lib.hid ha2
  have hb1' := Lib.hid hb1
  have hb2' := Lib.hid hb2
  have hza' := Lib.hid hza
  have hzb' := Lib.hid hzb
  clear hzb hza hb2 hb1 ha2 ha1 k2 k1 k0 hle
  go_enter Tryz.func27, Tryz.ntmps27
  go_wp2_with (fail)
  clear hW0
  refine wp_region_monoL (R := leRel) 23 [some 5, some 6, some 7, some 8, some 9, some 10, some 11, some 12, some 13, some 14, some 15, some 16, some 17, some 18, some 19, some 20, some 21, some 22, some 23, some 24, some 25, some 26, some 27, none] [[], [0], [], [2], [1, 3], [], [5], [], [7], [6, 8], [4, 9], [], [11], [], [13], [12, 14], [], [16], [], [18], [17, 19], [15, 20], [10, 21], [22]]
    [.eq (.pointer (some ⟨w.heap.size, 0, none⟩)), .eq (.agg #[.bool as1, .slice aA1 an1 ac1, .slice aB1 am1 ad1]), .eq (.pointer (some ⟨w.heap.size + 1, 0, none⟩)), .eq (.agg #[.bool bs1, .slice bA1 bn1 bc1, .slice bB1 bm1 bd1]), MPred.ratT .u32 (a.1 * b.1), .eq (.pointer (some ⟨w.heap.size, 3, none⟩)), .eq (.agg #[.bool as2, .slice aA2 an2 ac2, .slice aB2 am2 ad2]), .eq (.pointer (some ⟨w.heap.size + 1, 3, none⟩)), .eq (.agg #[.bool bs2, .slice bA2 bn2 bc2, .slice bB2 bm2 bd2]), MPred.ratT .u32 (a.2 * b.2), MPred.ratT .u32 (a.1 * b.1 - a.2 * b.2), .eq (.pointer (some ⟨w.heap.size, 0, none⟩)), .eq (.agg #[.bool as1, .slice aA1 an1 ac1, .slice aB1 am1 ad1]), .eq (.pointer (some ⟨w.heap.size + 1, 3, none⟩)), .eq (.agg #[.bool bs2, .slice bA2 bn2 bc2, .slice bB2 bm2 bd2]), MPred.ratT .u32 (a.1 * b.2), .eq (.pointer (some ⟨w.heap.size, 3, none⟩)), .eq (.agg #[.bool as2, .slice aA2 an2 ac2, .slice aB2 am2 ad2]), .eq (.pointer (some ⟨w.heap.size + 1, 0, none⟩)), .eq (.agg #[.bool bs1, .slice bA1 bn1 bc1, .slice bB1 bm1 bd1]), MPred.ratT .u32 (a.2 * b.1), MPred.ratT .u32 (a.1 * b.2 + a.2 * b.1), MPred.turn .u32 (gmul a b)] (fun _ _ => False) (by kernel_rfl) (by kernel_rfl) (by kernel_rfl) (by kernel_rfl) ?_ (fun _ _ _ _ _ h => h.elim) ?_
  · simp only [List.take_succ_cons, List.take_zero]
    refine monoSteps_cons ?_ (monoSteps_cons ?_ (monoSteps_cons ?_ (monoSteps_cons ?_ (monoSteps_cons ?_ (monoSteps_cons ?_ (monoSteps_cons ?_ (monoSteps_cons ?_ (monoSteps_cons ?_ (monoSteps_cons ?_ (monoSteps_cons ?_ (monoSteps_cons ?_ (monoSteps_cons ?_ (monoSteps_cons ?_ (monoSteps_cons ?_ (monoSteps_cons ?_ (monoSteps_cons ?_ (monoSteps_cons ?_ (monoSteps_cons ?_ (monoSteps_cons ?_ (monoSteps_cons ?_ (monoSteps_cons ?_ (monoSteps_cons ?_ (monoSteps_nil)))))))))))))))))))))))
    · refine monoStep_list rfl fun xv W hR hf Q hK hP => ?_
      simp only [fillAct, List.getD_cons_succ, List.getD_cons_zero, Act.put, List.setIfInBounds_toArray, List.set_cons_succ, List.set_cons_zero] at hK ⊢
      go_wp2
      exact hK _ _ (leRel.refl _) rfl
    · refine monoStep_list rfl fun xv W hR hf Q hK hP => ?_
      obtain ⟨e0, -⟩ := hf
      change _ = _ at e0
      have cc0 := (Below.cell hR (p := ⟨w.heap.size, 0, none⟩) (by show w.heap.size < W0.heap.size; omega)).trans ca0
      have cc1 := (Below.cell hR (p := ⟨w.heap.size, 1, none⟩) (by show w.heap.size < W0.heap.size; omega)).trans ca1
      have cc2 := (Below.cell hR (p := ⟨w.heap.size, 2, none⟩) (by show w.heap.size < W0.heap.size; omega)).trans ca2
      simp only [fillAct, List.getD_cons_succ, List.getD_cons_zero, Act.put, List.setIfInBounds_toArray, List.set_cons_succ, List.set_cons_zero, e0] at hK ⊢
      go_wp2
      exact hK _ _ (leRel.refl _) rfl
    · refine monoStep_list rfl fun xv W hR hf Q hK hP => ?_
      simp only [fillAct, List.getD_cons_succ, List.getD_cons_zero, Act.put, List.setIfInBounds_toArray, List.set_cons_succ, List.set_cons_zero] at hK ⊢
      go_wp2
      exact hK _ _ (leRel.refl _) rfl
    · refine monoStep_list rfl fun xv W hR hf Q hK hP => ?_
      obtain ⟨e0, -⟩ := hf
      change _ = _ at e0
      have cc0 := (Below.cell hR (p := ⟨w.heap.size + 1, 0, none⟩) (by show w.heap.size + 1 < W0.heap.size; omega)).trans cb0
      have cc1 := (Below.cell hR (p := ⟨w.heap.size + 1, 1, none⟩) (by show w.heap.size + 1 < W0.heap.size; omega)).trans cb1
      have cc2 := (Below.cell hR (p := ⟨w.heap.size + 1, 2, none⟩) (by show w.heap.size + 1 < W0.heap.size; omega)).trans cb2
      simp only [fillAct, List.getD_cons_succ, List.getD_cons_zero, Act.put, List.setIfInBounds_toArray, List.set_cons_succ, List.set_cons_zero, e0] at hK ⊢
      go_wp2
      exact hK _ _ (leRel.refl _) rfl
    · refine monoStep_list rfl fun xv W hR hf Q hK hP => ?_
      obtain ⟨e0, e1, -⟩ := hf
      change _ = _ at e0 e1
      simp only [fillAct, List.getD_cons_succ, List.getD_cons_zero, Act.put, List.setIfInBounds_toArray, List.set_cons_succ, List.set_cons_zero, e0, e1] at hK ⊢
      go_wp2_with (fail)
      go_at_call 60
      refine (pf_rtimes (fun _ => True) a.1 b.1 _ _ W (Up.any _) (ha1'.out.le hR) (hb1'.out.le hR) (hza'.out.1.up (by decide)) (hzb'.out.1.up (by decide))).mono ?_
      rintro e w' ⟨v', rfl, y1, y2⟩
      obtain ⟨zs1, zA1, zn1, zc1, zB1, zm1, zd1, qz⟩ := y2.qform
      subst qz
      have y2' := Lib.hid y2
      clear y2
      go_wp2
      exact hK _ _ y1 y2'.out
    · refine monoStep_list rfl fun xv W hR hf Q hK hP => ?_
      simp only [fillAct, List.getD_cons_succ, List.getD_cons_zero, Act.put, List.setIfInBounds_toArray, List.set_cons_succ, List.set_cons_zero] at hK ⊢
      go_wp2
      exact hK _ _ (leRel.refl _) rfl
    · refine monoStep_list rfl fun xv W hR hf Q hK hP => ?_
      obtain ⟨e0, -⟩ := hf
      change _ = _ at e0
      have cc3 := (Below.cell hR (p := ⟨w.heap.size, 3, none⟩) (by show w.heap.size < W0.heap.size; omega)).trans ca3
      have cc4 := (Below.cell hR (p := ⟨w.heap.size, 4, none⟩) (by show w.heap.size < W0.heap.size; omega)).trans ca4
      have cc5 := (Below.cell hR (p := ⟨w.heap.size, 5, none⟩) (by show w.heap.size < W0.heap.size; omega)).trans ca5
      simp only [fillAct, List.getD_cons_succ, List.getD_cons_zero, Act.put, List.setIfInBounds_toArray, List.set_cons_succ, List.set_cons_zero, e0] at hK ⊢
      go_wp2
      exact hK _ _ (leRel.refl _) rfl
    · refine monoStep_list rfl fun xv W hR hf Q hK hP => ?_
      simp only [fillAct, List.getD_cons_succ, List.getD_cons_zero, Act.put, List.setIfInBounds_toArray, List.set_cons_succ, List.set_cons_zero] at hK ⊢
      go_wp2
      exact hK _ _ (leRel.refl _) rfl
    · refine monoStep_list rfl fun xv W hR hf Q hK hP => ?_
      obtain ⟨e0, -⟩ := hf
      change _ = _ at e0
      have cc3 := (Below.cell hR (p := ⟨w.heap.size + 1, 3, none⟩) (by show w.heap.size + 1 < W0.heap.size; omega)).trans cb3
      have cc4 := (Below.cell hR (p := ⟨w.heap.size + 1, 4, none⟩) (by show w.heap.size + 1 < W0.heap.size; omega)).trans cb4
      have cc5 := (Below.cell hR (p := ⟨w.heap.size + 1, 5, none⟩) (by show w.heap.size + 1 < W0.heap.size; omega)).trans cb5
      simp only [fillAct, List.getD_cons_succ, List.getD_cons_zero, Act.put, List.setIfInBounds_toArray, List.set_cons_succ, List.set_cons_zero, e0] at hK ⊢
      go_wp2
      exact hK _ _ (leRel.refl _) rfl
    · refine monoStep_list rfl fun xv W hR hf Q hK hP => ?_
      obtain ⟨e0, e1, -⟩ := hf
      change _ = _ at e0 e1
      simp only [fillAct, List.getD_cons_succ, List.getD_cons_zero, Act.put, List.setIfInBounds_toArray, List.set_cons_succ, List.set_cons_zero, e0, e1] at hK ⊢
      go_wp2_with (fail)
      go_at_call 60
      refine (pf_rtimes (fun _ => True) a.2 b.2 _ _ W (Up.any _) (ha2'.out.le hR) (hb2'.out.le hR) (hza'.out.2.up (by decide)) (hzb'.out.2.up (by decide))).mono ?_
      rintro e w' ⟨v', rfl, y1, y2⟩
      obtain ⟨zs1, zA1, zn1, zc1, zB1, zm1, zd1, qz⟩ := y2.qform
      subst qz
      have y2' := Lib.hid y2
      clear y2
      go_wp2
      exact hK _ _ y1 y2'.out
    · refine monoStep_list rfl fun xv W hR hf Q hK hP => ?_
      obtain ⟨e0, e1, -⟩ := hf
      replace e0 : RatT .u32 W (xv 4) (a.1 * b.1) := e0
      replace e1 : RatT .u32 W (xv 9) (a.2 * b.2) := e1
      simp only [fillAct, List.getD_cons_succ, List.getD_cons_zero, Act.put, List.setIfInBounds_toArray, List.set_cons_succ, List.set_cons_zero] at hK ⊢
      go_wp2_with (fail)
      go_at_call 61
      refine (pf_rminus (fun _ => True) (a.1 * b.1) (a.2 * b.2) _ _ W (Up.any _) e0 e1 (rsz_mul2 hza'.out.1 hzb'.out.1 (by decide)) (rsz_mul2 hza'.out.2 hzb'.out.2 (by decide))).mono ?_
      rintro e w' ⟨v', rfl, y1, y2⟩
      obtain ⟨zs1, zA1, zn1, zc1, zB1, zm1, zd1, qz⟩ := y2.qform
      subst qz
      have y2' := Lib.hid y2
      clear y2
      go_wp2
      exact hK _ _ y1 y2'.out
    · refine monoStep_list rfl fun xv W hR hf Q hK hP => ?_
      simp only [fillAct, List.getD_cons_succ, List.getD_cons_zero, Act.put, List.setIfInBounds_toArray, List.set_cons_succ, List.set_cons_zero] at hK ⊢
      go_wp2
      exact hK _ _ (leRel.refl _) rfl
    · refine monoStep_list rfl fun xv W hR hf Q hK hP => ?_
      obtain ⟨e0, -⟩ := hf
      change _ = _ at e0
      have cc0 := (Below.cell hR (p := ⟨w.heap.size, 0, none⟩) (by show w.heap.size < W0.heap.size; omega)).trans ca0
      have cc1 := (Below.cell hR (p := ⟨w.heap.size, 1, none⟩) (by show w.heap.size < W0.heap.size; omega)).trans ca1
      have cc2 := (Below.cell hR (p := ⟨w.heap.size, 2, none⟩) (by show w.heap.size < W0.heap.size; omega)).trans ca2
      simp only [fillAct, List.getD_cons_succ, List.getD_cons_zero, Act.put, List.setIfInBounds_toArray, List.set_cons_succ, List.set_cons_zero, e0] at hK ⊢
      go_wp2
      exact hK _ _ (leRel.refl _) rfl
    · refine monoStep_list rfl fun xv W hR hf Q hK hP => ?_
      simp only [fillAct, List.getD_cons_succ, List.getD_cons_zero, Act.put, List.setIfInBounds_toArray, List.set_cons_succ, List.set_cons_zero] at hK ⊢
      go_wp2
      exact hK _ _ (leRel.refl _) rfl
    · refine monoStep_list rfl fun xv W hR hf Q hK hP => ?_
      obtain ⟨e0, -⟩ := hf
      change _ = _ at e0
      have cc3 := (Below.cell hR (p := ⟨w.heap.size + 1, 3, none⟩) (by show w.heap.size + 1 < W0.heap.size; omega)).trans cb3
      have cc4 := (Below.cell hR (p := ⟨w.heap.size + 1, 4, none⟩) (by show w.heap.size + 1 < W0.heap.size; omega)).trans cb4
      have cc5 := (Below.cell hR (p := ⟨w.heap.size + 1, 5, none⟩) (by show w.heap.size + 1 < W0.heap.size; omega)).trans cb5
      simp only [fillAct, List.getD_cons_succ, List.getD_cons_zero, Act.put, List.setIfInBounds_toArray, List.set_cons_succ, List.set_cons_zero, e0] at hK ⊢
      go_wp2
      exact hK _ _ (leRel.refl _) rfl
    · refine monoStep_list rfl fun xv W hR hf Q hK hP => ?_
      obtain ⟨e0, e1, -⟩ := hf
      change _ = _ at e0 e1
      simp only [fillAct, List.getD_cons_succ, List.getD_cons_zero, Act.put, List.setIfInBounds_toArray, List.set_cons_succ, List.set_cons_zero, e0, e1] at hK ⊢
      go_wp2_with (fail)
      go_at_call 60
      refine (pf_rtimes (fun _ => True) a.1 b.2 _ _ W (Up.any _) (ha1'.out.le hR) (hb2'.out.le hR) (hza'.out.1.up (by decide)) (hzb'.out.2.up (by decide))).mono ?_
      rintro e w' ⟨v', rfl, y1, y2⟩
      obtain ⟨zs1, zA1, zn1, zc1, zB1, zm1, zd1, qz⟩ := y2.qform
      subst qz
      have y2' := Lib.hid y2
      clear y2
      go_wp2
      exact hK _ _ y1 y2'.out
    · refine monoStep_list rfl fun xv W hR hf Q hK hP => ?_
      simp only [fillAct, List.getD_cons_succ, List.getD_cons_zero, Act.put, List.setIfInBounds_toArray, List.set_cons_succ, List.set_cons_zero] at hK ⊢
      go_wp2
      exact hK _ _ (leRel.refl _) rfl
    · refine monoStep_list rfl fun xv W hR hf Q hK hP => ?_
      obtain ⟨e0, -⟩ := hf
      change _ = _ at e0
      have cc3 := (Below.cell hR (p := ⟨w.heap.size, 3, none⟩) (by show w.heap.size < W0.heap.size; omega)).trans ca3
      have cc4 := (Below.cell hR (p := ⟨w.heap.size, 4, none⟩) (by show w.heap.size < W0.heap.size; omega)).trans ca4
      have cc5 := (Below.cell hR (p := ⟨w.heap.size, 5, none⟩) (by show w.heap.size < W0.heap.size; omega)).trans ca5
      simp only [fillAct, List.getD_cons_succ, List.getD_cons_zero, Act.put, List.setIfInBounds_toArray, List.set_cons_succ, List.set_cons_zero, e0] at hK ⊢
      go_wp2
      exact hK _ _ (leRel.refl _) rfl
    · refine monoStep_list rfl fun xv W hR hf Q hK hP => ?_
      simp only [fillAct, List.getD_cons_succ, List.getD_cons_zero, Act.put, List.setIfInBounds_toArray, List.set_cons_succ, List.set_cons_zero] at hK ⊢
      go_wp2
      exact hK _ _ (leRel.refl _) rfl
    · refine monoStep_list rfl fun xv W hR hf Q hK hP => ?_
      obtain ⟨e0, -⟩ := hf
      change _ = _ at e0
      have cc0 := (Below.cell hR (p := ⟨w.heap.size + 1, 0, none⟩) (by show w.heap.size + 1 < W0.heap.size; omega)).trans cb0
      have cc1 := (Below.cell hR (p := ⟨w.heap.size + 1, 1, none⟩) (by show w.heap.size + 1 < W0.heap.size; omega)).trans cb1
      have cc2 := (Below.cell hR (p := ⟨w.heap.size + 1, 2, none⟩) (by show w.heap.size + 1 < W0.heap.size; omega)).trans cb2
      simp only [fillAct, List.getD_cons_succ, List.getD_cons_zero, Act.put, List.setIfInBounds_toArray, List.set_cons_succ, List.set_cons_zero, e0] at hK ⊢
      go_wp2
      exact hK _ _ (leRel.refl _) rfl
    · refine monoStep_list rfl fun xv W hR hf Q hK hP => ?_
      obtain ⟨e0, e1, -⟩ := hf
      change _ = _ at e0 e1
      simp only [fillAct, List.getD_cons_succ, List.getD_cons_zero, Act.put, List.setIfInBounds_toArray, List.set_cons_succ, List.set_cons_zero, e0, e1] at hK ⊢
      go_wp2_with (fail)
      go_at_call 60
      refine (pf_rtimes (fun _ => True) a.2 b.1 _ _ W (Up.any _) (ha2'.out.le hR) (hb1'.out.le hR) (hza'.out.2.up (by decide)) (hzb'.out.1.up (by decide))).mono ?_
      rintro e w' ⟨v', rfl, y1, y2⟩
      obtain ⟨zs1, zA1, zn1, zc1, zB1, zm1, zd1, qz⟩ := y2.qform
      subst qz
      have y2' := Lib.hid y2
      clear y2
      go_wp2
      exact hK _ _ y1 y2'.out
    · refine monoStep_list rfl fun xv W hR hf Q hK hP => ?_
      obtain ⟨e0, e1, -⟩ := hf
      replace e0 : RatT .u32 W (xv 15) (a.1 * b.2) := e0
      replace e1 : RatT .u32 W (xv 20) (a.2 * b.1) := e1
      simp only [fillAct, List.getD_cons_succ, List.getD_cons_zero, Act.put, List.setIfInBounds_toArray, List.set_cons_succ, List.set_cons_zero] at hK ⊢
      go_wp2_with (fail)
      go_at_call 58
      refine (pf_rplus (fun _ => True) (a.1 * b.2) (a.2 * b.1) _ _ W (Up.any _) e0 e1 (rsz_mul2 hza'.out.1 hzb'.out.2 (by decide)) (rsz_mul2 hza'.out.2 hzb'.out.1 (by decide))).mono ?_
      rintro e w' ⟨v', rfl, y1, y2⟩
      obtain ⟨zs1, zA1, zn1, zc1, zB1, zm1, zd1, qz⟩ := y2.qform
      subst qz
      have y2' := Lib.hid y2
      clear y2
      go_wp2
      exact hK _ _ y1 y2'.out
    · refine monoStep_list rfl fun xv W hR hf Q hK hP => ?_
      obtain ⟨e0, e1, -⟩ := hf
      replace e0 : RatT .u32 W (xv 10) (a.1 * b.1 - a.2 * b.2) := e0
      replace e1 : RatT .u32 W (xv 21) (a.1 * b.2 + a.2 * b.1) := e1
      obtain ⟨u0s1, u0A1, u0n1, u0c1, u0B1, u0m1, u0d1, qu0⟩ := e0.qform
      rw [qu0] at e0
      obtain ⟨u1s1, u1A1, u1n1, u1c1, u1B1, u1m1, u1d1, qu1⟩ := e1.qform
      rw [qu1] at e1
      simp only [fillAct, List.getD_cons_succ, List.getD_cons_zero, Act.put, List.setIfInBounds_toArray, List.set_cons_succ, List.set_cons_zero, qu0, qu1] at hK ⊢
      go_wp2
      exact hK _ _ (leRel.refl _) (TurnL.mk e0 e1)
  · intro xv W hR hf Q' hQ1 _
    have eL : TurnL .u32 W (xv 22) (gmul a b) := hf 22 (by decide)
    obtain ⟨rs1, rA1, rn1, rc1, rB1, rm1, rd1, rs2, rA2, rn2, rc2, rB2, rm2, rd2, qL, y1, y2⟩ := eL
    have kW := (Below.block hR (w.heap.size + 1 + 1) (by omega)).trans k2'.out
    obtain ⟨z0, z1, z2, z3, z4, z5⟩ := cells6 kW
    have g0 := frozen00 kW 0
    have g1 := frozen00 kW 1
    have g2 := frozen00 kW 2
    have g3 := frozen00 kW 3
    have g4 := frozen00 kW 4
    have g5 := frozen00 kW 5
    simp only [List.drop_succ_cons, List.drop_zero]
    rw [show List.range 23 = [0, 1, 2, 3, 4, 5, 6, 7, 8, 9, 10, 11, 12, 13, 14, 15, 16, 17, 18, 19, 20, 21, 22] from rfl]
    simp only [fillAct, List.getD_cons_succ, List.getD_cons_zero, Act.put, List.setIfInBounds_toArray, List.set_cons_succ, List.set_cons_zero, qL]
    have hle9 := fun u0 u1 u2 u3 u4 u5 => le_set6 (Le.trans hle'.out hR) (show w.heap.size ≤ w.heap.size + 1 + 1 by omega) u0 u1 u2 u3 u4 u5
    have hb9 := fun u0 u1 u2 u3 u4 u5 => cells6 (heap_set6 kW u0 u1 u2 u3 u4 u5)
    simp only [set6] at hb9
    have hfin := fun u0 u1 u2 u3 u4 u5 => And.intro (y1.touch (noInt6 kW) (touch_set6 W (w.heap.size + 1 + 1) u0 u1 u2 u3 u4 u5)) (y2.touch (noInt6 kW) (touch_set6 W (w.heap.size + 1 + 1) u0 u1 u2 u3 u4 u5))
    have hle9' := Lib.hid hle9
    have hb9' := Lib.hid hb9
    have hfin' := Lib.hid hfin
    have kW' := Lib.hid kW
    have y1' := Lib.hid y1
    have y2' := Lib.hid y2
    have qL' := Lib.hid qL
    have hR' := Lib.hid hR
    clear hR qL y2 y1 kW hfin hb9 hle9
    go_wp2
    refine hQ1 _ _ ?_
    go_wp2
    obtain ⟨d0, d1, d2, d3, d4, d5⟩ := hb9'.out (.bool rs1) (.slice rA1 rn1 rc1) (.slice rB1 rm1 rd1) (.bool rs2) (.slice rA2 rn2 rc2) (.slice rB2 rm2 rd2)
    exact bodyPost_ret (v := .agg #[.bool rs1, .slice rA1 rn1 rc1, .slice rB1 rm1 rd1, .bool rs2, .slice rA2 rn2 rc2, .slice rB2 rm2 rd2]) (by simp [results, Tryz.results27, go_sem, d0, d1, d2, d3, d4, d5]) rfl ⟨_, rfl, hle9'.out _ _ _ _ _ _, TurnL.mk (hfin'.out _ _ _ _ _ _).1 (hfin'.out _ _ _ _ _ _).2⟩
end Go.Proofs.YtpjmbgfggonhhaaGreat
namespace Go.Proofs.YtpjmbgfggonhhaaGreat
open Go.RowKit Go.Shelf
set_option linter.unusedVariables false
set_option linter.unusedSimpArgs false
set_option maxRecDepth 100000 in
set_option maxHeartbeats 4000000 in
theorem pf_tmirrored (a : G2) (va : Value) (w : World) (ha : TurnL .u32 w va a)  :
    Calls Tryz.prog 49 #[va] w fun e w' => ∃ v', e = .returned v' ∧ Le w w' ∧ TurnL .u32 w' v' (gconj a) := by
  obtain ⟨as1, aA1, an1, ac1, aB1, am1, ad1, as2, aA2, an2, ac2, aB2, am2, ad2, rfl, ha1, ha2⟩ := ha
  obtain ⟨W0, hW0, hsz, hle, k0, k1⟩ := new2_le w (.cells #[.bool as1, .slice aA1 an1 ac1, .slice aB1 am1 ad1, .bool as2, .slice aA2 an2 ac2, .slice aB2 am2 ad2] 56) (.cells #[.bool false, .slice none 0 0, .slice none 0 0, .bool false, .slice none 0 0, .slice none 0 0] 56)
  obtain ⟨ca0, ca1, ca2, ca3, ca4, ca5⟩ := cells6 k0
  replace ha1 := ha1.le hle
  replace ha2 := ha2.le hle
  have hle' := Lib.hid hle
  have k0' := Lib.hid k0
  have k1' := Lib.hid k1
  have ha1' := Lib.hid ha1
  have ha2' := Lib.hid ha2
  clear ha2 ha1 k1 k0 hle
  go_enter Tryz.func49, Tryz.ntmps49
  go_wp2_with (fail)
  clear hW0
  refine wp_region_monoL (R := leRel) 6 [some 3, some 4, some 5, some 6, some 7, some 8, none] [[], [0], [], [2], [3], [1, 4], [5]]
    [.eq (.pointer (some ⟨w.heap.size, 0, none⟩)), .eq (.agg #[.bool as1, .slice aA1 an1 ac1, .slice aB1 am1 ad1]), .eq (.pointer (some ⟨w.heap.size, 3, none⟩)), .eq (.agg #[.bool as2, .slice aA2 an2 ac2, .slice aB2 am2 ad2]), MPred.ratT .u32 (-a.2), MPred.turn .u32 (gconj a)] (fun _ _ => False) (by kernel_rfl) (by kernel_rfl) (by kernel_rfl) (by kernel_rfl) ?_ (fun _ _ _ _ _ h => h.elim) ?_
  · simp only [List.take_succ_cons, List.take_zero]
    refine monoSteps_cons ?_ (monoSteps_cons ?_ (monoSteps_cons ?_ (monoSteps_cons ?_ (monoSteps_cons ?_ (monoSteps_cons ?_ (monoSteps_nil))))))
    · refine monoStep_list rfl fun xv W hR hf Q hK hP => ?_
      simp only [fillAct, List.getD_cons_succ, List.getD_cons_zero, Act.put, List.setIfInBounds_toArray, List.set_cons_succ, List.set_cons_zero] at hK ⊢
      go_wp2
      exact hK _ _ (leRel.refl _) rfl
    · refine monoStep_list rfl fun xv W hR hf Q hK hP => ?_
      obtain ⟨e0, -⟩ := hf
      change _ = _ at e0
      have cc0 := (Below.cell hR (p := ⟨w.heap.size, 0, none⟩) (by show w.heap.size < W0.heap.size; omega)).trans ca0
      have cc1 := (Below.cell hR (p := ⟨w.heap.size, 1, none⟩) (by show w.heap.size < W0.heap.size; omega)).trans ca1
      have cc2 := (Below.cell hR (p := ⟨w.heap.size, 2, none⟩) (by show w.heap.size < W0.heap.size; omega)).trans ca2
      simp only [fillAct, List.getD_cons_succ, List.getD_cons_zero, Act.put, List.setIfInBounds_toArray, List.set_cons_succ, List.set_cons_zero, e0] at hK ⊢
      go_wp2
      exact hK _ _ (leRel.refl _) rfl
    · refine monoStep_list rfl fun xv W hR hf Q hK hP => ?_
      simp only [fillAct, List.getD_cons_succ, List.getD_cons_zero, Act.put, List.setIfInBounds_toArray, List.set_cons_succ, List.set_cons_zero] at hK ⊢
      go_wp2
      exact hK _ _ (leRel.refl _) rfl
    · refine monoStep_list rfl fun xv W hR hf Q hK hP => ?_
      obtain ⟨e0, -⟩ := hf
      change _ = _ at e0
      have cc3 := (Below.cell hR (p := ⟨w.heap.size, 3, none⟩) (by show w.heap.size < W0.heap.size; omega)).trans ca3
      have cc4 := (Below.cell hR (p := ⟨w.heap.size, 4, none⟩) (by show w.heap.size < W0.heap.size; omega)).trans ca4
      have cc5 := (Below.cell hR (p := ⟨w.heap.size, 5, none⟩) (by show w.heap.size < W0.heap.size; omega)).trans ca5
      simp only [fillAct, List.getD_cons_succ, List.getD_cons_zero, Act.put, List.setIfInBounds_toArray, List.set_cons_succ, List.set_cons_zero, e0] at hK ⊢
      go_wp2
      exact hK _ _ (leRel.refl _) rfl
    · refine monoStep_list rfl fun xv W hR hf Q hK hP => ?_
      obtain ⟨e0, -⟩ := hf
      change _ = _ at e0
      simp only [fillAct, List.getD_cons_succ, List.getD_cons_zero, Act.put, List.setIfInBounds_toArray, List.set_cons_succ, List.set_cons_zero, e0] at hK ⊢
      go_wp2_with (fail)
      go_at_call 76
      refine (pf_ropposite (fun _ => True) a.2 _ W (ha2'.out.le hR)).mono ?_
      rintro e w' ⟨v', rfl, y1, y2⟩
      obtain ⟨zs1, zA1, zn1, zc1, zB1, zm1, zd1, qz⟩ := y2.qform
      subst qz
      have y2' := Lib.hid y2
      clear y2
      go_wp2
      exact hK _ _ y1 y2'.out
    · refine monoStep_list rfl fun xv W hR hf Q hK hP => ?_
      obtain ⟨e0, e1, -⟩ := hf
      change _ = _ at e0
      replace e1 : RatT .u32 W (xv 4) (-a.2) := e1
      obtain ⟨u1s1, u1A1, u1n1, u1c1, u1B1, u1m1, u1d1, qu1⟩ := e1.qform
      rw [qu1] at e1
      simp only [fillAct, List.getD_cons_succ, List.getD_cons_zero, Act.put, List.setIfInBounds_toArray, List.set_cons_succ, List.set_cons_zero, e0, qu1] at hK ⊢
      go_wp2
      exact hK _ _ (leRel.refl _) (TurnL.mk (ha1'.out.le hR) e1)
  · intro xv W hR hf Q' hQ1 _
    have eL : TurnL .u32 W (xv 5) (gconj a) := hf 5 (by decide)
    obtain ⟨rs1, rA1, rn1, rc1, rB1, rm1, rd1, rs2, rA2, rn2, rc2, rB2, rm2, rd2, qL, y1, y2⟩ := eL
    have kW := (Below.block hR (w.heap.size + 1) (by omega)).trans k1'.out
    obtain ⟨z0, z1, z2, z3, z4, z5⟩ := cells6 kW
    have g0 := frozen00 kW 0
    have g1 := frozen00 kW 1
    have g2 := frozen00 kW 2
    have g3 := frozen00 kW 3
    have g4 := frozen00 kW 4
    have g5 := frozen00 kW 5
    simp only [List.drop_succ_cons, List.drop_zero]
    rw [show List.range 6 = [0, 1, 2, 3, 4, 5] from rfl]
    simp only [fillAct, List.getD_cons_succ, List.getD_cons_zero, Act.put, List.setIfInBounds_toArray, List.set_cons_succ, List.set_cons_zero, qL]
    have hle9 := fun u0 u1 u2 u3 u4 u5 => le_set6 (Le.trans hle'.out hR) (show w.heap.size ≤ w.heap.size + 1 by omega) u0 u1 u2 u3 u4 u5
    have hb9 := fun u0 u1 u2 u3 u4 u5 => cells6 (heap_set6 kW u0 u1 u2 u3 u4 u5)
    simp only [set6] at hb9
    have hfin := fun u0 u1 u2 u3 u4 u5 => And.intro (y1.touch (noInt6 kW) (touch_set6 W (w.heap.size + 1) u0 u1 u2 u3 u4 u5)) (y2.touch (noInt6 kW) (touch_set6 W (w.heap.size + 1) u0 u1 u2 u3 u4 u5))
    have hle9' := Lib.hid hle9
    have hb9' := Lib.hid hb9
    have hfin' := Lib.hid hfin
    have kW' := Lib.hid kW
    have y1' := Lib.hid y1
    have y2' := Lib.hid y2
    have qL' := Lib.hid qL
    have hR' := Lib.hid hR
    clear hR qL y2 y1 kW hfin hb9 hle9
    go_wp2
    refine hQ1 _ _ ?_
    go_wp2
    obtain ⟨d0, d1, d2, d3, d4, d5⟩ := hb9'.out (.bool rs1) (.slice rA1 rn1 rc1) (.slice rB1 rm1 rd1) (.bool rs2) (.slice rA2 rn2 rc2) (.slice rB2 rm2 rd2)
    exact bodyPost_ret (v := .agg #[.bool rs1, .slice rA1 rn1 rc1, .slice rB1 rm1 rd1, .bool rs2, .slice rA2 rn2 rc2, .slice rB2 rm2 rd2]) (by simp [results, Tryz.results49, go_sem, d0, d1, d2, d3, d4, d5]) rfl ⟨_, rfl, hle9'.out _ _ _ _ _ _, TurnL.mk (hfin'.out _ _ _ _ _ _).1 (hfin'.out _ _ _ _ _ _).2⟩
set_option maxRecDepth 100000 in
set_option maxHeartbeats 4000000 in
theorem pf_tnorm (a : G2) (va : Value) (w : World) (ha : TurnL .u32 w va a) (hza : TSz a 1000000) :
    Calls Tryz.prog 42 #[va] w fun e w' => ∃ v', e = .returned v' ∧ Le w w' ∧ RatT .u32 w' v' (gnorm a) := by
  obtain ⟨as1, aA1, an1, ac1, aB1, am1, ad1, as2, aA2, an2, ac2, aB2, am2, ad2, rfl, ha1, ha2⟩ := ha
  obtain ⟨W0, hW0, hsz, hle, k0, k1⟩ := new2_le w (.cells #[.bool as1, .slice aA1 an1 ac1, .slice aB1 am1 ad1, .bool as2, .slice aA2 an2 ac2, .slice aB2 am2 ad2] 56) (.cells #[.bool false, .slice none 0 0, .slice none 0 0] 54)
  obtain ⟨ca0, ca1, ca2, ca3, ca4, ca5⟩ := cells6 k0
  replace ha1 := ha1.le hle
  replace ha2 := ha2.le hle
  have hle' := Lib.hid hle
  have k0' := Lib.hid k0
  have k1' := Lib.hid k1
  have ha1' := Lib.hid ha1
  have ha2' := Lib.hid ha2
  have hza' := Lib.hid hza
  clear hza ha2 ha1 k1 k0 hle
  go_enter Tryz.func42, Tryz.ntmps42
  go_wp2_with (fail)
  clear hW0
  refine wp_region_monoL (R := leRel) 11 [some 3, some 4, some 5, some 6, some 7, some 8, some 9, some 10, some 11, some 12, some 13, none] [[], [0], [], [2], [1, 3], [], [5], [], [7], [6, 8], [4, 9], [10]]
    [.eq (.pointer (some ⟨w.heap.size, 0, none⟩)), .eq (.agg #[.bool as1, .slice aA1 an1 ac1, .slice aB1 am1 ad1]), .eq (.pointer (some ⟨w.heap.size, 0, none⟩)), .eq (.agg #[.bool as1, .slice aA1 an1 ac1, .slice aB1 am1 ad1]), MPred.ratT .u32 (a.1 * a.1), .eq (.pointer (some ⟨w.heap.size, 3, none⟩)), .eq (.agg #[.bool as2, .slice aA2 an2 ac2, .slice aB2 am2 ad2]), .eq (.pointer (some ⟨w.heap.size, 3, none⟩)), .eq (.agg #[.bool as2, .slice aA2 an2 ac2, .slice aB2 am2 ad2]), MPred.ratT .u32 (a.2 * a.2), MPred.ratT .u32 (gnorm a)] (fun _ _ => False) (by kernel_rfl) (by kernel_rfl) (by kernel_rfl) (by kernel_rfl) ?_ (fun _ _ _ _ _ h => h.elim) ?_
  · simp only [List.take_succ_cons, List.take_zero]
    refine monoSteps_cons ?_ (monoSteps_cons ?_ (monoSteps_cons ?_ (monoSteps_cons ?_ (monoSteps_cons ?_ (monoSteps_cons ?_ (monoSteps_cons ?_ (monoSteps_cons ?_ (monoSteps_cons ?_ (monoSteps_cons ?_ (monoSteps_cons ?_ (monoSteps_nil)))))))))))
    · refine monoStep_list rfl fun xv W hR hf Q hK hP => ?_
      simp only [fillAct, List.getD_cons_succ, List.getD_cons_zero, Act.put, List.setIfInBounds_toArray, List.set_cons_succ, List.set_cons_zero] at hK ⊢
      go_wp2
      exact hK _ _ (leRel.refl _) rfl
    · refine monoStep_list rfl fun xv W hR hf Q hK hP => ?_
      obtain ⟨e0, -⟩ := hf
      change _ = _ at e0
      have cc0 := (Below.cell hR (p := ⟨w.heap.size, 0, none⟩) (by show w.heap.size < W0.heap.size; omega)).trans ca0
      have cc1 := (Below.cell hR (p := ⟨w.heap.size, 1, none⟩) (by show w.heap.size < W0.heap.size; omega)).trans ca1
      have cc2 := (Below.cell hR (p := ⟨w.heap.size, 2, none⟩) (by show w.heap.size < W0.heap.size; omega)).trans ca2
      simp only [fillAct, List.getD_cons_succ, List.getD_cons_zero, Act.put, List.setIfInBounds_toArray, List.set_cons_succ, List.set_cons_zero, e0] at hK ⊢
      go_wp2
      exact hK _ _ (leRel.refl _) rfl
    · refine monoStep_list rfl fun xv W hR hf Q hK hP => ?_
      simp only [fillAct, List.getD_cons_succ, List.getD_cons_zero, Act.put, List.setIfInBounds_toArray, List.set_cons_succ, List.set_cons_zero] at hK ⊢
      go_wp2
      exact hK _ _ (leRel.refl _) rfl
    · refine monoStep_list rfl fun xv W hR hf Q hK hP => ?_
      obtain ⟨e0, -⟩ := hf
      change _ = _ at e0
      have cc0 := (Below.cell hR (p := ⟨w.heap.size, 0, none⟩) (by show w.heap.size < W0.heap.size; omega)).trans ca0
      have cc1 := (Below.cell hR (p := ⟨w.heap.size, 1, none⟩) (by show w.heap.size < W0.heap.size; omega)).trans ca1
      have cc2 := (Below.cell hR (p := ⟨w.heap.size, 2, none⟩) (by show w.heap.size < W0.heap.size; omega)).trans ca2
      simp only [fillAct, List.getD_cons_succ, List.getD_cons_zero, Act.put, List.setIfInBounds_toArray, List.set_cons_succ, List.set_cons_zero, e0] at hK ⊢
      go_wp2
      exact hK _ _ (leRel.refl _) rfl
    · refine monoStep_list rfl fun xv W hR hf Q hK hP => ?_
      obtain ⟨e0, e1, -⟩ := hf
      change _ = _ at e0 e1
      simp only [fillAct, List.getD_cons_succ, List.getD_cons_zero, Act.put, List.setIfInBounds_toArray, List.set_cons_succ, List.set_cons_zero, e0, e1] at hK ⊢
      go_wp2_with (fail)
      go_at_call 60
      refine (pf_rtimes (fun _ => True) a.1 a.1 _ _ W (Up.any _) (ha1'.out.le hR) (ha1'.out.le hR) (hza'.out.1.up (by decide)) (hza'.out.1.up (by decide))).mono ?_
      rintro e w' ⟨v', rfl, y1, y2⟩
      obtain ⟨zs1, zA1, zn1, zc1, zB1, zm1, zd1, qz⟩ := y2.qform
      subst qz
      have y2' := Lib.hid y2
      clear y2
      go_wp2
      exact hK _ _ y1 y2'.out
    · refine monoStep_list rfl fun xv W hR hf Q hK hP => ?_
      simp only [fillAct, List.getD_cons_succ, List.getD_cons_zero, Act.put, List.setIfInBounds_toArray, List.set_cons_succ, List.set_cons_zero] at hK ⊢
      go_wp2
      exact hK _ _ (leRel.refl _) rfl
    · refine monoStep_list rfl fun xv W hR hf Q hK hP => ?_
      obtain ⟨e0, -⟩ := hf
      change _ = _ at e0
      have cc3 := (Below.cell hR (p := ⟨w.heap.size, 3, none⟩) (by show w.heap.size < W0.heap.size; omega)).trans ca3
      have cc4 := (Below.cell hR (p := ⟨w.heap.size, 4, none⟩) (by show w.heap.size < W0.heap.size; omega)).trans ca4
      have cc5 := (Below.cell hR (p := ⟨w.heap.size, 5, none⟩) (by show w.heap.size < W0.heap.size; omega)).trans ca5
      simp only [fillAct, List.getD_cons_succ, List.getD_cons_zero, Act.put, List.setIfInBounds_toArray, List.set_cons_succ, List.set_cons_zero, e0] at hK ⊢
      go_wp2
      exact hK _ _ (leRel.refl _) rfl
    · refine monoStep_list rfl fun xv W hR hf Q hK hP => ?_
      simp only [fillAct, List.getD_cons_succ, List.getD_cons_zero, Act.put, List.setIfInBounds_toArray, List.set_cons_succ, List.set_cons_zero] at hK ⊢
      go_wp2
      exact hK _ _ (leRel.refl _) rfl
    · refine monoStep_list rfl fun xv W hR hf Q hK hP => ?_
      obtain ⟨e0, -⟩ := hf
      change _ = _ at e0
      have cc3 := (Below.cell hR (p := ⟨w.heap.size, 3, none⟩) (by show w.heap.size < W0.heap.size; omega)).trans ca3
      have cc4 := (Below.cell hR (p := ⟨w.heap.size, 4, none⟩) (by show w.heap.size < W0.heap.size; omega)).trans ca4
      have cc5 := (Below.cell hR (p := ⟨w.heap.size, 5, none⟩) (by show w.heap.size < W0.heap.size; omega)).trans ca5
      simp only [fillAct, List.getD_cons_succ, List.getD_cons_zero, Act.put, List.setIfInBounds_toArray, List.set_cons_succ, List.set_cons_zero, e0] at hK ⊢
      go_wp2
      exact hK _ _ (leRel.refl _) rfl
    · refine monoStep_list rfl fun xv W hR hf Q hK hP => ?_
      obtain ⟨e0, e1, -⟩ := hf
      change _ = _ at e0 e1
      simp only [fillAct, List.getD_cons_succ, List.getD_cons_zero, Act.put, List.setIfInBounds_toArray, List.set_cons_succ, List.set_cons_zero, e0, e1] at hK ⊢
      go_wp2_with (fail)
      go_at_call 60
      refine (pf_rtimes (fun _ => True) a.2 a.2 _ _ W (Up.any _) (ha2'.out.le hR) (ha2'.out.le hR) (hza'.out.2.up (by decide)) (hza'.out.2.up (by decide))).mono ?_
      rintro e w' ⟨v', rfl, y1, y2⟩
      obtain ⟨zs1, zA1, zn1, zc1, zB1, zm1, zd1, qz⟩ := y2.qform
      subst qz
      have y2' := Lib.hid y2
      clear y2
      go_wp2
      exact hK _ _ y1 y2'.out
    · refine monoStep_list rfl fun xv W hR hf Q hK hP => ?_
      obtain ⟨e0, e1, -⟩ := hf
      replace e0 : RatT .u32 W (xv 4) (a.1 * a.1) := e0
      replace e1 : RatT .u32 W (xv 9) (a.2 * a.2) := e1
      simp only [fillAct, List.getD_cons_succ, List.getD_cons_zero, Act.put, List.setIfInBounds_toArray, List.set_cons_succ, List.set_cons_zero] at hK ⊢
      go_wp2_with (fail)
      go_at_call 58
      refine (pf_rplus (fun _ => True) (a.1 * a.1) (a.2 * a.2) _ _ W (Up.any _) e0 e1 (rsz_mul2 hza'.out.1 hza'.out.1 (by decide)) (rsz_mul2 hza'.out.2 hza'.out.2 (by decide))).mono ?_
      rintro e w' ⟨v', rfl, y1, y2⟩
      obtain ⟨zs1, zA1, zn1, zc1, zB1, zm1, zd1, qz⟩ := y2.qform
      subst qz
      have y2' := Lib.hid y2
      clear y2
      go_wp2
      exact hK _ _ y1 y2'.out
  · intro xv W hR hf Q' hQ1 _
    have eL : RatT .u32 W (xv 10) (gnorm a) := hf 10 (by decide)
    obtain ⟨rs1, rA1, rn1, rc1, rB1, rm1, rd1, qL⟩ := eL.qform
    rw [qL] at eL
    have kW := (Below.block hR (w.heap.size + 1) (by omega)).trans k1'.out
    obtain ⟨z0, z1, z2, -⟩ := cells3 kW
    have g0 := frozen00 kW 0
    have g1 := frozen00 kW 1
    have g2 := frozen00 kW 2
    simp only [List.drop_succ_cons, List.drop_zero]
    rw [show List.range 11 = [0, 1, 2, 3, 4, 5, 6, 7, 8, 9, 10] from rfl]
    simp only [fillAct, List.getD_cons_succ, List.getD_cons_zero, Act.put, List.setIfInBounds_toArray, List.set_cons_succ, List.set_cons_zero, qL]
    have hle9 := fun u0 u1 u2 => le_set3 (u0 := u0) (u1 := u1) (u2 := u2) (Le.trans hle'.out hR) (show w.heap.size ≤ w.heap.size + 1 by omega)
    have hb9 := fun u0 u1 u2 => cells3 (heap_set3 (u0 := u0) (u1 := u1) (u2 := u2) kW)
    have hfin := fun u0 u1 u2 => eL.touch (noInt3 kW) (touch_set3 W (w.heap.size + 1) u0 u1 u2)
    have hle9' := Lib.hid hle9
    have hb9' := Lib.hid hb9
    have hfin' := Lib.hid hfin
    have kW' := Lib.hid kW
    have eL' := Lib.hid eL
    have qL' := Lib.hid qL
    have hR' := Lib.hid hR
    clear hR qL eL kW hfin hb9 hle9
    go_wp2
    refine hQ1 _ _ ?_
    go_wp2
    obtain ⟨d0, d1, d2, -⟩ := hb9'.out (.bool rs1) (.slice rA1 rn1 rc1) (.slice rB1 rm1 rd1)
    exact bodyPost_ret (v := .agg #[.bool rs1, .slice rA1 rn1 rc1, .slice rB1 rm1 rd1]) (by simp [results, Tryz.results42, go_sem, d0, d1, d2]) rfl ⟨_, rfl, hle9'.out _ _ _, hfin'.out _ _ _⟩
end Go.Proofs.YtpjmbgfggonhhaaGreat
namespace Go.Proofs.YtpjmbgfggonhhaaGreat
open Go.RowKit Go.Shelf
set_option linter.unusedVariables false
set_option linter.unusedSimpArgs false
set_option maxRecDepth 100000 in
set_option maxHeartbeats 4000000 in
theorem pf_unit (w : World) : Calls Tryz.prog 53 #[] w fun e w' => ∃ v', e = .returned v' ∧ Le w w' ∧ TurnL .u32 w' v' gone := by
  obtain ⟨W0, hW0, hle, k0⟩ : ∃ W0, w.alloc (.cells #[.bool false, .slice none 0 0, .slice none 0 0, .bool false, .slice none 0 0, .slice none 0 0] 56) = W0 ∧ Le w W0 ∧ W0.heap[w.heap.size]? = some (.cells #[.bool false, .slice none 0 0, .slice none 0 0, .bool false, .slice none 0 0, .slice none 0 0] 56) := ⟨_, rfl, le_alloc _ _, by unfold World.alloc; exact Array.getElem?_push_size⟩
  have hle' := Lib.hid hle
  have k0' := Lib.hid k0
  clear k0 hle
  go_enter Tryz.func53, Tryz.ntmps53
  go_wp2_with (fail)
  clear hW0
  go_at_call 47
  refine (pf_number (fun _ => True) 1 W0 (Up.any _) (by decide) (by decide)).mono ?_
  rintro e W1 ⟨v1, rfl, hle1, h1⟩
  obtain ⟨rs1, rA1, rn1, rc1, rB1, rm1, rd1, rfl⟩ := h1.qform
  have hle1' := Lib.hid hle1
  have h1' := Lib.hid h1
  clear h1 hle1
  go_wp2_with (fail)
  go_at_call 47
  refine (pf_number (fun _ => True) 0 W1 (Up.any _) (by decide) (by decide)).mono ?_
  rintro e W2 ⟨v2, rfl, hle2, h2⟩
  obtain ⟨rs2, rA2, rn2, rc2, rB2, rm2, rd2, rfl⟩ := h2.qform
  have kW := box_later hle2 (box_later hle1'.out k0'.out)
  have hleW := (hle'.out.trans hle1'.out).trans hle2
  have y1 := h1'.out.le hle2
  have hle2' := Lib.hid hle2
  have h2' := Lib.hid h2
  have hleW' := Lib.hid hleW
  have y1' := Lib.hid y1
  clear y1 hleW h2 hle2
  obtain ⟨z0, z1, z2, z3, z4, z5⟩ := cells6 kW
  have g0 := frozen00 kW 0
  have g1 := frozen00 kW 1
  have g2 := frozen00 kW 2
  have g3 := frozen00 kW 3
  have g4 := frozen00 kW 4
  have g5 := frozen00 kW 5
  have hle9 := fun u0 u1 u2 u3 u4 u5 => le_set6 (hleW'.out) (show w.heap.size ≤ w.heap.size by omega) u0 u1 u2 u3 u4 u5
  have hb9 := fun u0 u1 u2 u3 u4 u5 => cells6 (heap_set6 kW u0 u1 u2 u3 u4 u5)
  simp only [set6] at hb9
  have hfin := fun u0 u1 u2 u3 u4 u5 => And.intro (y1'.out.touch (noInt6 kW) (touch_set6 W2 (w.heap.size) u0 u1 u2 u3 u4 u5)) (h2'.out.touch (noInt6 kW) (touch_set6 W2 (w.heap.size) u0 u1 u2 u3 u4 u5))
  have hle9' := Lib.hid hle9
  have hb9' := Lib.hid hb9
  have hfin' := Lib.hid hfin
  have kW' := Lib.hid kW
  clear kW hfin hb9 hle9
  go_wp2
  obtain ⟨d0, d1, d2, d3, d4, d5⟩ := hb9'.out (.bool rs1) (.slice rA1 rn1 rc1) (.slice rB1 rm1 rd1) (.bool rs2) (.slice rA2 rn2 rc2) (.slice rB2 rm2 rd2)
  exact bodyPost_ret (v := .agg #[.bool rs1, .slice rA1 rn1 rc1, .slice rB1 rm1 rd1, .bool rs2, .slice rA2 rn2 rc2, .slice rB2 rm2 rd2]) (by simp [results, Tryz.results53, go_sem, d0, d1, d2, d3, d4, d5]) rfl ⟨_, rfl, hle9'.out _ _ _ _ _ _, TurnL.mk (hfin'.out _ _ _ _ _ _).1 (hfin'.out _ _ _ _ _ _).2⟩
set_option maxRecDepth 100000 in
set_option maxHeartbeats 4000000 in
theorem pf_tisZero (a : G2) (va : Value) (w : World) (ha : TurnL .u32 w va a) : Calls Tryz.prog 31 #[va] w fun e w' => e = .returned (.bool (decide (gnorm a = 0))) ∧ Le w w' := by
  obtain ⟨as1, aA1, an1, ac1, aB1, am1, ad1, as2, aA2, an2, ac2, aB2, am2, ad2, rfl, ha1, ha2⟩ := ha
  obtain ⟨W0, hW0, hle, k0⟩ : ∃ W0, w.alloc (.cells #[.bool as1, .slice aA1 an1 ac1, .slice aB1 am1 ad1, .bool as2, .slice aA2 an2 ac2, .slice aB2 am2 ad2] 56) = W0 ∧ Le w W0 ∧ W0.heap[w.heap.size]? = some (.cells #[.bool as1, .slice aA1 an1 ac1, .slice aB1 am1 ad1, .bool as2, .slice aA2 an2 ac2, .slice aB2 am2 ad2] 56) := ⟨_, rfl, le_alloc _ _, by unfold World.alloc; exact Array.getElem?_push_size⟩
  obtain ⟨c0, c1, c2, c3, c4, c5⟩ := cells6 k0
  have r1 := pf_rsign (fun _ => True) a.1 _ W0 (ha1.le hle)
  have r2 := fun W (hW : Le W0 W) => pf_rsign (fun _ => True) a.2 _ W (ha2.le (hle.trans hW))
  obtain ⟨z1, hz1⟩ : ∃ z, rsgn a.1 = z := ⟨_, rfl⟩
  obtain ⟨z2, hz2⟩ : ∃ z, rsgn a.2 = z := ⟨_, rfl⟩
  rw [hz1] at r1
  rw [hz2] at r2
  have hg : decide (gnorm a = 0) = (decide (z1 = 0) && decide (z2 = 0)) := by rw [← hz1, ← hz2, ← Bool.decide_and]; exact decide_eq_decide.2 rsgn_both.symm
  rw [hg]
  have hle' := Lib.hid hle
  have k0' := Lib.hid k0
  have ha1' := Lib.hid ha1
  have ha2' := Lib.hid ha2
  have r1' := Lib.hid r1
  have r2' := Lib.hid r2
  have hz1' := Lib.hid hz1
  have hz2' := Lib.hid hz2
  have hg' := Lib.hid hg
  clear hg hz2 hz1 r2 r1 ha2 ha1 k0 hle
  by_cases h1 : z1 = 0
  · subst h1
    go_enter Tryz.func31, Tryz.ntmps31
    go_wp2_with (fail)
    clear hW0
    go_at_call 64
    refine r1'.out.mono ?_
    rintro e W1 ⟨rfl, hle1⟩
    obtain ⟨d0, d1, d2, d3, d4, d5⟩ := cells6 (box_later hle1 k0'.out)
    have r3 := r2'.out W1 hle1
    have hle1' := Lib.hid hle1
    have r3' := Lib.hid r3
    clear r3 hle1
    go_wp2_with (fail)
    go_at_call 64
    refine r3'.out.mono ?_
    rintro e W2 ⟨rfl, hle2⟩
    have hle9 := (hle'.out.trans hle1'.out).trans hle2
    have hle2' := Lib.hid hle2
    have hle9' := Lib.hid hle9
    clear hle9 hle2
    go_wp2
    go_ret
    exact ⟨by simp; rfl, hle9'.out⟩
  · go_enter Tryz.func31, Tryz.ntmps31
    go_wp2_with (fail)
    clear hW0
    go_at_call 64
    refine r1'.out.mono ?_
    rintro e W1 ⟨rfl, hle1⟩
    have hle9 := hle'.out.trans hle1
    have hd : decide (z1 = 0) = false := decide_eq_false h1
    have hle1' := Lib.hid hle1
    have hle9' := Lib.hid hle9
    clear hle9 hle1
    go_wp2
    go_ret
    exact ⟨by simp [h1], hle9'.out⟩
end Go.Proofs.YtpjmbgfggonhhaaGreat
