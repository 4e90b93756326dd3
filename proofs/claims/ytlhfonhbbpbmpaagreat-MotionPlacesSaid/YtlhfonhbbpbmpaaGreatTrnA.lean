/- exact, turning numbers: in. exact, turning numbers: out. exact, turning numbers: plus, times. exact, turning numbers: mirrored, norm. exact, turning numbers: unit, isZero. -/
import Derived.Test.YtlhfonhbbpbmpaaGreatTurnKit
namespace Go.Proofs.YtlhfonhbbpbmpaaGreat
set_option maxRecDepth 100000
set_option maxHeartbeats 4000000
open Go.RowKit Go.Shelf
set_option linter.unusedVariables false
set_option linter.unusedSimpArgs false
theorem qH9 (x : FracA × FracA) (va : Value) (w : World) (ha : IsTurnA w va x) : Calls Tryz.prog 42 #[va] w (qLa x w) := by
 obtain ⟨x1A, x1c, x1B, x1d, x2A, x2c, x2B, x2d, rfl, ha1, ha2⟩ := ha
 obtain ⟨W0, hW0, hsz, hle, k0, k1⟩ := qAQ w (.cells #[.bool x.1.sn, .slice x1A x.1.gn.length x1c, .bool x.1.sd, .slice x1B x.1.gd.length x1d, .bool x.2.sn, .slice x2A x.2.gn.length x2c, .bool x.2.sd, .slice x2B x.2.gd.length x2d] 29) (.cells #[.bool false, .slice none 0 0, .slice none 0 0, .bool false, .slice none 0 0, .slice none 0 0] 89)
 obtain ⟨ca0, ca1, ca2, ca3, ca4, ca5, ca6, ca7⟩ := qAB k0
 replace ha1 := ha1.le hle
 replace ha2 := ha2.le hle
 have ⟨hle', k0', k1', ha1', ha2'⟩ := hyd5 hle k0 k1 ha1 ha2
 clear ha2 ha1 k1 k0 hle
 go_enter Tryz.func42, Tryz.ntmps42
 go_wp2_with (fail)
 clear hW0
 refine qAG (R := leRel) 7 [some 3, some 4, some 5, some 6, some 7, some 8, some 9, none] [[], [0], [1], [], [3], [4], [2, 5], [6]]
  [.eq (.pointer (some ⟨w.heap.size, 0, none⟩)), .eq (.agg #[.bool x.1.sn, .slice x1A x.1.gn.length x1c, .bool x.1.sd, .slice x1B x.1.gd.length x1d]), MPred.ratO (x.1), .eq (.pointer (some ⟨w.heap.size, 4, none⟩)), .eq (.agg #[.bool x.2.sn, .slice x2A x.2.gn.length x2c, .bool x.2.sd, .slice x2B x.2.gd.length x2d]), MPred.ratO (x.2), MPred.turnO x] (fun ch W => ch = flt 10 ∧ tval x = none ∧ Le W0 W) (by kernel_rfl) (by kernel_rfl) (by kernel_rfl) (by kernel_rfl) ?_ (by rintro a9 ch W hdf - ⟨rfl, hbad, hle9⟩; exact ⟨hdf, hle'.out.trans hle9, .inr ⟨hbad, rfl⟩⟩) ?_
 ·simp only [List.take_succ_cons, List.take_zero]
  refine mSc ?_ (mSc ?_ (mSc ?_ (mSc ?_ (mSc ?_ (mSc ?_ (mSc ?_ (qAJ)))))))
  ·refine mSl rfl fun xv W hR hf Q hK hP => ?_
   simp only [fA] at hK ⊢
   go_wp2
   exact hK _ _ lrR rfl
  ·refine mSl rfl fun xv W hR hf Q hK hP => ?_
   obtain ⟨e0, -⟩ := hf
   change _ = _ at e0
   have cc0 := bcl hR (by omega) ca0
   have cc1 := bcl hR (by omega) ca1
   have cc2 := bcl hR (by omega) ca2
   have cc3 := bcl hR (by omega) ca3
   simp only [fA, e0] at hK ⊢
   go_wp2
   exact hK _ _ lrR rfl
  ·refine mSl rfl fun xv W hR hf Q hK hP => ?_
   obtain ⟨e0, -⟩ := hf
   change _ = _ at e0
   simp only [fA, e0] at hK ⊢
   rcases qH8 x.1 with ⟨r, hs⟩ | hs
   ·have hcall := qBU (fun _ => True) x.1 r _ W (Up.any _) (ha1'.out.le hR) hs
    have ⟨hcall', hR', hs'⟩ := hyd3 hcall hR hs
    clear hs hR hcall
    go_wp2_with (fail)
    go_at_call 49
    refine hcall'.out.mono ?_
    rintro e w' ⟨v', rfl, y1, y2⟩
    obtain ⟨zs1, zA1, zn1, zc1, zB1, zm1, zd1, qz⟩ := y2.qform
    subst qz
    have y2' := hyd1 y2
    clear y2
    go_wp2
    exact hK _ _ y1 ⟨_, hs'.out, y2'.out⟩
   ·have hcall := qDE (fun _ => True) x.1 _ W (Up.any _) (ha1'.out.le hR) hs
    have ⟨hcall', hR', hs'⟩ := hyd3 hcall hR hs
    clear hs hR hcall
    go_wp2_with (fail)
    go_at_call 49
    refine hcall'.out.mono ?_
    rintro e w' ⟨rfl, y1⟩
    go_wp2_with (fail)
    exact hP _ _ _ (Le.trans hR'.out y1) ⟨rfl, qK8 hs'.out, hR'.out.trans y1⟩
  ·refine mSl rfl fun xv W hR hf Q hK hP => ?_
   simp only [fA] at hK ⊢
   go_wp2
   exact hK _ _ lrR rfl
  ·refine mSl rfl fun xv W hR hf Q hK hP => ?_
   obtain ⟨e0, -⟩ := hf
   change _ = _ at e0
   have cc4 := bcl hR (by omega) ca4
   have cc5 := bcl hR (by omega) ca5
   have cc6 := bcl hR (by omega) ca6
   have cc7 := bcl hR (by omega) ca7
   simp only [fA, e0] at hK ⊢
   go_wp2
   exact hK _ _ lrR rfl
  ·refine mSl rfl fun xv W hR hf Q hK hP => ?_
   obtain ⟨e0, -⟩ := hf
   change _ = _ at e0
   simp only [fA, e0] at hK ⊢
   rcases qH8 x.2 with ⟨r, hs⟩ | hs
   ·have hcall := qBU (fun _ => True) x.2 r _ W (Up.any _) (ha2'.out.le hR) hs
    have ⟨hcall', hR', hs'⟩ := hyd3 hcall hR hs
    clear hs hR hcall
    go_wp2_with (fail)
    go_at_call 49
    refine hcall'.out.mono ?_
    rintro e w' ⟨v', rfl, y1, y2⟩
    obtain ⟨zs1, zA1, zn1, zc1, zB1, zm1, zd1, qz⟩ := y2.qform
    subst qz
    have y2' := hyd1 y2
    clear y2
    go_wp2
    exact hK _ _ y1 ⟨_, hs'.out, y2'.out⟩
   ·have hcall := qDE (fun _ => True) x.2 _ W (Up.any _) (ha2'.out.le hR) hs
    have ⟨hcall', hR', hs'⟩ := hyd3 hcall hR hs
    clear hs hR hcall
    go_wp2_with (fail)
    go_at_call 49
    refine hcall'.out.mono ?_
    rintro e w' ⟨rfl, y1⟩
    go_wp2_with (fail)
    exact hP _ _ _ (Le.trans hR'.out y1) ⟨rfl, qJn hs'.out, hR'.out.trans y1⟩
  ·refine mSl rfl fun xv W hR hf Q hK hP => ?_
   obtain ⟨e0, e1, -⟩ := hf
   replace e0 : ∃ r, (x.1).rat? = some r ∧ RatT .u32 W (xv 2) r := e0
   replace e1 : ∃ r, (x.2).rat? = some r ∧ RatT .u32 W (xv 5) r := e1
   obtain ⟨ru0, hru0, hvu0⟩ := e0
   obtain ⟨u0s1, u0A1, u0n1, u0c1, u0B1, u0m1, u0d1, qu0⟩ := hvu0.qform
   rw [qu0] at hvu0
   obtain ⟨ru1, hru1, hvu1⟩ := e1
   obtain ⟨u1s1, u1A1, u1n1, u1c1, u1B1, u1m1, u1d1, qu1⟩ := hvu1.qform
   rw [qu1] at hvu1
   simp only [fA, qu0, qu1] at hK ⊢
   go_wp2
   exact hK _ _ lrR (⟨(ru0, ru1), qH3 hru0 hru1, TurnL.mk hvu0 hvu1⟩)
 ·intro xv W hR hf Q' hQ1 _
  have eL : ∃ g, tval x = some g ∧ TurnL .u32 W (xv 6) g := hf 6 (by decide)
  obtain ⟨g, hg, rs1, rA1, rn1, rc1, rB1, rm1, rd1, rs2, rA2, rn2, rc2, rB2, rm2, rd2, qL, y1, y2⟩ := eL
  have kW := (Below.block hR (w.heap.size + 1) (by omega)).trans k1'.out
  obtain ⟨z0, z1, z2, z3, z4, z5⟩ := qAC kW
  have ⟨g0, g1, g2, g3, g4, g5⟩ := frz6 kW
  simp only [List.drop_succ_cons, List.drop_zero]
  rw [show List.range 7 = [0, 1, 2, 3, 4, 5, 6] from rfl]
  simp only [fA, qL]
  have hle9 := fun u0 u1 u2 u3 u4 u5 => qAh (Le.trans hle'.out hR) (show w.heap.size ≤ w.heap.size + 1 by omega) u0 u1 u2 u3 u4 u5
  have hb9 := fun u0 u1 u2 u3 u4 u5 => qAC (qAZ kW u0 u1 u2 u3 u4 u5)
  simp only [set6] at hb9
  have hfin := fun u0 u1 u2 u3 u4 u5 => And.intro (y1.touch (qAN kW) (qAE W (w.heap.size + 1) u0 u1 u2 u3 u4 u5)) (y2.touch (qAN kW) (qAE W (w.heap.size + 1) u0 u1 u2 u3 u4 u5))
  have ⟨hle9', hb9', hfin', kW', y1', y2', qL', hR'⟩ := hyd8 hle9 hb9 hfin kW y1 y2 qL hR
  clear hR qL y2 y1 kW hfin hb9 hle9
  have hg' := hyd1 hg
  clear hg
  go_wp2
  refine hQ1 _ _ ?_
  go_wp2
  obtain ⟨d0, d1, d2, d3, d4, d5⟩ := hb9'.out (.bool rs1) (.slice rA1 rn1 rc1) (.slice rB1 rm1 rd1) (.bool rs2) (.slice rA2 rn2 rc2) (.slice rB2 rm2 rd2)
  exact bodyPost_ret (v := .agg #[.bool rs1, .slice rA1 rn1 rc1, .slice rB1 rm1 rd1, .bool rs2, .slice rA2 rn2 rc2, .slice rB2 rm2 rd2]) (by simp [results, Tryz.results42, go_sem, d0, d1, d2, d3, d4, d5]) rfl ⟨hle9'.out _ _ _ _ _ _, .inl ⟨g, _, hg'.out, rfl, TurnL.mk (hfin'.out _ _ _ _ _ _).1 (hfin'.out _ _ _ _ _ _).2⟩⟩
theorem qBZ (x : FracA × FracA) (r : G2) (va : Value) (w : World) (ha : IsTurnA w va x) (hs : tval x = some r) : Calls Tryz.prog 42 #[va] w fun e w' => ∃ v', e = .returned v' ∧ Le w w' ∧ TurnL .u32 w' v' r := by
 refine (qH9 x va w ha).mono ?_
 rintro e w' ⟨hle, ⟨g, v, hg, rfl, h⟩ | ⟨hg, -⟩⟩
 ·rw [hs] at hg
  injection hg with hg
  subst hg
  exact ⟨v, rfl, hle, h⟩
 ·rw [hs] at hg
  cases hg
theorem qCX (x : FracA × FracA) (va : Value) (w : World) (ha : IsTurnA w va x) (hs : tval x = none) : Calls Tryz.prog 42 #[va] w fun e w' => e = .panicked (flt 10) ∧ Le w w' := by
 refine (qH9 x va w ha).mono ?_
 rintro e w' ⟨hle, ⟨g, v, hg, -⟩ | ⟨-, h⟩⟩
 ·rw [hs] at hg
  cases hg
 ·exact ⟨h, hle⟩
theorem qG0 (a : G2) (va : Value) (w : World) (ha : TurnL .u32 w va a) : Calls Tryz.prog 66 #[va] w (OperPostT (outG a) w) := by
 obtain ⟨as1, aA1, an1, ac1, aB1, am1, ad1, as2, aA2, an2, ac2, aB2, am2, ad2, rfl, ha1, ha2⟩ := ha
 obtain ⟨W0, hW0, hsz, hle, k0, k1⟩ := qAQ w (.cells #[.bool as1, .slice aA1 an1 ac1, .slice aB1 am1 ad1, .bool as2, .slice aA2 an2 ac2, .slice aB2 am2 ad2] 89) (.cells #[.bool false, .slice none 0 0, .bool false, .slice none 0 0, .bool false, .slice none 0 0, .bool false, .slice none 0 0] 29)
 obtain ⟨ca0, ca1, ca2, ca3, ca4, ca5⟩ := qAC k0
 replace ha1 := ha1.le hle
 replace ha2 := ha2.le hle
 have ⟨hle', k0', k1', ha1', ha2'⟩ := hyd5 hle k0 k1 ha1 ha2
 clear ha2 ha1 k1 k0 hle
 go_enter Tryz.func66, Tryz.ntmps66
 go_wp2_with (fail)
 clear hW0
 refine qAG (R := leRel) 7 [some 3, some 4, some 5, some 6, some 7, some 8, some 9, none] [[], [0], [1], [], [3], [4], [2, 5], [6]]
  [.eq (.pointer (some ⟨w.heap.size, 0, none⟩)), .eq (.agg #[.bool as1, .slice aA1 an1 ac1, .slice aB1 am1 ad1]), MPred.frO (a.1), .eq (.pointer (some ⟨w.heap.size, 3, none⟩)), .eq (.agg #[.bool as2, .slice aA2 an2 ac2, .slice aB2 am2 ad2]), MPred.frO (a.2), MPred.turnFO (a)] (fun ch W => ch = flt 12 ∧ ¬ TSz a 40 ∧ Le W0 W) (by kernel_rfl) (by kernel_rfl) (by kernel_rfl) (by kernel_rfl) ?_ (by rintro a9 ch W hdf - ⟨rfl, hbad, hle9⟩; exact ⟨hdf, hle'.out.trans hle9, .inr ⟨12, qC8 hbad, rfl⟩⟩) ?_
 ·simp only [List.take_succ_cons, List.take_zero]
  refine mSc ?_ (mSc ?_ (mSc ?_ (mSc ?_ (mSc ?_ (mSc ?_ (mSc ?_ (qAJ)))))))
  ·refine mSl rfl fun xv W hR hf Q hK hP => ?_
   simp only [fA] at hK ⊢
   go_wp2
   exact hK _ _ lrR rfl
  ·refine mSl rfl fun xv W hR hf Q hK hP => ?_
   obtain ⟨e0, -⟩ := hf
   change _ = _ at e0
   have cc0 := bcl hR (by omega) ca0
   have cc1 := bcl hR (by omega) ca1
   have cc2 := bcl hR (by omega) ca2
   simp only [fA, e0] at hK ⊢
   go_wp2
   exact hK _ _ lrR rfl
  ·refine mSl rfl fun xv W hR hf Q hK hP => ?_
   obtain ⟨e0, -⟩ := hf
   change _ = _ at e0
   simp only [fA, e0] at hK ⊢
   rcases Classical.em (Rsz a.1 40) with hs | hs
   ·have hcall := qEC (fun _ => True) (fun _ => True) a.1 _ W (Up.any _) (ha1'.out.le hR) hs
    have ⟨hcall', hR', hs'⟩ := hyd3 hcall hR hs
    clear hs hR hcall
    go_wp2_with (fail)
    go_at_call 45
    refine hcall'.out.mono ?_
    rintro e w' ⟨v', rfl, y1, y2⟩
    obtain ⟨zs1, zA1, zn1, zc1, zt1, zB1, zm1, zd1, qz⟩ := y2.fform
    subst qz
    have y2' := hyd1 y2
    clear y2
    go_wp2
    exact hK _ _ y1 ⟨hs'.out, y2'.out⟩
   ·have hcall := qFD (fun _ => True) a.1 _ W (ha1'.out.le hR) hs
    have ⟨hcall', hR', hs'⟩ := hyd3 hcall hR hs
    clear hs hR hcall
    go_wp2_with (fail)
    go_at_call 45
    refine hcall'.out.mono ?_
    rintro e w' ⟨rfl, y1⟩
    go_wp2_with (fail)
    exact hP _ _ _ (Le.trans hR'.out y1) ⟨rfl, fun h => hs'.out h.1, hR'.out.trans y1⟩
  ·refine mSl rfl fun xv W hR hf Q hK hP => ?_
   simp only [fA] at hK ⊢
   go_wp2
   exact hK _ _ lrR rfl
  ·refine mSl rfl fun xv W hR hf Q hK hP => ?_
   obtain ⟨e0, -⟩ := hf
   change _ = _ at e0
   have cc3 := bcl hR (by omega) ca3
   have cc4 := bcl hR (by omega) ca4
   have cc5 := bcl hR (by omega) ca5
   simp only [fA, e0] at hK ⊢
   go_wp2
   exact hK _ _ lrR rfl
  ·refine mSl rfl fun xv W hR hf Q hK hP => ?_
   obtain ⟨e0, -⟩ := hf
   change _ = _ at e0
   simp only [fA, e0] at hK ⊢
   rcases Classical.em (Rsz a.2 40) with hs | hs
   ·have hcall := qEC (fun _ => True) (fun _ => True) a.2 _ W (Up.any _) (ha2'.out.le hR) hs
    have ⟨hcall', hR', hs'⟩ := hyd3 hcall hR hs
    clear hs hR hcall
    go_wp2_with (fail)
    go_at_call 45
    refine hcall'.out.mono ?_
    rintro e w' ⟨v', rfl, y1, y2⟩
    obtain ⟨zs1, zA1, zn1, zc1, zt1, zB1, zm1, zd1, qz⟩ := y2.fform
    subst qz
    have y2' := hyd1 y2
    clear y2
    go_wp2
    exact hK _ _ y1 ⟨hs'.out, y2'.out⟩
   ·have hcall := qFD (fun _ => True) a.2 _ W (ha2'.out.le hR) hs
    have ⟨hcall', hR', hs'⟩ := hyd3 hcall hR hs
    clear hs hR hcall
    go_wp2_with (fail)
    go_at_call 45
    refine hcall'.out.mono ?_
    rintro e w' ⟨rfl, y1⟩
    go_wp2_with (fail)
    exact hP _ _ _ (Le.trans hR'.out y1) ⟨rfl, fun h => hs'.out h.2, hR'.out.trans y1⟩
  ·refine mSl rfl fun xv W hR hf Q hK hP => ?_
   obtain ⟨e0, e1, -⟩ := hf
   replace e0 : Rsz (a.1) 40 ∧ qCk W (xv 2) (a.1) := e0
   replace e1 : Rsz (a.2) 40 ∧ qCk W (xv 5) (a.2) := e1
   obtain ⟨hzu0, hvu0⟩ := e0
   obtain ⟨u0s1, u0A1, u0n1, u0c1, u0t1, u0B1, u0m1, u0d1, qu0⟩ := hvu0.fform
   rw [qu0] at hvu0
   obtain ⟨hzu1, hvu1⟩ := e1
   obtain ⟨u1s1, u1A1, u1n1, u1c1, u1t1, u1B1, u1m1, u1d1, qu1⟩ := hvu1.fform
   rw [qu1] at hvu1
   simp only [fA, qu0, qu1] at hK ⊢
   go_wp2
   exact hK _ _ lrR (⟨⟨hzu0, hzu1⟩, TurnF.mk hvu0 hvu1⟩)
 ·intro xv W hR hf Q' hQ1 _
  have eL : TSz (a) 40 ∧ TurnF W (xv 6) (a) := hf 6 (by decide)
  obtain ⟨hg, rs1, rA1, rn1, rc1, rt1, rB1, rm1, rd1, rs2, rA2, rn2, rc2, rt2, rB2, rm2, rd2, qL, y1, y2⟩ := eL
  have kW := (Below.block hR (w.heap.size + 1) (by omega)).trans k1'.out
  obtain ⟨z0, z1, z2, z3, z4, z5, z6, z7⟩ := qAB kW
  have ⟨g0, g1, g2, g3, g4, g5, g6, g7⟩ := frz8 kW
  simp only [List.drop_succ_cons, List.drop_zero]
  rw [show List.range 7 = [0, 1, 2, 3, 4, 5, 6] from rfl]
  simp only [fA, qL]
  have hle9 := fun u0 u1 u2 u3 u4 u5 u6 u7 => qAW (Le.trans hle'.out hR) (show w.heap.size ≤ w.heap.size + 1 by omega) u0 u1 u2 u3 u4 u5 u6 u7
  have hb9 := fun u0 u1 u2 u3 u4 u5 u6 u7 => qAB (qAI kW u0 u1 u2 u3 u4 u5 u6 u7)
  simp only [set8] at hb9
  have hfin := fun u0 u1 u2 u3 u4 u5 u6 u7 => And.intro (y1.touch (qA9 kW) (qAL W (w.heap.size + 1) u0 u1 u2 u3 u4 u5 u6 u7)) (y2.touch (qA9 kW) (qAL W (w.heap.size + 1) u0 u1 u2 u3 u4 u5 u6 u7))
  have ⟨hle9', hb9', hfin', kW', y1', y2', qL', hR'⟩ := hyd8 hle9 hb9 hfin kW y1 y2 qL hR
  clear hR qL y2 y1 kW hfin hb9 hle9
  have hg' := hyd1 hg
  clear hg
  go_wp2
  refine hQ1 _ _ ?_
  go_wp2
  obtain ⟨d0, d1, d2, d3, d4, d5, d6, d7⟩ := hb9'.out (.bool rs1) (.slice rA1 rn1 rc1) (.bool rt1) (.slice rB1 rm1 rd1) (.bool rs2) (.slice rA2 rn2 rc2) (.bool rt2) (.slice rB2 rm2 rd2)
  exact bodyPost_ret (v := .agg #[.bool rs1, .slice rA1 rn1 rc1, .bool rt1, .slice rB1 rm1 rd1, .bool rs2, .slice rA2 rn2 rc2, .bool rt2, .slice rB2 rm2 rd2]) (by simp [results, Tryz.results66, go_sem, d0, d1, d2, d3, d4, d5, d6, d7]) rfl ⟨hle9'.out _ _ _ _ _ _ _ _, .inl ⟨a, _, qB8 hg'.out, rfl, TurnF.mk (hfin'.out _ _ _ _ _ _ _ _).1 (hfin'.out _ _ _ _ _ _ _ _).2⟩⟩
theorem qCl (r : G2) (va : Value) (w : World) (ha : TurnL .u32 w va r) (hs : TSz r 40) : Calls Tryz.prog 66 #[va] w fun e w' => ∃ v', e = .returned v' ∧ Le w w' ∧ TurnF w' v' r := by
 refine (qG0 r va w ha).mono ?_
 rw [qB8 hs]
 rintro e w' ⟨hle, ⟨g, v, hg, rfl, h⟩ | ⟨c, hg, -⟩⟩
 ·injection hg with hg
  subst hg
  exact ⟨v, rfl, hle, h⟩
 ·cases hg
theorem qCm (r : G2) (va : Value) (w : World) (ha : TurnL .u32 w va r) (hs : ¬ TSz r 40) : Calls Tryz.prog 66 #[va] w fun e w' => e = .panicked (flt 12) ∧ Le w w' := by
 refine (qG0 r va w ha).mono ?_
 rw [qC8 hs]
 rintro e w' ⟨hle, ⟨g, v, hg, -⟩ | ⟨c, hg, rfl⟩⟩
 ·cases hg
 ·injection hg with hg
  subst hg
  exact ⟨rfl, hle⟩
theorem qLG (a b : G2) (va vb : Value) (w : World) (ha : TurnL .u32 w va a) (hb : TurnL .u32 w vb b) (hza : TSz a 1000000) (hzb : TSz b 1000000) :
  Calls Tryz.prog 97 #[va, vb] w fun e w' => ∃ v', e = .returned v' ∧ Le w w' ∧ TurnL .u32 w' v' (gadd a b) := by
 obtain ⟨as1, aA1, an1, ac1, aB1, am1, ad1, as2, aA2, an2, ac2, aB2, am2, ad2, rfl, ha1, ha2⟩ := ha
 obtain ⟨bs1, bA1, bn1, bc1, bB1, bm1, bd1, bs2, bA2, bn2, bc2, bB2, bm2, bd2, rfl, hb1, hb2⟩ := hb
 obtain ⟨W0, hW0, hsz, hle, k0, k1, k2⟩ := qAw w (.cells #[.bool as1, .slice aA1 an1 ac1, .slice aB1 am1 ad1, .bool as2, .slice aA2 an2 ac2, .slice aB2 am2 ad2] 89) (.cells #[.bool bs1, .slice bA1 bn1 bc1, .slice bB1 bm1 bd1, .bool bs2, .slice bA2 bn2 bc2, .slice bB2 bm2 bd2] 89) (.cells #[.bool false, .slice none 0 0, .slice none 0 0, .bool false, .slice none 0 0, .slice none 0 0] 89)
 obtain ⟨ca0, ca1, ca2, ca3, ca4, ca5⟩ := qAC k0
 obtain ⟨cb0, cb1, cb2, cb3, cb4, cb5⟩ := qAC k1
 replace ha1 := ha1.le hle
 replace ha2 := ha2.le hle
 replace hb1 := hb1.le hle
 replace hb2 := hb2.le hle
 have ⟨hle', k0', k1', k2', ha1', ha2', hb1', hb2'⟩ := hyd8 hle k0 k1 k2 ha1 ha2 hb1 hb2
 have ⟨hza', hzb'⟩ := hyd2 hza hzb
 clear hzb hza hb2 hb1 ha2 ha1 k2 k1 k0 hle
 go_enter Tryz.func97, Tryz.ntmps97
 go_wp2_with (fail)
 clear hW0
 refine qAG (R := leRel) 11 [some 5, some 6, some 7, some 8, some 9, some 10, some 11, some 12, some 13, some 14, some 15, none] [[], [0], [], [2], [1, 3], [], [5], [], [7], [6, 8], [4, 9], [10]]
  [.eq (.pointer (some ⟨w.heap.size, 0, none⟩)), .eq (.agg #[.bool as1, .slice aA1 an1 ac1, .slice aB1 am1 ad1]), .eq (.pointer (some ⟨w.heap.size + 1, 0, none⟩)), .eq (.agg #[.bool bs1, .slice bA1 bn1 bc1, .slice bB1 bm1 bd1]), MPred.ratT .u32 (a.1 + b.1), .eq (.pointer (some ⟨w.heap.size, 3, none⟩)), .eq (.agg #[.bool as2, .slice aA2 an2 ac2, .slice aB2 am2 ad2]), .eq (.pointer (some ⟨w.heap.size + 1, 3, none⟩)), .eq (.agg #[.bool bs2, .slice bA2 bn2 bc2, .slice bB2 bm2 bd2]), MPred.ratT .u32 (a.2 + b.2), MPred.turn .u32 (gadd a b)] (fun _ _ => False) (by kernel_rfl) (by kernel_rfl) (by kernel_rfl) (by kernel_rfl) ?_ (fun _ _ _ _ _ h => h.elim) ?_
 ·simp only [List.take_succ_cons, List.take_zero]
  refine mSc ?_ (mSc ?_ (mSc ?_ (mSc ?_ (mSc ?_ (mSc ?_ (mSc ?_ (mSc ?_ (mSc ?_ (mSc ?_ (mSc ?_ (qAJ)))))))))))
  ·refine mSl rfl fun xv W hR hf Q hK hP => ?_
   simp only [fA] at hK ⊢
   go_wp2
   exact hK _ _ lrR rfl
  ·refine mSl rfl fun xv W hR hf Q hK hP => ?_
   obtain ⟨e0, -⟩ := hf
   change _ = _ at e0
   have cc0 := bcl hR (by omega) ca0
   have cc1 := bcl hR (by omega) ca1
   have cc2 := bcl hR (by omega) ca2
   simp only [fA, e0] at hK ⊢
   go_wp2
   exact hK _ _ lrR rfl
  ·refine mSl rfl fun xv W hR hf Q hK hP => ?_
   simp only [fA] at hK ⊢
   go_wp2
   exact hK _ _ lrR rfl
  ·refine mSl rfl fun xv W hR hf Q hK hP => ?_
   obtain ⟨e0, -⟩ := hf
   change _ = _ at e0
   have cc0 := bcl hR (by omega) cb0
   have cc1 := bcl hR (by omega) cb1
   have cc2 := bcl hR (by omega) cb2
   simp only [fA, e0] at hK ⊢
   go_wp2
   exact hK _ _ lrR rfl
  ·refine mSl rfl fun xv W hR hf Q hK hP => ?_
   obtain ⟨e0, e1, -⟩ := hf
   change _ = _ at e0 e1
   simp only [fA, e0, e1] at hK ⊢
   go_wp2_with (fail)
   go_at_call 90
   refine (qBd (fun _ => True) a.1 b.1 _ _ W (Up.any _) (ha1'.out.le hR) (hb1'.out.le hR) (hza'.out.1.up (by decide)) (hzb'.out.1.up (by decide))).mono ?_
   rintro e w' ⟨v', rfl, y1, y2⟩
   obtain ⟨zs1, zA1, zn1, zc1, zB1, zm1, zd1, qz⟩ := y2.qform
   subst qz
   have y2' := hyd1 y2
   clear y2
   go_wp2
   exact hK _ _ y1 y2'.out
  ·refine mSl rfl fun xv W hR hf Q hK hP => ?_
   simp only [fA] at hK ⊢
   go_wp2
   exact hK _ _ lrR rfl
  ·refine mSl rfl fun xv W hR hf Q hK hP => ?_
   obtain ⟨e0, -⟩ := hf
   change _ = _ at e0
   have cc3 := bcl hR (by omega) ca3
   have cc4 := bcl hR (by omega) ca4
   have cc5 := bcl hR (by omega) ca5
   simp only [fA, e0] at hK ⊢
   go_wp2
   exact hK _ _ lrR rfl
  ·refine mSl rfl fun xv W hR hf Q hK hP => ?_
   simp only [fA] at hK ⊢
   go_wp2
   exact hK _ _ lrR rfl
  ·refine mSl rfl fun xv W hR hf Q hK hP => ?_
   obtain ⟨e0, -⟩ := hf
   change _ = _ at e0
   have cc3 := bcl hR (by omega) cb3
   have cc4 := bcl hR (by omega) cb4
   have cc5 := bcl hR (by omega) cb5
   simp only [fA, e0] at hK ⊢
   go_wp2
   exact hK _ _ lrR rfl
  ·refine mSl rfl fun xv W hR hf Q hK hP => ?_
   obtain ⟨e0, e1, -⟩ := hf
   change _ = _ at e0 e1
   simp only [fA, e0, e1] at hK ⊢
   go_wp2_with (fail)
   go_at_call 90
   refine (qBd (fun _ => True) a.2 b.2 _ _ W (Up.any _) (ha2'.out.le hR) (hb2'.out.le hR) (hza'.out.2.up (by decide)) (hzb'.out.2.up (by decide))).mono ?_
   rintro e w' ⟨v', rfl, y1, y2⟩
   obtain ⟨zs1, zA1, zn1, zc1, zB1, zm1, zd1, qz⟩ := y2.qform
   subst qz
   have y2' := hyd1 y2
   clear y2
   go_wp2
   exact hK _ _ y1 y2'.out
  ·refine mSl rfl fun xv W hR hf Q hK hP => ?_
   obtain ⟨e0, e1, -⟩ := hf
   replace e0 : RatT .u32 W (xv 4) (a.1 + b.1) := e0
   replace e1 : RatT .u32 W (xv 9) (a.2 + b.2) := e1
   obtain ⟨u0s1, u0A1, u0n1, u0c1, u0B1, u0m1, u0d1, qu0⟩ := e0.qform
   rw [qu0] at e0
   obtain ⟨u1s1, u1A1, u1n1, u1c1, u1B1, u1m1, u1d1, qu1⟩ := e1.qform
   rw [qu1] at e1
   simp only [fA, qu0, qu1] at hK ⊢
   go_wp2
   exact hK _ _ lrR (TurnL.mk e0 e1)
 ·intro xv W hR hf Q' hQ1 _
  have eL : TurnL .u32 W (xv 10) (gadd a b) := hf 10 (by decide)
  obtain ⟨rs1, rA1, rn1, rc1, rB1, rm1, rd1, rs2, rA2, rn2, rc2, rB2, rm2, rd2, qL, y1, y2⟩ := eL
  have kW := (Below.block hR (w.heap.size + 1 + 1) (by omega)).trans k2'.out
  obtain ⟨z0, z1, z2, z3, z4, z5⟩ := qAC kW
  have ⟨g0, g1, g2, g3, g4, g5⟩ := frz6 kW
  simp only [List.drop_succ_cons, List.drop_zero]
  rw [show List.range 11 = [0, 1, 2, 3, 4, 5, 6, 7, 8, 9, 10] from rfl]
  simp only [fA, qL]
  have hle9 := fun u0 u1 u2 u3 u4 u5 => qAh (Le.trans hle'.out hR) (show w.heap.size ≤ w.heap.size + 1 + 1 by omega) u0 u1 u2 u3 u4 u5
  have hb9 := fun u0 u1 u2 u3 u4 u5 => qAC (qAZ kW u0 u1 u2 u3 u4 u5)
  simp only [set6] at hb9
  have hfin := fun u0 u1 u2 u3 u4 u5 => And.intro (y1.touch (qAN kW) (qAE W (w.heap.size + 1 + 1) u0 u1 u2 u3 u4 u5)) (y2.touch (qAN kW) (qAE W (w.heap.size + 1 + 1) u0 u1 u2 u3 u4 u5))
  have ⟨hle9', hb9', hfin', kW', y1', y2', qL', hR'⟩ := hyd8 hle9 hb9 hfin kW y1 y2 qL hR
  clear hR qL y2 y1 kW hfin hb9 hle9
  go_wp2
  refine hQ1 _ _ ?_
  go_wp2
  obtain ⟨d0, d1, d2, d3, d4, d5⟩ := hb9'.out (.bool rs1) (.slice rA1 rn1 rc1) (.slice rB1 rm1 rd1) (.bool rs2) (.slice rA2 rn2 rc2) (.slice rB2 rm2 rd2)
  exact bodyPost_ret (v := .agg #[.bool rs1, .slice rA1 rn1 rc1, .slice rB1 rm1 rd1, .bool rs2, .slice rA2 rn2 rc2, .slice rB2 rm2 rd2]) (by simp [results, Tryz.results97, go_sem, d0, d1, d2, d3, d4, d5]) rfl ⟨_, rfl, hle9'.out _ _ _ _ _ _, TurnL.mk (hfin'.out _ _ _ _ _ _).1 (hfin'.out _ _ _ _ _ _).2⟩
theorem qD4 (a b : G2) (va vb : Value) (w : World) (ha : TurnL .u32 w va a) (hb : TurnL .u32 w vb b) (hza : TSz a 1000000) (hzb : TSz b 1000000) :
  Calls Tryz.prog 75 #[va, vb] w fun e w' => ∃ v', e = .returned v' ∧ Le w w' ∧ TurnL .u32 w' v' (gmul a b) := by
 obtain ⟨as1, aA1, an1, ac1, aB1, am1, ad1, as2, aA2, an2, ac2, aB2, am2, ad2, rfl, ha1, ha2⟩ := ha
 obtain ⟨bs1, bA1, bn1, bc1, bB1, bm1, bd1, bs2, bA2, bn2, bc2, bB2, bm2, bd2, rfl, hb1, hb2⟩ := hb
 obtain ⟨W0, hW0, hsz, hle, k0, k1, k2⟩ := qAw w (.cells #[.bool as1, .slice aA1 an1 ac1, .slice aB1 am1 ad1, .bool as2, .slice aA2 an2 ac2, .slice aB2 am2 ad2] 89) (.cells #[.bool bs1, .slice bA1 bn1 bc1, .slice bB1 bm1 bd1, .bool bs2, .slice bA2 bn2 bc2, .slice bB2 bm2 bd2] 89) (.cells #[.bool false, .slice none 0 0, .slice none 0 0, .bool false, .slice none 0 0, .slice none 0 0] 89)
 obtain ⟨ca0, ca1, ca2, ca3, ca4, ca5⟩ := qAC k0
 obtain ⟨cb0, cb1, cb2, cb3, cb4, cb5⟩ := qAC k1
 replace ha1 := ha1.le hle
 replace ha2 := ha2.le hle
 replace hb1 := hb1.le hle
 replace hb2 := hb2.le hle
 have ⟨hle', k0', k1', k2', ha1', ha2', hb1', hb2'⟩ := hyd8 hle k0 k1 k2 ha1 ha2 hb1 hb2
 have ⟨hza', hzb'⟩ := hyd2 hza hzb
 clear hzb hza hb2 hb1 ha2 ha1 k2 k1 k0 hle
 go_enter Tryz.func75, Tryz.ntmps75
 go_wp2_with (fail)
 clear hW0
 refine qAG (R := leRel) 23 [some 5, some 6, some 7, some 8, some 9, some 10, some 11, some 12, some 13, some 14, some 15, some 16, some 17, some 18, some 19, some 20, some 21, some 22, some 23, some 24, some 25, some 26, some 27, none] [[], [0], [], [2], [1, 3], [], [5], [], [7], [6, 8], [4, 9], [], [11], [], [13], [12, 14], [], [16], [], [18], [17, 19], [15, 20], [10, 21], [22]]
  [.eq (.pointer (some ⟨w.heap.size, 0, none⟩)), .eq (.agg #[.bool as1, .slice aA1 an1 ac1, .slice aB1 am1 ad1]), .eq (.pointer (some ⟨w.heap.size + 1, 0, none⟩)), .eq (.agg #[.bool bs1, .slice bA1 bn1 bc1, .slice bB1 bm1 bd1]), MPred.ratT .u32 (a.1 * b.1), .eq (.pointer (some ⟨w.heap.size, 3, none⟩)), .eq (.agg #[.bool as2, .slice aA2 an2 ac2, .slice aB2 am2 ad2]), .eq (.pointer (some ⟨w.heap.size + 1, 3, none⟩)), .eq (.agg #[.bool bs2, .slice bA2 bn2 bc2, .slice bB2 bm2 bd2]), MPred.ratT .u32 (a.2 * b.2), MPred.ratT .u32 (a.1 * b.1 - a.2 * b.2), .eq (.pointer (some ⟨w.heap.size, 0, none⟩)), .eq (.agg #[.bool as1, .slice aA1 an1 ac1, .slice aB1 am1 ad1]), .eq (.pointer (some ⟨w.heap.size + 1, 3, none⟩)), .eq (.agg #[.bool bs2, .slice bA2 bn2 bc2, .slice bB2 bm2 bd2]), MPred.ratT .u32 (a.1 * b.2), .eq (.pointer (some ⟨w.heap.size, 3, none⟩)), .eq (.agg #[.bool as2, .slice aA2 an2 ac2, .slice aB2 am2 ad2]), .eq (.pointer (some ⟨w.heap.size + 1, 0, none⟩)), .eq (.agg #[.bool bs1, .slice bA1 bn1 bc1, .slice bB1 bm1 bd1]), MPred.ratT .u32 (a.2 * b.1), MPred.ratT .u32 (a.1 * b.2 + a.2 * b.1), MPred.turn .u32 (gmul a b)] (fun _ _ => False) (by kernel_rfl) (by kernel_rfl) (by kernel_rfl) (by kernel_rfl) ?_ (fun _ _ _ _ _ h => h.elim) ?_
 ·simp only [List.take_succ_cons, List.take_zero]
  refine mSc ?_ (mSc ?_ (mSc ?_ (mSc ?_ (mSc ?_ (mSc ?_ (mSc ?_ (mSc ?_ (mSc ?_ (mSc ?_ (mSc ?_ (mSc ?_ (mSc ?_ (mSc ?_ (mSc ?_ (mSc ?_ (mSc ?_ (mSc ?_ (mSc ?_ (mSc ?_ (mSc ?_ (mSc ?_ (mSc ?_ (qAJ)))))))))))))))))))))))
  ·refine mSl rfl fun xv W hR hf Q hK hP => ?_
   simp only [fA] at hK ⊢
   go_wp2
   exact hK _ _ lrR rfl
  ·refine mSl rfl fun xv W hR hf Q hK hP => ?_
   obtain ⟨e0, -⟩ := hf
   change _ = _ at e0
   have cc0 := bcl hR (by omega) ca0
   have cc1 := bcl hR (by omega) ca1
   have cc2 := bcl hR (by omega) ca2
   simp only [fA, e0] at hK ⊢
   go_wp2
   exact hK _ _ lrR rfl
  ·refine mSl rfl fun xv W hR hf Q hK hP => ?_
   simp only [fA] at hK ⊢
   go_wp2
   exact hK _ _ lrR rfl
  ·refine mSl rfl fun xv W hR hf Q hK hP => ?_
   obtain ⟨e0, -⟩ := hf
   change _ = _ at e0
   have cc0 := bcl hR (by omega) cb0
   have cc1 := bcl hR (by omega) cb1
   have cc2 := bcl hR (by omega) cb2
   simp only [fA, e0] at hK ⊢
   go_wp2
   exact hK _ _ lrR rfl
  ·refine mSl rfl fun xv W hR hf Q hK hP => ?_
   obtain ⟨e0, e1, -⟩ := hf
   change _ = _ at e0 e1
   simp only [fA, e0, e1] at hK ⊢
   go_wp2_with (fail)
   go_at_call 89
   refine (qCt (fun _ => True) a.1 b.1 _ _ W (Up.any _) (ha1'.out.le hR) (hb1'.out.le hR) (hza'.out.1.up (by decide)) (hzb'.out.1.up (by decide))).mono ?_
   rintro e w' ⟨v', rfl, y1, y2⟩
   obtain ⟨zs1, zA1, zn1, zc1, zB1, zm1, zd1, qz⟩ := y2.qform
   subst qz
   have y2' := hyd1 y2
   clear y2
   go_wp2
   exact hK _ _ y1 y2'.out
  ·refine mSl rfl fun xv W hR hf Q hK hP => ?_
   simp only [fA] at hK ⊢
   go_wp2
   exact hK _ _ lrR rfl
  ·refine mSl rfl fun xv W hR hf Q hK hP => ?_
   obtain ⟨e0, -⟩ := hf
   change _ = _ at e0
   have cc3 := bcl hR (by omega) ca3
   have cc4 := bcl hR (by omega) ca4
   have cc5 := bcl hR (by omega) ca5
   simp only [fA, e0] at hK ⊢
   go_wp2
   exact hK _ _ lrR rfl
  ·refine mSl rfl fun xv W hR hf Q hK hP => ?_
   simp only [fA] at hK ⊢
   go_wp2
   exact hK _ _ lrR rfl
  ·refine mSl rfl fun xv W hR hf Q hK hP => ?_
   obtain ⟨e0, -⟩ := hf
   change _ = _ at e0
   have cc3 := bcl hR (by omega) cb3
   have cc4 := bcl hR (by omega) cb4
   have cc5 := bcl hR (by omega) cb5
   simp only [fA, e0] at hK ⊢
   go_wp2
   exact hK _ _ lrR rfl
  ·refine mSl rfl fun xv W hR hf Q hK hP => ?_
   obtain ⟨e0, e1, -⟩ := hf
   change _ = _ at e0 e1
   simp only [fA, e0, e1] at hK ⊢
   go_wp2_with (fail)
   go_at_call 89
   refine (qCt (fun _ => True) a.2 b.2 _ _ W (Up.any _) (ha2'.out.le hR) (hb2'.out.le hR) (hza'.out.2.up (by decide)) (hzb'.out.2.up (by decide))).mono ?_
   rintro e w' ⟨v', rfl, y1, y2⟩
   obtain ⟨zs1, zA1, zn1, zc1, zB1, zm1, zd1, qz⟩ := y2.qform
   subst qz
   have y2' := hyd1 y2
   clear y2
   go_wp2
   exact hK _ _ y1 y2'.out
  ·refine mSl rfl fun xv W hR hf Q hK hP => ?_
   obtain ⟨e0, e1, -⟩ := hf
   replace e0 : RatT .u32 W (xv 4) (a.1 * b.1) := e0
   replace e1 : RatT .u32 W (xv 9) (a.2 * b.2) := e1
   simp only [fA] at hK ⊢
   go_wp2_with (fail)
   go_at_call 50
   refine (qHV (fun _ => True) (a.1 * b.1) (a.2 * b.2) _ _ W (Up.any _) e0 e1 (qB3 hza'.out.1 hzb'.out.1 (by decide)) (qB3 hza'.out.2 hzb'.out.2 (by decide))).mono ?_
   rintro e w' ⟨v', rfl, y1, y2⟩
   obtain ⟨zs1, zA1, zn1, zc1, zB1, zm1, zd1, qz⟩ := y2.qform
   subst qz
   have y2' := hyd1 y2
   clear y2
   go_wp2
   exact hK _ _ y1 y2'.out
  ·refine mSl rfl fun xv W hR hf Q hK hP => ?_
   simp only [fA] at hK ⊢
   go_wp2
   exact hK _ _ lrR rfl
  ·refine mSl rfl fun xv W hR hf Q hK hP => ?_
   obtain ⟨e0, -⟩ := hf
   change _ = _ at e0
   have cc0 := bcl hR (by omega) ca0
   have cc1 := bcl hR (by omega) ca1
   have cc2 := bcl hR (by omega) ca2
   simp only [fA, e0] at hK ⊢
   go_wp2
   exact hK _ _ lrR rfl
  ·refine mSl rfl fun xv W hR hf Q hK hP => ?_
   simp only [fA] at hK ⊢
   go_wp2
   exact hK _ _ lrR rfl
  ·refine mSl rfl fun xv W hR hf Q hK hP => ?_
   obtain ⟨e0, -⟩ := hf
   change _ = _ at e0
   have cc3 := bcl hR (by omega) cb3
   have cc4 := bcl hR (by omega) cb4
   have cc5 := bcl hR (by omega) cb5
   simp only [fA, e0] at hK ⊢
   go_wp2
   exact hK _ _ lrR rfl
  ·refine mSl rfl fun xv W hR hf Q hK hP => ?_
   obtain ⟨e0, e1, -⟩ := hf
   change _ = _ at e0 e1
   simp only [fA, e0, e1] at hK ⊢
   go_wp2_with (fail)
   go_at_call 89
   refine (qCt (fun _ => True) a.1 b.2 _ _ W (Up.any _) (ha1'.out.le hR) (hb2'.out.le hR) (hza'.out.1.up (by decide)) (hzb'.out.2.up (by decide))).mono ?_
   rintro e w' ⟨v', rfl, y1, y2⟩
   obtain ⟨zs1, zA1, zn1, zc1, zB1, zm1, zd1, qz⟩ := y2.qform
   subst qz
   have y2' := hyd1 y2
   clear y2
   go_wp2
   exact hK _ _ y1 y2'.out
  ·refine mSl rfl fun xv W hR hf Q hK hP => ?_
   simp only [fA] at hK ⊢
   go_wp2
   exact hK _ _ lrR rfl
  ·refine mSl rfl fun xv W hR hf Q hK hP => ?_
   obtain ⟨e0, -⟩ := hf
   change _ = _ at e0
   have cc3 := bcl hR (by omega) ca3
   have cc4 := bcl hR (by omega) ca4
   have cc5 := bcl hR (by omega) ca5
   simp only [fA, e0] at hK ⊢
   go_wp2
   exact hK _ _ lrR rfl
  ·refine mSl rfl fun xv W hR hf Q hK hP => ?_
   simp only [fA] at hK ⊢
   go_wp2
   exact hK _ _ lrR rfl
  ·refine mSl rfl fun xv W hR hf Q hK hP => ?_
   obtain ⟨e0, -⟩ := hf
   change _ = _ at e0
   have cc0 := bcl hR (by omega) cb0
   have cc1 := bcl hR (by omega) cb1
   have cc2 := bcl hR (by omega) cb2
   simp only [fA, e0] at hK ⊢
   go_wp2
   exact hK _ _ lrR rfl
  ·refine mSl rfl fun xv W hR hf Q hK hP => ?_
   obtain ⟨e0, e1, -⟩ := hf
   change _ = _ at e0 e1
   simp only [fA, e0, e1] at hK ⊢
   go_wp2_with (fail)
   go_at_call 89
   refine (qCt (fun _ => True) a.2 b.1 _ _ W (Up.any _) (ha2'.out.le hR) (hb1'.out.le hR) (hza'.out.2.up (by decide)) (hzb'.out.1.up (by decide))).mono ?_
   rintro e w' ⟨v', rfl, y1, y2⟩
   obtain ⟨zs1, zA1, zn1, zc1, zB1, zm1, zd1, qz⟩ := y2.qform
   subst qz
   have y2' := hyd1 y2
   clear y2
   go_wp2
   exact hK _ _ y1 y2'.out
  ·refine mSl rfl fun xv W hR hf Q hK hP => ?_
   obtain ⟨e0, e1, -⟩ := hf
   replace e0 : RatT .u32 W (xv 15) (a.1 * b.2) := e0
   replace e1 : RatT .u32 W (xv 20) (a.2 * b.1) := e1
   simp only [fA] at hK ⊢
   go_wp2_with (fail)
   go_at_call 90
   refine (qBd (fun _ => True) (a.1 * b.2) (a.2 * b.1) _ _ W (Up.any _) e0 e1 (qB3 hza'.out.1 hzb'.out.2 (by decide)) (qB3 hza'.out.2 hzb'.out.1 (by decide))).mono ?_
   rintro e w' ⟨v', rfl, y1, y2⟩
   obtain ⟨zs1, zA1, zn1, zc1, zB1, zm1, zd1, qz⟩ := y2.qform
   subst qz
   have y2' := hyd1 y2
   clear y2
   go_wp2
   exact hK _ _ y1 y2'.out
  ·refine mSl rfl fun xv W hR hf Q hK hP => ?_
   obtain ⟨e0, e1, -⟩ := hf
   replace e0 : RatT .u32 W (xv 10) (a.1 * b.1 - a.2 * b.2) := e0
   replace e1 : RatT .u32 W (xv 21) (a.1 * b.2 + a.2 * b.1) := e1
   obtain ⟨u0s1, u0A1, u0n1, u0c1, u0B1, u0m1, u0d1, qu0⟩ := e0.qform
   rw [qu0] at e0
   obtain ⟨u1s1, u1A1, u1n1, u1c1, u1B1, u1m1, u1d1, qu1⟩ := e1.qform
   rw [qu1] at e1
   simp only [fA, qu0, qu1] at hK ⊢
   go_wp2
   exact hK _ _ lrR (TurnL.mk e0 e1)
 ·intro xv W hR hf Q' hQ1 _
  have eL : TurnL .u32 W (xv 22) (gmul a b) := hf 22 (by decide)
  obtain ⟨rs1, rA1, rn1, rc1, rB1, rm1, rd1, rs2, rA2, rn2, rc2, rB2, rm2, rd2, qL, y1, y2⟩ := eL
  have kW := (Below.block hR (w.heap.size + 1 + 1) (by omega)).trans k2'.out
  obtain ⟨z0, z1, z2, z3, z4, z5⟩ := qAC kW
  have ⟨g0, g1, g2, g3, g4, g5⟩ := frz6 kW
  simp only [List.drop_succ_cons, List.drop_zero]
  rw [show List.range 23 = [0, 1, 2, 3, 4, 5, 6, 7, 8, 9, 10, 11, 12, 13, 14, 15, 16, 17, 18, 19, 20, 21, 22] from rfl]
  simp only [fA, qL]
  have hle9 := fun u0 u1 u2 u3 u4 u5 => qAh (Le.trans hle'.out hR) (show w.heap.size ≤ w.heap.size + 1 + 1 by omega) u0 u1 u2 u3 u4 u5
  have hb9 := fun u0 u1 u2 u3 u4 u5 => qAC (qAZ kW u0 u1 u2 u3 u4 u5)
  simp only [set6] at hb9
  have hfin := fun u0 u1 u2 u3 u4 u5 => And.intro (y1.touch (qAN kW) (qAE W (w.heap.size + 1 + 1) u0 u1 u2 u3 u4 u5)) (y2.touch (qAN kW) (qAE W (w.heap.size + 1 + 1) u0 u1 u2 u3 u4 u5))
  have ⟨hle9', hb9', hfin', kW', y1', y2', qL', hR'⟩ := hyd8 hle9 hb9 hfin kW y1 y2 qL hR
  clear hR qL y2 y1 kW hfin hb9 hle9
  go_wp2
  refine hQ1 _ _ ?_
  go_wp2
  obtain ⟨d0, d1, d2, d3, d4, d5⟩ := hb9'.out (.bool rs1) (.slice rA1 rn1 rc1) (.slice rB1 rm1 rd1) (.bool rs2) (.slice rA2 rn2 rc2) (.slice rB2 rm2 rd2)
  exact bodyPost_ret (v := .agg #[.bool rs1, .slice rA1 rn1 rc1, .slice rB1 rm1 rd1, .bool rs2, .slice rA2 rn2 rc2, .slice rB2 rm2 rd2]) (by simp [results, Tryz.results75, go_sem, d0, d1, d2, d3, d4, d5]) rfl ⟨_, rfl, hle9'.out _ _ _ _ _ _, TurnL.mk (hfin'.out _ _ _ _ _ _).1 (hfin'.out _ _ _ _ _ _).2⟩
theorem qFI (a : G2) (va : Value) (w : World) (ha : TurnL .u32 w va a)  :
  Calls Tryz.prog 68 #[va] w fun e w' => ∃ v', e = .returned v' ∧ Le w w' ∧ TurnL .u32 w' v' (qAP a) := by
 obtain ⟨as1, aA1, an1, ac1, aB1, am1, ad1, as2, aA2, an2, ac2, aB2, am2, ad2, rfl, ha1, ha2⟩ := ha
 obtain ⟨W0, hW0, hsz, hle, k0, k1⟩ := qAQ w (.cells #[.bool as1, .slice aA1 an1 ac1, .slice aB1 am1 ad1, .bool as2, .slice aA2 an2 ac2, .slice aB2 am2 ad2] 89) (.cells #[.bool false, .slice none 0 0, .slice none 0 0, .bool false, .slice none 0 0, .slice none 0 0] 89)
 obtain ⟨ca0, ca1, ca2, ca3, ca4, ca5⟩ := qAC k0
 replace ha1 := ha1.le hle
 replace ha2 := ha2.le hle
 have ⟨hle', k0', k1', ha1', ha2'⟩ := hyd5 hle k0 k1 ha1 ha2
 clear ha2 ha1 k1 k0 hle
 go_enter Tryz.func68, Tryz.ntmps68
 go_wp2_with (fail)
 clear hW0
 refine qAG (R := leRel) 6 [some 3, some 4, some 5, some 6, some 7, some 8, none] [[], [0], [], [2], [3], [1, 4], [5]]
  [.eq (.pointer (some ⟨w.heap.size, 0, none⟩)), .eq (.agg #[.bool as1, .slice aA1 an1 ac1, .slice aB1 am1 ad1]), .eq (.pointer (some ⟨w.heap.size, 3, none⟩)), .eq (.agg #[.bool as2, .slice aA2 an2 ac2, .slice aB2 am2 ad2]), MPred.ratT .u32 (-a.2), MPred.turn .u32 (qAP a)] (fun _ _ => False) (by kernel_rfl) (by kernel_rfl) (by kernel_rfl) (by kernel_rfl) ?_ (fun _ _ _ _ _ h => h.elim) ?_
 ·simp only [List.take_succ_cons, List.take_zero]
  refine mSc ?_ (mSc ?_ (mSc ?_ (mSc ?_ (mSc ?_ (mSc ?_ (qAJ))))))
  ·refine mSl rfl fun xv W hR hf Q hK hP => ?_
   simp only [fA] at hK ⊢
   go_wp2
   exact hK _ _ lrR rfl
  ·refine mSl rfl fun xv W hR hf Q hK hP => ?_
   obtain ⟨e0, -⟩ := hf
   change _ = _ at e0
   have cc0 := bcl hR (by omega) ca0
   have cc1 := bcl hR (by omega) ca1
   have cc2 := bcl hR (by omega) ca2
   simp only [fA, e0] at hK ⊢
   go_wp2
   exact hK _ _ lrR rfl
  ·refine mSl rfl fun xv W hR hf Q hK hP => ?_
   simp only [fA] at hK ⊢
   go_wp2
   exact hK _ _ lrR rfl
  ·refine mSl rfl fun xv W hR hf Q hK hP => ?_
   obtain ⟨e0, -⟩ := hf
   change _ = _ at e0
   have cc3 := bcl hR (by omega) ca3
   have cc4 := bcl hR (by omega) ca4
   have cc5 := bcl hR (by omega) ca5
   simp only [fA, e0] at hK ⊢
   go_wp2
   exact hK _ _ lrR rfl
  ·refine mSl rfl fun xv W hR hf Q hK hP => ?_
   obtain ⟨e0, -⟩ := hf
   change _ = _ at e0
   simp only [fA, e0] at hK ⊢
   go_wp2_with (fail)
   go_at_call 95
   refine (qEz (fun _ => True) a.2 _ W (ha2'.out.le hR)).mono ?_
   rintro e w' ⟨v', rfl, y1, y2⟩
   obtain ⟨zs1, zA1, zn1, zc1, zB1, zm1, zd1, qz⟩ := y2.qform
   subst qz
   have y2' := hyd1 y2
   clear y2
   go_wp2
   exact hK _ _ y1 y2'.out
  ·refine mSl rfl fun xv W hR hf Q hK hP => ?_
   obtain ⟨e0, e1, -⟩ := hf
   change _ = _ at e0
   replace e1 : RatT .u32 W (xv 4) (-a.2) := e1
   obtain ⟨u1s1, u1A1, u1n1, u1c1, u1B1, u1m1, u1d1, qu1⟩ := e1.qform
   rw [qu1] at e1
   simp only [fA, e0, qu1] at hK ⊢
   go_wp2
   exact hK _ _ lrR (TurnL.mk (ha1'.out.le hR) e1)
 ·intro xv W hR hf Q' hQ1 _
  have eL : TurnL .u32 W (xv 5) (qAP a) := hf 5 (by decide)
  obtain ⟨rs1, rA1, rn1, rc1, rB1, rm1, rd1, rs2, rA2, rn2, rc2, rB2, rm2, rd2, qL, y1, y2⟩ := eL
  have kW := (Below.block hR (w.heap.size + 1) (by omega)).trans k1'.out
  obtain ⟨z0, z1, z2, z3, z4, z5⟩ := qAC kW
  have ⟨g0, g1, g2, g3, g4, g5⟩ := frz6 kW
  simp only [List.drop_succ_cons, List.drop_zero]
  rw [show List.range 6 = [0, 1, 2, 3, 4, 5] from rfl]
  simp only [fA, qL]
  have hle9 := fun u0 u1 u2 u3 u4 u5 => qAh (Le.trans hle'.out hR) (show w.heap.size ≤ w.heap.size + 1 by omega) u0 u1 u2 u3 u4 u5
  have hb9 := fun u0 u1 u2 u3 u4 u5 => qAC (qAZ kW u0 u1 u2 u3 u4 u5)
  simp only [set6] at hb9
  have hfin := fun u0 u1 u2 u3 u4 u5 => And.intro (y1.touch (qAN kW) (qAE W (w.heap.size + 1) u0 u1 u2 u3 u4 u5)) (y2.touch (qAN kW) (qAE W (w.heap.size + 1) u0 u1 u2 u3 u4 u5))
  have ⟨hle9', hb9', hfin', kW', y1', y2', qL', hR'⟩ := hyd8 hle9 hb9 hfin kW y1 y2 qL hR
  clear hR qL y2 y1 kW hfin hb9 hle9
  go_wp2
  refine hQ1 _ _ ?_
  go_wp2
  obtain ⟨d0, d1, d2, d3, d4, d5⟩ := hb9'.out (.bool rs1) (.slice rA1 rn1 rc1) (.slice rB1 rm1 rd1) (.bool rs2) (.slice rA2 rn2 rc2) (.slice rB2 rm2 rd2)
  exact bodyPost_ret (v := .agg #[.bool rs1, .slice rA1 rn1 rc1, .slice rB1 rm1 rd1, .bool rs2, .slice rA2 rn2 rc2, .slice rB2 rm2 rd2]) (by simp [results, Tryz.results68, go_sem, d0, d1, d2, d3, d4, d5]) rfl ⟨_, rfl, hle9'.out _ _ _ _ _ _, TurnL.mk (hfin'.out _ _ _ _ _ _).1 (hfin'.out _ _ _ _ _ _).2⟩
theorem qI1 (a : G2) (va : Value) (w : World) (ha : TurnL .u32 w va a) (hza : TSz a 1000000) :
  Calls Tryz.prog 46 #[va] w fun e w' => ∃ v', e = .returned v' ∧ Le w w' ∧ RatT .u32 w' v' (qAH a) := by
 obtain ⟨as1, aA1, an1, ac1, aB1, am1, ad1, as2, aA2, an2, ac2, aB2, am2, ad2, rfl, ha1, ha2⟩ := ha
 obtain ⟨W0, hW0, hsz, hle, k0, k1⟩ := qAQ w (.cells #[.bool as1, .slice aA1 an1 ac1, .slice aB1 am1 ad1, .bool as2, .slice aA2 an2 ac2, .slice aB2 am2 ad2] 89) (.cells #[.bool false, .slice none 0 0, .slice none 0 0] 87)
 obtain ⟨ca0, ca1, ca2, ca3, ca4, ca5⟩ := qAC k0
 replace ha1 := ha1.le hle
 replace ha2 := ha2.le hle
 have ⟨hle', k0', k1', ha1', ha2', hza'⟩ := hyd6 hle k0 k1 ha1 ha2 hza
 clear hza ha2 ha1 k1 k0 hle
 go_enter Tryz.func46, Tryz.ntmps46
 go_wp2_with (fail)
 clear hW0
 refine qAG (R := leRel) 11 [some 3, some 4, some 5, some 6, some 7, some 8, some 9, some 10, some 11, some 12, some 13, none] [[], [0], [], [2], [1, 3], [], [5], [], [7], [6, 8], [4, 9], [10]]
  [.eq (.pointer (some ⟨w.heap.size, 0, none⟩)), .eq (.agg #[.bool as1, .slice aA1 an1 ac1, .slice aB1 am1 ad1]), .eq (.pointer (some ⟨w.heap.size, 0, none⟩)), .eq (.agg #[.bool as1, .slice aA1 an1 ac1, .slice aB1 am1 ad1]), MPred.ratT .u32 (a.1 * a.1), .eq (.pointer (some ⟨w.heap.size, 3, none⟩)), .eq (.agg #[.bool as2, .slice aA2 an2 ac2, .slice aB2 am2 ad2]), .eq (.pointer (some ⟨w.heap.size, 3, none⟩)), .eq (.agg #[.bool as2, .slice aA2 an2 ac2, .slice aB2 am2 ad2]), MPred.ratT .u32 (a.2 * a.2), MPred.ratT .u32 (qAH a)] (fun _ _ => False) (by kernel_rfl) (by kernel_rfl) (by kernel_rfl) (by kernel_rfl) ?_ (fun _ _ _ _ _ h => h.elim) ?_
 ·simp only [List.take_succ_cons, List.take_zero]
  refine mSc ?_ (mSc ?_ (mSc ?_ (mSc ?_ (mSc ?_ (mSc ?_ (mSc ?_ (mSc ?_ (mSc ?_ (mSc ?_ (mSc ?_ (qAJ)))))))))))
  ·refine mSl rfl fun xv W hR hf Q hK hP => ?_
   simp only [fA] at hK ⊢
   go_wp2
   exact hK _ _ lrR rfl
  ·refine mSl rfl fun xv W hR hf Q hK hP => ?_
   obtain ⟨e0, -⟩ := hf
   change _ = _ at e0
   have cc0 := bcl hR (by omega) ca0
   have cc1 := bcl hR (by omega) ca1
   have cc2 := bcl hR (by omega) ca2
   simp only [fA, e0] at hK ⊢
   go_wp2
   exact hK _ _ lrR rfl
  ·refine mSl rfl fun xv W hR hf Q hK hP => ?_
   simp only [fA] at hK ⊢
   go_wp2
   exact hK _ _ lrR rfl
  ·refine mSl rfl fun xv W hR hf Q hK hP => ?_
   obtain ⟨e0, -⟩ := hf
   change _ = _ at e0
   have cc0 := bcl hR (by omega) ca0
   have cc1 := bcl hR (by omega) ca1
   have cc2 := bcl hR (by omega) ca2
   simp only [fA, e0] at hK ⊢
   go_wp2
   exact hK _ _ lrR rfl
  ·refine mSl rfl fun xv W hR hf Q hK hP => ?_
   obtain ⟨e0, e1, -⟩ := hf
   change _ = _ at e0 e1
   simp only [fA, e0, e1] at hK ⊢
   go_wp2_with (fail)
   go_at_call 89
   refine (qCt (fun _ => True) a.1 a.1 _ _ W (Up.any _) (ha1'.out.le hR) (ha1'.out.le hR) (hza'.out.1.up (by decide)) (hza'.out.1.up (by decide))).mono ?_
   rintro e w' ⟨v', rfl, y1, y2⟩
   obtain ⟨zs1, zA1, zn1, zc1, zB1, zm1, zd1, qz⟩ := y2.qform
   subst qz
   have y2' := hyd1 y2
   clear y2
   go_wp2
   exact hK _ _ y1 y2'.out
  ·refine mSl rfl fun xv W hR hf Q hK hP => ?_
   simp only [fA] at hK ⊢
   go_wp2
   exact hK _ _ lrR rfl
  ·refine mSl rfl fun xv W hR hf Q hK hP => ?_
   obtain ⟨e0, -⟩ := hf
   change _ = _ at e0
   have cc3 := bcl hR (by omega) ca3
   have cc4 := bcl hR (by omega) ca4
   have cc5 := bcl hR (by omega) ca5
   simp only [fA, e0] at hK ⊢
   go_wp2
   exact hK _ _ lrR rfl
  ·refine mSl rfl fun xv W hR hf Q hK hP => ?_
   simp only [fA] at hK ⊢
   go_wp2
   exact hK _ _ lrR rfl
  ·refine mSl rfl fun xv W hR hf Q hK hP => ?_
   obtain ⟨e0, -⟩ := hf
   change _ = _ at e0
   have cc3 := bcl hR (by omega) ca3
   have cc4 := bcl hR (by omega) ca4
   have cc5 := bcl hR (by omega) ca5
   simp only [fA, e0] at hK ⊢
   go_wp2
   exact hK _ _ lrR rfl
  ·refine mSl rfl fun xv W hR hf Q hK hP => ?_
   obtain ⟨e0, e1, -⟩ := hf
   change _ = _ at e0 e1
   simp only [fA, e0, e1] at hK ⊢
   go_wp2_with (fail)
   go_at_call 89
   refine (qCt (fun _ => True) a.2 a.2 _ _ W (Up.any _) (ha2'.out.le hR) (ha2'.out.le hR) (hza'.out.2.up (by decide)) (hza'.out.2.up (by decide))).mono ?_
   rintro e w' ⟨v', rfl, y1, y2⟩
   obtain ⟨zs1, zA1, zn1, zc1, zB1, zm1, zd1, qz⟩ := y2.qform
   subst qz
   have y2' := hyd1 y2
   clear y2
   go_wp2
   exact hK _ _ y1 y2'.out
  ·refine mSl rfl fun xv W hR hf Q hK hP => ?_
   obtain ⟨e0, e1, -⟩ := hf
   replace e0 : RatT .u32 W (xv 4) (a.1 * a.1) := e0
   replace e1 : RatT .u32 W (xv 9) (a.2 * a.2) := e1
   simp only [fA] at hK ⊢
   go_wp2_with (fail)
   go_at_call 90
   refine (qBd (fun _ => True) (a.1 * a.1) (a.2 * a.2) _ _ W (Up.any _) e0 e1 (qB3 hza'.out.1 hza'.out.1 (by decide)) (qB3 hza'.out.2 hza'.out.2 (by decide))).mono ?_
   rintro e w' ⟨v', rfl, y1, y2⟩
   obtain ⟨zs1, zA1, zn1, zc1, zB1, zm1, zd1, qz⟩ := y2.qform
   subst qz
   have y2' := hyd1 y2
   clear y2
   go_wp2
   exact hK _ _ y1 y2'.out
 ·intro xv W hR hf Q' hQ1 _
  have eL : RatT .u32 W (xv 10) (qAH a) := hf 10 (by decide)
  obtain ⟨rs1, rA1, rn1, rc1, rB1, rm1, rd1, qL⟩ := eL.qform
  rw [qL] at eL
  have kW := (Below.block hR (w.heap.size + 1) (by omega)).trans k1'.out
  obtain ⟨z0, z1, z2, -⟩ := qAD kW
  have ⟨g0, g1, g2⟩ := frz3 kW
  simp only [List.drop_succ_cons, List.drop_zero]
  rw [show List.range 11 = [0, 1, 2, 3, 4, 5, 6, 7, 8, 9, 10] from rfl]
  simp only [fA, qL]
  have hle9 := fun u0 u1 u2 => qA8 (u0 := u0) (u1 := u1) (u2 := u2) (Le.trans hle'.out hR) (show w.heap.size ≤ w.heap.size + 1 by omega)
  have hb9 := fun u0 u1 u2 => qAD (qAY (u0 := u0) (u1 := u1) (u2 := u2) kW)
  have hfin := fun u0 u1 u2 => eL.touch (qFG kW) (qC7 W (w.heap.size + 1) u0 u1 u2)
  have ⟨hle9', hb9', hfin', kW', eL', qL', hR'⟩ := hyd7 hle9 hb9 hfin kW eL qL hR
  clear hR qL eL kW hfin hb9 hle9
  go_wp2
  refine hQ1 _ _ ?_
  go_wp2
  obtain ⟨d0, d1, d2, -⟩ := hb9'.out (.bool rs1) (.slice rA1 rn1 rc1) (.slice rB1 rm1 rd1)
  exact bodyPost_ret (v := .agg #[.bool rs1, .slice rA1 rn1 rc1, .slice rB1 rm1 rd1]) (by simp [results, Tryz.results46, go_sem, d0, d1, d2]) rfl ⟨_, rfl, hle9'.out _ _ _, hfin'.out _ _ _⟩
theorem qJS (w : World) : Calls Tryz.prog 72 #[] w fun e w' => ∃ v', e = .returned v' ∧ Le w w' ∧ TurnL .u32 w' v' gone := by
 obtain ⟨W0, hW0, hle, k0⟩ := al1 w (.cells #[.bool false, .slice none 0 0, .slice none 0 0, .bool false, .slice none 0 0, .slice none 0 0] 89)
 have ⟨hle', k0'⟩ := hyd2 hle k0
 clear k0 hle
 go_enter Tryz.func72, Tryz.ntmps72
 go_wp2_with (fail)
 clear hW0
 go_at_call 52
 refine (qD0 (fun _ => True) 1 W0 (Up.any _) (by decide) (by decide)).mono ?_
 rintro e W1 ⟨v1, rfl, hle1, h1⟩
 obtain ⟨rs1, rA1, rn1, rc1, rB1, rm1, rd1, rfl⟩ := h1.qform
 have ⟨hle1', h1'⟩ := hyd2 hle1 h1
 clear h1 hle1
 go_wp2_with (fail)
 go_at_call 52
 refine (qD0 (fun _ => True) 0 W1 (Up.any _) (by decide) (by decide)).mono ?_
 rintro e W2 ⟨v2, rfl, hle2, h2⟩
 obtain ⟨rs2, rA2, rn2, rc2, rB2, rm2, rd2, rfl⟩ := h2.qform
 have kW := bxl hle2 (bxl hle1'.out k0'.out)
 have hleW := (hle'.out.trans hle1'.out).trans hle2
 have y1 := h1'.out.le hle2
 have ⟨hle2', h2', hleW', y1'⟩ := hyd4 hle2 h2 hleW y1
 clear y1 hleW h2 hle2
 obtain ⟨z0, z1, z2, z3, z4, z5⟩ := qAC kW
 have ⟨g0, g1, g2, g3, g4, g5⟩ := frz6 kW
 have hle9 := fun u0 u1 u2 u3 u4 u5 => qAh (hleW'.out) (show w.heap.size ≤ w.heap.size by omega) u0 u1 u2 u3 u4 u5
 have hb9 := fun u0 u1 u2 u3 u4 u5 => qAC (qAZ kW u0 u1 u2 u3 u4 u5)
 simp only [set6] at hb9
 have hfin := fun u0 u1 u2 u3 u4 u5 => And.intro (y1'.out.touch (qAN kW) (qAE W2 (w.heap.size) u0 u1 u2 u3 u4 u5)) (h2'.out.touch (qAN kW) (qAE W2 (w.heap.size) u0 u1 u2 u3 u4 u5))
 have ⟨hle9', hb9', hfin', kW'⟩ := hyd4 hle9 hb9 hfin kW
 clear kW hfin hb9 hle9
 go_wp2
 obtain ⟨d0, d1, d2, d3, d4, d5⟩ := hb9'.out (.bool rs1) (.slice rA1 rn1 rc1) (.slice rB1 rm1 rd1) (.bool rs2) (.slice rA2 rn2 rc2) (.slice rB2 rm2 rd2)
 exact bodyPost_ret (v := .agg #[.bool rs1, .slice rA1 rn1 rc1, .slice rB1 rm1 rd1, .bool rs2, .slice rA2 rn2 rc2, .slice rB2 rm2 rd2]) (by simp [results, Tryz.results72, go_sem, d0, d1, d2, d3, d4, d5]) rfl ⟨_, rfl, hle9'.out _ _ _ _ _ _, TurnL.mk (hfin'.out _ _ _ _ _ _).1 (hfin'.out _ _ _ _ _ _).2⟩
theorem qG1 (a : G2) (va : Value) (w : World) (ha : TurnL .u32 w va a) : Calls Tryz.prog 71 #[va] w fun e w' => e = .returned (.bool (decide (qAH a = 0))) ∧ Le w w' := by
 obtain ⟨as1, aA1, an1, ac1, aB1, am1, ad1, as2, aA2, an2, ac2, aB2, am2, ad2, rfl, ha1, ha2⟩ := ha
 obtain ⟨W0, hW0, hle, k0⟩ := al1 w (.cells #[.bool as1, .slice aA1 an1 ac1, .slice aB1 am1 ad1, .bool as2, .slice aA2 an2 ac2, .slice aB2 am2 ad2] 89)
 obtain ⟨c0, c1, c2, c3, c4, c5⟩ := qAC k0
 have r1 := qFh (fun _ => True) a.1 _ W0 (ha1.le hle)
 have r2 := fun W (hW : Le W0 W) => qFh (fun _ => True) a.2 _ W (ha2.le (hle.trans hW))
 obtain ⟨z1, hz1⟩ : ∃ z, rsgn a.1 = z := ⟨_, rfl⟩
 obtain ⟨z2, hz2⟩ : ∃ z, rsgn a.2 = z := ⟨_, rfl⟩
 rw [hz1] at r1
 rw [hz2] at r2
 have hg : decide (qAH a = 0) = (decide (z1 = 0) && decide (z2 = 0)) := by rw [← hz1, ← hz2, ← Bool.decide_and]; exact decide_eq_decide.2 rsgn_both.symm
 rw [hg]
 have ⟨hle', k0', ha1', ha2', r1', r2', hz1', hz2'⟩ := hyd8 hle k0 ha1 ha2 r1 r2 hz1 hz2
 have hg' := hyd1 hg
 clear hg hz2 hz1 r2 r1 ha2 ha1 k0 hle
 by_cases h1 : z1 = 0
 ·subst h1
  go_enter Tryz.func71, Tryz.ntmps71
  go_wp2_with (fail)
  clear hW0
  go_at_call 51
  refine r1'.out.mono ?_
  rintro e W1 ⟨rfl, hle1⟩
  obtain ⟨d0, d1, d2, d3, d4, d5⟩ := qAC (bxl hle1 k0'.out)
  have r3 := r2'.out W1 hle1
  have ⟨hle1', r3'⟩ := hyd2 hle1 r3
  clear r3 hle1
  go_wp2_with (fail)
  go_at_call 51
  refine r3'.out.mono ?_
  rintro e W2 ⟨rfl, hle2⟩
  have hle9 := (hle'.out.trans hle1'.out).trans hle2
  have ⟨hle2', hle9'⟩ := hyd2 hle2 hle9
  clear hle9 hle2
  go_wp2
  go_ret
  exact ⟨by simp; rfl, hle9'.out⟩
 ·go_enter Tryz.func71, Tryz.ntmps71
  go_wp2_with (fail)
  clear hW0
  go_at_call 51
  refine r1'.out.mono ?_
  rintro e W1 ⟨rfl, hle1⟩
  have hle9 := hle'.out.trans hle1
  have hd : decide (z1 = 0) = false := decide_eq_false h1
  have ⟨hle1', hle9'⟩ := hyd2 hle1 hle9
  clear hle9 hle1
  go_wp2
  go_ret
  exact ⟨by simp [h1], hle9'.out⟩
end Go.Proofs.YtlhfonhbbpbmpaaGreat

