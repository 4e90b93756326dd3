/- barleycornref01: PlusZ, Square. barleycornref01: TimesZ. barleycornref01: One, Nil. barleycornref01: Inverse. barleycornref01: Raised. -/
import Derived.Test.YtlhfonhbbpbmpaaGreatTurnKit
namespace Go.Proofs.YtlhfonhbbpbmpaaGreat
set_option maxRecDepth 100000
set_option maxHeartbeats 4000000
open Go.RowKit Go.Shelf
set_option linter.unusedVariables false
set_option linter.unusedSimpArgs false
theorem qKB (a b : G2) (va vb : Value) (w : World) (ha : TurnL .i64 w va a) (hb : TurnL .i64 w vb b) (hza : TSz a 1000000) (hzb : TSz b 1000000) :
  Calls Tryz.prog 106 #[va, vb] w fun e w' => ∃ v', e = .returned v' ∧ Le w w' ∧ TurnL .i64 w' v' (gadd a b) := by
 obtain ⟨as1, aA1, an1, ac1, aB1, am1, ad1, as2, aA2, an2, ac2, aB2, am2, ad2, rfl, ha1, ha2⟩ := ha
 obtain ⟨bs1, bA1, bn1, bc1, bB1, bm1, bd1, bs2, bA2, bn2, bc2, bB2, bm2, bd2, rfl, hb1, hb2⟩ := hb
 obtain ⟨W0, hW0, hsz, hle, k0, k1, k2⟩ := qAw w (.cells #[.bool as1, .slice aA1 an1 ac1, .slice aB1 am1 ad1, .bool as2, .slice aA2 an2 ac2, .slice aB2 am2 ad2] 61) (.cells #[.bool bs1, .slice bA1 bn1 bc1, .slice bB1 bm1 bd1, .bool bs2, .slice bA2 bn2 bc2, .slice bB2 bm2 bd2] 61) (.cells #[.bool false, .slice none 0 0, .slice none 0 0, .bool false, .slice none 0 0, .slice none 0 0] 61)
 obtain ⟨ca0, ca1, ca2, ca3, ca4, ca5⟩ := qAC k0
 obtain ⟨cb0, cb1, cb2, cb3, cb4, cb5⟩ := qAC k1
 replace ha1 := ha1.le hle
 replace ha2 := ha2.le hle
 replace hb1 := hb1.le hle
 replace hb2 := hb2.le hle
 have ⟨hle', k0', k1', k2', ha1', ha2', hb1', hb2'⟩ := hyd8 hle k0 k1 k2 ha1 ha2 hb1 hb2
 have ⟨hza', hzb'⟩ := hyd2 hza hzb
 clear hzb hza hb2 hb1 ha2 ha1 k2 k1 k0 hle
 go_enter Tryz.func106, Tryz.ntmps106
 go_wp2_with (fail)
 clear hW0
 refine qAG (R := leRel) 11 [some 5, some 6, some 7, some 8, some 9, some 10, some 11, some 12, some 13, some 14, some 15, none] [[], [0], [], [2], [1, 3], [], [5], [], [7], [6, 8], [4, 9], [10]]
  [.eq (.pointer (some ⟨w.heap.size, 0, none⟩)), .eq (.agg #[.bool as1, .slice aA1 an1 ac1, .slice aB1 am1 ad1]), .eq (.pointer (some ⟨w.heap.size + 1, 0, none⟩)), .eq (.agg #[.bool bs1, .slice bA1 bn1 bc1, .slice bB1 bm1 bd1]), MPred.ratT .i64 (a.1 + b.1), .eq (.pointer (some ⟨w.heap.size, 3, none⟩)), .eq (.agg #[.bool as2, .slice aA2 an2 ac2, .slice aB2 am2 ad2]), .eq (.pointer (some ⟨w.heap.size + 1, 3, none⟩)), .eq (.agg #[.bool bs2, .slice bA2 bn2 bc2, .slice bB2 bm2 bd2]), MPred.ratT .i64 (a.2 + b.2), MPred.turn .i64 (gadd a b)] (fun _ _ => False) (by kernel_rfl) (by kernel_rfl) (by kernel_rfl) (by kernel_rfl) ?_ (fun _ _ _ _ _ h => h.elim) ?_
 ·simp only [List.take_succ_cons, List.take_zero]
  refine mSc ?_ (mSc ?_ (mSc ?_ (mSc ?_ (mSc ?_ (mSc ?_ (mSc ?_ (mSc ?_ (mSc ?_ (mSc ?_ (mSc ?_ (qAJ)))))))))))
  ·refine mSl rfl fun xv W hR hf Q hK hP => ?_
   simp only [fA] at hK ⊢
   go_wp2
   exact hK _ _ lrR rfl
  ·refine mSl rfl fun xv W hR hf Q hK hP => ?_
   obtain ⟨e0, -⟩ := hf
   change _ = _ at e0
   have cc0 := bcl hR (by omega) ca0
   have cc1 := bcl hR (by omega) ca1
   have cc2 := bcl hR (by omega) ca2
   simp only [fA, e0] at hK ⊢
   go_wp2
   exact hK _ _ lrR rfl
  ·refine mSl rfl fun xv W hR hf Q hK hP => ?_
   simp only [fA] at hK ⊢
   go_wp2
   exact hK _ _ lrR rfl
  ·refine mSl rfl fun xv W hR hf Q hK hP => ?_
   obtain ⟨e0, -⟩ := hf
   change _ = _ at e0
   have cc0 := bcl hR (by omega) cb0
   have cc1 := bcl hR (by omega) cb1
   have cc2 := bcl hR (by omega) cb2
   simp only [fA, e0] at hK ⊢
   go_wp2
   exact hK _ _ lrR rfl
  ·refine mSl rfl fun xv W hR hf Q hK hP => ?_
   obtain ⟨e0, e1, -⟩ := hf
   change _ = _ at e0 e1
   simp only [fA, e0, e1] at hK ⊢
   go_wp2_with (fail)
   go_at_call 57
   refine (qCV (fun _ => True) a.1 b.1 _ _ W (Up.any _) (ha1'.out.le hR) (hb1'.out.le hR) (hza'.out.1.up (by decide)) (hzb'.out.1.up (by decide))).mono ?_
   rintro e w' ⟨v', rfl, y1, y2⟩
   obtain ⟨zs1, zA1, zn1, zc1, zB1, zm1, zd1, qz⟩ := y2.qform
   subst qz
   have y2' := hyd1 y2
   clear y2
   go_wp2
   exact hK _ _ y1 y2'.out
  ·refine mSl rfl fun xv W hR hf Q hK hP => ?_
   simp only [fA] at hK ⊢
   go_wp2
   exact hK _ _ lrR rfl
  ·refine mSl rfl fun xv W hR hf Q hK hP => ?_
   obtain ⟨e0, -⟩ := hf
   change _ = _ at e0
   have cc3 := bcl hR (by omega) ca3
   have cc4 := bcl hR (by omega) ca4
   have cc5 := bcl hR (by omega) ca5
   simp only [fA, e0] at hK ⊢
   go_wp2
   exact hK _ _ lrR rfl
  ·refine mSl rfl fun xv W hR hf Q hK hP => ?_
   simp only [fA] at hK ⊢
   go_wp2
   exact hK _ _ lrR rfl
  ·refine mSl rfl fun xv W hR hf Q hK hP => ?_
   obtain ⟨e0, -⟩ := hf
   change _ = _ at e0
   have cc3 := bcl hR (by omega) cb3
   have cc4 := bcl hR (by omega) cb4
   have cc5 := bcl hR (by omega) cb5
   simp only [fA, e0] at hK ⊢
   go_wp2
   exact hK _ _ lrR rfl
  ·refine mSl rfl fun xv W hR hf Q hK hP => ?_
   obtain ⟨e0, e1, -⟩ := hf
   change _ = _ at e0 e1
   simp only [fA, e0, e1] at hK ⊢
   go_wp2_with (fail)
   go_at_call 57
   refine (qCV (fun _ => True) a.2 b.2 _ _ W (Up.any _) (ha2'.out.le hR) (hb2'.out.le hR) (hza'.out.2.up (by decide)) (hzb'.out.2.up (by decide))).mono ?_
   rintro e w' ⟨v', rfl, y1, y2⟩
   obtain ⟨zs1, zA1, zn1, zc1, zB1, zm1, zd1, qz⟩ := y2.qform
   subst qz
   have y2' := hyd1 y2
   clear y2
   go_wp2
   exact hK _ _ y1 y2'.out
  ·refine mSl rfl fun xv W hR hf Q hK hP => ?_
   obtain ⟨e0, e1, -⟩ := hf
   replace e0 : RatT .i64 W (xv 4) (a.1 + b.1) := e0
   replace e1 : RatT .i64 W (xv 9) (a.2 + b.2) := e1
   obtain ⟨u0s1, u0A1, u0n1, u0c1, u0B1, u0m1, u0d1, qu0⟩ := e0.qform
   rw [qu0] at e0
   obtain ⟨u1s1, u1A1, u1n1, u1c1, u1B1, u1m1, u1d1, qu1⟩ := e1.qform
   rw [qu1] at e1
   simp only [fA, qu0, qu1] at hK ⊢
   go_wp2
   exact hK _ _ lrR (TurnL.mk e0 e1)
 ·intro xv W hR hf Q' hQ1 _
  have eL : TurnL .i64 W (xv 10) (gadd a b) := hf 10 (by decide)
  obtain ⟨rs1, rA1, rn1, rc1, rB1, rm1, rd1, rs2, rA2, rn2, rc2, rB2, rm2, rd2, qL, y1, y2⟩ := eL
  have kW := (Below.block hR (w.heap.size + 1 + 1) (by omega)).trans k2'.out
  obtain ⟨z0, z1, z2, z3, z4, z5⟩ := qAC kW
  have ⟨g0, g1, g2, g3, g4, g5⟩ := frz6 kW
  simp only [List.drop_succ_cons, List.drop_zero]
  rw [show List.range 11 = [0, 1, 2, 3, 4, 5, 6, 7, 8, 9, 10] from rfl]
  simp only [fA, qL]
  have hle9 := fun u0 u1 u2 u3 u4 u5 => qAh (Le.trans hle'.out hR) (show w.heap.size ≤ w.heap.size + 1 + 1 by omega) u0 u1 u2 u3 u4 u5
  have hb9 := fun u0 u1 u2 u3 u4 u5 => qAC (qAZ kW u0 u1 u2 u3 u4 u5)
  simp only [set6] at hb9
  have hfin := fun u0 u1 u2 u3 u4 u5 => And.intro (y1.touch (qAN kW) (qAE W (w.heap.size + 1 + 1) u0 u1 u2 u3 u4 u5)) (y2.touch (qAN kW) (qAE W (w.heap.size + 1 + 1) u0 u1 u2 u3 u4 u5))
  have ⟨hle9', hb9', hfin', kW', y1', y2', qL', hR'⟩ := hyd8 hle9 hb9 hfin kW y1 y2 qL hR
  clear hR qL y2 y1 kW hfin hb9 hle9
  go_wp2
  refine hQ1 _ _ ?_
  go_wp2
  obtain ⟨d0, d1, d2, d3, d4, d5⟩ := hb9'.out (.bool rs1) (.slice rA1 rn1 rc1) (.slice rB1 rm1 rd1) (.bool rs2) (.slice rA2 rn2 rc2) (.slice rB2 rm2 rd2)
  exact bodyPost_ret (v := .agg #[.bool rs1, .slice rA1 rn1 rc1, .slice rB1 rm1 rd1, .bool rs2, .slice rA2 rn2 rc2, .slice rB2 rm2 rd2]) (by simp [results, Tryz.results106, go_sem, d0, d1, d2, d3, d4, d5]) rfl ⟨_, rfl, hle9'.out _ _ _ _ _ _, TurnL.mk (hfin'.out _ _ _ _ _ _).1 (hfin'.out _ _ _ _ _ _).2⟩
theorem qF9 (a : G2) (va : Value) (w : World) (ha : TurnL .i64 w va a) (hza : TSz a 1000000) :
  Calls Tryz.prog 24 #[va] w fun e w' => ∃ v', e = .returned v' ∧ Le w w' ∧ RatT .i64 w' v' (qAH a) := by
 obtain ⟨as1, aA1, an1, ac1, aB1, am1, ad1, as2, aA2, an2, ac2, aB2, am2, ad2, rfl, ha1, ha2⟩ := ha
 obtain ⟨W0, hW0, hsz, hle, k0, k1⟩ := qAQ w (.cells #[.bool as1, .slice aA1 an1 ac1, .slice aB1 am1 ad1, .bool as2, .slice aA2 an2 ac2, .slice aB2 am2 ad2] 61) (.cells #[.bool false, .slice none 0 0, .slice none 0 0] 59)
 obtain ⟨ca0, ca1, ca2, ca3, ca4, ca5⟩ := qAC k0
 replace ha1 := ha1.le hle
 replace ha2 := ha2.le hle
 have ⟨hle', k0', k1', ha1', ha2', hza'⟩ := hyd6 hle k0 k1 ha1 ha2 hza
 clear hza ha2 ha1 k1 k0 hle
 go_enter Tryz.func24, Tryz.ntmps24
 go_wp2_with (fail)
 clear hW0
 refine qAG (R := leRel) 11 [some 3, some 4, some 5, some 6, some 7, some 8, some 9, some 10, some 11, some 12, some 13, none] [[], [0], [], [2], [1, 3], [], [5], [], [7], [6, 8], [4, 9], [10]]
  [.eq (.pointer (some ⟨w.heap.size, 0, none⟩)), .eq (.agg #[.bool as1, .slice aA1 an1 ac1, .slice aB1 am1 ad1]), .eq (.pointer (some ⟨w.heap.size, 0, none⟩)), .eq (.agg #[.bool as1, .slice aA1 an1 ac1, .slice aB1 am1 ad1]), MPred.ratT .i64 (a.1 * a.1), .eq (.pointer (some ⟨w.heap.size, 3, none⟩)), .eq (.agg #[.bool as2, .slice aA2 an2 ac2, .slice aB2 am2 ad2]), .eq (.pointer (some ⟨w.heap.size, 3, none⟩)), .eq (.agg #[.bool as2, .slice aA2 an2 ac2, .slice aB2 am2 ad2]), MPred.ratT .i64 (a.2 * a.2), MPred.ratT .i64 (qAH a)] (fun _ _ => False) (by kernel_rfl) (by kernel_rfl) (by kernel_rfl) (by kernel_rfl) ?_ (fun _ _ _ _ _ h => h.elim) ?_
 ·simp only [List.take_succ_cons, List.take_zero]
  refine mSc ?_ (mSc ?_ (mSc ?_ (mSc ?_ (mSc ?_ (mSc ?_ (mSc ?_ (mSc ?_ (mSc ?_ (mSc ?_ (mSc ?_ (qAJ)))))))))))
  ·refine mSl rfl fun xv W hR hf Q hK hP => ?_
   simp only [fA] at hK ⊢
   go_wp2
   exact hK _ _ lrR rfl
  ·refine mSl rfl fun xv W hR hf Q hK hP => ?_
   obtain ⟨e0, -⟩ := hf
   change _ = _ at e0
   have cc0 := bcl hR (by omega) ca0
   have cc1 := bcl hR (by omega) ca1
   have cc2 := bcl hR (by omega) ca2
   simp only [fA, e0] at hK ⊢
   go_wp2
   exact hK _ _ lrR rfl
  ·refine mSl rfl fun xv W hR hf Q hK hP => ?_
   simp only [fA] at hK ⊢
   go_wp2
   exact hK _ _ lrR rfl
  ·refine mSl rfl fun xv W hR hf Q hK hP => ?_
   obtain ⟨e0, -⟩ := hf
   change _ = _ at e0
   have cc0 := bcl hR (by omega) ca0
   have cc1 := bcl hR (by omega) ca1
   have cc2 := bcl hR (by omega) ca2
   simp only [fA, e0] at hK ⊢
   go_wp2
   exact hK _ _ lrR rfl
  ·refine mSl rfl fun xv W hR hf Q hK hP => ?_
   obtain ⟨e0, e1, -⟩ := hf
   change _ = _ at e0 e1
   simp only [fA, e0, e1] at hK ⊢
   go_wp2_with (fail)
   go_at_call 59
   refine (qC5 (fun _ => True) a.1 a.1 _ _ W (Up.any _) (ha1'.out.le hR) (ha1'.out.le hR) (hza'.out.1.up (by decide)) (hza'.out.1.up (by decide))).mono ?_
   rintro e w' ⟨v', rfl, y1, y2⟩
   obtain ⟨zs1, zA1, zn1, zc1, zB1, zm1, zd1, qz⟩ := y2.qform
   subst qz
   have y2' := hyd1 y2
   clear y2
   go_wp2
   exact hK _ _ y1 y2'.out
  ·refine mSl rfl fun xv W hR hf Q hK hP => ?_
   simp only [fA] at hK ⊢
   go_wp2
   exact hK _ _ lrR rfl
  ·refine mSl rfl fun xv W hR hf Q hK hP => ?_
   obtain ⟨e0, -⟩ := hf
   change _ = _ at e0
   have cc3 := bcl hR (by omega) ca3
   have cc4 := bcl hR (by omega) ca4
   have cc5 := bcl hR (by omega) ca5
   simp only [fA, e0] at hK ⊢
   go_wp2
   exact hK _ _ lrR rfl
  ·refine mSl rfl fun xv W hR hf Q hK hP => ?_
   simp only [fA] at hK ⊢
   go_wp2
   exact hK _ _ lrR rfl
  ·refine mSl rfl fun xv W hR hf Q hK hP => ?_
   obtain ⟨e0, -⟩ := hf
   change _ = _ at e0
   have cc3 := bcl hR (by omega) ca3
   have cc4 := bcl hR (by omega) ca4
   have cc5 := bcl hR (by omega) ca5
   simp only [fA, e0] at hK ⊢
   go_wp2
   exact hK _ _ lrR rfl
  ·refine mSl rfl fun xv W hR hf Q hK hP => ?_
   obtain ⟨e0, e1, -⟩ := hf
   change _ = _ at e0 e1
   simp only [fA, e0, e1] at hK ⊢
   go_wp2_with (fail)
   go_at_call 59
   refine (qC5 (fun _ => True) a.2 a.2 _ _ W (Up.any _) (ha2'.out.le hR) (ha2'.out.le hR) (hza'.out.2.up (by decide)) (hza'.out.2.up (by decide))).mono ?_
   rintro e w' ⟨v', rfl, y1, y2⟩
   obtain ⟨zs1, zA1, zn1, zc1, zB1, zm1, zd1, qz⟩ := y2.qform
   subst qz
   have y2' := hyd1 y2
   clear y2
   go_wp2
   exact hK _ _ y1 y2'.out
  ·refine mSl rfl fun xv W hR hf Q hK hP => ?_
   obtain ⟨e0, e1, -⟩ := hf
   replace e0 : RatT .i64 W (xv 4) (a.1 * a.1) := e0
   replace e1 : RatT .i64 W (xv 9) (a.2 * a.2) := e1
   simp only [fA] at hK ⊢
   go_wp2_with (fail)
   go_at_call 57
   refine (qCV (fun _ => True) (a.1 * a.1) (a.2 * a.2) _ _ W (Up.any _) e0 e1 (qB3 hza'.out.1 hza'.out.1 (by decide)) (qB3 hza'.out.2 hza'.out.2 (by decide))).mono ?_
   rintro e w' ⟨v', rfl, y1, y2⟩
   obtain ⟨zs1, zA1, zn1, zc1, zB1, zm1, zd1, qz⟩ := y2.qform
   subst qz
   have y2' := hyd1 y2
   clear y2
   go_wp2
   exact hK _ _ y1 y2'.out
 ·intro xv W hR hf Q' hQ1 _
  have eL : RatT .i64 W (xv 10) (qAH a) := hf 10 (by decide)
  obtain ⟨rs1, rA1, rn1, rc1, rB1, rm1, rd1, qL⟩ := eL.qform
  rw [qL] at eL
  have kW := (Below.block hR (w.heap.size + 1) (by omega)).trans k1'.out
  obtain ⟨z0, z1, z2, -⟩ := qAD kW
  have ⟨g0, g1, g2⟩ := frz3 kW
  simp only [List.drop_succ_cons, List.drop_zero]
  rw [show List.range 11 = [0, 1, 2, 3, 4, 5, 6, 7, 8, 9, 10] from rfl]
  simp only [fA, qL]
  have hle9 := fun u0 u1 u2 => qA8 (u0 := u0) (u1 := u1) (u2 := u2) (Le.trans hle'.out hR) (show w.heap.size ≤ w.heap.size + 1 by omega)
  have hb9 := fun u0 u1 u2 => qAD (qAY (u0 := u0) (u1 := u1) (u2 := u2) kW)
  have hfin := fun u0 u1 u2 => eL.touch (qFG kW) (qC7 W (w.heap.size + 1) u0 u1 u2)
  have ⟨hle9', hb9', hfin', kW', eL', qL', hR'⟩ := hyd7 hle9 hb9 hfin kW eL qL hR
  clear hR qL eL kW hfin hb9 hle9
  go_wp2
  refine hQ1 _ _ ?_
  go_wp2
  obtain ⟨d0, d1, d2, -⟩ := hb9'.out (.bool rs1) (.slice rA1 rn1 rc1) (.slice rB1 rm1 rd1)
  exact bodyPost_ret (v := .agg #[.bool rs1, .slice rA1 rn1 rc1, .slice rB1 rm1 rd1]) (by simp [results, Tryz.results24, go_sem, d0, d1, d2]) rfl ⟨_, rfl, hle9'.out _ _ _, hfin'.out _ _ _⟩
theorem qEJ (a b : G2) (va vb : Value) (w : World) (ha : TurnL .i64 w va a) (hb : TurnL .i64 w vb b) (hza : TSz a 1000000) (hzb : TSz b 1000000) :
  Calls Tryz.prog 81 #[va, vb] w fun e w' => ∃ v', e = .returned v' ∧ Le w w' ∧ TurnL .i64 w' v' (gmul a b) := by
 obtain ⟨as1, aA1, an1, ac1, aB1, am1, ad1, as2, aA2, an2, ac2, aB2, am2, ad2, rfl, ha1, ha2⟩ := ha
 obtain ⟨bs1, bA1, bn1, bc1, bB1, bm1, bd1, bs2, bA2, bn2, bc2, bB2, bm2, bd2, rfl, hb1, hb2⟩ := hb
 obtain ⟨W0, hW0, hsz, hle, k0, k1, k2⟩ := qAw w (.cells #[.bool as1, .slice aA1 an1 ac1, .slice aB1 am1 ad1, .bool as2, .slice aA2 an2 ac2, .slice aB2 am2 ad2] 61) (.cells #[.bool bs1, .slice bA1 bn1 bc1, .slice bB1 bm1 bd1, .bool bs2, .slice bA2 bn2 bc2, .slice bB2 bm2 bd2] 61) (.cells #[.bool false, .slice none 0 0, .slice none 0 0, .bool false, .slice none 0 0, .slice none 0 0] 61)
 obtain ⟨ca0, ca1, ca2, ca3, ca4, ca5⟩ := qAC k0
 obtain ⟨cb0, cb1, cb2, cb3, cb4, cb5⟩ := qAC k1
 replace ha1 := ha1.le hle
 replace ha2 := ha2.le hle
 replace hb1 := hb1.le hle
 replace hb2 := hb2.le hle
 have ⟨hle', k0', k1', k2', ha1', ha2', hb1', hb2'⟩ := hyd8 hle k0 k1 k2 ha1 ha2 hb1 hb2
 have ⟨hza', hzb'⟩ := hyd2 hza hzb
 clear hzb hza hb2 hb1 ha2 ha1 k2 k1 k0 hle
 go_enter Tryz.func81, Tryz.ntmps81
 go_wp2_with (fail)
 clear hW0
 refine qAG (R := leRel) 24 [some 5, some 6, some 7, some 8, some 9, some 10, some 11, some 12, some 13, some 14, some 15, some 16, some 17, some 18, some 19, some 20, some 21, some 22, some 23, some 24, some 25, some 26, some 27, some 28, none] [[], [0], [], [2], [1, 3], [], [5], [], [7], [6, 8], [9], [4, 10], [], [12], [], [14], [13, 15], [], [17], [], [19], [18, 20], [16, 21], [11, 22], [23]]
  [.eq (.pointer (some ⟨w.heap.size, 0, none⟩)), .eq (.agg #[.bool as1, .slice aA1 an1 ac1, .slice aB1 am1 ad1]), .eq (.pointer (some ⟨w.heap.size + 1, 0, none⟩)), .eq (.agg #[.bool bs1, .slice bA1 bn1 bc1, .slice bB1 bm1 bd1]), MPred.ratT .i64 (a.1 * b.1), .eq (.pointer (some ⟨w.heap.size, 3, none⟩)), .eq (.agg #[.bool as2, .slice aA2 an2 ac2, .slice aB2 am2 ad2]), .eq (.pointer (some ⟨w.heap.size + 1, 3, none⟩)), .eq (.agg #[.bool bs2, .slice bA2 bn2 bc2, .slice bB2 bm2 bd2]), MPred.ratT .i64 (a.2 * b.2), MPred.ratT .i64 (-(a.2 * b.2)), MPred.ratT .i64 (a.1 * b.1 + -(a.2 * b.2)), .eq (.pointer (some ⟨w.heap.size, 0, none⟩)), .eq (.agg #[.bool as1, .slice aA1 an1 ac1, .slice aB1 am1 ad1]), .eq (.pointer (some ⟨w.heap.size + 1, 3, none⟩)), .eq (.agg #[.bool bs2, .slice bA2 bn2 bc2, .slice bB2 bm2 bd2]), MPred.ratT .i64 (a.1 * b.2), .eq (.pointer (some ⟨w.heap.size, 3, none⟩)), .eq (.agg #[.bool as2, .slice aA2 an2 ac2, .slice aB2 am2 ad2]), .eq (.pointer (some ⟨w.heap.size + 1, 0, none⟩)), .eq (.agg #[.bool bs1, .slice bA1 bn1 bc1, .slice bB1 bm1 bd1]), MPred.ratT .i64 (a.2 * b.1), MPred.ratT .i64 (a.1 * b.2 + a.2 * b.1), MPred.turn .i64 (gmul a b)] (fun _ _ => False) (by kernel_rfl) (by kernel_rfl) (by kernel_rfl) (by kernel_rfl) ?_ (fun _ _ _ _ _ h => h.elim) ?_
 ·simp only [List.take_succ_cons, List.take_zero]
  refine mSc ?_ (mSc ?_ (mSc ?_ (mSc ?_ (mSc ?_ (mSc ?_ (mSc ?_ (mSc ?_ (mSc ?_ (mSc ?_ (mSc ?_ (mSc ?_ (mSc ?_ (mSc ?_ (mSc ?_ (mSc ?_ (mSc ?_ (mSc ?_ (mSc ?_ (mSc ?_ (mSc ?_ (mSc ?_ (mSc ?_ (mSc ?_ (qAJ))))))))))))))))))))))))
  ·refine mSl rfl fun xv W hR hf Q hK hP => ?_
   simp only [fA] at hK ⊢
   go_wp2
   exact hK _ _ lrR rfl
  ·refine mSl rfl fun xv W hR hf Q hK hP => ?_
   obtain ⟨e0, -⟩ := hf
   change _ = _ at e0
   have cc0 := bcl hR (by omega) ca0
   have cc1 := bcl hR (by omega) ca1
   have cc2 := bcl hR (by omega) ca2
   simp only [fA, e0] at hK ⊢
   go_wp2
   exact hK _ _ lrR rfl
  ·refine mSl rfl fun xv W hR hf Q hK hP => ?_
   simp only [fA] at hK ⊢
   go_wp2
   exact hK _ _ lrR rfl
  ·refine mSl rfl fun xv W hR hf Q hK hP => ?_
   obtain ⟨e0, -⟩ := hf
   change _ = _ at e0
   have cc0 := bcl hR (by omega) cb0
   have cc1 := bcl hR (by omega) cb1
   have cc2 := bcl hR (by omega) cb2
   simp only [fA, e0] at hK ⊢
   go_wp2
   exact hK _ _ lrR rfl
  ·refine mSl rfl fun xv W hR hf Q hK hP => ?_
   obtain ⟨e0, e1, -⟩ := hf
   change _ = _ at e0 e1
   simp only [fA, e0, e1] at hK ⊢
   go_wp2_with (fail)
   go_at_call 59
   refine (qC5 (fun _ => True) a.1 b.1 _ _ W (Up.any _) (ha1'.out.le hR) (hb1'.out.le hR) (hza'.out.1.up (by decide)) (hzb'.out.1.up (by decide))).mono ?_
   rintro e w' ⟨v', rfl, y1, y2⟩
   obtain ⟨zs1, zA1, zn1, zc1, zB1, zm1, zd1, qz⟩ := y2.qform
   subst qz
   have y2' := hyd1 y2
   clear y2
   go_wp2
   exact hK _ _ y1 y2'.out
  ·refine mSl rfl fun xv W hR hf Q hK hP => ?_
   simp only [fA] at hK ⊢
   go_wp2
   exact hK _ _ lrR rfl
  ·refine mSl rfl fun xv W hR hf Q hK hP => ?_
   obtain ⟨e0, -⟩ := hf
   change _ = _ at e0
   have cc3 := bcl hR (by omega) ca3
   have cc4 := bcl hR (by omega) ca4
   have cc5 := bcl hR (by omega) ca5
   simp only [fA, e0] at hK ⊢
   go_wp2
   exact hK _ _ lrR rfl
  ·refine mSl rfl fun xv W hR hf Q hK hP => ?_
   simp only [fA] at hK ⊢
   go_wp2
   exact hK _ _ lrR rfl
  ·refine mSl rfl fun xv W hR hf Q hK hP => ?_
   obtain ⟨e0, -⟩ := hf
   change _ = _ at e0
   have cc3 := bcl hR (by omega) cb3
   have cc4 := bcl hR (by omega) cb4
   have cc5 := bcl hR (by omega) cb5
   simp only [fA, e0] at hK ⊢
   go_wp2
   exact hK _ _ lrR rfl
  ·refine mSl rfl fun xv W hR hf Q hK hP => ?_
   obtain ⟨e0, e1, -⟩ := hf
   change _ = _ at e0 e1
   simp only [fA, e0, e1] at hK ⊢
   go_wp2_with (fail)
   go_at_call 59
   refine (qC5 (fun _ => True) a.2 b.2 _ _ W (Up.any _) (ha2'.out.le hR) (hb2'.out.le hR) (hza'.out.2.up (by decide)) (hzb'.out.2.up (by decide))).mono ?_
   rintro e w' ⟨v', rfl, y1, y2⟩
   obtain ⟨zs1, zA1, zn1, zc1, zB1, zm1, zd1, qz⟩ := y2.qform
   subst qz
   have y2' := hyd1 y2
   clear y2
   go_wp2
   exact hK _ _ y1 y2'.out
  ·refine mSl rfl fun xv W hR hf Q hK hP => ?_
   obtain ⟨e0, -⟩ := hf
   replace e0 : RatT .i64 W (xv 9) (a.2 * b.2) := e0
   simp only [fA] at hK ⊢
   go_wp2_with (fail)
   go_at_call 58
   refine (qCi (fun _ => True) (a.2 * b.2) _ W e0).mono ?_
   rintro e w' ⟨v', rfl, y1, y2⟩
   obtain ⟨zs1, zA1, zn1, zc1, zB1, zm1, zd1, qz⟩ := y2.qform
   subst qz
   have y2' := hyd1 y2
   clear y2
   go_wp2
   exact hK _ _ y1 y2'.out
  ·refine mSl rfl fun xv W hR hf Q hK hP => ?_
   obtain ⟨e0, e1, -⟩ := hf
   replace e0 : RatT .i64 W (xv 4) (a.1 * b.1) := e0
   replace e1 : RatT .i64 W (xv 10) (-(a.2 * b.2)) := e1
   simp only [fA] at hK ⊢
   go_wp2_with (fail)
   go_at_call 57
   refine (qCV (fun _ => True) (a.1 * b.1) (-(a.2 * b.2)) _ _ W (Up.any _) e0 e1 (qB3 hza'.out.1 hzb'.out.1 (by decide)) (qEV (qB3 hza'.out.2 hzb'.out.2 (by decide)))).mono ?_
   rintro e w' ⟨v', rfl, y1, y2⟩
   obtain ⟨zs1, zA1, zn1, zc1, zB1, zm1, zd1, qz⟩ := y2.qform
   subst qz
   have y2' := hyd1 y2
   clear y2
   go_wp2
   exact hK _ _ y1 y2'.out
  ·refine mSl rfl fun xv W hR hf Q hK hP => ?_
   simp only [fA] at hK ⊢
   go_wp2
   exact hK _ _ lrR rfl
  ·refine mSl rfl fun xv W hR hf Q hK hP => ?_
   obtain ⟨e0, -⟩ := hf
   change _ = _ at e0
   have cc0 := bcl hR (by omega) ca0
   have cc1 := bcl hR (by omega) ca1
   have cc2 := bcl hR (by omega) ca2
   simp only [fA, e0] at hK ⊢
   go_wp2
   exact hK _ _ lrR rfl
  ·refine mSl rfl fun xv W hR hf Q hK hP => ?_
   simp only [fA] at hK ⊢
   go_wp2
   exact hK _ _ lrR rfl
  ·refine mSl rfl fun xv W hR hf Q hK hP => ?_
   obtain ⟨e0, -⟩ := hf
   change _ = _ at e0
   have cc3 := bcl hR (by omega) cb3
   have cc4 := bcl hR (by omega) cb4
   have cc5 := bcl hR (by omega) cb5
   simp only [fA, e0] at hK ⊢
   go_wp2
   exact hK _ _ lrR rfl
  ·refine mSl rfl fun xv W hR hf Q hK hP => ?_
   obtain ⟨e0, e1, -⟩ := hf
   change _ = _ at e0 e1
   simp only [fA, e0, e1] at hK ⊢
   go_wp2_with (fail)
   go_at_call 59
   refine (qC5 (fun _ => True) a.1 b.2 _ _ W (Up.any _) (ha1'.out.le hR) (hb2'.out.le hR) (hza'.out.1.up (by decide)) (hzb'.out.2.up (by decide))).mono ?_
   rintro e w' ⟨v', rfl, y1, y2⟩
   obtain ⟨zs1, zA1, zn1, zc1, zB1, zm1, zd1, qz⟩ := y2.qform
   subst qz
   have y2' := hyd1 y2
   clear y2
   go_wp2
   exact hK _ _ y1 y2'.out
  ·refine mSl rfl fun xv W hR hf Q hK hP => ?_
   simp only [fA] at hK ⊢
   go_wp2
   exact hK _ _ lrR rfl
  ·refine mSl rfl fun xv W hR hf Q hK hP => ?_
   obtain ⟨e0, -⟩ := hf
   change _ = _ at e0
   have cc3 := bcl hR (by omega) ca3
   have cc4 := bcl hR (by omega) ca4
   have cc5 := bcl hR (by omega) ca5
   simp only [fA, e0] at hK ⊢
   go_wp2
   exact hK _ _ lrR rfl
  ·refine mSl rfl fun xv W hR hf Q hK hP => ?_
   simp only [fA] at hK ⊢
   go_wp2
   exact hK _ _ lrR rfl
  ·refine mSl rfl fun xv W hR hf Q hK hP => ?_
   obtain ⟨e0, -⟩ := hf
   change _ = _ at e0
   have cc0 := bcl hR (by omega) cb0
   have cc1 := bcl hR (by omega) cb1
   have cc2 := bcl hR (by omega) cb2
   simp only [fA, e0] at hK ⊢
   go_wp2
   exact hK _ _ lrR rfl
  ·refine mSl rfl fun xv W hR hf Q hK hP => ?_
   obtain ⟨e0, e1, -⟩ := hf
   change _ = _ at e0 e1
   simp only [fA, e0, e1] at hK ⊢
   go_wp2_with (fail)
   go_at_call 59
   refine (qC5 (fun _ => True) a.2 b.1 _ _ W (Up.any _) (ha2'.out.le hR) (hb1'.out.le hR) (hza'.out.2.up (by decide)) (hzb'.out.1.up (by decide))).mono ?_
   rintro e w' ⟨v', rfl, y1, y2⟩
   obtain ⟨zs1, zA1, zn1, zc1, zB1, zm1, zd1, qz⟩ := y2.qform
   subst qz
   have y2' := hyd1 y2
   clear y2
   go_wp2
   exact hK _ _ y1 y2'.out
  ·refine mSl rfl fun xv W hR hf Q hK hP => ?_
   obtain ⟨e0, e1, -⟩ := hf
   replace e0 : RatT .i64 W (xv 16) (a.1 * b.2) := e0
   replace e1 : RatT .i64 W (xv 21) (a.2 * b.1) := e1
   simp only [fA] at hK ⊢
   go_wp2_with (fail)
   go_at_call 57
   refine (qCV (fun _ => True) (a.1 * b.2) (a.2 * b.1) _ _ W (Up.any _) e0 e1 (qB3 hza'.out.1 hzb'.out.2 (by decide)) (qB3 hza'.out.2 hzb'.out.1 (by decide))).mono ?_
   rintro e w' ⟨v', rfl, y1, y2⟩
   obtain ⟨zs1, zA1, zn1, zc1, zB1, zm1, zd1, qz⟩ := y2.qform
   subst qz
   have y2' := hyd1 y2
   clear y2
   go_wp2
   exact hK _ _ y1 y2'.out
  ·refine mSl rfl fun xv W hR hf Q hK hP => ?_
   obtain ⟨e0, e1, -⟩ := hf
   replace e0 : RatT .i64 W (xv 11) (a.1 * b.1 + -(a.2 * b.2)) := e0
   replace e1 : RatT .i64 W (xv 22) (a.1 * b.2 + a.2 * b.1) := e1
   obtain ⟨u0s1, u0A1, u0n1, u0c1, u0B1, u0m1, u0d1, qu0⟩ := e0.qform
   rw [qu0] at e0
   obtain ⟨u1s1, u1A1, u1n1, u1c1, u1B1, u1m1, u1d1, qu1⟩ := e1.qform
   rw [qu1] at e1
   simp only [fA, qu0, qu1] at hK ⊢
   go_wp2
   exact hK _ _ lrR (TurnL.mk (by rw [show (gmul a b).1 = a.1 * b.1 + -(a.2 * b.2) from Rat.sub_eq_add_neg _ _]; exact e0) e1)
 ·intro xv W hR hf Q' hQ1 _
  have eL : TurnL .i64 W (xv 23) (gmul a b) := hf 23 (by decide)
  obtain ⟨rs1, rA1, rn1, rc1, rB1, rm1, rd1, rs2, rA2, rn2, rc2, rB2, rm2, rd2, qL, y1, y2⟩ := eL
  have kW := (Below.block hR (w.heap.size + 1 + 1) (by omega)).trans k2'.out
  obtain ⟨z0, z1, z2, z3, z4, z5⟩ := qAC kW
  have ⟨g0, g1, g2, g3, g4, g5⟩ := frz6 kW
  simp only [List.drop_succ_cons, List.drop_zero]
  rw [show List.range 24 = [0, 1, 2, 3, 4, 5, 6, 7, 8, 9, 10, 11, 12, 13, 14, 15, 16, 17, 18, 19, 20, 21, 22, 23] from rfl]
  simp only [fA, qL]
  have hle9 := fun u0 u1 u2 u3 u4 u5 => qAh (Le.trans hle'.out hR) (show w.heap.size ≤ w.heap.size + 1 + 1 by omega) u0 u1 u2 u3 u4 u5
  have hb9 := fun u0 u1 u2 u3 u4 u5 => qAC (qAZ kW u0 u1 u2 u3 u4 u5)
  simp only [set6] at hb9
  have hfin := fun u0 u1 u2 u3 u4 u5 => And.intro (y1.touch (qAN kW) (qAE W (w.heap.size + 1 + 1) u0 u1 u2 u3 u4 u5)) (y2.touch (qAN kW) (qAE W (w.heap.size + 1 + 1) u0 u1 u2 u3 u4 u5))
  have ⟨hle9', hb9', hfin', kW', y1', y2', qL', hR'⟩ := hyd8 hle9 hb9 hfin kW y1 y2 qL hR
  clear hR qL y2 y1 kW hfin hb9 hle9
  go_wp2
  refine hQ1 _ _ ?_
  go_wp2
  obtain ⟨d0, d1, d2, d3, d4, d5⟩ := hb9'.out (.bool rs1) (.slice rA1 rn1 rc1) (.slice rB1 rm1 rd1) (.bool rs2) (.slice rA2 rn2 rc2) (.slice rB2 rm2 rd2)
  exact bodyPost_ret (v := .agg #[.bool rs1, .slice rA1 rn1 rc1, .slice rB1 rm1 rd1, .bool rs2, .slice rA2 rn2 rc2, .slice rB2 rm2 rd2]) (by simp [results, Tryz.results81, go_sem, d0, d1, d2, d3, d4, d5]) rfl ⟨_, rfl, hle9'.out _ _ _ _ _ _, TurnL.mk (hfin'.out _ _ _ _ _ _).1 (hfin'.out _ _ _ _ _ _).2⟩
theorem qLJ (w : World) : Calls Tryz.prog 127 #[] w fun e w' => ∃ v', e = .returned v' ∧ Le w w' ∧ TurnL .i64 w' v' gone := by
 obtain ⟨W0, hW0, hle, k0⟩ := al1 w (.cells #[.bool false, .slice none 0 0, .slice none 0 0, .bool false, .slice none 0 0, .slice none 0 0] 61)
 have ⟨hle', k0'⟩ := hyd2 hle k0
 clear k0 hle
 go_enter Tryz.func127, Tryz.ntmps127
 go_wp2_with (fail)
 clear hW0
 go_at_call 25
 refine (qDO (fun _ => True) 1 W0 (Up.any _) (by decide) (by decide)).mono ?_
 rintro e W1 ⟨v1, rfl, hle1, h1⟩
 obtain ⟨rs1, rA1, rn1, rc1, rB1, rm1, rd1, rfl⟩ := h1.qform
 have ⟨hle1', h1'⟩ := hyd2 hle1 h1
 clear h1 hle1
 go_wp2_with (fail)
 go_at_call 25
 refine (qDO (fun _ => True) 0 W1 (Up.any _) (by decide) (by decide)).mono ?_
 rintro e W2 ⟨v2, rfl, hle2, h2⟩
 obtain ⟨rs2, rA2, rn2, rc2, rB2, rm2, rd2, rfl⟩ := h2.qform
 have kW := bxl hle2 (bxl hle1'.out k0'.out)
 have hleW := (hle'.out.trans hle1'.out).trans hle2
 have y1 := h1'.out.le hle2
 have ⟨hle2', h2', hleW', y1'⟩ := hyd4 hle2 h2 hleW y1
 clear y1 hleW h2 hle2
 obtain ⟨z0, z1, z2, z3, z4, z5⟩ := qAC kW
 have ⟨g0, g1, g2, g3, g4, g5⟩ := frz6 kW
 have hle9 := fun u0 u1 u2 u3 u4 u5 => qAh (hleW'.out) (show w.heap.size ≤ w.heap.size by omega) u0 u1 u2 u3 u4 u5
 have hb9 := fun u0 u1 u2 u3 u4 u5 => qAC (qAZ kW u0 u1 u2 u3 u4 u5)
 simp only [set6] at hb9
 have hfin := fun u0 u1 u2 u3 u4 u5 => And.intro (y1'.out.touch (qAN kW) (qAE W2 (w.heap.size) u0 u1 u2 u3 u4 u5)) (h2'.out.touch (qAN kW) (qAE W2 (w.heap.size) u0 u1 u2 u3 u4 u5))
 have ⟨hle9', hb9', hfin', kW'⟩ := hyd4 hle9 hb9 hfin kW
 clear kW hfin hb9 hle9
 go_wp2
 obtain ⟨d0, d1, d2, d3, d4, d5⟩ := hb9'.out (.bool rs1) (.slice rA1 rn1 rc1) (.slice rB1 rm1 rd1) (.bool rs2) (.slice rA2 rn2 rc2) (.slice rB2 rm2 rd2)
 exact bodyPost_ret (v := .agg #[.bool rs1, .slice rA1 rn1 rc1, .slice rB1 rm1 rd1, .bool rs2, .slice rA2 rn2 rc2, .slice rB2 rm2 rd2]) (by simp [results, Tryz.results127, go_sem, d0, d1, d2, d3, d4, d5]) rfl ⟨_, rfl, hle9'.out _ _ _ _ _ _, TurnL.mk (hfin'.out _ _ _ _ _ _).1 (hfin'.out _ _ _ _ _ _).2⟩
theorem qGE (a : G2) (va : Value) (w : World) (ha : TurnL .i64 w va a) : Calls Tryz.prog 54 #[va] w fun e w' => e = .returned (.bool (decide (qAH a = 0))) ∧ Le w w' := by
 obtain ⟨as1, aA1, an1, ac1, aB1, am1, ad1, as2, aA2, an2, ac2, aB2, am2, ad2, rfl, ha1, ha2⟩ := ha
 obtain ⟨W0, hW0, hle, k0⟩ := al1 w (.cells #[.bool as1, .slice aA1 an1 ac1, .slice aB1 am1 ad1, .bool as2, .slice aA2 an2 ac2, .slice aB2 am2 ad2] 61)
 obtain ⟨c0, c1, c2, c3, c4, c5⟩ := qAC k0
 have r1 := qFC (fun _ => True) a.1 _ W0 (ha1.le hle)
 have r2 := fun W (hW : Le W0 W) => qFC (fun _ => True) a.2 _ W (ha2.le (hle.trans hW))
 obtain ⟨z1, hz1⟩ : ∃ z, rsgn a.1 = z := ⟨_, rfl⟩
 obtain ⟨z2, hz2⟩ : ∃ z, rsgn a.2 = z := ⟨_, rfl⟩
 rw [hz1] at r1
 rw [hz2] at r2
 have hg : decide (qAH a = 0) = (decide (z1 = 0) && decide (z2 = 0)) := by rw [← hz1, ← hz2, ← Bool.decide_and]; exact decide_eq_decide.2 rsgn_both.symm
 rw [hg]
 have ⟨hle', k0', ha1', ha2', r1', r2', hz1', hz2'⟩ := hyd8 hle k0 ha1 ha2 r1 r2 hz1 hz2
 have hg' := hyd1 hg
 clear hg hz2 hz1 r2 r1 ha2 ha1 k0 hle
 by_cases h1 : z1 = 0
 ·subst h1
  go_enter Tryz.func54, Tryz.ntmps54
  go_wp2_with (fail)
  clear hW0
  go_at_call 56
  refine r1'.out.mono ?_
  rintro e W1 ⟨rfl, hle1⟩
  obtain ⟨d0, d1, d2, d3, d4, d5⟩ := qAC (bxl hle1 k0'.out)
  have r3 := r2'.out W1 hle1
  have ⟨hle1', r3'⟩ := hyd2 hle1 r3
  clear r3 hle1
  go_wp2_with (fail)
  go_at_call 56
  refine r3'.out.mono ?_
  rintro e W2 ⟨rfl, hle2⟩
  have hle9 := (hle'.out.trans hle1'.out).trans hle2
  have ⟨hle2', hle9'⟩ := hyd2 hle2 hle9
  clear hle9 hle2
  go_wp2
  go_ret
  exact ⟨by simp; rfl, hle9'.out⟩
 ·go_enter Tryz.func54, Tryz.ntmps54
  go_wp2_with (fail)
  clear hW0
  go_at_call 56
  refine r1'.out.mono ?_
  rintro e W1 ⟨rfl, hle1⟩
  have hle9 := hle'.out.trans hle1
  have hd : decide (z1 = 0) = false := decide_eq_false h1
  have ⟨hle1', hle9'⟩ := hyd2 hle1 hle9
  clear hle9 hle1
  go_wp2
  go_ret
  exact ⟨by simp [h1], hle9'.out⟩
theorem qFL (a : G2) (va : Value) (w : World) (ha : TurnL .i64 w va a) (hza : TSz a 100000) (hnz : qAH a ≠ 0) :
  Calls Tryz.prog 116 #[va] w fun e w' => ∃ v', e = .returned v' ∧ Le w w' ∧ TurnL .i64 w' v' (ginv a) := by
 have ha0 := ha
 have hzn := qEc hza (m := 500000) (by decide)
 obtain ⟨as1, aA1, an1, ac1, aB1, am1, ad1, as2, aA2, an2, ac2, aB2, am2, ad2, rfl, ha1, ha2⟩ := ha
 obtain ⟨W0, hW0, hsz, hle, k0, k1⟩ := qAQ w (.cells #[.bool as1, .slice aA1 an1 ac1, .slice aB1 am1 ad1, .bool as2, .slice aA2 an2 ac2, .slice aB2 am2 ad2] 61) (.cells #[.bool false, .slice none 0 0, .slice none 0 0, .bool false, .slice none 0 0, .slice none 0 0] 61)
 obtain ⟨x0, x1, x2, x3, x4, x5⟩ := qAC k0
 replace ha0 := ha0.le hle
 have ⟨hle', k0', k1', ha1', ha2', ha0', hza', hzn'⟩ := hyd8 hle k0 k1 ha1 ha2 ha0 hza hzn
 have hnz' := hyd1 hnz
 clear hnz hzn hza ha0 ha2 ha1 k1 k0 hle
 go_enter Tryz.func116, Tryz.ntmps116
 go_wp2_with (fail)
 clear hW0
 go_at_call 24
 refine (qF9 a _ W0 ha0'.out (hza'.out.up (by decide))).mono ?_
 rintro e W1 ⟨v1, rfl, hle1, hn⟩
 obtain ⟨ns1, nA1, nn1, nc1, nB1, nm1, nd1, rfl⟩ := hn.qform
 obtain ⟨V2, hV2, hle2, l7⟩ := al1 W1 (.cells #[.bool ns1, .slice nA1 nn1 nc1, .slice nB1 nm1 nd1] 59)
 have hle02 := hle1.trans hle2
 have hleV := hle'.out.trans hle02
 have k0V := bxl hle02 k0'.out
 have k1V := bxl hle02 k1'.out
 have in1 := hn.le hle2
 have ia1 := ha1'.out.le hleV
 have ia2 := ha2'.out.le hleV
 clear x0 x1 x2 x3 x4 x5
 obtain ⟨ca0, ca1, ca2, ca3, ca4, ca5⟩ := qAC k0V
 obtain ⟨cn0, cn1, cn2, -⟩ := qAD l7
 have hl7 := (gsl l7)
 have hl0 := (gsl k0V)
 have hl1 := (gsl k1V)
 have ⟨hle1', hn', hle2', l7', hle02', hleV', k0V', k1V'⟩ := hyd8 hle1 hn hle2 l7 hle02 hleV k0V k1V
 have ⟨in1', ia1', ia2'⟩ := hyd3 in1 ia1 ia2
 clear ia2 ia1 in1 k1V k0V hleV hle02 l7 hle2 hn hle1
 go_wp2_with (fail)
 clear hV2
 refine qAG (R := leRel) 10 [some 6, some 7, some 8, some 9, some 10, some 11, some 12, some 13, some 14, some 15, none] [[], [0], [], [1, 2], [], [4], [5], [], [6, 7], [3, 8], [9]]
  [.eq (.pointer (some ⟨w.heap.size, 0, none⟩)), .eq (.agg #[.bool as1, .slice aA1 an1 ac1, .slice aB1 am1 ad1]), .eq (.agg #[.bool ns1, .slice nA1 nn1 nc1, .slice nB1 nm1 nd1]), MPred.ratT .i64 (a.1 / qAH a), .eq (.pointer (some ⟨w.heap.size, 3, none⟩)), .eq (.agg #[.bool as2, .slice aA2 an2 ac2, .slice aB2 am2 ad2]), MPred.ratT .i64 (-a.2), .eq (.agg #[.bool ns1, .slice nA1 nn1 nc1, .slice nB1 nm1 nd1]), MPred.ratT .i64 (-a.2 / qAH a), MPred.turn .i64 (ginv a)] (fun _ _ => False) (by kernel_rfl) (by kernel_rfl) (by kernel_rfl) (by kernel_rfl) ?_ (fun _ _ _ _ _ h => h.elim) ?_
 ·simp only [List.take_succ_cons, List.take_zero]
  refine mSc ?_ (mSc ?_ (mSc ?_ (mSc ?_ (mSc ?_ (mSc ?_ (mSc ?_ (mSc ?_ (mSc ?_ (mSc ?_ (qAJ))))))))))
  ·refine mSl rfl fun xv W hR hf Q hK hP => ?_
   simp only [fA] at hK ⊢
   go_wp2
   exact hK _ _ lrR rfl
  ·refine mSl rfl fun xv W hR hf Q hK hP => ?_
   obtain ⟨e0, -⟩ := hf
   change _ = _ at e0
   have cc0 := (Below.cell hR (p := ⟨w.heap.size, 0, none⟩) (by show w.heap.size < V2.heap.size; omega)).trans ca0
   have cc1 := (Below.cell hR (p := ⟨w.heap.size, 1, none⟩) (by show w.heap.size < V2.heap.size; omega)).trans ca1
   have cc2 := (Below.cell hR (p := ⟨w.heap.size, 2, none⟩) (by show w.heap.size < V2.heap.size; omega)).trans ca2
   simp only [fA, e0] at hK ⊢
   go_wp2
   exact hK _ _ lrR rfl
  ·refine mSl rfl fun xv W hR hf Q hK hP => ?_
   have cc0 := (Below.cell hR (p := ⟨W1.heap.size, 0, none⟩) (by show W1.heap.size < V2.heap.size; omega)).trans cn0
   have cc1 := (Below.cell hR (p := ⟨W1.heap.size, 1, none⟩) (by show W1.heap.size < V2.heap.size; omega)).trans cn1
   have cc2 := (Below.cell hR (p := ⟨W1.heap.size, 2, none⟩) (by show W1.heap.size < V2.heap.size; omega)).trans cn2
   simp only [fA] at hK ⊢
   go_wp2
   exact hK _ _ lrR rfl
  ·refine mSl rfl fun xv W hR hf Q hK hP => ?_
   obtain ⟨e0, e1, -⟩ := hf
   change _ = _ at e0 e1
   simp only [fA, e0, e1] at hK ⊢
   go_wp2_with (fail)
   go_at_call 132
   refine (qHZ (fun _ => True) (a.1) (qAH a) _ _ W (Up.any _) (ia1'.out.le hR) (in1'.out.le hR) (hza'.out.1.up (by decide)) (hzn'.out.up (by decide)) hnz'.out).mono ?_
   rintro e w' ⟨v', rfl, y1, y2⟩
   obtain ⟨zs1, zA1, zn1, zc1, zB1, zm1, zd1, qz⟩ := y2.qform
   subst qz
   have y2' := hyd1 y2
   clear y2
   go_wp2
   exact hK _ _ y1 y2'.out
  ·refine mSl rfl fun xv W hR hf Q hK hP => ?_
   simp only [fA] at hK ⊢
   go_wp2
   exact hK _ _ lrR rfl
  ·refine mSl rfl fun xv W hR hf Q hK hP => ?_
   obtain ⟨e0, -⟩ := hf
   change _ = _ at e0
   have cc3 := (Below.cell hR (p := ⟨w.heap.size, 3, none⟩) (by show w.heap.size < V2.heap.size; omega)).trans ca3
   have cc4 := (Below.cell hR (p := ⟨w.heap.size, 4, none⟩) (by show w.heap.size < V2.heap.size; omega)).trans ca4
   have cc5 := (Below.cell hR (p := ⟨w.heap.size, 5, none⟩) (by show w.heap.size < V2.heap.size; omega)).trans ca5
   simp only [fA, e0] at hK ⊢
   go_wp2
   exact hK _ _ lrR rfl
  ·refine mSl rfl fun xv W hR hf Q hK hP => ?_
   obtain ⟨e0, -⟩ := hf
   change _ = _ at e0
   simp only [fA, e0] at hK ⊢
   go_wp2_with (fail)
   go_at_call 58
   refine (qCi (fun _ => True) a.2 _ W (ia2'.out.le hR)).mono ?_
   rintro e w' ⟨v', rfl, y1, y2⟩
   obtain ⟨zs1, zA1, zn1, zc1, zB1, zm1, zd1, qz⟩ := y2.qform
   subst qz
   have y2' := hyd1 y2
   clear y2
   go_wp2
   exact hK _ _ y1 y2'.out
  ·refine mSl rfl fun xv W hR hf Q hK hP => ?_
   have cc0 := (Below.cell hR (p := ⟨W1.heap.size, 0, none⟩) (by show W1.heap.size < V2.heap.size; omega)).trans cn0
   have cc1 := (Below.cell hR (p := ⟨W1.heap.size, 1, none⟩) (by show W1.heap.size < V2.heap.size; omega)).trans cn1
   have cc2 := (Below.cell hR (p := ⟨W1.heap.size, 2, none⟩) (by show W1.heap.size < V2.heap.size; omega)).trans cn2
   simp only [fA] at hK ⊢
   go_wp2
   exact hK _ _ lrR rfl
  ·refine mSl rfl fun xv W hR hf Q hK hP => ?_
   obtain ⟨e0, e1, -⟩ := hf
   change _ = _ at e1
   replace e0 : RatT .i64 W (xv 6) (-a.2) := e0
   simp only [fA, e1] at hK ⊢
   go_wp2_with (fail)
   go_at_call 132
   refine (qHZ (fun _ => True) (-a.2) (qAH a) _ _ W (Up.any _) e0 (in1'.out.le hR) (qEV (hza'.out.2.up (by decide))) (hzn'.out.up (by decide)) hnz'.out).mono ?_
   rintro e w' ⟨v', rfl, y1, y2⟩
   obtain ⟨zs1, zA1, zn1, zc1, zB1, zm1, zd1, qz⟩ := y2.qform
   subst qz
   have y2' := hyd1 y2
   clear y2
   go_wp2
   exact hK _ _ y1 y2'.out
  ·refine mSl rfl fun xv W hR hf Q hK hP => ?_
   obtain ⟨e0, e1, -⟩ := hf
   replace e0 : RatT .i64 W (xv 3) (a.1 / qAH a) := e0
   replace e1 : RatT .i64 W (xv 8) (-a.2 / qAH a) := e1
   obtain ⟨u0s1, u0A1, u0n1, u0c1, u0B1, u0m1, u0d1, qu0⟩ := e0.qform
   rw [qu0] at e0
   obtain ⟨u1s1, u1A1, u1n1, u1c1, u1B1, u1m1, u1d1, qu1⟩ := e1.qform
   rw [qu1] at e1
   simp only [fA, qu0, qu1] at hK ⊢
   go_wp2
   exact hK _ _ lrR (TurnL.mk e0 e1)
 ·intro xv W hR hf Q' hQ1 _
  have eL : TurnL .i64 W (xv 9) (ginv a) := hf 9 (by decide)
  obtain ⟨rs1, rA1, rn1, rc1, rB1, rm1, rd1, rs2, rA2, rn2, rc2, rB2, rm2, rd2, qL, y1, y2⟩ := eL
  have kW := (Below.block hR (w.heap.size + 1) (by omega)).trans k1V'.out
  obtain ⟨z0, z1, z2, z3, z4, z5⟩ := qAC kW
  have ⟨g0, g1, g2, g3, g4, g5⟩ := frz6 kW
  simp only [List.drop_succ_cons, List.drop_zero]
  rw [show List.range 10 = [0, 1, 2, 3, 4, 5, 6, 7, 8, 9] from rfl]
  simp only [fA, qL]
  have hle9 := fun u0 u1 u2 u3 u4 u5 => qAh (Le.trans hleV'.out hR) (show w.heap.size ≤ w.heap.size + 1 by omega) u0 u1 u2 u3 u4 u5
  have hb9 := fun u0 u1 u2 u3 u4 u5 => qAC (qAZ kW u0 u1 u2 u3 u4 u5)
  simp only [set6] at hb9
  have hfin := fun u0 u1 u2 u3 u4 u5 => And.intro (y1.touch (qAN kW) (qAE W (w.heap.size + 1) u0 u1 u2 u3 u4 u5)) (y2.touch (qAN kW) (qAE W (w.heap.size + 1) u0 u1 u2 u3 u4 u5))
  have ⟨hle9', hb9', hfin', kW', y1', y2', qL', hR'⟩ := hyd8 hle9 hb9 hfin kW y1 y2 qL hR
  clear hR qL y2 y1 kW hfin hb9 hle9
  go_wp2
  refine hQ1 _ _ ?_
  go_wp2
  obtain ⟨d0, d1, d2, d3, d4, d5⟩ := hb9'.out (.bool rs1) (.slice rA1 rn1 rc1) (.slice rB1 rm1 rd1) (.bool rs2) (.slice rA2 rn2 rc2) (.slice rB2 rm2 rd2)
  exact bodyPost_ret (v := .agg #[.bool rs1, .slice rA1 rn1 rc1, .slice rB1 rm1 rd1, .bool rs2, .slice rA2 rn2 rc2, .slice rB2 rm2 rd2]) (by simp [results, Tryz.results116, go_sem, d0, d1, d2, d3, d4, d5]) rfl ⟨_, rfl, hle9'.out _ _ _ _ _ _, TurnL.mk (hfin'.out _ _ _ _ _ _).1 (hfin'.out _ _ _ _ _ _).2⟩
theorem qFM (a : G2) (N : Nat) (va : Value) (w : World) (ha : TurnL .i64 w va a) (hz : ∀ i, i ≤ N → TSz (gpow a i) 1000000) (hza : TSz a 1000000) (hN : N ≤ 64) : Calls Tryz.prog 105 #[va, .int .i64 N] w fun e w' => ∃ v', e = .returned v' ∧ Le w w' ∧ TurnL .i64 w' v' (gpow a N) := by
 obtain ⟨as1, aA1, an1, ac1, aB1, am1, ad1, as2, aA2, an2, ac2, aB2, am2, ad2, rfl, ha1, ha2⟩ := ha
 obtain ⟨W0, hW0, hsz, hle, k0, k1⟩ := qAQ w (.cells #[.bool as1, .slice aA1 an1 ac1, .slice aB1 am1 ad1, .bool as2, .slice aA2 an2 ac2, .slice aB2 am2 ad2] 61) (.cells #[.bool false, .slice none 0 0, .slice none 0 0, .bool false, .slice none 0 0, .slice none 0 0] 61)
 have hb0 : TBox .i64 61 W0 w.heap.size a := TBox.mk k0 (ha1.le hle) (ha2.le hle)
 have hn0 : ¬ (N : Int) < 0 := by omega
 have ⟨hle', k0', k1', ha1', ha2', hz', hza', hb0'⟩ := hyd8 hle k0 k1 ha1 ha2 hz hza hb0
 clear hb0 hza hz ha2 ha1 k1 k0 hle
 go_enter Tryz.func105, Tryz.ntmps105
 go_wp2_with (fail)
 clear hW0
 go_at_call 127
 refine (qLJ W0).mono ?_
 rintro e W1 ⟨v1, rfl, hle1, h1⟩
 obtain ⟨ps1, pA1, pn1, pc1, pB1, pm1, pd1, ps2, pA2, pn2, pc2, pB2, pm2, pd2, rfl, y1, y2⟩ := h1
 obtain ⟨V, hV, hle2, k5⟩ := al1 W1 (.cells #[.bool ps1, .slice pA1 pn1 pc1, .slice pB1 pm1 pd1, .bool ps2, .slice pA2 pn2 pc2, .slice pB2 pm2 pd2] 61)
 have hbp : TBox .i64 61 V W1.heap.size (gpow a 0) := TBox.mk k5 (y1.le hle2) (y2.le hle2)
 have hle02 := hle1.trans hle2
 have hleV := hle'.out.trans hle02
 have hk1 := bxl hle02 k1'.out
 have hX : w.heap.size + 2 ≤ W1.heap.size := by have := hle1.size; omega
 have hba := hb0'.out.le hle02
 have ⟨hle1', hle2', k5', hbp', hle02', hleV', hba', hk1'⟩ := hyd8 hle1 hle2 k5 hbp hle02 hleV hba hk1
 have ⟨y1', y2'⟩ := hyd2 y1 y2
 clear y2 y1 hk1 hba hleV hle02 hbp k5 hle2 hle1
 go_wp2_with (fail)
 clear hV
 go_loopw [6] (fun iv wr => ∃ i : Nat, iv = .int .i64 i ∧ i ≤ N ∧ Hid (TBox .i64 61 wr w.heap.size a) ∧ Hid (TBox .i64 61 wr W1.heap.size (gpow a i)) ∧ Hid (wr.heap[w.heap.size + 1]? = some (.cells #[.bool false, .slice none 0 0, .slice none 0 0, .bool false, .slice none 0 0, .slice none 0 0] 61)) ∧ Hid (Le w wr)) (fun iv _ => N - (intOf iv).toNat)
 case atStart => exact ⟨0, rfl, Nat.zero_le _, hba', hbp', hk1', hleV'⟩
 case round =>
  obtain ⟨i, rfl, hn, bt, bs, bz, hle9⟩ := hrel
  clear hba' hbp' hk1'
  by_cases h0 : i = N
  ·subst h0
   have hni : ¬ (i : Int) < (i : Int) := by omega
   obtain ⟨bs1, bA1, bn1, bc1, bB1, bm1, bd1, bs2, bA2, bn2, bc2, bB2, bm2, bd2, kb, hb1, hb2⟩ := bs.out
   obtain ⟨cb0, cb1, cb2, cb3, cb4, cb5⟩ := qAC kb
   have ⟨kb', hb1', hb2'⟩ := hyd3 kb hb1 hb2
   clear hb2 hb1 kb
   have kz := bz.out
   obtain ⟨z0, z1, z2, z3, z4, z5⟩ := qAC kz
   have ⟨g0, g1, g2, g3, g4, g5⟩ := frz6 kz
   have hle9 := fun u0 u1 u2 u3 u4 u5 => qAh (hle9.out) (show w.heap.size ≤ w.heap.size + 1 by omega) u0 u1 u2 u3 u4 u5
   have hb9 := fun u0 u1 u2 u3 u4 u5 => qAC (qAZ kz u0 u1 u2 u3 u4 u5)
   simp only [set6] at hb9
   have hfin := fun u0 u1 u2 u3 u4 u5 => And.intro (hb1'.out.touch (qAN kz) (qAE wr (w.heap.size + 1) u0 u1 u2 u3 u4 u5)) (hb2'.out.touch (qAN kz) (qAE wr (w.heap.size + 1) u0 u1 u2 u3 u4 u5))
   have ⟨hle9', hb9', hfin', kz'⟩ := hyd4 hle9 hb9 hfin kz
   clear kz hfin hb9 hle9
   go_wp2
   obtain ⟨d0, d1, d2, d3, d4, d5⟩ := hb9'.out (.bool bs1) (.slice bA1 bn1 bc1) (.slice bB1 bm1 bd1) (.bool bs2) (.slice bA2 bn2 bc2) (.slice bB2 bm2 bd2)
   exact bodyPost_ret (v := .agg #[.bool bs1, .slice bA1 bn1 bc1, .slice bB1 bm1 bd1, .bool bs2, .slice bA2 bn2 bc2, .slice bB2 bm2 bd2]) (by simp [results, Tryz.results105, go_sem, d0, d1, d2, d3, d4, d5]) rfl ⟨_, rfl, hle9'.out _ _ _ _ _ _, TurnL.mk (hfin'.out _ _ _ _ _ _).1 (hfin'.out _ _ _ _ _ _).2⟩
  ·have hpos : (i : Int) < (N : Int) := by omega
   have hsa : TSz (gpow a i) 1000000 := hz'.out i hn
   have hsb : TSz a 1000000 := hza'.out
   have ⟨hsa', hsb'⟩ := hyd2 hsa hsb
   clear hsb hsa
   obtain ⟨a9s1, a9A1, a9n1, a9c1, a9B1, a9m1, a9d1, a9s2, a9A2, a9n2, a9c2, a9B2, a9m2, a9d2, ka9, ha91, ha92⟩ := bt.out
   obtain ⟨ca90, ca91, ca92, ca93, ca94, ca95⟩ := qAC ka9
   have ⟨ka9', ha91', ha92'⟩ := hyd3 ka9 ha91 ha92
   clear ha92 ha91 ka9
   obtain ⟨b9s1, b9A1, b9n1, b9c1, b9B1, b9m1, b9d1, b9s2, b9A2, b9n2, b9c2, b9B2, b9m2, b9d2, kb9, hb91, hb92⟩ := bs.out
   obtain ⟨cb90, cb91, cb92, cb93, cb94, cb95⟩ := qAC kb9
   have ⟨kb9', hb91', hb92'⟩ := hyd3 kb9 hb91 hb92
   clear hb92 hb91 kb9
   go_wp2_with (fail)
   go_at_call 81
   refine (qEJ (gpow a i) (a) _ _ wr (TurnL.mk hb91'.out hb92'.out) (TurnL.mk ha91'.out ha92'.out) (by first | exact hsa'.out | exact hsb'.out) (by first | exact hsb'.out | exact hsa'.out)).mono ?_
   rintro e W2 ⟨v2, rfl, hle2, hr2⟩
   obtain ⟨r2s1, r2A1, r2n1, r2c1, r2B1, r2m1, r2d1, r2s2, r2A2, r2n2, r2c2, r2B2, r2m2, r2d2, rfl, y1, y2⟩ := hr2
   have hd2 := (bs.out).le hle2
   have hno2 := hd2.noInt
   rw [← (show gpow a (i + 1) = gmul (gpow a i) a from rfl)] at y1 y2
   obtain ⟨V2, hV2, hleV2, bd2, ba2, bz2⟩ : ∃ V, ((((((W2.setCell ⟨W1.heap.size, 0, none⟩ (.bool r2s1)).setCell ⟨W1.heap.size, 1, none⟩ (.slice r2A1 r2n1 r2c1)).setCell ⟨W1.heap.size, 2, none⟩ (.slice r2B1 r2m1 r2d1)).setCell ⟨W1.heap.size, 3, none⟩ (.bool r2s2)).setCell ⟨W1.heap.size, 4, none⟩ (.slice r2A2 r2n2 r2c2)).setCell ⟨W1.heap.size, 5, none⟩ (.slice r2B2 r2m2 r2d2)) = V ∧ Le w V ∧ TBox .i64 61 V (W1.heap.size) (gpow a (i + 1)) ∧ TBox .i64 61 V (w.heap.size) (a) ∧ V.heap[w.heap.size + 1]? = some (.cells #[.bool false, .slice none 0 0, .slice none 0 0, .bool false, .slice none 0 0, .slice none 0 0] 61) :=
    ⟨_, rfl, qAh (hle9.out.trans hle2) (by omega) _ _ _ _ _ _, hd2.put y1 y2, ((bt.out).le hle2).other hno2 (qAE _ _ _ _ _ _ _ _) (by omega), ((qAE _ _ _ _ _ _ _ _).2.1 _ (by omega)).trans (bxl hle2 bz.out)⟩
   obtain ⟨q2s1, q2A1, q2n1, q2c1, q2B1, q2m1, q2d1, q2s2, q2A2, q2n2, q2c2, q2B2, q2m2, q2d2, kd2, -, -⟩ := hd2
   obtain ⟨z20, z21, z22, z23, z24, z25⟩ := qAC kd2
   have ⟨g20, g21, g22, g23, g24, g25⟩ := frz6 kd2
   have ⟨hle2', y1', y2', kd2', hno2', hleV2', bd2', bz2'⟩ := hyd8 hle2 y1 y2 kd2 hno2 hleV2 bd2 bz2
   have ba2' := hyd1 ba2
   clear ba2 bz2 bd2 hleV2 hno2 kd2 y2 y1 hle2
   go_wp2
   go_roundw
   case rel => exact ⟨i + 1, by go_num, by omega, ba2', bd2', bz2', hleV2'⟩
   case measure => simp [intOf]; omega
theorem qIg (a : G2) (N : Nat) (va : Value) (w : World) (ha : TurnL .i64 w va a) (hz : TSz a 2) (hnz : qAH a ≠ 0) (hN0 : 0 < N) (hN : N ≤ 64) : Calls Tryz.prog 105 #[va, .int .i64 (-(N : Int))] w fun e w' => ∃ v', e = .returned v' ∧ Le w w' ∧ TurnL .i64 w' v' (gpow (ginv a) N) := by
 obtain ⟨as1, aA1, an1, ac1, aB1, am1, ad1, as2, aA2, an2, ac2, aB2, am2, ad2, rfl, ha1, ha2⟩ := ha
 obtain ⟨W0, hW0, hsz, hle, k0, k1⟩ := qAQ w (.cells #[.bool as1, .slice aA1 an1 ac1, .slice aB1 am1 ad1, .bool as2, .slice aA2 an2 ac2, .slice aB2 am2 ad2] 61) (.cells #[.bool false, .slice none 0 0, .slice none 0 0, .bool false, .slice none 0 0, .slice none 0 0] 61)
 have hn0 : -(N : Int) < 0 := by omega
 obtain ⟨ca0, ca1, ca2, ca3, ca4, ca5⟩ := qAC k0
 have hi : TurnL .i64 W0 _ a := TurnL.mk (ha1.le hle) (ha2.le hle)
 have hsz1 : ∀ i, i ≤ N → TSz (gpow (ginv a) i) 1000000 := fun i hi => (qJf hz hnz (by omega)).up (by decide)
 have hsz2 : TSz (ginv a) 1000000 := by have h := hsz1 1 (by omega); rw [show gpow (ginv a) 1 = ginv a from qCq _] at h; exact h
 have hneg : -(-(N : Int)) = (N : Int) := by omega
 have ⟨hle', k0', k1', ha1', ha2', hz', hnz', hi'⟩ := hyd8 hle k0 k1 ha1 ha2 hz hnz hi
 have ⟨hsz1', hsz2'⟩ := hyd2 hsz1 hsz2
 clear hsz2 hsz1 hi hnz hz ha2 ha1 k1 k0 hle
 go_enter Tryz.func105, Tryz.ntmps105
 go_wp2_with (fail)
 clear hW0
 go_at_call 116
 refine (qFL a _ W0 hi'.out (hz'.out.up (by decide)) hnz'.out).mono ?_
 rintro e W1 ⟨v1, rfl, hle1, h1⟩
 have hr := qFM (ginv a) N v1 W1 h1 hsz1'.out hsz2'.out hN
 obtain ⟨ps1, pA1, pn1, pc1, pB1, pm1, pd1, ps2, pA2, pn2, pc2, pB2, pm2, pd2, rfl⟩ := h1.form
 have ⟨hle1', hr', h1'⟩ := hyd3 hle1 hr h1
 clear h1 hr hle1
 go_wp2_with (fail)
 go_at_call 105
 refine hr'.out.mono ?_
 rintro e W2 ⟨v2, rfl, hle2, h2⟩
 obtain ⟨rs1, rA1, rn1, rc1, rB1, rm1, rd1, rs2, rA2, rn2, rc2, rB2, rm2, rd2, rfl, y1, y2⟩ := h2
 have kW := bxl hle2 (bxl hle1'.out k1'.out)
 have hleW := (hle'.out.trans hle1'.out).trans hle2
 have ⟨hle2', hleW', y1', y2'⟩ := hyd4 hle2 hleW y1 y2
 clear y2 y1 hleW hle2
 obtain ⟨z0, z1, z2, z3, z4, z5⟩ := qAC kW
 have ⟨g0, g1, g2, g3, g4, g5⟩ := frz6 kW
 have hle9 := fun u0 u1 u2 u3 u4 u5 => qAh (hleW'.out) (show w.heap.size ≤ w.heap.size + 1 by omega) u0 u1 u2 u3 u4 u5
 have hb9 := fun u0 u1 u2 u3 u4 u5 => qAC (qAZ kW u0 u1 u2 u3 u4 u5)
 simp only [set6] at hb9
 have hfin := fun u0 u1 u2 u3 u4 u5 => And.intro (y1'.out.touch (qAN kW) (qAE W2 (w.heap.size + 1) u0 u1 u2 u3 u4 u5)) (y2'.out.touch (qAN kW) (qAE W2 (w.heap.size + 1) u0 u1 u2 u3 u4 u5))
 have ⟨hle9', hb9', hfin', kW'⟩ := hyd4 hle9 hb9 hfin kW
 clear kW hfin hb9 hle9
 go_wp2
 obtain ⟨d0, d1, d2, d3, d4, d5⟩ := hb9'.out (.bool rs1) (.slice rA1 rn1 rc1) (.slice rB1 rm1 rd1) (.bool rs2) (.slice rA2 rn2 rc2) (.slice rB2 rm2 rd2)
 exact bodyPost_ret (v := .agg #[.bool rs1, .slice rA1 rn1 rc1, .slice rB1 rm1 rd1, .bool rs2, .slice rA2 rn2 rc2, .slice rB2 rm2 rd2]) (by simp [results, Tryz.results105, go_sem, d0, d1, d2, d3, d4, d5]) rfl ⟨_, rfl, hle9'.out _ _ _ _ _ _, TurnL.mk (hfin'.out _ _ _ _ _ _).1 (hfin'.out _ _ _ _ _ _).2⟩
end Go.Proofs.YtlhfonhbbpbmpaaGreat

