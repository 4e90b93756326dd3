/- exact, turning numbers: over. exact, turning numbers: power. -/
import Derived.Test.YtlhfonhbbpbmpaaGreatTrnA
namespace Go.Proofs.YtlhfonhbbpbmpaaGreat
set_option maxRecDepth 100000
set_option maxHeartbeats 4000000
open Go.RowKit Go.Shelf
set_option linter.unusedVariables false
set_option linter.unusedSimpArgs false
theorem qI2 (a b : G2) (va vb : Value) (w : World) (ha : TurnL .u32 w va a) (hb : TurnL .u32 w vb b) (hza : TSz a 100000) (hzb : TSz b 100000) (hnz : qAH b ≠ 0) :
  Calls Tryz.prog 67 #[va, vb] w fun e w' => ∃ v', e = .returned v' ∧ Le w w' ∧ TurnL .u32 w' v' (gdiv a b) := by
 have hb0 := hb
 have ha0 := ha
 have hzc := qEb hzb
 have hzm := qL9 hza hzc (m := 500000) (by decide)
 have hzn := qEc hzb (m := 500000) (by decide)
 obtain ⟨as1, aA1, an1, ac1, aB1, am1, ad1, as2, aA2, an2, ac2, aB2, am2, ad2, rfl, ha1, ha2⟩ := ha
 obtain ⟨bs1, bA1, bn1, bc1, bB1, bm1, bd1, bs2, bA2, bn2, bc2, bB2, bm2, bd2, rfl, hb1, hb2⟩ := hb
 obtain ⟨W0, hW0, hsz, hle, k0, k1, k2⟩ := qAw w (.cells #[.bool as1, .slice aA1 an1 ac1, .slice aB1 am1 ad1, .bool as2, .slice aA2 an2 ac2, .slice aB2 am2 ad2] 89) (.cells #[.bool bs1, .slice bA1 bn1 bc1, .slice bB1 bm1 bd1, .bool bs2, .slice bA2 bn2 bc2, .slice bB2 bm2 bd2] 89) (.cells #[.bool false, .slice none 0 0, .slice none 0 0, .bool false, .slice none 0 0, .slice none 0 0] 89)
 obtain ⟨ca0, ca1, ca2, ca3, ca4, ca5⟩ := qAC k0
 obtain ⟨cb0, cb1, cb2, cb3, cb4, cb5⟩ := qAC k1
 replace ha0 := ha0.le hle
 replace hb0 := hb0.le hle
 have ⟨hle', k0', k1', k2', ha1', ha2', hb1', hb2'⟩ := hyd8 hle k0 k1 k2 ha1 ha2 hb1 hb2
 have ⟨ha0', hb0', hza', hzb', hzc', hzm', hzn', hnz'⟩ := hyd8 ha0 hb0 hza hzb hzc hzm hzn hnz
 clear hnz hzn hzm hzc hzb hza hb0 ha0 hb2 hb1 ha2 ha1 k2 k1 k0 hle
 go_enter Tryz.func67, Tryz.ntmps67
 go_wp2_with (fail)
 clear hW0
 refine qBc (R := leRel) 8 [some 7, some 8, some 9, some 10, some 11, some 12, some 5, some 6, none, none] [[], [], [1], [0, 2], [], [4], [], [], [3, 6], [5, 7]]
  [.eq (.agg #[.bool as1, .slice aA1 an1 ac1, .slice aB1 am1 ad1, .bool as2, .slice aA2 an2 ac2, .slice aB2 am2 ad2]), .eq (.agg #[.bool bs1, .slice bA1 bn1 bc1, .slice bB1 bm1 bd1, .bool bs2, .slice bA2 bn2 bc2, .slice bB2 bm2 bd2]), MPred.turn .u32 (qAP b), MPred.turn .u32 (gmul a (qAP b)), .eq (.agg #[.bool bs1, .slice bA1 bn1 bc1, .slice bB1 bm1 bd1, .bool bs2, .slice bA2 bn2 bc2, .slice bB2 bm2 bd2]), MPred.ratT .u32 (qAH b), MPred.box W0.heap.size (.cells #[.bool false, .slice none 0 0, .slice none 0 0, .bool false, .slice none 0 0, .slice none 0 0] 89), MPred.box W0.heap.size (.cells #[.bool false, .slice none 0 0, .slice none 0 0] 87)] (TwoG 6 7) (fun _ _ => False) (by kernel_rfl) (by kernel_rfl) (by kernel_rfl) (by kernel_rfl) (by kernel_rfl) (fun D x' hD => TwoG.start (hD 6 (by decide)) (hD 7 (by decide))) ?_ (fun _ _ _ _ h => h.elim) ?_
 ·simp only [List.take_succ_cons, List.take_zero]
  refine sGc rfl ?_ (sGc rfl ?_ (sGc rfl ?_ (sGc rfl ?_ (sGc rfl ?_ (sGc rfl ?_ (sGc rfl ?_ (sGc rfl ?_ (qBT))))))))
  ·intro D xv W hD hdn hR hf hG Q hK hP
   have cc0 := bcl hR (by omega) ca0
   have cc1 := bcl hR (by omega) ca1
   have cc2 := bcl hR (by omega) ca2
   have cc3 := bcl hR (by omega) ca3
   have cc4 := bcl hR (by omega) ca4
   have cc5 := bcl hR (by omega) ca5
   simp only [fA] at hK ⊢
   go_wp2
   exact hK _ _ lrR rfl (hG.quiet (Le.refl _) (by decide) (by decide))
  ·intro D xv W hD hdn hR hf hG Q hK hP
   have cc0 := bcl hR (by omega) cb0
   have cc1 := bcl hR (by omega) cb1
   have cc2 := bcl hR (by omega) cb2
   have cc3 := bcl hR (by omega) cb3
   have cc4 := bcl hR (by omega) cb4
   have cc5 := bcl hR (by omega) cb5
   simp only [fA] at hK ⊢
   go_wp2
   exact hK _ _ lrR rfl (hG.quiet (Le.refl _) (by decide) (by decide))
  ·intro D xv W hD hdn hR hf hG Q hK hP
   obtain ⟨e0, -⟩ := hf
   change _ = _ at e0
   simp only [fA, e0] at hK ⊢
   have hG' := hyd1 hG
   clear hG
   go_wp2_with (fail)
   go_at_call 68
   refine (qFI b _ W (hb0'.out.le hR)).mono ?_
   rintro e w' ⟨v', rfl, y1, y2⟩
   obtain ⟨zs1, zA1, zn1, zc1, zB1, zm1, zd1, zs2, zA2, zn2, zc2, zB2, zm2, zd2, qz⟩ := y2.form
   subst qz
   have y2' := hyd1 y2
   clear y2
   go_wp2
   exact hK _ _ y1 y2'.out (hG'.out.quiet y1 (by decide) (by decide))
  ·intro D xv W hD hdn hR hf hG Q hK hP
   obtain ⟨e0, e1, -⟩ := hf
   change _ = _ at e0
   replace e1 : TurnL .u32 W (xv 2) (qAP b) := e1
   simp only [fA, e0] at hK ⊢
   have hG' := hyd1 hG
   clear hG
   go_wp2_with (fail)
   go_at_call 75
   refine (qD4 a (qAP b) _ _ W (ha0'.out.le hR) e1 (hza'.out.up (by decide)) (hzc'.out.up (by decide))).mono ?_
   rintro e w' ⟨v', rfl, y1, y2⟩
   obtain ⟨zs1, zA1, zn1, zc1, zB1, zm1, zd1, zs2, zA2, zn2, zc2, zB2, zm2, zd2, qz⟩ := y2.form
   subst qz
   have y2' := hyd1 y2
   clear y2
   go_wp2
   exact hK _ _ y1 y2'.out (hG'.out.quiet y1 (by decide) (by decide))
  ·intro D xv W hD hdn hR hf hG Q hK hP
   have cc0 := bcl hR (by omega) cb0
   have cc1 := bcl hR (by omega) cb1
   have cc2 := bcl hR (by omega) cb2
   have cc3 := bcl hR (by omega) cb3
   have cc4 := bcl hR (by omega) cb4
   have cc5 := bcl hR (by omega) cb5
   simp only [fA] at hK ⊢
   go_wp2
   exact hK _ _ lrR rfl (hG.quiet (Le.refl _) (by decide) (by decide))
  ·intro D xv W hD hdn hR hf hG Q hK hP
   obtain ⟨e0, -⟩ := hf
   change _ = _ at e0
   simp only [fA, e0] at hK ⊢
   have hG' := hyd1 hG
   clear hG
   go_wp2_with (fail)
   go_at_call 46
   refine (qI1 b _ W (hb0'.out.le hR) (hzb'.out.up (by decide))).mono ?_
   rintro e w' ⟨v', rfl, y1, y2⟩
   obtain ⟨zs1, zA1, zn1, zc1, zB1, zm1, zd1, qz⟩ := y2.qform
   subst qz
   have y2' := hyd1 y2
   clear y2
   go_wp2
   exact hK _ _ y1 y2'.out (hG'.out.quiet y1 (by decide) (by decide))
  ·intro D xv W hD hdn hR hf hG Q hK hP
   simp only [fA] at hK ⊢
   have hs9 := hR.size
   go_wp2
   exact hK _ _ (qAA _ _) ⟨_, rfl, hs9, by unfold World.alloc; exact Array.getElem?_push_size⟩ (hG.left (by decide))
  ·intro D xv W hD hdn hR hf hG Q hK hP
   simp only [fA] at hK ⊢
   have hs9 := hR.size
   go_wp2
   exact hK _ _ (qAA _ _) ⟨_, rfl, hs9, by unfold World.alloc; exact Array.getElem?_push_size⟩ (hG.right (by decide))
 ·intro D xv W hD hR hf hG Q' hQ1 _
  have e3 : TurnL .u32 W (xv 3) (gmul a (qAP b)) := hf 3 (by decide)
  have e5 : RatT .u32 W (xv 5) (qAH b) := hf 5 (by decide)
  obtain ⟨k6, q6, hk6, hx6⟩ := hf 6 (by decide)
  obtain ⟨k7, q7, hk7, hx7⟩ := hf 7 (by decide)
  replace q6 : xv 6 = _ := q6
  replace q7 : xv 7 = _ := q7
  have hne := hG.ne (hD 6 (by decide)) (hD 7 (by decide))
  rw [q6, q7] at hne
  have hne2 : k7 ≠ k6 := fun h => hne (by rw [h])
  obtain ⟨ps1, pA1, pn1, pc1, pB1, pm1, pd1, ps2, pA2, pn2, pc2, pB2, pm2, pd2, qp, y1, y2⟩ := e3
  obtain ⟨ns1, nA1, nn1, nc1, nB1, nm1, nd1, qn⟩ := e5.qform
  rw [qn] at e5
  simp only [List.drop_succ_cons, List.drop_zero]
  rw [show List.range 8 = [0, 1, 2, 3, 4, 5, 6, 7] from rfl]
  simp only [fA, qp, qn, q6, q7]
  clear qp qn q6 q7 hf hG hD hne
  obtain ⟨V1, hV1, hle1, j6, j7, i1, i2, i5⟩ : ∃ V1, ((((((W.setCell ⟨k6, 0, none⟩ (.bool ps1)).setCell ⟨k6, 1, none⟩ (.slice pA1 pn1 pc1)).setCell ⟨k6, 2, none⟩ (.slice pB1 pm1 pd1)).setCell ⟨k6, 3, none⟩ (.bool ps2)).setCell ⟨k6, 4, none⟩ (.slice pA2 pn2 pc2)).setCell ⟨k6, 5, none⟩ (.slice pB2 pm2 pd2)) = V1 ∧ Le W0 V1 ∧ V1.heap[k6]? = some (.cells #[.bool ps1, .slice pA1 pn1 pc1, .slice pB1 pm1 pd1, .bool ps2, .slice pA2 pn2 pc2, .slice pB2 pm2 pd2] 89) ∧ V1.heap[k7]? = some (.cells #[.bool false, .slice none 0 0, .slice none 0 0] 87) ∧ RatT .u32 V1 (.agg #[.bool ps1, .slice pA1 pn1 pc1, .slice pB1 pm1 pd1]) (gmul a (qAP b)).1 ∧ RatT .u32 V1 (.agg #[.bool ps2, .slice pA2 pn2 pc2, .slice pB2 pm2 pd2]) (gmul a (qAP b)).2 ∧ RatT .u32 V1 (.agg #[.bool ns1, .slice nA1 nn1 nc1, .slice nB1 nm1 nd1]) (qAH b) :=
   ⟨_, rfl, qAh hR hk6 _ _ _ _ _ _, qAZ hx6 _ _ _ _ _ _, ((qAE _ _ _ _ _ _ _ _).2.1 k7 hne2).trans hx7, y1.touch (qAN hx6) (qAE _ _ _ _ _ _ _ _), y2.touch (qAN hx6) (qAE _ _ _ _ _ _ _ _), e5.touch (qAN hx6) (qAE _ _ _ _ _ _ _ _)⟩
  obtain ⟨V2, hV2, hle2, l6, l7, ip1, ip2, in1⟩ : ∃ V2, (((V1.setCell ⟨k7, 0, none⟩ (.bool ns1)).setCell ⟨k7, 1, none⟩ (.slice nA1 nn1 nc1)).setCell ⟨k7, 2, none⟩ (.slice nB1 nm1 nd1)) = V2 ∧ Le W0 V2 ∧ V2.heap[k6]? = some (.cells #[.bool ps1, .slice pA1 pn1 pc1, .slice pB1 pm1 pd1, .bool ps2, .slice pA2 pn2 pc2, .slice pB2 pm2 pd2] 89) ∧ V2.heap[k7]? = some (.cells #[.bool ns1, .slice nA1 nn1 nc1, .slice nB1 nm1 nd1] 87) ∧ RatT .u32 V2 (.agg #[.bool ps1, .slice pA1 pn1 pc1, .slice pB1 pm1 pd1]) (gmul a (qAP b)).1 ∧ RatT .u32 V2 (.agg #[.bool ps2, .slice pA2 pn2 pc2, .slice pB2 pm2 pd2]) (gmul a (qAP b)).2 ∧ RatT .u32 V2 (.agg #[.bool ns1, .slice nA1 nn1 nc1, .slice nB1 nm1 nd1]) (qAH b) :=
   ⟨_, rfl, qA8 hle1 hk7, ((qC7 _ _ _ _ _).2.1 k6 (Ne.symm hne2)).trans j6, qAY j7, i1.touch (qFG j7) (qC7 _ _ _ _ _), i2.touch (qFG j7) (qC7 _ _ _ _ _), i5.touch (qFG j7) (qC7 _ _ _ _ _)⟩
  have hne3 : ¬ k7 = k6 := hne2
  have hne4 : ¬ k6 = k7 := fun h => hne2 h.symm
  obtain ⟨z0, z1, z2, z3, z4, z5⟩ := qAC hx6
  have ⟨g0, g1, g2, g3, g4, g5⟩ := frz6 hx6
  obtain ⟨u0, u1, u2, f0, f1, f2⟩ := qAD j7
  obtain ⟨cp0, cp1, cp2, cp3, cp4, cp5⟩ := qAC l6
  obtain ⟨cn0, cn1, cn2, -⟩ := qAD l7
  have hl6 := (gsl l6)
  have hl7 := (gsl l7)
  have hleV := hle'.out.trans hle2
  have k2V := bxl hle2 k2'.out
  have hl2 := (gsl k2V)
  have ⟨hR', hle1', hle2', hx6', hx7', j6', j7', l6'⟩ := hyd8 hR hle1 hle2 hx6 hx7 j6 j7 l6
  have ⟨l7', i1', i2', i5', ip1', ip2', in1', y1'⟩ := hyd8 l7 i1 i2 i5 ip1 ip2 in1 y1
  have ⟨y2', e5', hleV', k2V'⟩ := hyd4 y2 e5 hleV k2V
  clear k2V hleV e5 y2 y1 in1 ip2 ip1 i5 i2 i1 l7 l6 j7 j6 hx7 hx6 hle2 hle1 hR
  go_wp2
  clear z0 z1 z2 z3 z4 z5 g0 g1 g2 g3 g4 g5 u0 u1 u2 f0 f1 f2
  refine hQ1 _ _ ?_
  clear hV1 hV2 hQ1
  go_wp2_with (fail)
  refine qAG (R := leRel) 9 [some 13, some 14, some 15, some 16, some 17, some 18, some 19, some 20, some 21, none] [[], [0], [], [1, 2], [], [4], [], [5, 6], [3, 7], [8]]
   [.eq (.pointer (some ⟨k6, 0, none⟩)), .eq (.agg #[.bool ps1, .slice pA1 pn1 pc1, .slice pB1 pm1 pd1]), .eq (.agg #[.bool ns1, .slice nA1 nn1 nc1, .slice nB1 nm1 nd1]), MPred.ratT .u32 ((gmul a (qAP b)).1 / qAH b), .eq (.pointer (some ⟨k6, 3, none⟩)), .eq (.agg #[.bool ps2, .slice pA2 pn2 pc2, .slice pB2 pm2 pd2]), .eq (.agg #[.bool ns1, .slice nA1 nn1 nc1, .slice nB1 nm1 nd1]), MPred.ratT .u32 ((gmul a (qAP b)).2 / qAH b), MPred.turn .u32 (gdiv a b)] (fun _ _ => False) (by kernel_rfl) (by kernel_rfl) (by kernel_rfl) (by kernel_rfl) ?_ (fun _ _ _ _ _ h => h.elim) ?_
  ·simp only [List.take_succ_cons, List.take_zero]
   refine mSc ?_ (mSc ?_ (mSc ?_ (mSc ?_ (mSc ?_ (mSc ?_ (mSc ?_ (mSc ?_ (mSc ?_ (qAJ)))))))))
   ·refine mSl rfl fun xv W hR hf Q hK hP => ?_
    simp only [fA] at hK ⊢
    go_wp2
    exact hK _ _ lrR rfl
   ·refine mSl rfl fun xv W hR hf Q hK hP => ?_
    obtain ⟨e0, -⟩ := hf
    change _ = _ at e0
    have cc0 := (Below.cell hR (p := ⟨k6, 0, none⟩) (by show k6 < V2.heap.size; omega)).trans cp0
    have cc1 := (Below.cell hR (p := ⟨k6, 1, none⟩) (by show k6 < V2.heap.size; omega)).trans cp1
    have cc2 := (Below.cell hR (p := ⟨k6, 2, none⟩) (by show k6 < V2.heap.size; omega)).trans cp2
    simp only [fA, e0] at hK ⊢
    go_wp2
    exact hK _ _ lrR rfl
   ·refine mSl rfl fun xv W hR hf Q hK hP => ?_
    have cc0 := (Below.cell hR (p := ⟨k7, 0, none⟩) (by show k7 < V2.heap.size; omega)).trans cn0
    have cc1 := (Below.cell hR (p := ⟨k7, 1, none⟩) (by show k7 < V2.heap.size; omega)).trans cn1
    have cc2 := (Below.cell hR (p := ⟨k7, 2, none⟩) (by show k7 < V2.heap.size; omega)).trans cn2
    simp only [fA] at hK ⊢
    go_wp2
    exact hK _ _ lrR rfl
   ·refine mSl rfl fun xv W hR hf Q hK hP => ?_
    obtain ⟨e0, e1, -⟩ := hf
    change _ = _ at e0 e1
    simp only [fA, e0, e1] at hK ⊢
    go_wp2_with (fail)
    go_at_call 108
    refine (qIL (fun _ => True) (gmul a (qAP b)).1 (qAH b) _ _ W (Up.any _) (ip1'.out.le hR) (in1'.out.le hR) (hzm'.out.1.up (by decide)) (hzn'.out.up (by decide)) hnz'.out).mono ?_
    rintro e w' ⟨v', rfl, y1, y2⟩
    obtain ⟨zs1, zA1, zn1, zc1, zB1, zm1, zd1, qz⟩ := y2.qform
    subst qz
    have y2' := hyd1 y2
    clear y2
    go_wp2
    exact hK _ _ y1 y2'.out
   ·refine mSl rfl fun xv W hR hf Q hK hP => ?_
    simp only [fA] at hK ⊢
    go_wp2
    exact hK _ _ lrR rfl
   ·refine mSl rfl fun xv W hR hf Q hK hP => ?_
    obtain ⟨e0, -⟩ := hf
    change _ = _ at e0
    have cc3 := (Below.cell hR (p := ⟨k6, 3, none⟩) (by show k6 < V2.heap.size; omega)).trans cp3
    have cc4 := (Below.cell hR (p := ⟨k6, 4, none⟩) (by show k6 < V2.heap.size; omega)).trans cp4
    have cc5 := (Below.cell hR (p := ⟨k6, 5, none⟩) (by show k6 < V2.heap.size; omega)).trans cp5
    simp only [fA, e0] at hK ⊢
    go_wp2
    exact hK _ _ lrR rfl
   ·refine mSl rfl fun xv W hR hf Q hK hP => ?_
    have cc0 := (Below.cell hR (p := ⟨k7, 0, none⟩) (by show k7 < V2.heap.size; omega)).trans cn0
    have cc1 := (Below.cell hR (p := ⟨k7, 1, none⟩) (by show k7 < V2.heap.size; omega)).trans cn1
    have cc2 := (Below.cell hR (p := ⟨k7, 2, none⟩) (by show k7 < V2.heap.size; omega)).trans cn2
    simp only [fA] at hK ⊢
    go_wp2
    exact hK _ _ lrR rfl
   ·refine mSl rfl fun xv W hR hf Q hK hP => ?_
    obtain ⟨e0, e1, -⟩ := hf
    change _ = _ at e0 e1
    simp only [fA, e0, e1] at hK ⊢
    go_wp2_with (fail)
    go_at_call 108
    refine (qIL (fun _ => True) (gmul a (qAP b)).2 (qAH b) _ _ W (Up.any _) (ip2'.out.le hR) (in1'.out.le hR) (hzm'.out.2.up (by decide)) (hzn'.out.up (by decide)) hnz'.out).mono ?_
    rintro e w' ⟨v', rfl, y1, y2⟩
    obtain ⟨zs1, zA1, zn1, zc1, zB1, zm1, zd1, qz⟩ := y2.qform
    subst qz
    have y2' := hyd1 y2
    clear y2
    go_wp2
    exact hK _ _ y1 y2'.out
   ·refine mSl rfl fun xv W hR hf Q hK hP => ?_
    obtain ⟨e0, e1, -⟩ := hf
    replace e0 : RatT .u32 W (xv 3) ((gmul a (qAP b)).1 / qAH b) := e0
    replace e1 : RatT .u32 W (xv 7) ((gmul a (qAP b)).2 / qAH b) := e1
    obtain ⟨u0s1, u0A1, u0n1, u0c1, u0B1, u0m1, u0d1, qu0⟩ := e0.qform
    rw [qu0] at e0
    obtain ⟨u1s1, u1A1, u1n1, u1c1, u1B1, u1m1, u1d1, qu1⟩ := e1.qform
    rw [qu1] at e1
    simp only [fA, qu0, qu1] at hK ⊢
    go_wp2
    exact hK _ _ lrR (TurnL.mk e0 e1)
  ·intro xv W hR hf Q' hQ1 _
   have eL : TurnL .u32 W (xv 8) (gdiv a b) := hf 8 (by decide)
   obtain ⟨rs1, rA1, rn1, rc1, rB1, rm1, rd1, rs2, rA2, rn2, rc2, rB2, rm2, rd2, qL, y1, y2⟩ := eL
   have kW := (Below.block hR (w.heap.size + 1 + 1) (by omega)).trans k2V'.out
   obtain ⟨z0, z1, z2, z3, z4, z5⟩ := qAC kW
   have ⟨g0, g1, g2, g3, g4, g5⟩ := frz6 kW
   simp only [List.drop_succ_cons, List.drop_zero]
   rw [show List.range 9 = [0, 1, 2, 3, 4, 5, 6, 7, 8] from rfl]
   simp only [fA, qL]
   have hle9 := fun u0 u1 u2 u3 u4 u5 => qAh (Le.trans hleV'.out hR) (show w.heap.size ≤ w.heap.size + 1 + 1 by omega) u0 u1 u2 u3 u4 u5
   have hb9 := fun u0 u1 u2 u3 u4 u5 => qAC (qAZ kW u0 u1 u2 u3 u4 u5)
   simp only [set6] at hb9
   have hfin := fun u0 u1 u2 u3 u4 u5 => And.intro (y1.touch (qAN kW) (qAE W (w.heap.size + 1 + 1) u0 u1 u2 u3 u4 u5)) (y2.touch (qAN kW) (qAE W (w.heap.size + 1 + 1) u0 u1 u2 u3 u4 u5))
   have ⟨hle9', hb9', hfin', kW', y1', y2', qL', hR'⟩ := hyd8 hle9 hb9 hfin kW y1 y2 qL hR
   clear hR qL y2 y1 kW hfin hb9 hle9
   go_wp2
   refine hQ1 _ _ ?_
   go_wp2
   obtain ⟨d0, d1, d2, d3, d4, d5⟩ := hb9'.out (.bool rs1) (.slice rA1 rn1 rc1) (.slice rB1 rm1 rd1) (.bool rs2) (.slice rA2 rn2 rc2) (.slice rB2 rm2 rd2)
   exact bodyPost_ret (v := .agg #[.bool rs1, .slice rA1 rn1 rc1, .slice rB1 rm1 rd1, .bool rs2, .slice rA2 rn2 rc2, .slice rB2 rm2 rd2]) (by simp [results, Tryz.results67, go_sem, d0, d1, d2, d3, d4, d5]) rfl ⟨_, rfl, hle9'.out _ _ _ _ _ _, TurnL.mk (hfin'.out _ _ _ _ _ _).1 (hfin'.out _ _ _ _ _ _).2⟩
theorem qHa (a : G2) (N : Nat) (va : Value) (w : World) (ha : TurnL .u32 w va a) (hz : TSz a 2) (hN : N ≤ 64) : Calls Tryz.prog 73 #[va, .int .i64 N] w fun e w' => ∃ v', e = .returned v' ∧ Le w w' ∧ TurnL .u32 w' v' (gpow a N) := by
 obtain ⟨as1, aA1, an1, ac1, aB1, am1, ad1, as2, aA2, an2, ac2, aB2, am2, ad2, rfl, ha1, ha2⟩ := ha
 obtain ⟨W0, hW0, hsz, hle, k0, k1⟩ := qAQ w (.cells #[.bool as1, .slice aA1 an1 ac1, .slice aB1 am1 ad1, .bool as2, .slice aA2 an2 ac2, .slice aB2 am2 ad2] 89) (.cells #[.bool false, .slice none 0 0, .slice none 0 0, .bool false, .slice none 0 0, .slice none 0 0] 89)
 have hb0 : TBox .u32 89 W0 w.heap.size a := TBox.mk k0 (ha1.le hle) (ha2.le hle)
 have ⟨hle', k0', k1', ha1', ha2', hz', hb0'⟩ := hyd7 hle k0 k1 ha1 ha2 hz hb0
 clear hb0 hz ha2 ha1 k1 k0 hle
 go_enter Tryz.func73, Tryz.ntmps73
 go_wp2_with (fail)
 clear hW0
 go_at_call 72
 refine (qJS W0).mono ?_
 rintro e W1 ⟨v1, rfl, hle1, h1⟩
 obtain ⟨ps1, pA1, pn1, pc1, pB1, pm1, pd1, ps2, pA2, pn2, pc2, pB2, pm2, pd2, rfl, y1, y2⟩ := h1
 obtain ⟨V, hV, hle2, k5⟩ := al1 W1 (.cells #[.bool ps1, .slice pA1 pn1 pc1, .slice pB1 pm1 pd1, .bool ps2, .slice pA2 pn2 pc2, .slice pB2 pm2 pd2] 89)
 have hbp : TBox .u32 89 V W1.heap.size (gpow a 0) := TBox.mk k5 (y1.le hle2) (y2.le hle2)
 have hle02 := hle1.trans hle2
 have hleV := hle'.out.trans hle02
 have hk1 := bxl hle02 k1'.out
 have hX : w.heap.size + 2 ≤ W1.heap.size := by have := hle1.size; omega
 have hba : TBox .u32 89 V w.heap.size (gpow a 1) := by rw [show gpow a 1 = a from qCq a]; exact hb0'.out.le hle02
 have hst : 0 + 1 * N = N := by omega
 have ⟨hle1', hle2', k5', hbp', hle02', hleV', hba', hk1'⟩ := hyd8 hle1 hle2 k5 hbp hle02 hleV hba hk1
 have ⟨y1', y2', hst'⟩ := hyd3 y1 y2 hst
 clear hst y2 y1 hk1 hba hleV hle02 hbp k5 hle2 hle1
 go_wp2_with (fail)
 clear hV
 go_loopw [1] (fun nv wr => ∃ s t n : Nat, nv = .int .i64 n ∧ n ≤ 64 ∧ Hid (s + t * n = N) ∧ Hid (t ≤ 128) ∧ Hid (TBox .u32 89 wr w.heap.size (gpow a t)) ∧ Hid (TBox .u32 89 wr W1.heap.size (gpow a s)) ∧ Hid (wr.heap[w.heap.size + 1]? = some (.cells #[.bool false, .slice none 0 0, .slice none 0 0, .bool false, .slice none 0 0, .slice none 0 0] 89)) ∧ Hid (Le w wr)) (fun nv _ => (intOf nv).toNat)
 case atStart => exact ⟨0, 1, N, rfl, hN, hst', Lib.hid (by decide), hba', hbp', hk1', hleV'⟩
 case round =>
  obtain ⟨s, t, n, rfl, hn, hst, ht, bt, bs, bz, hle9⟩ := hrel
  clear hst' hba' hbp' hk1'
  by_cases h0 : n = 0
  ·subst h0
   obtain rfl : s = N := by have := hst.out; omega
   obtain ⟨bs1, bA1, bn1, bc1, bB1, bm1, bd1, bs2, bA2, bn2, bc2, bB2, bm2, bd2, kb, hb1, hb2⟩ := bs.out
   obtain ⟨cb0, cb1, cb2, cb3, cb4, cb5⟩ := qAC kb
   have ⟨kb', hb1', hb2'⟩ := hyd3 kb hb1 hb2
   clear hb2 hb1 kb
   have kz := bz.out
   obtain ⟨z0, z1, z2, z3, z4, z5⟩ := qAC kz
   have ⟨g0, g1, g2, g3, g4, g5⟩ := frz6 kz
   have hle9 := fun u0 u1 u2 u3 u4 u5 => qAh (hle9.out) (show w.heap.size ≤ w.heap.size + 1 by omega) u0 u1 u2 u3 u4 u5
   have hb9 := fun u0 u1 u2 u3 u4 u5 => qAC (qAZ kz u0 u1 u2 u3 u4 u5)
   simp only [set6] at hb9
   have hfin := fun u0 u1 u2 u3 u4 u5 => And.intro (hb1'.out.touch (qAN kz) (qAE wr (w.heap.size + 1) u0 u1 u2 u3 u4 u5)) (hb2'.out.touch (qAN kz) (qAE wr (w.heap.size + 1) u0 u1 u2 u3 u4 u5))
   have ⟨hle9', hb9', hfin', kz'⟩ := hyd4 hle9 hb9 hfin kz
   clear kz hfin hb9 hle9
   go_wp2
   obtain ⟨d0, d1, d2, d3, d4, d5⟩ := hb9'.out (.bool bs1) (.slice bA1 bn1 bc1) (.slice bB1 bm1 bd1) (.bool bs2) (.slice bA2 bn2 bc2) (.slice bB2 bm2 bd2)
   exact bodyPost_ret (v := .agg #[.bool bs1, .slice bA1 bn1 bc1, .slice bB1 bm1 bd1, .bool bs2, .slice bA2 bn2 bc2, .slice bB2 bm2 bd2]) (by simp [results, Tryz.results73, go_sem, d0, d1, d2, d3, d4, d5]) rfl ⟨_, rfl, hle9'.out _ _ _ _ _ _, TurnL.mk (hfin'.out _ _ _ _ _ _).1 (hfin'.out _ _ _ _ _ _).2⟩
  ·have hpos : 0 < (n : Int) := by omega
   have htn : t ≤ 64 := by
    have h1 := hst.out
    have h2 : t * 1 ≤ t * n := Nat.mul_le_mul_left t (by omega)
    omega
   have hs64 : s ≤ 64 := by have := hst.out; omega
   have hsa : TSz (gpow a s) 1000000 := (qFA hz'.out (by omega)).up (by decide)
   have hsb : TSz (gpow a t) 1000000 := (qFA hz'.out (by omega)).up (by decide)
   obtain ⟨m, hmm⟩ : ∃ m, n / 2 = m := ⟨_, rfl⟩
   have hq : (n : Int).tdiv 2 = (m : Int) := by rw [Int.tdiv_eq_ediv_of_nonneg (by omega)]; omega
   have hq2 : (n : Int) / 2 = (m : Int) := by omega
   have hq3 : IntKind.i64.wrap (m : Int) = (m : Int) := IntWalk.i64_in _ (by omega)
   have hm64 : m ≤ 64 := by omega
   have hdiv : m < n := by omega
   have ⟨hsa', hsb', hdiv', hst', hmm'⟩ := hyd5 hsa hsb hdiv hst hmm
   clear hmm hst hdiv hsb hsa
   obtain ⟨a9s1, a9A1, a9n1, a9c1, a9B1, a9m1, a9d1, a9s2, a9A2, a9n2, a9c2, a9B2, a9m2, a9d2, ka9, ha91, ha92⟩ := bt.out
   obtain ⟨ca90, ca91, ca92, ca93, ca94, ca95⟩ := qAC ka9
   have ⟨ka9', ha91', ha92'⟩ := hyd3 ka9 ha91 ha92
   clear ha92 ha91 ka9
   by_cases hodd : n % 2 = 1
   ·have hm : (n : Int) % 2 = 1 := by omega
    have hm2 : (n : Int).tmod 2 = 1 := by rw [Int.tmod_eq_emod_of_nonneg (by omega)]; omega
    obtain ⟨b9s1, b9A1, b9n1, b9c1, b9B1, b9m1, b9d1, b9s2, b9A2, b9n2, b9c2, b9B2, b9m2, b9d2, kb9, hb91, hb92⟩ := bs.out
    obtain ⟨cb90, cb91, cb92, cb93, cb94, cb95⟩ := qAC kb9
    have ⟨kb9', hb91', hb92'⟩ := hyd3 kb9 hb91 hb92
    clear hb92 hb91 kb9
    go_wp2_with (fail)
    go_at_call 75
    refine (qD4 (gpow a s) (gpow a t) _ _ wr (TurnL.mk hb91'.out hb92'.out) (TurnL.mk ha91'.out ha92'.out) (by first | exact hsa'.out | exact hsb'.out) (by first | exact hsb'.out | exact hsa'.out)).mono ?_
    rintro e W2 ⟨v2, rfl, hle2, hr2⟩
    obtain ⟨r2s1, r2A1, r2n1, r2c1, r2B1, r2m1, r2d1, r2s2, r2A2, r2n2, r2c2, r2B2, r2m2, r2d2, rfl, y1, y2⟩ := hr2
    have hd2 := (bs.out).le hle2
    have hno2 := hd2.noInt
    rw [← qFi a s t] at y1 y2
    obtain ⟨V2, hV2, hleV2, bd2, ba2, bz2⟩ : ∃ V, ((((((W2.setCell ⟨W1.heap.size, 0, none⟩ (.bool r2s1)).setCell ⟨W1.heap.size, 1, none⟩ (.slice r2A1 r2n1 r2c1)).setCell ⟨W1.heap.size, 2, none⟩ (.slice r2B1 r2m1 r2d1)).setCell ⟨W1.heap.size, 3, none⟩ (.bool r2s2)).setCell ⟨W1.heap.size, 4, none⟩ (.slice r2A2 r2n2 r2c2)).setCell ⟨W1.heap.size, 5, none⟩ (.slice r2B2 r2m2 r2d2)) = V ∧ Le w V ∧ TBox .u32 89 V (W1.heap.size) (gpow a (s + t)) ∧ TBox .u32 89 V (w.heap.size) (gpow a t) ∧ V.heap[w.heap.size + 1]? = some (.cells #[.bool false, .slice none 0 0, .slice none 0 0, .bool false, .slice none 0 0, .slice none 0 0] 89) :=
     ⟨_, rfl, qAh (hle9.out.trans hle2) (by omega) _ _ _ _ _ _, hd2.put y1 y2, ((bt.out).le hle2).other hno2 (qAE _ _ _ _ _ _ _ _) (by omega), ((qAE _ _ _ _ _ _ _ _).2.1 _ (by omega)).trans (bxl hle2 bz.out)⟩
    obtain ⟨q2s1, q2A1, q2n1, q2c1, q2B1, q2m1, q2d1, q2s2, q2A2, q2n2, q2c2, q2B2, q2m2, q2d2, kd2, -, -⟩ := hd2
    obtain ⟨z20, z21, z22, z23, z24, z25⟩ := qAC kd2
    have ⟨g20, g21, g22, g23, g24, g25⟩ := frz6 kd2
    have ⟨hle2', y1', y2', kd2', hno2', hleV2', bd2', bz2'⟩ := hyd8 hle2 y1 y2 kd2 hno2 hleV2 bd2 bz2
    have ba2' := hyd1 ba2
    clear ba2 bz2 bd2 hleV2 hno2 kd2 y2 y1 hle2
    obtain ⟨c9s1, c9A1, c9n1, c9c1, c9B1, c9m1, c9d1, c9s2, c9A2, c9n2, c9c2, c9B2, c9m2, c9d2, kc9, hc91, hc92⟩ := ba2'.out
    obtain ⟨cc90, cc91, cc92, cc93, cc94, cc95⟩ := qAC kc9
    have ⟨kc9', hc91', hc92'⟩ := hyd3 kc9 hc91 hc92
    clear hc92 hc91 kc9
    go_wp2_with (fail)
    go_at_call 75
    refine (qD4 (gpow a t) (gpow a t) _ _ V2 (TurnL.mk hc91'.out hc92'.out) (TurnL.mk hc91'.out hc92'.out) (by first | exact hsa'.out | exact hsb'.out) (by first | exact hsb'.out | exact hsa'.out)).mono ?_
    rintro e W3 ⟨v3, rfl, hle3, hr3⟩
    obtain ⟨r3s1, r3A1, r3n1, r3c1, r3B1, r3m1, r3d1, r3s2, r3A2, r3n2, r3c2, r3B2, r3m2, r3d2, rfl, y1, y2⟩ := hr3
    have hd3 := (ba2'.out).le hle3
    have hno3 := hd3.noInt
    rw [← qFi a t t] at y1 y2
    obtain ⟨V3, hV3, hleV3, bd3, bp3, bz3⟩ : ∃ V, ((((((W3.setCell ⟨w.heap.size, 0, none⟩ (.bool r3s1)).setCell ⟨w.heap.size, 1, none⟩ (.slice r3A1 r3n1 r3c1)).setCell ⟨w.heap.size, 2, none⟩ (.slice r3B1 r3m1 r3d1)).setCell ⟨w.heap.size, 3, none⟩ (.bool r3s2)).setCell ⟨w.heap.size, 4, none⟩ (.slice r3A2 r3n2 r3c2)).setCell ⟨w.heap.size, 5, none⟩ (.slice r3B2 r3m2 r3d2)) = V ∧ Le w V ∧ TBox .u32 89 V (w.heap.size) (gpow a (t + t)) ∧ TBox .u32 89 V (W1.heap.size) (gpow a (s + t)) ∧ V.heap[w.heap.size + 1]? = some (.cells #[.bool false, .slice none 0 0, .slice none 0 0, .bool false, .slice none 0 0, .slice none 0 0] 89) :=
     ⟨_, rfl, qAh (hleV2'.out.trans hle3) (by omega) _ _ _ _ _ _, hd3.put y1 y2, ((bd2'.out).le hle3).other hno3 (qAE _ _ _ _ _ _ _ _) (by omega), ((qAE _ _ _ _ _ _ _ _).2.1 _ (by omega)).trans (bxl hle3 bz2'.out)⟩
    obtain ⟨q3s1, q3A1, q3n1, q3c1, q3B1, q3m1, q3d1, q3s2, q3A2, q3n2, q3c2, q3B2, q3m2, q3d2, kd3, -, -⟩ := hd3
    obtain ⟨z30, z31, z32, z33, z34, z35⟩ := qAC kd3
    have ⟨g30, g31, g32, g33, g34, g35⟩ := frz6 kd3
    have ⟨hle3', y1', y2', kd3', hno3', hleV3', bd3', bz3'⟩ := hyd8 hle3 y1 y2 kd3 hno3 hleV3 bd3 bz3
    have bp3' := hyd1 bp3
    clear bp3 bz3 bd3 hleV3 hno3 kd3 y2 y1 hle3
    go_wp2
    go_roundw
    case rel => exact ⟨s + t, t + t, m, rfl, hm64, Lib.hid (hmm'.out ▸ qLb hst'.out hodd), Lib.hid (by omega), bd3', bp3', bz3', hleV3'⟩
    case measure => simp [intOf]; have := hdiv'.out; omega
   ·have hm : (n : Int) % 2 = 0 := by omega
    have hm2 : (n : Int).tmod 2 = 0 := by rw [Int.tmod_eq_emod_of_nonneg (by omega)]; omega
    go_wp2_with (fail)
    go_at_call 75
    refine (qD4 (gpow a t) (gpow a t) _ _ wr (TurnL.mk ha91'.out ha92'.out) (TurnL.mk ha91'.out ha92'.out) (by first | exact hsa'.out | exact hsb'.out) (by first | exact hsb'.out | exact hsa'.out)).mono ?_
    rintro e W3 ⟨v3, rfl, hle3, hr3⟩
    obtain ⟨r3s1, r3A1, r3n1, r3c1, r3B1, r3m1, r3d1, r3s2, r3A2, r3n2, r3c2, r3B2, r3m2, r3d2, rfl, y1, y2⟩ := hr3
    have hd3 := (bt.out).le hle3
    have hno3 := hd3.noInt
    rw [← qFi a t t] at y1 y2
    obtain ⟨V3, hV3, hleV3, bd3, bp3, bz3⟩ : ∃ V, ((((((W3.setCell ⟨w.heap.size, 0, none⟩ (.bool r3s1)).setCell ⟨w.heap.size, 1, none⟩ (.slice r3A1 r3n1 r3c1)).setCell ⟨w.heap.size, 2, none⟩ (.slice r3B1 r3m1 r3d1)).setCell ⟨w.heap.size, 3, none⟩ (.bool r3s2)).setCell ⟨w.heap.size, 4, none⟩ (.slice r3A2 r3n2 r3c2)).setCell ⟨w.heap.size, 5, none⟩ (.slice r3B2 r3m2 r3d2)) = V ∧ Le w V ∧ TBox .u32 89 V (w.heap.size) (gpow a (t + t)) ∧ TBox .u32 89 V (W1.heap.size) (gpow a s) ∧ V.heap[w.heap.size + 1]? = some (.cells #[.bool false, .slice none 0 0, .slice none 0 0, .bool false, .slice none 0 0, .slice none 0 0] 89) :=
     ⟨_, rfl, qAh (hle9.out.trans hle3) (by omega) _ _ _ _ _ _, hd3.put y1 y2, ((bs.out).le hle3).other hno3 (qAE _ _ _ _ _ _ _ _) (by omega), ((qAE _ _ _ _ _ _ _ _).2.1 _ (by omega)).trans (bxl hle3 bz.out)⟩
    obtain ⟨q3s1, q3A1, q3n1, q3c1, q3B1, q3m1, q3d1, q3s2, q3A2, q3n2, q3c2, q3B2, q3m2, q3d2, kd3, -, -⟩ := hd3
    obtain ⟨z30, z31, z32, z33, z34, z35⟩ := qAC kd3
    have ⟨g30, g31, g32, g33, g34, g35⟩ := frz6 kd3
    have ⟨hle3', y1', y2', kd3', hno3', hleV3', bd3', bz3'⟩ := hyd8 hle3 y1 y2 kd3 hno3 hleV3 bd3 bz3
    have bp3' := hyd1 bp3
    clear bp3 bz3 bd3 hleV3 hno3 kd3 y2 y1 hle3
    go_wp2
    go_roundw
    case rel => exact ⟨s, t + t, m, rfl, hm64, Lib.hid (hmm'.out ▸ qLE hst'.out hodd), Lib.hid (by omega), bd3', bp3', bz3', hleV3'⟩
    case measure => simp [intOf]; have := hdiv'.out; omega
end Go.Proofs.YtlhfonhbbpbmpaaGreat

