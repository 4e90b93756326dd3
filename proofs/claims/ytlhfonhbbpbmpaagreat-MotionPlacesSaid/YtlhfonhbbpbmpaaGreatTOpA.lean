/- exact, turning numbers: combined's closure. exact, turning numbers: combined, AddTurn, MulTurn, DivTurn. -/
import Derived.Test.YtlhfonhbbpbmpaaGreatTrnA
import Derived.Test.YtlhfonhbbpbmpaaGreatRunTurn
import Derived.Test.YtlhfonhbbpbmpaaGreatTrnB
namespace Go.Proofs.YtlhfonhbbpbmpaaGreat
set_option maxRecDepth 100000
set_option maxHeartbeats 4000000
open Go.RowKit Go.Shelf
set_option linter.unusedVariables false
set_option linter.unusedSimpArgs false
theorem qG5 : qA7 Tryz.prog 109 := fun _ _ => by kernel_rfl
theorem qI3 (x y : FracA × FracA) (f : G2 → G2 → Except Int G2) (g : FuncId) (Bx By Bo : Nat) (w : World) (hx : ABox w Bx x) (hy : ABox w By y) (t : TypeId) (ho : w.heap[Bo]? = some (.cells #[.func (.func g) #[] #[]] t)) (hg : qA7 Tryz.prog g) (hop : qHt Tryz.prog g f) :
  Calls Tryz.prog 109 #[.pointer (some ⟨Bx, 0, none⟩), .pointer (some ⟨By, 0, none⟩), .pointer (some ⟨Bo, 0, none⟩)] w (OperPostT (opG f x y) w) := by
 obtain ⟨W0, hW0, hle, k0⟩ := al1 w (.cells #[.bool false, .slice none 0 0, .bool false, .slice none 0 0, .bool false, .slice none 0 0, .bool false, .slice none 0 0] 29)
 have hol := (gsl ho)
 have hxl := hx.lt
 have hyl := hy.lt
 have ho1 := bxl hle ho
 have hx1 := hx.le hle
 have hy1 := hy.le hle
 obtain ⟨x1A, x1c, x1B, x1d, x2A, x2c, x2B, x2d, kx, hx2, hx3⟩ := hx1
 obtain ⟨y1A, y1c, y1B, y1d, y2A, y2c, y2B, y2d, ky, hy2, hy3⟩ := hy1
 have hxa := IsTurnA.mk hx2 hx3
 have hya := IsTurnA.mk hy2 hy3
 obtain ⟨ca0, ca1, ca2, ca3, ca4, ca5, ca6, ca7⟩ := qAB kx
 obtain ⟨cb0, cb1, cb2, cb3, cb4, cb5, cb6, cb7⟩ := qAB ky
 have hs0 := hle.size
 have hkl := (gsl k0)
 obtain ⟨res, hres⟩ : ∃ res, opG f x y = res := ⟨_, rfl⟩
 rw [hres]
 unfold qA7 at hg
 have ⟨hx', hy', hle', k0', ho', ho1', kx', ky'⟩ := hyd8 hx hy hle k0 ho ho1 kx ky
 have ⟨hx2', hx3', hy2', hy3', hxa', hya', hop', hres'⟩ := hyd8 hx2 hx3 hy2 hy3 hxa hya hop hres
 have hg' := hyd1 hg
 clear hg hres hop hya hxa hy3 hy2 hx3 hx2 ky kx ho1 ho k0 hle hy hx
 go_enter Tryz.func109, Tryz.ntmps109
 go_wp2_with (fail)
 clear hW0
 refine qBc (R := leRel) 6 [some 6, some 7, some 8, some 9, some 4, some 5, none, none] [[], [0], [], [2], [], [], [1, 4], [3, 5]]
  [.eq (.agg #[.bool x.1.sn, .slice x1A x.1.gn.length x1c, .bool x.1.sd, .slice x1B x.1.gd.length x1d, .bool x.2.sn, .slice x2A x.2.gn.length x2c, .bool x.2.sd, .slice x2B x.2.gd.length x2d]), MPred.turnO x, .eq (.agg #[.bool y.1.sn, .slice y1A y.1.gn.length y1c, .bool y.1.sd, .slice y1B y.1.gd.length y1d, .bool y.2.sn, .slice y2A y.2.gn.length y2c, .bool y.2.sd, .slice y2B y.2.gd.length y2d]), MPred.turnO y, MPred.box W0.heap.size (.cells #[.bool false, .slice none 0 0, .slice none 0 0, .bool false, .slice none 0 0, .slice none 0 0] 89), MPred.box W0.heap.size (.cells #[.bool false, .slice none 0 0, .slice none 0 0, .bool false, .slice none 0 0, .slice none 0 0] 89)] (TwoG 4 5) (fun ch W => ch = flt 10 ∧ (tval x = none ∨ tval y = none) ∧ Le W0 W) (by kernel_rfl) (by kernel_rfl) (by kernel_rfl) (by kernel_rfl) (by kernel_rfl) (fun D x' hD => TwoG.start (hD 4 (by decide)) (hD 5 (by decide))) ?_ (by rintro a9 ch W hdf ⟨rfl, hbad, hle9⟩; exact ⟨hdf, hle'.out.trans hle9, .inr ⟨10, by rw [← hres'.out]; exact qLc hbad, rfl⟩⟩) ?_
 ·simp only [List.take_succ_cons, List.take_zero]
  refine sGc rfl ?_ (sGc rfl ?_ (sGc rfl ?_ (sGc rfl ?_ (sGc rfl ?_ (sGc rfl ?_ (qBT))))))
  ·intro D xv W hD hdn hR hf hG Q hK hP
   have cc0 := bcl hR (by omega) ca0
   have cc1 := bcl hR (by omega) ca1
   have cc2 := bcl hR (by omega) ca2
   have cc3 := bcl hR (by omega) ca3
   have cc4 := bcl hR (by omega) ca4
   have cc5 := bcl hR (by omega) ca5
   have cc6 := bcl hR (by omega) ca6
   have cc7 := bcl hR (by omega) ca7
   simp only [fA] at hK ⊢
   go_wp2
   exact hK _ _ lrR rfl (hG.quiet (Le.refl _) (by decide) (by decide))
  ·intro D xv W hD hdn hR hf hG Q hK hP
   obtain ⟨e0, -⟩ := hf
   change _ = _ at e0
   simp only [fA, e0] at hK ⊢
   rcases qBV x with ⟨r, hs⟩ | hs
   ·have hcall := qBZ x r _ W (hxa'.out.le hR) hs
    have ⟨hcall', hR', hs', hG'⟩ := hyd4 hcall hR hs hG
    clear hG hs hR hcall
    go_wp2_with (fail)
    go_at_call 42
    refine hcall'.out.mono ?_
    rintro e w' ⟨v', rfl, y1, y2⟩
    obtain ⟨zs1, zA1, zn1, zc1, zB1, zm1, zd1, zs2, zA2, zn2, zc2, zB2, zm2, zd2, qz⟩ := y2.form
    subst qz
    have y2' := hyd1 y2
    clear y2
    go_wp2
    exact hK _ _ y1 ⟨_, hs'.out, y2'.out⟩ (hG'.out.quiet y1 (by decide) (by decide))
   ·have hcall := qCX x _ W (hxa'.out.le hR) hs
    have ⟨hcall', hR', hs', hG'⟩ := hyd4 hcall hR hs hG
    clear hG hs hR hcall
    go_wp2_with (fail)
    go_at_call 42
    refine hcall'.out.mono ?_
    rintro e w' ⟨rfl, y1⟩
    go_wp2_with (fail)
    exact hP _ _ _ ⟨rfl, .inl hs'.out, hR'.out.trans y1⟩
  ·intro D xv W hD hdn hR hf hG Q hK hP
   have cc0 := bcl hR (by omega) cb0
   have cc1 := bcl hR (by omega) cb1
   have cc2 := bcl hR (by omega) cb2
   have cc3 := bcl hR (by omega) cb3
   have cc4 := bcl hR (by omega) cb4
   have cc5 := bcl hR (by omega) cb5
   have cc6 := bcl hR (by omega) cb6
   have cc7 := bcl hR (by omega) cb7
   simp only [fA] at hK ⊢
   go_wp2
   exact hK _ _ lrR rfl (hG.quiet (Le.refl _) (by decide) (by decide))
  ·intro D xv W hD hdn hR hf hG Q hK hP
   obtain ⟨e0, -⟩ := hf
   change _ = _ at e0
   simp only [fA, e0] at hK ⊢
   rcases qBV y with ⟨r, hs⟩ | hs
   ·have hcall := qBZ y r _ W (hya'.out.le hR) hs
    have ⟨hcall', hR', hs', hG'⟩ := hyd4 hcall hR hs hG
    clear hG hs hR hcall
    go_wp2_with (fail)
    go_at_call 42
    refine hcall'.out.mono ?_
    rintro e w' ⟨v', rfl, y1, y2⟩
    obtain ⟨zs1, zA1, zn1, zc1, zB1, zm1, zd1, zs2, zA2, zn2, zc2, zB2, zm2, zd2, qz⟩ := y2.form
    subst qz
    have y2' := hyd1 y2
    clear y2
    go_wp2
    exact hK _ _ y1 ⟨_, hs'.out, y2'.out⟩ (hG'.out.quiet y1 (by decide) (by decide))
   ·have hcall := qCX y _ W (hya'.out.le hR) hs
    have ⟨hcall', hR', hs', hG'⟩ := hyd4 hcall hR hs hG
    clear hG hs hR hcall
    go_wp2_with (fail)
    go_at_call 42
    refine hcall'.out.mono ?_
    rintro e w' ⟨rfl, y1⟩
    go_wp2_with (fail)
    exact hP _ _ _ ⟨rfl, .inr hs'.out, hR'.out.trans y1⟩
  ·intro D xv W hD hdn hR hf hG Q hK hP
   simp only [fA] at hK ⊢
   have hs9 := hR.size
   go_wp2
   exact hK _ _ (qAA _ _) ⟨_, rfl, hs9, by unfold World.alloc; exact Array.getElem?_push_size⟩ (hG.left (by decide))
  ·intro D xv W hD hdn hR hf hG Q hK hP
   simp only [fA] at hK ⊢
   have hs9 := hR.size
   go_wp2
   exact hK _ _ (qAA _ _) ⟨_, rfl, hs9, by unfold World.alloc; exact Array.getElem?_push_size⟩ (hG.right (by decide))
 ·intro D xv W hD hR hf hG Q' hQ1 _
  obtain ⟨a, hta, ha⟩ := hf 1 (by decide)
  obtain ⟨b, htb, hb⟩ := hf 3 (by decide)
  replace ha : TurnL .u32 W (xv 1) a := ha
  replace hb : TurnL .u32 W (xv 3) b := hb
  obtain ⟨k4, q4, hk4, hx4⟩ := hf 4 (by decide)
  obtain ⟨k5, q5, hk5, hx5⟩ := hf 5 (by decide)
  replace q4 : xv 4 = _ := q4
  replace q5 : xv 5 = _ := q5
  have hne := hG.ne (hD 4 (by decide)) (hD 5 (by decide))
  rw [q4, q5] at hne
  have hne2 : k5 ≠ k4 := fun h => hne (by rw [h])
  obtain ⟨as1, aA1, an1, ac1, aB1, am1, ad1, as2, aA2, an2, ac2, aB2, am2, ad2, qa, a1, a2⟩ := ha
  obtain ⟨bs1, bA1, bn1, bc1, bB1, bm1, bd1, bs2, bA2, bn2, bc2, bB2, bm2, bd2, qb, b1, b2⟩ := hb
  simp only [List.drop_succ_cons, List.drop_zero]
  rw [show List.range 6 = [0, 1, 2, 3, 4, 5] from rfl]
  simp only [fA, qa, qb, q4, q5]
  clear qa qb q4 q5 hf hG hD hne
  obtain ⟨V1, hV1, hle1, j4, j5, ia1, ia2, ib1, ib2⟩ : ∃ V1, ((((((W.setCell ⟨k4, 0, none⟩ (.bool as1)).setCell ⟨k4, 1, none⟩ (.slice aA1 an1 ac1)).setCell ⟨k4, 2, none⟩ (.slice aB1 am1 ad1)).setCell ⟨k4, 3, none⟩ (.bool as2)).setCell ⟨k4, 4, none⟩ (.slice aA2 an2 ac2)).setCell ⟨k4, 5, none⟩ (.slice aB2 am2 ad2)) = V1 ∧ Le W0 V1 ∧ V1.heap[k4]? = some (.cells #[.bool as1, .slice aA1 an1 ac1, .slice aB1 am1 ad1, .bool as2, .slice aA2 an2 ac2, .slice aB2 am2 ad2] 89) ∧ V1.heap[k5]? = some (.cells #[.bool false, .slice none 0 0, .slice none 0 0, .bool false, .slice none 0 0, .slice none 0 0] 89) ∧ RatT .u32 V1 (.agg #[.bool as1, .slice aA1 an1 ac1, .slice aB1 am1 ad1]) a.1 ∧ RatT .u32 V1 (.agg #[.bool as2, .slice aA2 an2 ac2, .slice aB2 am2 ad2]) a.2 ∧ RatT .u32 V1 (.agg #[.bool bs1, .slice bA1 bn1 bc1, .slice bB1 bm1 bd1]) b.1 ∧ RatT .u32 V1 (.agg #[.bool bs2, .slice bA2 bn2 bc2, .slice bB2 bm2 bd2]) b.2 :=
   ⟨_, rfl, qAh hR hk4 _ _ _ _ _ _, qAZ hx4 _ _ _ _ _ _, ((qAE _ _ _ _ _ _ _ _).2.1 k5 hne2).trans hx5, a1.touch (qAN hx4) (qAE _ _ _ _ _ _ _ _), a2.touch (qAN hx4) (qAE _ _ _ _ _ _ _ _), b1.touch (qAN hx4) (qAE _ _ _ _ _ _ _ _), b2.touch (qAN hx4) (qAE _ _ _ _ _ _ _ _)⟩
  obtain ⟨V2, hV2, hle2, l4, l5, ja1, ja2, jb1, jb2⟩ : ∃ V2, ((((((V1.setCell ⟨k5, 0, none⟩ (.bool bs1)).setCell ⟨k5, 1, none⟩ (.slice bA1 bn1 bc1)).setCell ⟨k5, 2, none⟩ (.slice bB1 bm1 bd1)).setCell ⟨k5, 3, none⟩ (.bool bs2)).setCell ⟨k5, 4, none⟩ (.slice bA2 bn2 bc2)).setCell ⟨k5, 5, none⟩ (.slice bB2 bm2 bd2)) = V2 ∧ Le W0 V2 ∧ V2.heap[k4]? = some (.cells #[.bool as1, .slice aA1 an1 ac1, .slice aB1 am1 ad1, .bool as2, .slice aA2 an2 ac2, .slice aB2 am2 ad2] 89) ∧ V2.heap[k5]? = some (.cells #[.bool bs1, .slice bA1 bn1 bc1, .slice bB1 bm1 bd1, .bool bs2, .slice bA2 bn2 bc2, .slice bB2 bm2 bd2] 89) ∧ RatT .u32 V2 (.agg #[.bool as1, .slice aA1 an1 ac1, .slice aB1 am1 ad1]) a.1 ∧ RatT .u32 V2 (.agg #[.bool as2, .slice aA2 an2 ac2, .slice aB2 am2 ad2]) a.2 ∧ RatT .u32 V2 (.agg #[.bool bs1, .slice bA1 bn1 bc1, .slice bB1 bm1 bd1]) b.1 ∧ RatT .u32 V2 (.agg #[.bool bs2, .slice bA2 bn2 bc2, .slice bB2 bm2 bd2]) b.2 :=
   ⟨_, rfl, qAh hle1 hk5 _ _ _ _ _ _, ((qAE _ _ _ _ _ _ _ _).2.1 k4 (Ne.symm hne2)).trans j4, qAZ j5 _ _ _ _ _ _, ia1.touch (qAN j5) (qAE _ _ _ _ _ _ _ _), ia2.touch (qAN j5) (qAE _ _ _ _ _ _ _ _), ib1.touch (qAN j5) (qAE _ _ _ _ _ _ _ _), ib2.touch (qAN j5) (qAE _ _ _ _ _ _ _ _)⟩
  have hne3 : ¬ k5 = k4 := hne2
  have hne4 : ¬ k4 = k5 := fun h => hne2 h.symm
  obtain ⟨z0, z1, z2, z3, z4, z5⟩ := qAC hx4
  have ⟨g0, g1, g2, g3, g4, g5⟩ := frz6 hx4
  obtain ⟨u0, u1, u2, u3, u4, u5⟩ := qAC j5
  have ⟨f0, f1, f2, f3, f4, f5⟩ := frz6 j5
  obtain ⟨d0, d1, d2, d3, d4, d5⟩ := qAC l4
  obtain ⟨e0, e1, e2, e3, e4, e5⟩ := qAC l5
  have hl4 := (gsl l4)
  have hl5 := (gsl l5)
  have hoV := bxl hle2 ho1'.out
  have kV := bxl hle2 k0'.out
  have co := qAF hoV
  have hleV := hle'.out.trans hle2
  have hopr := qCr (f := f) hta htb
  rw [hres'.out] at hopr
  have hcall := hop'.out a b _ _ V2 (qDQ hta) (qDQ htb) (TurnL.mk ja1 ja2) (TurnL.mk jb1 jb2)
  rw [← hopr] at hcall
  have ⟨hR', hle1', hle2', hx4', hx5', j4', j5', l4'⟩ := hyd8 hR hle1 hle2 hx4 hx5 j4 j5 l4
  have ⟨l5', a1', a2', b1', b2', ia1', ia2', ib1'⟩ := hyd8 l5 a1 a2 b1 b2 ia1 ia2 ib1
  have ⟨ib2', ja1', ja2', jb1', jb2', hta', htb', hoV'⟩ := hyd8 ib2 ja1 ja2 jb1 jb2 hta htb hoV
  have ⟨kV', hleV', hopr', hcall'⟩ := hyd4 kV hleV hopr hcall
  clear hcall hopr hleV kV hoV htb hta jb2 jb1 ja2 ja1 ib2 ib1 ia2 ia1 b2 b1 a2 a1 l5 l4 j5 j4 hx5 hx4 hle2 hle1 hR
  go_wp2
  clear z0 z1 z2 z3 z4 z5 g0 g1 g2 g3 g4 g5 u0 u1 u2 u3 u4 u5 f0 f1 f2 f3 f4 f5
  refine hQ1 _ _ ?_
  clear hV1 hV2 hQ1
  have hg := hg'.out
  go_wp2_with (fail)
  refine hcall'.out.mono ?_
  rintro e V3 ⟨hle3, ⟨r, v3, hr, rfl, hr3⟩ | ⟨c9, hr, rfl⟩⟩
  ·have kV3 := bxl hle3 kV'.out
   have hle03 := hleV'.out.trans hle3
   have hr4 := hr3
   obtain ⟨ts1, tA1, tn1, tc1, tB1, tm1, td1, ts2, tA2, tn2, tc2, tB2, tm2, td2, rfl, -, -⟩ := hr3
   clear d0 d1 d2 d3 d4 d5 e0 e1 e2 e3 e4 e5 co hg
   have ⟨hle3', hr4', kV3', hle03', hr'⟩ := hyd5 hle3 hr4 kV3 hle03 hr
   clear hr hle03 kV3 hr4 hle3
   rcases Classical.em (TSz (r) 40) with hs | hs
   ·have hout := qCl (r) _ V3 hr4'.out hs
    have ⟨hout', hs'⟩ := hyd2 hout hs
    clear hs hout
    go_wp2_with (fail)
    go_at_call 66
    refine hout'.out.mono ?_
    rintro e W8 ⟨v8, rfl, hle8, h8⟩
    obtain ⟨rs1, rA1, rn1, rc1, rt1, rB1, rm1, rd1, rs2, rA2, rn2, rc2, rt2, rB2, rm2, rd2, rfl, y1, y2⟩ := h8
    have k8 := bxl hle8 kV3'.out
    have hl8 := hle03'.out.trans hle8
    have ⟨hle8', y1', y2', hl8'⟩ := hyd4 hle8 y1 y2 hl8
    clear hl8 y2 y1 hle8
    obtain ⟨z0, z1, z2, z3, z4, z5, z6, z7⟩ := qAB k8
    have ⟨g0, g1, g2, g3, g4, g5, g6, g7⟩ := frz8 k8
    have hle9 := fun u0 u1 u2 u3 u4 u5 u6 u7 => qAW (hl8'.out) (show w.heap.size ≤ w.heap.size by omega) u0 u1 u2 u3 u4 u5 u6 u7
    have hb9 := fun u0 u1 u2 u3 u4 u5 u6 u7 => qAB (qAI k8 u0 u1 u2 u3 u4 u5 u6 u7)
    simp only [set8] at hb9
    have hfin := fun u0 u1 u2 u3 u4 u5 u6 u7 => And.intro (y1'.out.touch (qA9 k8) (qAL W8 (w.heap.size) u0 u1 u2 u3 u4 u5 u6 u7)) (y2'.out.touch (qA9 k8) (qAL W8 (w.heap.size) u0 u1 u2 u3 u4 u5 u6 u7))
    have ⟨hle9', hb9', hfin', k8'⟩ := hyd4 hle9 hb9 hfin k8
    clear k8 hfin hb9 hle9
    go_wp2
    obtain ⟨d0, d1, d2, d3, d4, d5, d6, d7⟩ := hb9'.out (.bool rs1) (.slice rA1 rn1 rc1) (.bool rt1) (.slice rB1 rm1 rd1) (.bool rs2) (.slice rA2 rn2 rc2) (.bool rt2) (.slice rB2 rm2 rd2)
    exact bodyPost_ret (v := .agg #[.bool rs1, .slice rA1 rn1 rc1, .bool rt1, .slice rB1 rm1 rd1, .bool rs2, .slice rA2 rn2 rc2, .bool rt2, .slice rB2 rm2 rd2]) (by simp [results, Tryz.results109, go_sem, d0, d1, d2, d3, d4, d5, d6, d7]) rfl ⟨hle9'.out _ _ _ _ _ _ _ _, .inl ⟨_, _, by rw [hr'.out, qB8 hs'.out], rfl, TurnF.mk (hfin'.out _ _ _ _ _ _ _ _).1 (hfin'.out _ _ _ _ _ _ _ _).2⟩⟩
   ·have hout := qCm (r) _ V3 hr4'.out hs
    have ⟨hout', hs'⟩ := hyd2 hout hs
    clear hs hout
    go_wp2_with (fail)
    go_at_call 66
    refine hout'.out.mono ?_
    rintro e W8 ⟨rfl, hle8⟩
    go_wp2_with (fail)
    exact ⟨rfl, hle03'.out.trans hle8, .inr ⟨12, by rw [hr'.out, qC8 hs'.out], rfl⟩⟩
  ·have hle03 := hleV'.out.trans hle3
   have ⟨hr', hle3', hle03'⟩ := hyd3 hr hle3 hle03
   clear hle03 hle3 hr
   go_wp2_with (fail)
   exact ⟨rfl, hle03'.out, .inr ⟨c9, hr'.out, rfl⟩⟩
theorem qDt (res : Except Int G2) (g : FuncId) (cap : Array Value) (w : World) (hg : qA7 Tryz.prog g) (hf : ∀ W, Le w W → Calls Tryz.prog g cap W (OperPostT res W)) :
  Calls Tryz.prog 64 #[.func (.func g) #[] cap] w (qAa res w) := by
 cases res with
 | ok r =>
  refine (qG4 r g cap w hg fun W hW => (hf W hW).mono fun e W' h => h.ok).mono ?_
  rintro e w' ⟨v, rfl, hle, h⟩
  exact ⟨hle, v, 0, rfl, h, rfl⟩
 | error c =>
  refine (qFr c g cap w hg fun W hW => (hf W hW).mono fun e W' h => h.err).mono ?_
  rintro e w' ⟨rfl, hle⟩
  exact ⟨hle, _, c, rfl, rfl, rfl⟩
theorem qF5 (x y : FracA × FracA) (f : G2 → G2 → Except Int G2) (g : FuncId) (va vb : Value) (w : World) (h1 : IsTurnA w va x) (h2 : IsTurnA w vb y) (hg : qA7 Tryz.prog g) (hop : qHt Tryz.prog g f) :
  Calls Tryz.prog 74 #[va, vb, .func (.func g) #[] #[]] w (qAa (opG f x y) w) := by
 obtain ⟨x1A, x1c, x1B, x1d, x2A, x2c, x2B, x2d, rfl, p1, p2⟩ := h1
 obtain ⟨y1A, y1c, y1B, y1d, y2A, y2c, y2B, y2d, rfl, q1, q2⟩ := h2
 obtain ⟨W0, hW0, hsz, hle, k0, k1, k2, k3⟩ := qGw w (.cells #[.bool x.1.sn, .slice x1A x.1.gn.length x1c, .bool x.1.sd, .slice x1B x.1.gd.length x1d, .bool x.2.sn, .slice x2A x.2.gn.length x2c, .bool x.2.sd, .slice x2B x.2.gd.length x2d] 29) (.cells #[.bool y.1.sn, .slice y1A y.1.gn.length y1c, .bool y.1.sd, .slice y1B y.1.gd.length y1d, .bool y.2.sn, .slice y2A y.2.gn.length y2c, .bool y.2.sd, .slice y2B y.2.gd.length y2d] 29) (.cells #[.func (.func g) #[] #[]] 119) (.cells #[.bool false, .slice none 0 0, .bool false, .slice none 0 0, .bool false, .slice none 0 0, .bool false, .slice none 0 0] 29)
 have hmf : ∀ (fn : Fn) (first cap : Array Value) (w : World), (Instr.makeFunc fn first cap).run Tryz.prog w = .ok (.func fn first cap) w := fun _ _ _ _ => rfl
 have hbx : ABox W0 w.heap.size x := ⟨_, _, _, _, _, _, _, _, k0, p1.le hle, p2.le hle⟩
 have hby : ABox W0 (w.heap.size + 1) y := ⟨_, _, _, _, _, _, _, _, k1, q1.le hle, q2.le hle⟩
 have hf : ∀ W, Le W0 W → Calls Tryz.prog 109 #[.pointer (some ⟨w.heap.size, 0, none⟩), .pointer (some ⟨w.heap.size + 1, 0, none⟩), .pointer (some ⟨w.heap.size + 1 + 1, 0, none⟩)] W (OperPostT (opG f x y) W) := fun W hW =>
  qI3 x y f g _ _ _ W (hbx.le hW) (hby.le hW) _ (bxl hW k2) hg hop
 have hrun := qDt (opG f x y) _ _ W0 qG5 hf
 have ⟨hle', k0', k1', k2', k3', p1', p2', q1'⟩ := hyd8 hle k0 k1 k2 k3 p1 p2 q1
 have ⟨q2', hbx', hby', hf', hrun', hop', hg'⟩ := hyd7 q2 hbx hby hf hrun hop hg
 clear hg hop hrun hf hby hbx q2 q1 p2 p1 k3 k2 k1 k0 hle
 go_enter Tryz.func74, Tryz.ntmps74
 go_wp2_with (fail)
 clear hW0
 go_at_call 64
 refine hrun'.out.mono ?_
 rintro e W1 ⟨hle1, v1, cc, rfl, hres⟩
 have hres0 := hres
 obtain ⟨rs1, rA1, rn1, rc1, rt1, rB1, rm1, rd1, rs2, rA2, rn2, rc2, rt2, rB2, rm2, rd2, rfl⟩ := hres.form
 have k9 := bxl hle1 k3'.out
 have hl9 := hle'.out.trans hle1
 have ⟨hle1', hres', hres0', hl9'⟩ := hyd4 hle1 hres hres0 hl9
 clear hl9 hres0 hres hle1
 obtain ⟨z0, z1, z2, z3, z4, z5, z6, z7⟩ := qAB k9
 have ⟨g0, g1, g2, g3, g4, g5, g6, g7⟩ := frz8 k9
 have hle9 := fun u0 u1 u2 u3 u4 u5 u6 u7 => qAW (hl9'.out) (show w.heap.size ≤ w.heap.size + 1 + 1 + 1 by omega) u0 u1 u2 u3 u4 u5 u6 u7
 have hb9 := fun u0 u1 u2 u3 u4 u5 u6 u7 => qAB (qAI k9 u0 u1 u2 u3 u4 u5 u6 u7)
 simp only [set8] at hb9
 have hfin := fun u0 u1 u2 u3 u4 u5 u6 u7 => hres'.out.touch (qA9 k9) (qAL W1 (w.heap.size + 1 + 1 + 1) u0 u1 u2 u3 u4 u5 u6 u7)
 have ⟨hle9', hb9', hfin', k9'⟩ := hyd4 hle9 hb9 hfin k9
 clear k9 hfin hb9 hle9
 go_wp2
 obtain ⟨d0, d1, d2, d3, d4, d5, d6, d7⟩ := hb9'.out (.bool rs1) (.slice rA1 rn1 rc1) (.bool rt1) (.slice rB1 rm1 rd1) (.bool rs2) (.slice rA2 rn2 rc2) (.bool rt2) (.slice rB2 rm2 rd2)
 exact bodyPost_ret (v := .tuple #[.agg #[.bool rs1, .slice rA1 rn1 rc1, .bool rt1, .slice rB1 rm1 rd1, .bool rs2, .slice rA2 rn2 rc2, .bool rt2, .slice rB2 rm2 rd2], .int .i64 cc]) (by simp [results, Tryz.results74, go_sem, d0, d1, d2, d3, d4, d5, d6, d7]) rfl ⟨hle9'.out _ _ _ _ _ _ _ _, _, _, rfl, hfin'.out _ _ _ _ _ _ _ _⟩
theorem qHj : qA7 Tryz.prog 97 := fun _ _ => by kernel_rfl
theorem qI4 : qHt Tryz.prog 97 (fun a b => outG (gadd a b)) := fun a b va vb W ha hb hva hvb =>
 (qLG a b va vb W hva hvb (ha.up (by decide)) (hb.up (by decide))).mono fun e W' ⟨v, he, hle, hr⟩ => ⟨hle, .inl ⟨_, v, rfl, he, hr⟩⟩
theorem qJs (x y : FracA × FracA) (va vb : Value) (w : World) (h1 : IsTurnA w va x) (h2 : IsTurnA w vb y) :
  Calls Tryz.prog 53 #[va, vb] w (qAa (opG (fun a b => outG (gadd a b)) x y) w) := by
 obtain ⟨x1A, x1c, x1B, x1d, x2A, x2c, x2B, x2d, rfl, p1, p2⟩ := h1
 obtain ⟨y1A, y1c, y1B, y1d, y2A, y2c, y2B, y2d, rfl, q1, q2⟩ := h2
 obtain ⟨W0, hW0, hsz, hle, k0, k1, k2⟩ := qAw w (.cells #[.bool x.1.sn, .slice x1A x.1.gn.length x1c, .bool x.1.sd, .slice x1B x.1.gd.length x1d, .bool x.2.sn, .slice x2A x.2.gn.length x2c, .bool x.2.sd, .slice x2B x.2.gd.length x2d] 29) (.cells #[.bool y.1.sn, .slice y1A y.1.gn.length y1c, .bool y.1.sd, .slice y1B y.1.gd.length y1d, .bool y.2.sn, .slice y2A y.2.gn.length y2c, .bool y.2.sd, .slice y2B y.2.gd.length y2d] 29) (.cells #[.bool false, .slice none 0 0, .bool false, .slice none 0 0, .bool false, .slice none 0 0, .bool false, .slice none 0 0] 29)
 obtain ⟨a0, a1, a2, a3, a4, a5, a6, a7⟩ := qAB k0
 obtain ⟨b0, b1, b2, b3, b4, b5, b6, b7⟩ := qAB k1
 have hcall := qF5 x y (fun a b => outG (gadd a b)) 97 _ _ W0 (IsTurnA.mk (p1.le hle) (p2.le hle)) (IsTurnA.mk (q1.le hle) (q2.le hle)) qHj qI4
 have ⟨hle', k0', k1', k2', p1', p2', q1', q2'⟩ := hyd8 hle k0 k1 k2 p1 p2 q1 q2
 have hcall' := hyd1 hcall
 clear hcall q2 q1 p2 p1 k2 k1 k0 hle
 go_enter Tryz.func53, Tryz.ntmps53
 go_wp2_with (fail)
 clear hW0
 go_at_call 74
 refine hcall'.out.mono ?_
 rintro e W1 ⟨hle1, v1, cc, rfl, hres⟩
 have hres0 := hres
 obtain ⟨rs1, rA1, rn1, rc1, rt1, rB1, rm1, rd1, rs2, rA2, rn2, rc2, rt2, rB2, rm2, rd2, rfl⟩ := hres.form
 have k9 := bxl hle1 k2'.out
 have hl9 := hle'.out.trans hle1
 have ⟨hle1', hres', hres0', hl9'⟩ := hyd4 hle1 hres hres0 hl9
 clear hl9 hres0 hres hle1
 obtain ⟨z0, z1, z2, z3, z4, z5, z6, z7⟩ := qAB k9
 have ⟨g0, g1, g2, g3, g4, g5, g6, g7⟩ := frz8 k9
 have hle9 := fun u0 u1 u2 u3 u4 u5 u6 u7 => qAW (hl9'.out) (show w.heap.size ≤ w.heap.size + 1 + 1 by omega) u0 u1 u2 u3 u4 u5 u6 u7
 have hb9 := fun u0 u1 u2 u3 u4 u5 u6 u7 => qAB (qAI k9 u0 u1 u2 u3 u4 u5 u6 u7)
 simp only [set8] at hb9
 have hfin := fun u0 u1 u2 u3 u4 u5 u6 u7 => hres'.out.touch (qA9 k9) (qAL W1 (w.heap.size + 1 + 1) u0 u1 u2 u3 u4 u5 u6 u7)
 have ⟨hle9', hb9', hfin', k9'⟩ := hyd4 hle9 hb9 hfin k9
 clear k9 hfin hb9 hle9
 go_wp2
 obtain ⟨d0, d1, d2, d3, d4, d5, d6, d7⟩ := hb9'.out (.bool rs1) (.slice rA1 rn1 rc1) (.bool rt1) (.slice rB1 rm1 rd1) (.bool rs2) (.slice rA2 rn2 rc2) (.bool rt2) (.slice rB2 rm2 rd2)
 exact bodyPost_ret (v := .tuple #[.agg #[.bool rs1, .slice rA1 rn1 rc1, .bool rt1, .slice rB1 rm1 rd1, .bool rs2, .slice rA2 rn2 rc2, .bool rt2, .slice rB2 rm2 rd2], .int .i64 cc]) (by simp [results, Tryz.results53, go_sem, d0, d1, d2, d3, d4, d5, d6, d7]) rfl ⟨hle9'.out _ _ _ _ _ _ _ _, _, _, rfl, hfin'.out _ _ _ _ _ _ _ _⟩
theorem qHk : qA7 Tryz.prog 75 := fun _ _ => by kernel_rfl
theorem qI5 : qHt Tryz.prog 75 (fun a b => outG (gmul a b)) := fun a b va vb W ha hb hva hvb =>
 (qD4 a b va vb W hva hvb (ha.up (by decide)) (hb.up (by decide))).mono fun e W' ⟨v, he, hle, hr⟩ => ⟨hle, .inl ⟨_, v, rfl, he, hr⟩⟩
theorem qG6 (x y : FracA × FracA) (va vb : Value) (w : World) (h1 : IsTurnA w va x) (h2 : IsTurnA w vb y) :
  Calls Tryz.prog 30 #[va, vb] w (qAa (opG (fun a b => outG (gmul a b)) x y) w) := by
 obtain ⟨x1A, x1c, x1B, x1d, x2A, x2c, x2B, x2d, rfl, p1, p2⟩ := h1
 obtain ⟨y1A, y1c, y1B, y1d, y2A, y2c, y2B, y2d, rfl, q1, q2⟩ := h2
 obtain ⟨W0, hW0, hsz, hle, k0, k1, k2⟩ := qAw w (.cells #[.bool x.1.sn, .slice x1A x.1.gn.length x1c, .bool x.1.sd, .slice x1B x.1.gd.length x1d, .bool x.2.sn, .slice x2A x.2.gn.length x2c, .bool x.2.sd, .slice x2B x.2.gd.length x2d] 29) (.cells #[.bool y.1.sn, .slice y1A y.1.gn.length y1c, .bool y.1.sd, .slice y1B y.1.gd.length y1d, .bool y.2.sn, .slice y2A y.2.gn.length y2c, .bool y.2.sd, .slice y2B y.2.gd.length y2d] 29) (.cells #[.bool false, .slice none 0 0, .bool false, .slice none 0 0, .bool false, .slice none 0 0, .bool false, .slice none 0 0] 29)
 obtain ⟨a0, a1, a2, a3, a4, a5, a6, a7⟩ := qAB k0
 obtain ⟨b0, b1, b2, b3, b4, b5, b6, b7⟩ := qAB k1
 have hcall := qF5 x y (fun a b => outG (gmul a b)) 75 _ _ W0 (IsTurnA.mk (p1.le hle) (p2.le hle)) (IsTurnA.mk (q1.le hle) (q2.le hle)) qHk qI5
 have ⟨hle', k0', k1', k2', p1', p2', q1', q2'⟩ := hyd8 hle k0 k1 k2 p1 p2 q1 q2
 have hcall' := hyd1 hcall
 clear hcall q2 q1 p2 p1 k2 k1 k0 hle
 go_enter Tryz.func30, Tryz.ntmps30
 go_wp2_with (fail)
 clear hW0
 go_at_call 74
 refine hcall'.out.mono ?_
 rintro e W1 ⟨hle1, v1, cc, rfl, hres⟩
 have hres0 := hres
 obtain ⟨rs1, rA1, rn1, rc1, rt1, rB1, rm1, rd1, rs2, rA2, rn2, rc2, rt2, rB2, rm2, rd2, rfl⟩ := hres.form
 have k9 := bxl hle1 k2'.out
 have hl9 := hle'.out.trans hle1
 have ⟨hle1', hres', hres0', hl9'⟩ := hyd4 hle1 hres hres0 hl9
 clear hl9 hres0 hres hle1
 obtain ⟨z0, z1, z2, z3, z4, z5, z6, z7⟩ := qAB k9
 have ⟨g0, g1, g2, g3, g4, g5, g6, g7⟩ := frz8 k9
 have hle9 := fun u0 u1 u2 u3 u4 u5 u6 u7 => qAW (hl9'.out) (show w.heap.size ≤ w.heap.size + 1 + 1 by omega) u0 u1 u2 u3 u4 u5 u6 u7
 have hb9 := fun u0 u1 u2 u3 u4 u5 u6 u7 => qAB (qAI k9 u0 u1 u2 u3 u4 u5 u6 u7)
 simp only [set8] at hb9
 have hfin := fun u0 u1 u2 u3 u4 u5 u6 u7 => hres'.out.touch (qA9 k9) (qAL W1 (w.heap.size + 1 + 1) u0 u1 u2 u3 u4 u5 u6 u7)
 have ⟨hle9', hb9', hfin', k9'⟩ := hyd4 hle9 hb9 hfin k9
 clear k9 hfin hb9 hle9
 go_wp2
 obtain ⟨d0, d1, d2, d3, d4, d5, d6, d7⟩ := hb9'.out (.bool rs1) (.slice rA1 rn1 rc1) (.bool rt1) (.slice rB1 rm1 rd1) (.bool rs2) (.slice rA2 rn2 rc2) (.bool rt2) (.slice rB2 rm2 rd2)
 exact bodyPost_ret (v := .tuple #[.agg #[.bool rs1, .slice rA1 rn1 rc1, .bool rt1, .slice rB1 rm1 rd1, .bool rs2, .slice rA2 rn2 rc2, .bool rt2, .slice rB2 rm2 rd2], .int .i64 cc]) (by simp [results, Tryz.results30, go_sem, d0, d1, d2, d3, d4, d5, d6, d7]) rfl ⟨hle9'.out _ _ _ _ _ _ _ _, _, _, rfl, hfin'.out _ _ _ _ _ _ _ _⟩
end Go.Proofs.YtlhfonhbbpbmpaaGreat

