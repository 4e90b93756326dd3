/- barleycornref02.zero; motion.At; barleycornref02.At. motion.At: the place of a path at a point of the circle. -/
import Derived.Test.YtlhfonhbbpbmpaaGreatPlaceM
import Derived.Test.YtlhfonhbbpbmpaaGreatTOpB
import Derived.Test.YtlhfonhbbpbmpaaGreatTRA
import Derived.Test.YtlhfonhbbpbmpaaGreatNear
import Derived.Test.YtlhfonhbbpbmpaaGreatPathR
namespace Go.Proofs.YtlhfonhbbpbmpaaGreat
set_option maxRecDepth 100000
set_option maxHeartbeats 3000000
open Go.RowKit Go.Shelf
set_option linter.unusedVariables false
set_option linter.unusedSimpArgs false
theorem qKl (w : World) : Calls Tryz.prog 61 #[] w fun e w' => ∃ v, e = .returned v ∧ Le w w' ∧ TurnF w' v (0, 0) := by
 obtain ⟨W0, hW0, hle, k0⟩ := al1 w (.cells qAb 29)
 have ⟨hle', k0'⟩ := hyd2 hle k0
 clear k0 hle
 go_enter Tryz.func61, Tryz.ntmps61
 go_wp2_with (fail)
 clear hW0
 go_at_call 32
 refine (qDG (fun _ => True) 0 _ (Up.any _) (by decide) (by decide)).mono ?_
 rintro e W1 ⟨v1, rfl, hle1, hf1⟩
 obtain ⟨ps1, pA1, pn1, pc1, pt1, pB1, pm1, pd1, rfl⟩ := id hf1.fform
 have ⟨hle1', hf1'⟩ := hyd2 hle1 hf1
 clear hf1 hle1
 go_wp2_with (fail)
 go_at_call 32
 refine (qDG (fun _ => True) 0 _ (Up.any _) (by decide) (by decide)).mono ?_
 rintro e W2 ⟨v2, rfl, hle2, hf2⟩
 obtain ⟨ps2, pA2, pn2, pc2, pt2, pB2, pm2, pd2, rfl⟩ := id hf2.fform
 have k2 := bxl (hle1'.out.trans hle2) k0'.out
 obtain ⟨g0, g1, g2, g3, g4, g5, g6, g7⟩ := qAB k2
 have ⟨f0, f1, f2, f3, f4, f5, f6, f7⟩ := frz8 k2
 have hT : TurnF W2 (.agg #[.bool ps1, .slice pA1 pn1 pc1, .bool pt1, .slice pB1 pm1 pd1, .bool ps2, .slice pA2 pn2 pc2, .bool pt2, .slice pB2 pm2 pd2]) (0, 0) := .mk (hf1'.out.le hle2) hf2
 obtain ⟨W3, hW3, hle3, k3, hf3⟩ := qDI (hle'.out.trans (hle1'.out.trans hle2)) (Nat.le_refl _) k2 hT
 obtain ⟨d0, d1, d2, d3, d4, d5, d6, d7⟩ := qAB k3
 have ⟨hle2', hf2', k2', hT', hle3', k3', hf3'⟩ := hyd7 hle2 hf2 k2 hT hle3 k3 hf3
 clear hf3 k3 hle3 hT k2 hf2 hle2
 go_wp2
 exact bodyPost_ret (v := .agg #[.bool ps1, .slice pA1 pn1 pc1, .bool pt1, .slice pB1 pm1 pd1, .bool ps2, .slice pA2 pn2 pc2, .bool pt2, .slice pB2 pm2 pd2]) (by simp [results, Tryz.results61, go_sem, d0, d1, d2, d3, d4, d5, d6, d7]) rfl ⟨_, rfl, hle3'.out, hf3'.out⟩
theorem qIh {l : List ArmA} {u : FracA × FracA} (h : qAo l ≠ 0) : atV l u = .error (qAo l) := if_pos h
theorem qIi {l : List ArmA} {u : FracA × FracA} (h : qAo l = 0) (h1 : tval u = none) : atV l u = .error 10 := by unfold atV; rw [if_neg (by simpa using h), h1]
theorem qHI {l : List ArmA} {u : FracA × FracA} {g : G2} (h : qAo l = 0) (h1 : tval u = some g) (h2 : qAH g ≠ 1) : atV l u = .error 2 := by unfold atV; rw [if_neg (by simpa using h), h1]; exact if_neg h2
theorem qKm {l : List ArmA} {u : FracA × FracA} {g : G2} (h : qAo l = 0) (h1 : tval u = some g) (h2 : qAH g = 1) : atV l u = qAc u (0, 0) l := by unfold atV; rw [if_neg (by simpa using h), h1]; exact if_pos h2
theorem qFY (n : Nat) (h : 0 < n) : Rsz 1 n := by
 have h1 : rnum 1 = 1 := by decide +kernel
 have h2 : (1 : Rat).den = 1 := rfl
 unfold Rsz
 rw [h1, h2, qCU]
 exact ⟨h, h⟩
theorem qLf (l : List ArmA) (u : FracA × FracA) (v vu : Value) (w : World) (hv : ArmsL w v l) (hu : IsTurnA w vu u) (hz : ∀ g, tval u = some g → TSz g 2) :
  Calls Tryz.prog 6 #[v, vu] w (qAa (atV l u) w) := by
 obtain ⟨A, c, rfl, hlc, -⟩ := id hv
 have hu0 := hu
 obtain ⟨us1, uA1, un1, uc1, ut1, uB1, um1, ud1, us2, uA2, un2, uc2, ut2, uB2, um2, ud2, rfl⟩ := hu.form
 clear hu
 obtain ⟨W0, hW0, hsz, hle, k0, k4⟩ := qAQ w (.cells #[.bool us1, .slice uA1 un1 uc1, .bool ut1, .slice uB1 um1 ud1, .bool us2, .slice uA2 un2 uc2, .bool ut2, .slice uB2 um2 ud2] 29) (.cells qAb 29)
 have hchk := qEX l _ W0 (hv.le hle)
 have hlen := qDV l
 obtain ⟨E, hE⟩ : ∃ E, qAo l = E := ⟨_, rfl⟩
 rw [hE] at hchk
 clear hsz
 have hne1 : ¬ w.heap.size = w.heap.size + 1 := by omega
 have hne2 : ¬ w.heap.size + 1 = w.heap.size := by omega
 have ⟨hv', hu0', hz', hle', k0', k4', hchk', hE'⟩ := hyd8 hv hu0 hz hle k0 k4 hchk hE
 have hlen' := hyd1 hlen
 clear hlen hE hchk k4 k0 hle hz hu0 hv
 go_enter Tryz.func6, Tryz.ntmps6
 go_wp2_with (fail)
 clear hW0
 go_at_call 14
 refine hchk'.out.mono ?_
 rintro e W1 ⟨rfl, hle1⟩
 have hle01 := hle'.out.trans hle1
 have q4 := bxl hle1 k4'.out
 have q0 := bxl hle1 k0'.out
 by_cases hE0 : E = 0
 ·subst hE0
  obtain ⟨z0, z1, z2, z3, z4, z5, z6, z7⟩ := qAB q0
  have hct := qFJ u _ W1 (hu0'.out.le hle01)
  rcases qBV u with ⟨g, hg⟩ | hg
  ·rw [qI8 hg] at hct
   have ⟨hle1', hle01', q4', q0', hct'⟩ := hyd5 hle1 hle01 q4 q0 hct
   clear hct q0 q4 hle01 hle1
   go_wp2_with (fail)
   go_at_call 15
   refine hct'.out.mono ?_
   rintro e W2 ⟨rfl, hle2⟩
   have hle02 := hle01'.out.trans hle2
   have q40 := bxl hle2 q4'.out
   have q00 := bxl hle2 q0'.out
   clear z0 z1 z2 z3 z4 z5 z6 z7
   obtain ⟨z0, z1, z2, z3, z4, z5, z6, z7⟩ := qAB q00
   have hnorm := qLd u _ W2 (hu0'.out.le hle02)
   rw [qGX hg] at hnorm
   have ⟨hle2', hle02', q40', q00', hnorm', hg'⟩ := hyd6 hle2 hle02 q40 q00 hnorm hg
   clear hg hnorm q00 q40 hle02 hle2
   go_wp2_with (fail)
   go_at_call 16
   refine hnorm'.out.mono ?_
   rintro e W2b ⟨hle3, vn, cn, rfl, hrn⟩
   have hle03 := hle02'.out.trans hle3
   have q43 := bxl hle3 q40'.out
   have q03 := bxl hle3 q00'.out
   clear z0 z1 z2 z3 z4 z5 z6 z7
   by_cases hs : Rsz (qAH g) 40
   ·rw [qJO hs] at hrn
    obtain ⟨hfn, rfl⟩ := hrn
    obtain ⟨r1, r2, r3, r4, r5, r6, r7, r8, rfl⟩ := id hfn.fform
    obtain ⟨W4, hW4, hle4, kN⟩ := al1 W2b (.cells #[.bool r1, .slice r2 r3 r4, .bool r5, .slice r6 r7 r8] 27)
    have hone := fun (W : World) => qEg (fun _ => True) 1 W (Up.any _) (by decide) (by decide)
    rw [show ((1 : Int) : Rat) = 1 from rfl] at hone
    obtain ⟨cv, hcv⟩ : ∃ cv, rsgn (qAH g - 1) = cv := ⟨_, rfl⟩
    have hcz : cv = 0 ↔ qAH g - 1 = 0 := by rw [← hcv]; exact qEE
    have hcmp : ∀ (W : World) (v1 : Value), Le W4 W → qCk W v1 1 → Calls Tryz.prog 17 #[.agg #[.bool r1, .slice r2 r3 r4, .bool r5, .slice r6 r7 r8], v1] W fun e w' => e = .returned (.tuple #[.int .i64 cv, .int .i64 0]) ∧ Le W w' := fun W v1 h h1 => by
     have := qJt (qED (qAH g)) (qED 1) _ _ W ((hfn.le hle4).le h).isA h1.isA
     rw [qH0 (qD2 hs) (qD2 (qFY 40 (by decide))), qIU hs, qIU (qFY 40 (by decide)), hcv] at this
     exact this
    have hle04 := hle03.trans hle4
    have q44 := bxl hle4 q43
    have q04 := bxl hle4 q03
    have ⟨hle3', hle03', q43', q03', hs', hfn', hle4', kN'⟩ := hyd8 hle3 hle03 q43 q03 hs hfn hle4 kN
    have ⟨hone', hcv', hcz', hcmp', hle04', q44', q04'⟩ := hyd7 hone hcv hcz hcmp hle04 q44 q04
    clear q04 q44 hle04 hcmp hcz hcv hone kN hle4 hfn hs q03 q43 hle03 hle3
    go_wp2_with (fail)
    clear hW4
    refine qDz (R := leRel) 7 [some 33, some 34, some 35, some 32, some 36, some 37, some 10, some 11] [[], [], [0, 1], [2], [3], [3], [4], [5]]
     [.eq (.agg #[.bool r1, .slice r2 r3 r4, .bool r5, .slice r6 r7 r8]), MPred.frac (fun _ => True) 1, .eq (.tuple #[.int .i64 cv, .int .i64 0]), .eq (.tuple #[.int .i64 cv, .int .i64 0]), .eq (.int .i64 cv), .eq (.int .i64 0), .eq (.int .i64 cv)] (fun _ _ => False) (by kernel_rfl) (by kernel_rfl) (by kernel_rfl) (by kernel_rfl) (by kernel_rfl) ?_ (fun _ _ _ _ h => h.elim) ?_
    ·simp only [List.take_succ_cons, List.take_zero]
     refine sMc rfl ?_ (sMc rfl ?_ (sMc rfl ?_ (sMc rfl ?_ (sMc rfl ?_ (sMc rfl ?_ (sMc rfl ?_ (qBT)))))))
     ·intro xv W hR hf Q hK hP
      obtain ⟨z0, z1, z2, z3⟩ := qAM (bxl hR kN'.out)
      simp only [fA] at hK ⊢
      go_wp2
      exact hK _ _ lrR rfl
     ·intro xv W hR hf Q hK hP
      simp only [fA] at hK ⊢
      go_wp2_with (fail)
      go_at_call 18
      refine (hone'.out W).mono ?_
      rintro e w' ⟨v1, rfl, y1, y2⟩
      have y3 := y2
      obtain ⟨f1, f2, f3, f4, f5, f6, f7, f8, rfl⟩ := y2.fform
      have ⟨y2', y3'⟩ := hyd2 y2 y3
      clear y3 y2
      go_wp2
      exact hK _ _ y1 y3'.out
     ·intro xv W hR hf Q hK hP
      obtain ⟨e0, e1, -⟩ := hf
      change _ = _ at e0
      replace e1 : qCk W (xv 1) 1 := e1
      obtain ⟨f1, f2, f3, f4, f5, f6, f7, f8, qv⟩ := FracL.fform e1
      rw [qv] at e1
      have hc := hcmp'.out W _ hR e1
      have ⟨e1', hc'⟩ := hyd2 e1 hc
      clear hc e1
      simp only [fA, e0, qv] at hK ⊢
      clear qv
      go_wp2_with (fail)
      go_at_call 17
      refine hc'.out.mono ?_
      rintro e w' ⟨rfl, y1⟩
      have y1' := hyd1 y1
      clear y1
      go_wp2
      exact hK _ _ y1'.out rfl
     ·intro xv W hR hf Q hK hP
      obtain ⟨e0, -⟩ := hf
      change _ = _ at e0
      simp only [fA, e0] at hK ⊢
      go_wp2
      exact hK _ _ lrR rfl
     ·intro xv W hR hf Q hK hP
      obtain ⟨e0, -⟩ := hf
      change _ = _ at e0
      simp only [fA, e0] at hK ⊢
      go_wp2
      exact hK _ _ lrR rfl
     ·intro xv W hR hf Q hK hP
      obtain ⟨e0, -⟩ := hf
      change _ = _ at e0
      simp only [fA, e0] at hK ⊢
      go_wp2
      exact hK _ _ lrR rfl
     ·intro xv W hR hf Q hK hP
      obtain ⟨e0, -⟩ := hf
      change _ = _ at e0
      simp only [fA, e0] at hK ⊢
      go_wp2
      exact hK _ _ lrR rfl
    ·intro xv W3 hR hf Q' hQ1 _
     have e4 : xv 4 = .int .i64 cv := hf 4 (by decide)
     have e5 : xv 5 = .int .i64 0 := hf 5 (by decide)
     simp only [List.drop_succ_cons, List.drop_zero]
     have e6 : xv 6 = .int .i64 cv := hf 6 (by decide)
     rw [show List.range 7 = [0, 1, 2, 3, 4, 5, 6] from rfl]
     simp only [fA, e4, e5, e6]
     clear e4 e5 e6 hf
     have hR' := hyd1 hR
     clear hR
     go_wp2
     refine hQ1 _ _ ?_
     clear hQ1
     have hle05 := hle04'.out.trans hR'.out
     have q45 := bxl hR'.out q44'.out
     have q05 := bxl hR'.out q04'.out
     by_cases hc0 : cv = 0
     ·subst hc0
      have hg1 : qAH g = 1 := by have := hcz'.out.1 rfl; grind
      obtain ⟨z0, z1, z2, z3, z4, z5, z6, z7⟩ := qAB q05
      have hpl := qGe l u _ _ W3 (hv'.out.le hle05) (hu0'.out.le hle05) hz'.out (by rcases hlen'.out with ⟨-, h, -⟩ | ⟨h, -⟩; omega; exact absurd hE'.out h)
      have hres := qKm hE'.out hg'.out hg1
      have ⟨hle05', q45', q05', hpl', hres', hg1'⟩ := hyd6 hle05 q45 q05 hpl hres hg1
      clear hg1 hres hpl q05 q45 hle05
      go_wp2_with (fail)
      go_at_call 19
      refine hpl'.out.mono ?_
      rintro e W6 ⟨hle6, v6, c6, rfl, hr6⟩
      have hle06 := hle05'.out.trans hle6
      have q4 := bxl hle6 q45'.out
      clear z0 z1 z2 z3 z4 z5 z6 z7
      cases hP : qAc u (0, 0) l with
      | error z =>
       rw [hP] at hr6
       obtain ⟨rfl, rfl⟩ := hr6
       obtain ⟨gf0, gf1, gf2, gf3, gf4, gf5, gf6, gf7⟩ := qAB q4
       have ⟨f0, f1, f2, f3, f4, f5, f6, f7⟩ := frz8 q4
       obtain ⟨W9, hW9, hle9⟩ := qBA (k := w.heap.size + 1) hle06 (show w.heap.size ≤ w.heap.size + 1 by omega)
       have q9 : W9.heap[w.heap.size + 1]? = some (.cells qAb 29) := by rw [← hW9]; exact qAI q4 _ _ _ _ _ _ _ _
       obtain ⟨d0, d1, d2, d3, d4, d5, d6, d7⟩ := qAB q9
       have hres : atV l u = .error c6 := hres'.out.trans hP
       have ⟨q4', hle9', q9', hres'⟩ := hyd4 q4 hle9 q9 hres
       clear hres q9 hle9 q4
       go_wp2
       exact bodyPost_ret (v := .tuple #[.agg qAb, .int .i64 c6]) (by simp [results, Tryz.results6, go_sem, d0, d1, d2, d3, d4, d5, d6, d7]) rfl ⟨hle9'.out, _, _, rfl, by rw [hres'.out]; exact ⟨rfl, rfl⟩⟩
      | ok sg =>
       rw [hP] at hr6
       obtain ⟨hf6, rfl⟩ := hr6
       obtain ⟨xs1, xA1, xn1, xc1, xt1, xB1, xm1, xd1, xs2, xA2, xn2, xc2, xt2, xB2, xm2, xd2, rfl⟩ := id hf6.aform
       obtain ⟨gf0, gf1, gf2, gf3, gf4, gf5, gf6, gf7⟩ := qAB q4
       have ⟨f0, f1, f2, f3, f4, f5, f6, f7⟩ := frz8 q4
       obtain ⟨W9, hW9, hle9, k9, hf9⟩ := qDI hle06 (show w.heap.size ≤ w.heap.size + 1 by omega) q4 hf6
       obtain ⟨d0, d1, d2, d3, d4, d5, d6, d7⟩ := qAB k9
       have hres2 : atV l u = .ok sg := hres'.out.trans hP
       have ⟨hle6', hle06', q4', hf6', hle9', k9', hf9', hres2'⟩ := hyd8 hle6 hle06 q4 hf6 hle9 k9 hf9 hres2
       have hP' := hyd1 hP
       clear hP hres2 hf9 k9 hle9 hf6 q4 hle06 hle6
       go_wp2
       exact bodyPost_ret (v := .tuple #[.agg #[.bool xs1, .slice xA1 xn1 xc1, .bool xt1, .slice xB1 xm1 xd1, .bool xs2, .slice xA2 xn2 xc2, .bool xt2, .slice xB2 xm2 xd2], .int .i64 0]) (by simp [results, Tryz.results6, go_sem, d0, d1, d2, d3, d4, d5, d6, d7]) rfl ⟨hle9'.out, _, _, rfl, by rw [hres2'.out]; exact ⟨hf9'.out, rfl⟩⟩
     ·have q4 := q45
      obtain ⟨gf0, gf1, gf2, gf3, gf4, gf5, gf6, gf7⟩ := qAB q4
      have ⟨f0, f1, f2, f3, f4, f5, f6, f7⟩ := frz8 q4
      obtain ⟨W9, hW9, hle9⟩ := qBA (k := w.heap.size + 1) hle05 (show w.heap.size ≤ w.heap.size + 1 by omega)
      have q9 : W9.heap[w.heap.size + 1]? = some (.cells qAb 29) := by rw [← hW9]; exact qAI q4 _ _ _ _ _ _ _ _
      obtain ⟨d0, d1, d2, d3, d4, d5, d6, d7⟩ := qAB q9
      have hres : atV l u = .error 2 := qHI hE'.out hg'.out (fun h => hc0 (hcz'.out.2 (by rw [h]; exact Rat.sub_self)))
      have ⟨q4', hle9', q9', hres'⟩ := hyd4 q4 hle9 q9 hres
      clear hres q9 hle9 q4
      go_wp2
      exact bodyPost_ret (v := .tuple #[.agg qAb, .int .i64 2]) (by simp [results, Tryz.results6, go_sem, d0, d1, d2, d3, d4, d5, d6, d7]) rfl ⟨hle9'.out, _, _, rfl, by rw [hres'.out]; exact ⟨rfl, rfl⟩⟩
   ·rw [qJP hs] at hrn
    obtain ⟨hz9, rfl⟩ := hrn
    have hz8 : vn = .agg #[.bool false, .slice none 0 0, .bool false, .slice none 0 0] := hz9
    clear hz9
    subst hz8
    obtain ⟨W4, hW4, hle4, kN⟩ := al1 W2b (.cells #[.bool false, .slice none 0 0, .bool false, .slice none 0 0] 27)
    obtain ⟨z0, z1, z2, z3⟩ := qAM kN
    have ⟨y0, y1, y2, y3⟩ := frz4 kN
    have hsn := hle03.size
    obtain ⟨W5, hW5, hle05, q4⟩ : ∃ W5, ((((W4.setCell ⟨W2b.heap.size, 0, none⟩ (.bool false)).setCell ⟨W2b.heap.size, 1, none⟩ (.slice none 0 0)).setCell ⟨W2b.heap.size, 2, none⟩ (.bool false)).setCell ⟨W2b.heap.size, 3, none⟩ (.slice none 0 0)) = W5 ∧ Le w W5 ∧ W5.heap[w.heap.size + 1]? = some (.cells qAb 29) :=
     ⟨_, rfl, qCM (hle03.trans hle4) hsn, ((qEd W4 W2b.heap.size _ _ _ _).2.1 _ (by have := (gsl q43); omega)).trans (bxl hle4 q43)⟩
    clear q43
    have ⟨hle3', hle03', q03', hle4', kN', hs', hle05'⟩ := hyd7 hle3 hle03 q03 hle4 kN hs hle05
    clear hle05 hs kN hle4 q03 hle03 hle3
    obtain ⟨gf0, gf1, gf2, gf3, gf4, gf5, gf6, gf7⟩ := qAB q4
    have ⟨f0, f1, f2, f3, f4, f5, f6, f7⟩ := frz8 q4
    obtain ⟨W9, hW9, hle9⟩ := qBA (k := w.heap.size + 1) hle05'.out (show w.heap.size ≤ w.heap.size + 1 by omega)
    have q9 : W9.heap[w.heap.size + 1]? = some (.cells qAb 29) := by rw [← hW9]; exact qAI q4 _ _ _ _ _ _ _ _
    obtain ⟨d0, d1, d2, d3, d4, d5, d6, d7⟩ := qAB q9
    have hres : atV l u = .error 2 := qHI hE'.out hg'.out (fun h => hs'.out (by rw [h]; exact qFY 40 (by decide)))
    have ⟨q4', hle9', q9', hres'⟩ := hyd4 q4 hle9 q9 hres
    clear hres q9 hle9 q4
    go_wp2
    exact bodyPost_ret (v := .tuple #[.agg qAb, .int .i64 2]) (by simp [results, Tryz.results6, go_sem, d0, d1, d2, d3, d4, d5, d6, d7]) rfl ⟨hle9'.out, _, _, rfl, by rw [hres'.out]; exact ⟨rfl, rfl⟩⟩
  ·rw [qGB hg] at hct
   have ⟨hle1', hle01', q4', q0', hct', hg'⟩ := hyd6 hle1 hle01 q4 q0 hct hg
   clear hg hct q0 q4 hle01 hle1
   go_wp2_with (fail)
   go_at_call 15
   refine hct'.out.mono ?_
   rintro e W2 ⟨rfl, hle2⟩
   have hle02 := hle01'.out.trans hle2
   have q4 := bxl hle2 q4'.out
   clear z0 z1 z2 z3 z4 z5 z6 z7
   obtain ⟨gf0, gf1, gf2, gf3, gf4, gf5, gf6, gf7⟩ := qAB q4
   have ⟨f0, f1, f2, f3, f4, f5, f6, f7⟩ := frz8 q4
   obtain ⟨W9, hW9, hle9⟩ := qBA (k := w.heap.size + 1) hle02 (show w.heap.size ≤ w.heap.size + 1 by omega)
   have q9 : W9.heap[w.heap.size + 1]? = some (.cells qAb 29) := by rw [← hW9]; exact qAI q4 _ _ _ _ _ _ _ _
   obtain ⟨d0, d1, d2, d3, d4, d5, d6, d7⟩ := qAB q9
   have hres : atV l u = .error 10 := qIi hE'.out hg'.out
   have ⟨q4', hle9', q9', hres'⟩ := hyd4 q4 hle9 q9 hres
   clear hres q9 hle9 q4
   go_wp2
   exact bodyPost_ret (v := .tuple #[.agg qAb, .int .i64 10]) (by simp [results, Tryz.results6, go_sem, d0, d1, d2, d3, d4, d5, d6, d7]) rfl ⟨hle9'.out, _, _, rfl, by rw [hres'.out]; exact ⟨rfl, rfl⟩⟩
 ·have hE1 : qAo l ≠ 0 := by rw [hE'.out]; exact hE0
  obtain ⟨gf0, gf1, gf2, gf3, gf4, gf5, gf6, gf7⟩ := qAB q4
  have ⟨f0, f1, f2, f3, f4, f5, f6, f7⟩ := frz8 q4
  obtain ⟨W9, hW9, hle9⟩ := qBA (k := w.heap.size + 1) hle01 (show w.heap.size ≤ w.heap.size + 1 by omega)
  have q9 : W9.heap[w.heap.size + 1]? = some (.cells qAb 29) := by rw [← hW9]; exact qAI q4 _ _ _ _ _ _ _ _
  obtain ⟨d0, d1, d2, d3, d4, d5, d6, d7⟩ := qAB q9
  have hres : atV l u = .error E := by rw [qIh hE1, hE'.out]
  have ⟨q4', hle9', q9', hres'⟩ := hyd4 q4 hle9 q9 hres
  clear hres q9 hle9 q4
  go_wp2
  exact bodyPost_ret (v := .tuple #[.agg qAb, .int .i64 E]) (by simp [results, Tryz.results6, go_sem, d0, d1, d2, d3, d4, d5, d6, d7]) rfl ⟨hle9'.out, _, _, rfl, by rw [hres'.out]; exact ⟨rfl, rfl⟩⟩
end Go.Proofs.YtlhfonhbbpbmpaaGreat

