/- barleycornref02.At: the place of a path at a point of the circle. -/
import Derived.Test.YtlhfonhbbpbmpaaGreatPlaceB
import Derived.Test.YtlhfonhbbpbmpaaGreatPlaceE
namespace Go.Proofs.YtlhfonhbbpbmpaaGreat
set_option maxRecDepth 100000
set_option maxHeartbeats 2000000
open Go.RowKit Go.Shelf
set_option linter.unusedVariables false
set_option linter.unusedSimpArgs false
theorem qLg (l : List ArmA) (u : FracA × FracA) (v vu : Value) (w : World) (hv : ArmsL w v l) (hu : IsTurnA w vu u) (hz : ∀ g, tval u = some g → TSz g 2) :
  Calls Tryz.prog 7 #[v, vu] w (qAa (atV l u) w) := by
 obtain ⟨A, c, rfl, hlc, -⟩ := id hv
 have hu0 := hu
 obtain ⟨us1, uA1, un1, uc1, ut1, uB1, um1, ud1, us2, uA2, un2, uc2, ut2, uB2, um2, ud2, rfl⟩ := hu.form
 clear hu
 obtain ⟨W0, hW0, hsz, hle, k0, k4⟩ := qAQ w (.cells #[.bool us1, .slice uA1 un1 uc1, .bool ut1, .slice uB1 um1 ud1, .bool us2, .slice uA2 un2 uc2, .bool ut2, .slice uB2 um2 ud2] 29) (.cells qAb 29)
 have hchk := qE0 l _ W0 (hv.le hle)
 have hlen := qDV l
 obtain ⟨E, hE⟩ : ∃ E, qAo l = E := ⟨_, rfl⟩
 rw [hE] at hchk
 clear hsz
 have hne1 : ¬ w.heap.size = w.heap.size + 1 := by omega
 have hne2 : ¬ w.heap.size + 1 = w.heap.size := by omega
 have ⟨hv', hu0', hz', hle', k0', k4', hchk', hE'⟩ := hyd8 hv hu0 hz hle k0 k4 hchk hE
 have hlen' := hyd1 hlen
 clear hlen hE hchk k4 k0 hle hz hu0 hv
 go_enter Tryz.func7, Tryz.ntmps7
 go_wp2_with (fail)
 clear hW0
 go_at_call 20
 refine hchk'.out.mono ?_
 rintro e W1 ⟨rfl, hle1⟩
 have hle01 := hle'.out.trans hle1
 have q4 := bxl hle1 k4'.out
 have q0 := bxl hle1 k0'.out
 by_cases hE0 : E = 0
 ·subst hE0
  obtain ⟨z0, z1, z2, z3, z4, z5, z6, z7⟩ := qAB q0
  have hin := qBI u _ W1 (hu0'.out.le hle01)
  have ⟨hle1', hle01', q4', q0', hin'⟩ := hyd5 hle1 hle01 q4 q0 hin
  clear hin q0 q4 hle01 hle1
  go_wp2_with (fail)
  go_at_call 21
  refine hin'.out.mono ?_
  rintro e W2 ⟨hle2, vi, rfl, hci⟩
  obtain ⟨is1, iA1, in1, ic1, iB1, im1, id1, is2, iA2, in2, ic2, iB2, im2, id2, rfl⟩ := id hci.1
  obtain ⟨W3, hW3, hle3, k3⟩ := al1 W2 (.cells #[.bool is1, .slice iA1 in1 ic1, .slice iB1 im1 id1, .bool is2, .slice iA2 in2 ic2, .slice iB2 im2 id2] 61)
  have hle03 := (hle01'.out.trans hle2).trans hle3
  have q43 := bxl (hle2.trans hle3) q4'.out
  have q03 := bxl (hle2.trans hle3) q0'.out
  clear z0 z1 z2 z3 z4 z5 z6 z7
  obtain ⟨z0, z1, z2, z3, z4, z5, z6, z7⟩ := qAB q03
  rcases qBV u with ⟨g, hg⟩ | hg
  ·have hsm : (tval u).isSome = true := by rw [hg]; rfl
   rw [hsm]
   obtain ⟨i0, i1, i2, i3, i4, i5⟩ := qAC k3
   have hti := (hci.2 g hg).le hle3
   have hg2 := hz'.out g hg
   have hsq := qF9 g _ W3 hti (hg2.up (by decide))
   have ⟨hle2', hci', hle3', k3', hle03', q43', q03', hg'⟩ := hyd8 hle2 hci hle3 k3 hle03 q43 q03 hg
   have ⟨hsm', hti', hg2', hsq'⟩ := hyd4 hsm hti hg2 hsq
   clear hsq hg2 hti hsm hg q03 q43 hle03 k3 hle3 hci hle2
   go_wp2_with (fail)
   clear hW3
   go_at_call 24
   refine hsq'.out.mono ?_
   rintro e W4 ⟨v4, rfl, hle4, hr4⟩
   have hr40 := hr4
   obtain ⟨ps1, pA1, pn1, pc1, pA2, pn2, pc2, rfl⟩ := hr4.qform
   have ⟨hle4', hr4', hr40'⟩ := hyd3 hle4 hr4 hr40
   clear hr40 hr4 hle4
   go_wp2_with (fail)
   go_at_call 25
   refine (qDO (fun _ => True) 1 W4 (Up.any _) (by decide) (by decide)).mono ?_
   rintro e W5 ⟨v5, rfl, hle5, hr5⟩
   have hord := qJj (fun _ => True) (qAH g) 1 _ _ W5 (Up.any _) (hr40'.out.le hle5) hr5 (qEc hg2'.out (by decide)) ((qFY 1 (by decide)).up (by decide))
   obtain ⟨cv, hcv⟩ : ∃ cv, rsgn (qAH g - 1) = cv := ⟨_, rfl⟩
   have hcz : cv = 0 ↔ qAH g - 1 = 0 := by rw [← hcv]; exact qEE
   rw [hcv] at hord
   have hr50 := hr5
   obtain ⟨ps3, pA3, pn3, pc3, pA4, pn4, pc4, rfl⟩ := hr5.qform
   have ⟨hle5', hr5', hr50', hord', hcv', hcz'⟩ := hyd6 hle5 hr5 hr50 hord hcv hcz
   clear hcz hcv hord hr50 hr5 hle5
   go_wp2_with (fail)
   go_at_call 23
   refine hord'.out.mono ?_
   rintro e W6 ⟨rfl, hle6⟩
   have hle36 := (hle4'.out.trans hle5'.out).trans hle6
   have hle06 := hle03'.out.trans hle36
   have q46 := bxl hle36 q43'.out
   have q06 := bxl hle36 q03'.out
   clear z0 z1 z2 z3 z4 z5 z6 z7
   by_cases hc0 : cv = 0
   ·subst hc0
    have hg1 : qAH g = 1 := by have := hcz'.out.1 rfl; grind
    obtain ⟨z0, z1, z2, z3, z4, z5, z6, z7⟩ := qAB q06
    have hpl := qJX l u _ _ W6 (hv'.out.le hle06) (hu0'.out.le hle06) hz'.out (by rcases hlen'.out with ⟨-, h, -⟩ | ⟨h, -⟩; omega; exact absurd hE'.out h)
    have hres := qKm hE'.out hg'.out hg1
    have ⟨hle6', hle36', hle06', q46', q06', hpl', hres', hg1'⟩ := hyd8 hle6 hle36 hle06 q46 q06 hpl hres hg1
    clear hg1 hres hpl q06 q46 hle06 hle36 hle6
    go_wp2_with (fail)
    go_at_call 26
    refine hpl'.out.mono ?_
    rintro e W7 ⟨hle7, v6, c6, rfl, hr6⟩
    have hle07 := hle06'.out.trans hle7
    have q4 := bxl hle7 q46'.out
    clear z0 z1 z2 z3 z4 z5 z6 z7
    cases hP : qAc u (0, 0) l with
    | error z =>
     rw [hP] at hr6
     obtain ⟨rfl, rfl⟩ := hr6
     obtain ⟨gf0, gf1, gf2, gf3, gf4, gf5, gf6, gf7⟩ := qAB q4
     have ⟨f0, f1, f2, f3, f4, f5, f6, f7⟩ := frz8 q4
     obtain ⟨W9, hW9, hle9⟩ := qBA (k := w.heap.size + 1) hle07 (show w.heap.size ≤ w.heap.size + 1 by omega)
     have q9 : W9.heap[w.heap.size + 1]? = some (.cells qAb 29) := by rw [← hW9]; exact qAI q4 _ _ _ _ _ _ _ _
     obtain ⟨d0, d1, d2, d3, d4, d5, d6, d7⟩ := qAB q9
     have hres : atV l u = .error c6 := hres'.out.trans hP
     have ⟨q4', hle9', q9', hres'⟩ := hyd4 q4 hle9 q9 hres
     clear hres q9 hle9 q4
     go_wp2
     exact bodyPost_ret (v := .tuple #[.agg qAb, .int .i64 c6]) (by simp [results, Tryz.results7, go_sem, d0, d1, d2, d3, d4, d5, d6, d7]) rfl ⟨hle9'.out, _, _, rfl, by rw [hres'.out]; exact ⟨rfl, rfl⟩⟩
    | ok sg =>
     rw [hP] at hr6
     obtain ⟨hf6, rfl⟩ := hr6
     obtain ⟨xs1, xA1, xn1, xc1, xt1, xB1, xm1, xd1, xs2, xA2, xn2, xc2, xt2, xB2, xm2, xd2, rfl⟩ := id hf6.aform
     obtain ⟨gf0, gf1, gf2, gf3, gf4, gf5, gf6, gf7⟩ := qAB q4
     have ⟨f0, f1, f2, f3, f4, f5, f6, f7⟩ := frz8 q4
     obtain ⟨W9, hW9, hle9, k9, hf9⟩ := qDI hle07 (show w.heap.size ≤ w.heap.size + 1 by omega) q4 hf6
     obtain ⟨d0, d1, d2, d3, d4, d5, d6, d7⟩ := qAB k9
     have hres2 : atV l u = .ok sg := hres'.out.trans hP
     have ⟨hle7', hle07', q4', hf6', hle9', k9', hf9', hres2'⟩ := hyd8 hle7 hle07 q4 hf6 hle9 k9 hf9 hres2
     have hP' := hyd1 hP
     clear hP hres2 hf9 k9 hle9 hf6 q4 hle07 hle7
     go_wp2
     exact bodyPost_ret (v := .tuple #[.agg #[.bool xs1, .slice xA1 xn1 xc1, .bool xt1, .slice xB1 xm1 xd1, .bool xs2, .slice xA2 xn2 xc2, .bool xt2, .slice xB2 xm2 xd2], .int .i64 0]) (by simp [results, Tryz.results7, go_sem, d0, d1, d2, d3, d4, d5, d6, d7]) rfl ⟨hle9'.out, _, _, rfl, by rw [hres2'.out]; exact ⟨hf9'.out, rfl⟩⟩
   ·have q4 := q46
    obtain ⟨gf0, gf1, gf2, gf3, gf4, gf5, gf6, gf7⟩ := qAB q4
    have ⟨f0, f1, f2, f3, f4, f5, f6, f7⟩ := frz8 q4
    obtain ⟨W9, hW9, hle9⟩ := qBA (k := w.heap.size + 1) hle06 (show w.heap.size ≤ w.heap.size + 1 by omega)
    have q9 : W9.heap[w.heap.size + 1]? = some (.cells qAb 29) := by rw [← hW9]; exact qAI q4 _ _ _ _ _ _ _ _
    obtain ⟨d0, d1, d2, d3, d4, d5, d6, d7⟩ := qAB q9
    have hres : atV l u = .error 2 := qHI hE'.out hg'.out (fun h => hc0 (hcz'.out.2 (by rw [h]; exact Rat.sub_self)))
    have ⟨q4', hle9', q9', hres'⟩ := hyd4 q4 hle9 q9 hres
    clear hres q9 hle9 q4
    go_wp2
    exact bodyPost_ret (v := .tuple #[.agg qAb, .int .i64 2]) (by simp [results, Tryz.results7, go_sem, d0, d1, d2, d3, d4, d5, d6, d7]) rfl ⟨hle9'.out, _, _, rfl, by rw [hres'.out]; exact ⟨rfl, rfl⟩⟩
  ·have hsm : (tval u).isSome = false := by rw [hg]; rfl
   rw [hsm]
   have hct := qHH u _ W3 (hu0'.out.le hle03)
   rw [qGB hg] at hct
   have ⟨hle2', hci', hle3', k3', hle03', q43', q03', hg'⟩ := hyd8 hle2 hci hle3 k3 hle03 q43 q03 hg
   have ⟨hsm', hct'⟩ := hyd2 hsm hct
   clear hct hsm hg q03 q43 hle03 k3 hle3 hci hle2
   go_wp2_with (fail)
   clear hW3
   go_at_call 22
   refine hct'.out.mono ?_
   rintro e W4 ⟨rfl, hle4⟩
   have hle04 := hle03'.out.trans hle4
   have q4 := bxl hle4 q43'.out
   clear z0 z1 z2 z3 z4 z5 z6 z7
   obtain ⟨gf0, gf1, gf2, gf3, gf4, gf5, gf6, gf7⟩ := qAB q4
   have ⟨f0, f1, f2, f3, f4, f5, f6, f7⟩ := frz8 q4
   obtain ⟨W9, hW9, hle9⟩ := qBA (k := w.heap.size + 1) hle04 (show w.heap.size ≤ w.heap.size + 1 by omega)
   have q9 : W9.heap[w.heap.size + 1]? = some (.cells qAb 29) := by rw [← hW9]; exact qAI q4 _ _ _ _ _ _ _ _
   obtain ⟨d0, d1, d2, d3, d4, d5, d6, d7⟩ := qAB q9
   have hres : atV l u = .error 10 := qIi hE'.out hg'.out
   have ⟨q4', hle9', q9', hres'⟩ := hyd4 q4 hle9 q9 hres
   clear hres q9 hle9 q4
   go_wp2
   exact bodyPost_ret (v := .tuple #[.agg qAb, .int .i64 10]) (by simp [results, Tryz.results7, go_sem, d0, d1, d2, d3, d4, d5, d6, d7]) rfl ⟨hle9'.out, _, _, rfl, by rw [hres'.out]; exact ⟨rfl, rfl⟩⟩
 ·have hE1 : qAo l ≠ 0 := by rw [hE'.out]; exact hE0
  obtain ⟨gf0, gf1, gf2, gf3, gf4, gf5, gf6, gf7⟩ := qAB q4
  have ⟨f0, f1, f2, f3, f4, f5, f6, f7⟩ := frz8 q4
  obtain ⟨W9, hW9, hle9⟩ := qBA (k := w.heap.size + 1) hle01 (show w.heap.size ≤ w.heap.size + 1 by omega)
  have q9 : W9.heap[w.heap.size + 1]? = some (.cells qAb 29) := by rw [← hW9]; exact qAI q4 _ _ _ _ _ _ _ _
  obtain ⟨d0, d1, d2, d3, d4, d5, d6, d7⟩ := qAB q9
  have hres : atV l u = .error E := by rw [qIh hE1, hE'.out]
  have ⟨q4', hle9', q9', hres'⟩ := hyd4 q4 hle9 q9 hres
  clear hres q9 hle9 q4
  go_wp2
  exact bodyPost_ret (v := .tuple #[.agg qAb, .int .i64 E]) (by simp [results, Tryz.results7, go_sem, d0, d1, d2, d3, d4, d5, d6, d7]) rfl ⟨hle9'.out, _, _, rfl, by rw [hres'.out]; exact ⟨rfl, rfl⟩⟩
end Go.Proofs.YtlhfonhbbpbmpaaGreat

