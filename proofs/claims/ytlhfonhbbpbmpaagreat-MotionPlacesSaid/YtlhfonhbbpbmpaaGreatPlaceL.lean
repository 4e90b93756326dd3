/- The law MotionPlaces: it returns true. -/
import Derived.Test.YtlhfonhbbpbmpaaGreatPlaceI
import Derived.Test.YtlhfonhbbpbmpaaGreatPlaceF
import Derived.Test.YtlhfonhbbpbmpaaGreatPlaceP
namespace Go.Proofs.YtlhfonhbbpbmpaaGreat
set_option maxRecDepth 100000
set_option maxHeartbeats 2000000
open Go.RowKit Go.Shelf
set_option linter.unusedVariables false
set_option linter.unusedSimpArgs false
theorem qKD (x : FracA × FracA) : qGY x x = true := by unfold qGY; rw [qGT, qGT]; rfl
theorem qGk (w : World) : SpotsV w (.slice none 0 0) [] := ⟨none, 0, rfl, by decide, fun h => absurd h (Nat.lt_irrefl 0)⟩
theorem law_MotionPlaces (a0 : List ArmA) (x0 : Value) (a1 : FracA × FracA) (x1 : Value) (a2 : Int) (w : World) (w0 : ArmsL w x0 a0) (w1 : IsTurnA w x1 a1) (w2 : (Lit.int .i64 a2).wf = true) :
  Calls Tryz.prog 3 #[x0, x1, .int .i64 a2] w fun e w' => e = .returned (.bool true) ∧ Below w.heap.size w w' := by
 obtain ⟨A, c, rfl, hlc, -⟩ := id w0
 have hu0 := w1
 obtain ⟨us1, uA1, un1, uc1, ut1, uB1, um1, ud1, us2, uA2, un2, uc2, ut2, uB2, um2, ud2, rfl⟩ := w1.form
 clear w1 w2
 obtain ⟨W0, hW0, hle, k0⟩ := al1 w (.cells #[.bool us1, .slice uA1 un1 uc1, .bool ut1, .slice uB1 um1 ud1, .bool us2, .slice uA2 un2 uc2, .bool ut2, .slice uB2 um2 ud2] 29)
 have hg : Calls Tryz.prog 4 #[.slice A a0.length c, .int .i64 8, .int .i64 2, .int .i64 64] W0 fun e w' => e = .returned (.bool (qD5 a0 8 2 64)) ∧ Le W0 w' := qJD a0 8 2 64 _ W0 (w0.le hle) (by omega) (by omega) (by omega)
 obtain ⟨G, hG⟩ : ∃ G, qD5 a0 8 2 64 = G := ⟨_, rfl⟩
 rw [hG] at hg
 have ⟨w0', hu0', hle', k0', hg', hG'⟩ := hyd6 w0 hu0 hle k0 hg hG
 clear hG hg k0 hle hu0 w0
 go_enter Tryz.func3, Tryz.ntmps3
 go_wp2_with (fail)
 clear hW0
 go_at_call 4
 refine hg'.out.mono ?_
 rintro e W1 ⟨rfl, hle1⟩
 have hle01 := hle'.out.trans hle1
 have k1 := bxl hle1 k0'.out
 cases G with
 | true =>
  have ⟨hle1', hle01', k1'⟩ := hyd3 hle1 hle01 k1
  clear k1 hle01 hle1
  go_wp2
  exact bodyPost_ret (v := .bool true) (by simp [results, Tryz.results3, go_sem]) rfl ⟨rfl, hle01'.out⟩
 | false =>
  obtain ⟨z0, z1, z2, z3, z4, z5, z6, z7⟩ := qAB k1
  have hgt := qEZ a1 1 _ W1 (by decide) (hu0'.out.le hle01)
  obtain ⟨T, hT⟩ : ∃ G, qD3 a1 1 = G := ⟨_, rfl⟩
  rw [hT] at hgt
  have ⟨hle1', hle01', k1', hgt', hT'⟩ := hyd5 hle1 hle01 k1 hgt hT
  clear hT hgt k1 hle01 hle1
  go_wp2_with (fail)
  go_at_call 5
  refine hgt'.out.mono ?_
  rintro e W2 ⟨rfl, hle2⟩
  have hle02 := hle01'.out.trans hle2
  have k2 := bxl hle2 k1'.out
  clear z0 z1 z2 z3 z4 z5 z6 z7
  cases T with
  | true =>
   have ⟨hle2', hle02', k2'⟩ := hyd3 hle2 hle02 k2
   clear k2 hle02 hle2
   go_wp2
   exact bodyPost_ret (v := .bool true) (by simp [results, Tryz.results3, go_sem]) rfl ⟨rfl, hle02'.out⟩
  | false =>
   have hz : ∀ g, tval a1 = some g → TSz g 2 := fun g hg => qKA hT'.out hg
   obtain ⟨z0, z1, z2, z3, z4, z5, z6, z7⟩ := qAB k2
   have hat := qLf a0 a1 _ _ W2 (w0'.out.le hle02) (hu0'.out.le hle02) hz
   have ⟨hle2', hle02', k2', hz', hat'⟩ := hyd5 hle2 hle02 k2 hz hat
   clear hat hz k2 hle02 hle2
   go_wp2_with (fail)
   go_at_call 6
   refine hat'.out.mono ?_
   rintro e W3 ⟨hle3, v3, c3, rfl, hr3⟩
   have hA3 := hr3.isAV
   have hc3 := hr3.codeG
   clear z0 z1 z2 z3 z4 z5 z6 z7
   obtain ⟨xs1, xA1, xn1, xc1, xt1, xB1, xm1, xd1, xs2, xA2, xn2, xc2, xt2, xB2, xm2, xd2, rfl⟩ := hr3.form
   obtain ⟨W4, hW4, hleW4, kx⟩ := al1 W3 (.cells #[.bool xs1, .slice xA1 xn1 xc1, .bool xt1, .slice xB1 xm1 xd1, .bool xs2, .slice xA2 xn2 xc2, .bool xt2, .slice xB2 xm2 xd2] 29)
   have hle04 := hle02'.out.trans (hle3.trans hleW4)
   have k4 := bxl (hle3.trans hleW4) k2'.out
   obtain ⟨z0, z1, z2, z3, z4, z5, z6, z7⟩ := qAB k4
   have hat := qLg a0 a1 _ _ W4 (w0'.out.le hle04) (hu0'.out.le hle04) hz'.out
   have hA4 := hA3.le hleW4
   have ⟨hle3', hr3', hA3', hc3', hleW4', kx', hle04', k4'⟩ := hyd8 hle3 hr3 hA3 hc3 hleW4 kx hle04 k4
   have ⟨hat', hA4'⟩ := hyd2 hat hA4
   clear hA4 hat k4 hle04 kx hleW4 hc3 hA3 hr3 hle3
   go_wp2_with (fail)
   clear hW4
   go_at_call 7
   refine hat'.out.mono ?_
   rintro e W5 ⟨hle5, v5, c5, rfl, hr5⟩
   have hA5 := hr5.isAV
   have hc5 := hr5.codeG
   clear z0 z1 z2 z3 z4 z5 z6 z7
   obtain ⟨ys1, yA1, yn1, yc1, yt1, yB1, ym1, yd1, ys2, yA2, yn2, yc2, yt2, yB2, ym2, yd2, rfl⟩ := hr5.form
   obtain ⟨W6, hW6, hleW6, ky⟩ := al1 W5 (.cells #[.bool ys1, .slice yA1 yn1 yc1, .bool yt1, .slice yB1 ym1 yd1, .bool ys2, .slice yA2 yn2 yc2, .bool yt2, .slice yB2 ym2 yd2] 29)
   have hle46 := hle5.trans hleW6
   have hle06 := hle04'.out.trans hle46
   have hpt := qJF a0 a2 _ W6 (w0'.out.le hle06)
   have hA6 := hA5.le hleW6
   have kx6 := bxl hle46 kx'.out
   have hA46 := hA4'.out.le hle46
   have ⟨hle5', hr5', hA5', hc5', hleW6', ky', hle46', hle06'⟩ := hyd8 hle5 hr5 hA5 hc5 hleW6 ky hle46 hle06
   have ⟨hpt', hA6', kx6', hA46'⟩ := hyd4 hpt hA6 kx6 hA46
   clear hA46 kx6 hA6 hpt hle06 hle46 ky hleW6 hc5 hA5 hr5 hle5
   go_wp2_with (fail)
   clear hW6
   go_at_call 8
   refine hpt'.out.mono ?_
   rintro e W7 ⟨hle7, v7, c7, rfl, hr7⟩
   have hle07 := hle06'.out.trans hle7
   have hpt := qJG a0 a2 _ W7 (w0'.out.le hle07)
   have ⟨hle7', hr7', hle07', hpt'⟩ := hyd4 hle7 hr7 hle07 hpt
   clear hpt hle07 hr7 hle7
   go_wp2_with (fail)
   go_at_call 9
   refine hpt'.out.mono ?_
   rintro e W8 ⟨hle8, v8, c8, rfl, hr8⟩
   have hle08 := hle07'.out.trans hle8
   have hle68 := hle7'.out.trans hle8
   obtain ⟨L, hL7, hL8, h78⟩ : ∃ L, SpotsV W8 v7 L ∧ SpotsV W8 v8 L ∧ c7 = c8 := by
    have h7 := hr7'.out
    cases hP : qAy a0 a2 with
    | ok L => rw [hP] at h7 hr8; exact ⟨L, h7.1.le hle8, hr8.1, h7.2.trans hr8.2.symm⟩
    | error z =>
     rw [hP] at h7 hr8
     obtain ⟨rfl, rfl⟩ := h7
     obtain ⟨rfl, h9⟩ := hr8
     exact ⟨[], qGk _, qGk _, h9.symm⟩
   subst h78
   have kx8 := bxl hle68 kx6'.out
   have ky8 := bxl hle68 ky'.out
   obtain ⟨z0, z1, z2, z3, z4, z5, z6, z7⟩ := qAB kx8
   obtain ⟨g0, g1, g2, g3, g4, g5, g6, g7⟩ := qAB ky8
   have hst := qHp _ _ _ _ W8 (hA46'.out.le hle68) (hA6'.out.le hle68)
   rw [qKD] at hst
   have hcc : c3 = c5 := hc3'.out.trans hc5'.out.symm
   subst hcc
   have ⟨hle8', hr8', hle08', hle68', hL7', hL8', kx8', ky8'⟩ := hyd8 hle8 hr8 hle08 hle68 hL7 hL8 kx8 ky8
   have hst' := hyd1 hst
   clear hst ky8 kx8 hL8 hL7 hle68 hle08 hr8 hle8
   go_wp2_with (fail)
   go_at_call 10
   refine hst'.out.mono ?_
   rintro e W9 ⟨rfl, hle9⟩
   have hle09 := hle08'.out.trans hle9
   have hss := qHJ L v7 v8 W9 (hL7'.out.le hle9) (hL8'.out.le hle9)
   clear z0 z1 z2 z3 z4 z5 z6 z7 g0 g1 g2 g3 g4 g5 g6 g7
   have ⟨hle9', hle09', hss'⟩ := hyd3 hle9 hle09 hss
   clear hss hle09 hle9
   go_wp2_with (fail)
   go_at_call 11
   refine hss'.out.mono ?_
   rintro e W10 ⟨rfl, n, rfl⟩
   have hleE := hle09'.out.trans (Le.quiet (w := W9) n)
   have hleE' := hyd1 hleE
   clear hleE
   go_wp2
   exact bodyPost_ret (v := .bool true) (by simp [results, Tryz.results3, go_sem]) rfl ⟨rfl, hleE'.out⟩
end Go.Proofs.YtlhfonhbbpbmpaaGreat

