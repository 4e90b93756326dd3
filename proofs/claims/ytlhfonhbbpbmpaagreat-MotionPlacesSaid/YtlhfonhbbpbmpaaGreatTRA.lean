/- barleycornref01: InTurn, OutTurn. barleycornref01: pair, CheckTurn, Norm. barleycornref01: SameTurn, GreatTurn. -/
import Derived.Test.YtlhfonhbbpbmpaaGreatTurnKit
import Derived.Test.YtlhfonhbbpbmpaaGreatTrnR
namespace Go.Proofs.YtlhfonhbbpbmpaaGreat
set_option maxRecDepth 100000
set_option maxHeartbeats 4000000
open Go.RowKit Go.Shelf
set_option linter.unusedVariables false
set_option linter.unusedSimpArgs false
theorem qBI (x : FracA × FracA) (v : Value) (w : World) (h : IsTurnA w v x) : Calls Tryz.prog 21 #[v] w (qCO x w) := by
 obtain ⟨x1A, x1c, x1B, x1d, x2A, x2c, x2B, x2d, rfl, p1, p2⟩ := h
 obtain ⟨W0, hW0, hsz, hle, k0, k1⟩ := qAQ w (.cells #[.bool x.1.sn, .slice x1A x.1.gn.length x1c, .bool x.1.sd, .slice x1B x.1.gd.length x1d, .bool x.2.sn, .slice x2A x.2.gn.length x2c, .bool x.2.sd, .slice x2B x.2.gd.length x2d] 29) (.cells #[.bool false, .slice none 0 0, .slice none 0 0, .bool false, .slice none 0 0, .slice none 0 0] 61)
 obtain ⟨a0, a1, a2, a3, a4, a5, a6, a7⟩ := qAB k0
 have hbo := qK5 (fun _ => True) (fun _ => True) x.1 x.2 _ _ W0 (Up.any _) (p1.le hle) (p2.le hle)
 obtain ⟨bb, hbb⟩ : ∃ b, (okA x.1 && okA x.2) = b := ⟨_, rfl⟩
 have htb : (tval x).isSome = bb := (qKa x).trans hbb
 unfold qIT at hbo
 rw [hbb] at hbo
 unfold qCO
 rw [htb]
 have ⟨hle', k0', k1', p1', p2', hbo', hbb', htb'⟩ := hyd8 hle k0 k1 p1 p2 hbo hbb htb
 clear htb hbb hbo p2 p1 k1 k0 hle
 go_enter Tryz.func21, Tryz.ntmps21
 go_wp2_with (fail)
 clear hW0
 go_at_call 55
 refine hbo'.out.mono ?_
 rintro e W1 ⟨hle1, vx, vy, rfl, ⟨ps1, pA1, pn1, pc1, pB1, pm1, pd1, rfl⟩, ⟨ps2, pA2, pn2, pc2, pB2, pm2, pd2, rfl⟩, hrx, hry⟩
 obtain ⟨V, hV, hsV, hle2, j0, j1⟩ := qAQ W1 (.cells #[.bool ps1, .slice pA1 pn1 pc1, .slice pB1 pm1 pd1] 59) (.cells #[.bool ps2, .slice pA2 pn2 pc2, .slice pB2 pm2 pd2] 59)
 have hcc : TurnC V (.agg #[.bool ps1, .slice pA1 pn1 pc1, .slice pB1 pm1 pd1, .bool ps2, .slice pA2 pn2 pc2, .slice pB2 pm2 pd2]) x := ⟨⟨_, _, _, _, _, _, _, _, _, _, _, _, _, _, rfl⟩, fun gg hg => TurnL.mk ((hrx _ (qC9 hg).1).le hle2) ((hry _ (qC9 hg).2).le hle2)⟩
 obtain ⟨c0, c1, c2, -⟩ := qAD j0
 obtain ⟨d0, d1, d2, -⟩ := qAD j1
 have hlV := (hle'.out.trans hle1).trans hle2
 have kV := bxl (hle1.trans hle2) k1'.out
 have ⟨hle1', hle2', j0', j1', hrx', hry', hcc', hlV'⟩ := hyd8 hle1 hle2 j0 j1 hrx hry hcc hlV
 clear hlV hcc hry hrx j1 j0 hle2 hle1
 obtain ⟨z0, z1, z2, z3, z4, z5⟩ := qAC kV
 have ⟨g0, g1, g2, g3, g4, g5⟩ := frz6 kV
 have hle9 := fun u0 u1 u2 u3 u4 u5 => qAh (hlV'.out) (show w.heap.size ≤ w.heap.size + 1 by omega) u0 u1 u2 u3 u4 u5
 have hb9 := fun u0 u1 u2 u3 u4 u5 => qAC (qAZ kV u0 u1 u2 u3 u4 u5)
 simp only [set6] at hb9
 have hf0 := fun u0 u1 u2 u3 u4 u5 => hcc'.out.touch (qAN kV) (qAE V (w.heap.size + 1) u0 u1 u2 u3 u4 u5)
 have ⟨hle9', hb9', kV', hf0'⟩ := hyd4 hle9 hb9 kV hf0
 clear hf0 kV hb9 hle9
 go_wp2
 obtain ⟨d0, d1, d2, d3, d4, d5⟩ := hb9'.out (.bool ps1) (.slice pA1 pn1 pc1) (.slice pB1 pm1 pd1) (.bool ps2) (.slice pA2 pn2 pc2) (.slice pB2 pm2 pd2)
 exact bodyPost_ret (v := .tuple #[.agg #[.bool ps1, .slice pA1 pn1 pc1, .slice pB1 pm1 pd1, .bool ps2, .slice pA2 pn2 pc2, .slice pB2 pm2 pd2], .bool bb]) (by simp [results, Tryz.results21, go_sem, d0, d1, d2, d3, d4, d5]) rfl ⟨hle9'.out _ _ _ _ _ _, _, rfl, hf0'.out _ _ _ _ _ _⟩
theorem qDW (r : Rat) (v : Value) (w : World) (h : RatT .i64 w v r) (hs : Rsz r 40) : Calls Tryz.prog 77 #[v] w fun e w' => ∃ v', e = .returned (.tuple #[v', .int .i64 0]) ∧ Le w w' ∧ qCk w' v' r := by
 refine (qFm (fun _ => True) (fun _ => True) r v w (Up.any _) h).mono ?_
 rintro e w' ⟨hle, ⟨-, v', rfl, hf⟩ | ⟨hn, -⟩⟩
 ·exact ⟨v', rfl, hle, hf⟩
 ·exact absurd hs hn
theorem qDX (r : Rat) (v : Value) (w : World) (h : RatT .i64 w v r) (hs : ¬ Rsz r 40) : Calls Tryz.prog 77 #[v] w fun e w' => e = .returned (.tuple #[qCR, .int .i64 12]) ∧ Le w w' := by
 refine (qFm (fun _ => True) (fun _ => True) r v w (Up.any _) h).mono ?_
 rintro e w' ⟨hle, ⟨hy, -⟩ | ⟨-, h⟩⟩
 ·exact absurd hy hs
 ·exact ⟨h, hle⟩
theorem qBy (a : G2) (va : Value) (w : World) (ha : TurnL .i64 w va a) : Calls Tryz.prog 78 #[va] w (qAa (outG a) w) := by
 obtain ⟨as1, aA1, an1, ac1, aB1, am1, ad1, as2, aA2, an2, ac2, aB2, am2, ad2, rfl, ha1, ha2⟩ := ha
 obtain ⟨W0, hW0, hsz, hle, k0, k1⟩ := qAQ w (.cells #[.bool as1, .slice aA1 an1 ac1, .slice aB1 am1 ad1, .bool as2, .slice aA2 an2 ac2, .slice aB2 am2 ad2] 61) (.cells #[.bool false, .slice none 0 0, .bool false, .slice none 0 0, .bool false, .slice none 0 0, .bool false, .slice none 0 0] 29)
 obtain ⟨c0, c1, c2, c3, c4, c5⟩ := qAC k0
 replace ha1 := ha1.le hle
 replace ha2 := ha2.le hle
 have ⟨hle', k0', k1', ha1', ha2'⟩ := hyd5 hle k0 k1 ha1 ha2
 clear ha2 ha1 k1 k0 hle
 skip
 rcases Classical.em (Rsz a.1 40) with h1 | h1
 ·rcases Classical.em (Rsz a.2 40) with h2 | h2
  ·have hog : outG a = .ok a := qB8 ⟨h1, h2⟩
   have hout := qDW a.1 _ W0 ha1'.out h1
   have ⟨hog', hout', h1', h2'⟩ := hyd4 hog hout h1 h2
   clear h2 h1 hout hog
   go_enter Tryz.func78, Tryz.ntmps78
   go_wp2_with (fail)
   clear hW0
   go_at_call 77
   refine hout'.out.mono ?_
   rintro e W1 ⟨v1, rfl, hle1, hf1⟩
   obtain ⟨ps1, pA1, pn1, pc1, pt1, pB1, pm1, pd1, rfl⟩ := hf1.fform
   obtain ⟨V1, hV1, hle2, j1⟩ := al1 W1 (.cells #[.bool ps1, .slice pA1 pn1 pc1, .bool pt1, .slice pB1 pm1 pd1] 27)
   have hl2 := hle1.trans hle2
   have kb := bxl hl2 k0'.out
   obtain ⟨e0, e1, e2, e3, e4, e5⟩ := qAC kb
   have hout2 := qDW a.2 _ V1 (ha2'.out.le hl2) h2'.out
   have k1b := bxl hl2 k1'.out
   have hlV := hle'.out.trans hl2
   have hs1 := hle1.size
   have hg1 := hf1.le hle2
   have ⟨hle1', hle2', hl2', j1', kb', hout2', k1b', hlV'⟩ := hyd8 hle1 hle2 hl2 j1 kb hout2 k1b hlV
   have ⟨hf1', hg1'⟩ := hyd2 hf1 hg1
   clear hg1 hf1 hlV k1b hout2 kb j1 hl2 hle2 hle1
   go_wp2_with (fail)
   clear hV1
   go_at_call 77
   refine hout2'.out.mono ?_
   rintro e W2 ⟨v2, rfl, hle3, hf2⟩
   obtain ⟨qs1, qA1, qn1, qc1, qt1, qB1, qm1, qd1, rfl⟩ := hf2.fform
   obtain ⟨V2, hV2, hle4, j2⟩ := al1 W2 (.cells #[.bool qs1, .slice qA1 qn1 qc1, .bool qt1, .slice qB1 qm1 qd1] 27)
   have hl4 := hle3.trans hle4
   have j1b := bxl hl4 j1'.out
   have k1c := bxl hl4 k1b'.out
   have hlW := hlV'.out.trans hl4
   obtain ⟨y0, y1, y2, y3⟩ := qAM j1b
   obtain ⟨x0, x1, x2, x3⟩ := qAM j2
   have hs3 := hle3.size
   have hs2 := hle2'.out.size
   have q1 := hg1'.out.le hl4
   have q2 := hf2.le hle4
   have hcc : TurnF V2 (.agg #[.bool ps1, .slice pA1 pn1 pc1, .bool pt1, .slice pB1 pm1 pd1, .bool qs1, .slice qA1 qn1 qc1, .bool qt1, .slice qB1 qm1 qd1]) a := ⟨_, _, _, _, _, _, _, _, _, _, _, _, _, _, _, _, rfl, q1, q2⟩
   have ⟨hle3', hle4', hl4', j1b', j2', hlW', q1', q2'⟩ := hyd8 hle3 hle4 hl4 j1b j2 hlW q1 q2
   have ⟨hcc', hf2'⟩ := hyd2 hcc hf2
   clear hf2 hcc q2 q1 hlW j2 j1b hl4 hle4 hle3
   try clear hV2x
   obtain ⟨z0, z1, z2, z3, z4, z5, z6, z7⟩ := qAB k1c
   have ⟨g0, g1, g2, g3, g4, g5, g6, g7⟩ := frz8 k1c
   have hle9 := fun u0 u1 u2 u3 u4 u5 u6 u7 => qAW (hlW'.out) (show w.heap.size ≤ w.heap.size + 1 by omega) u0 u1 u2 u3 u4 u5 u6 u7
   have hb9 := fun u0 u1 u2 u3 u4 u5 u6 u7 => qAB (qAI k1c u0 u1 u2 u3 u4 u5 u6 u7)
   simp only [set8] at hb9
   have hf0 := fun u0 u1 u2 u3 u4 u5 u6 u7 => hcc'.out.touch (qA9 k1c) (qAL V2 (w.heap.size + 1) u0 u1 u2 u3 u4 u5 u6 u7)
   have ⟨hle9', hb9', k1c', hf0'⟩ := hyd4 hle9 hb9 k1c hf0
   clear hf0 k1c hb9 hle9
   go_wp2
   obtain ⟨d0, d1, d2, d3, d4, d5, d6, d7⟩ := hb9'.out (.bool ps1) (.slice pA1 pn1 pc1) (.bool pt1) (.slice pB1 pm1 pd1) (.bool qs1) (.slice qA1 qn1 qc1) (.bool qt1) (.slice qB1 qm1 qd1)
   exact bodyPost_ret (v := .tuple #[.agg #[.bool ps1, .slice pA1 pn1 pc1, .bool pt1, .slice pB1 pm1 pd1, .bool qs1, .slice qA1 qn1 qc1, .bool qt1, .slice qB1 qm1 qd1], .int .i64 0]) (by simp [results, Tryz.results78, go_sem, d0, d1, d2, d3, d4, d5, d6, d7]) rfl ⟨hle9'.out _ _ _ _ _ _ _ _, _, _, rfl, by rw [hog'.out]; exact ⟨hf0'.out _ _ _ _ _ _ _ _, rfl⟩⟩
  ·have hog : outG a = .error 12 := qC8 fun h => h2 h.2
   have hout := qDW a.1 _ W0 ha1'.out h1
   have ⟨hog', hout', h1', h2'⟩ := hyd4 hog hout h1 h2
   clear h2 h1 hout hog
   go_enter Tryz.func78, Tryz.ntmps78
   go_wp2_with (fail)
   clear hW0
   go_at_call 77
   refine hout'.out.mono ?_
   rintro e W1 ⟨v1, rfl, hle1, hf1⟩
   obtain ⟨ps1, pA1, pn1, pc1, pt1, pB1, pm1, pd1, rfl⟩ := hf1.fform
   obtain ⟨V1, hV1, hle2, j1⟩ := al1 W1 (.cells #[.bool ps1, .slice pA1 pn1 pc1, .bool pt1, .slice pB1 pm1 pd1] 27)
   have hl2 := hle1.trans hle2
   have kb := bxl hl2 k0'.out
   obtain ⟨e0, e1, e2, e3, e4, e5⟩ := qAC kb
   have hout2 := qDX a.2 _ V1 (ha2'.out.le hl2) h2'.out
   have k1b := bxl hl2 k1'.out
   have hlV := hle'.out.trans hl2
   have hs1 := hle1.size
   have hg1 := hf1.le hle2
   have ⟨hle1', hle2', hl2', j1', kb', hout2', k1b', hlV'⟩ := hyd8 hle1 hle2 hl2 j1 kb hout2 k1b hlV
   have ⟨hf1', hg1'⟩ := hyd2 hf1 hg1
   clear hg1 hf1 hlV k1b hout2 kb j1 hl2 hle2 hle1
   go_wp2_with (fail)
   clear hV1
   go_at_call 77
   refine hout2'.out.mono ?_
   rintro e W2 ⟨rfl, hle3⟩
   obtain ⟨qs1, qA1, qn1, qc1, qt1, qB1, qm1, qd1, hzq⟩ : ∃ s A n c t B m d, qCR = .agg #[.bool s, .slice A n c, .bool t, .slice B m d] := ⟨_, _, _, _, _, _, _, _, rfl⟩
   rw [hzq]
   clear hzq
   obtain ⟨V2, hV2, hle4, j2⟩ := al1 W2 (.cells #[.bool qs1, .slice qA1 qn1 qc1, .bool qt1, .slice qB1 qm1 qd1] 27)
   have hl4 := hle3.trans hle4
   have j1b := bxl hl4 j1'.out
   have k1c := bxl hl4 k1b'.out
   have hlW := hlV'.out.trans hl4
   obtain ⟨y0, y1, y2, y3⟩ := qAM j1b
   obtain ⟨x0, x1, x2, x3⟩ := qAM j2
   have hs3 := hle3.size
   have hs2 := hle2'.out.size
   have ⟨hle3', hle4', hl4', j1b', j2', hlW'⟩ := hyd6 hle3 hle4 hl4 j1b j2 hlW
   clear hlW j2 j1b hl4 hle4 hle3
   try clear hV2x
   obtain ⟨z0, z1, z2, z3, z4, z5, z6, z7⟩ := qAB k1c
   have ⟨g0, g1, g2, g3, g4, g5, g6, g7⟩ := frz8 k1c
   have hle9 := fun u0 u1 u2 u3 u4 u5 u6 u7 => qAW (hlW'.out) (show w.heap.size ≤ w.heap.size + 1 by omega) u0 u1 u2 u3 u4 u5 u6 u7
   have hb9 := fun u0 u1 u2 u3 u4 u5 u6 u7 => qAB (qAI k1c u0 u1 u2 u3 u4 u5 u6 u7)
   simp only [set8] at hb9
   have ⟨hle9', hb9', k1c'⟩ := hyd3 hle9 hb9 k1c
   clear k1c hb9 hle9
   go_wp2
   obtain ⟨d0, d1, d2, d3, d4, d5, d6, d7⟩ := hb9'.out (.bool false) (.slice none 0 0) (.bool false) (.slice none 0 0) (.bool false) (.slice none 0 0) (.bool false) (.slice none 0 0)
   exact bodyPost_ret (v := .tuple #[.agg #[.bool false, .slice none 0 0, .bool false, .slice none 0 0, .bool false, .slice none 0 0, .bool false, .slice none 0 0], .int .i64 12]) (by simp [results, Tryz.results78, go_sem, d0, d1, d2, d3, d4, d5, d6, d7]) rfl ⟨hle9'.out _ _ _ _ _ _ _ _, _, _, rfl, by rw [hog'.out]; exact ⟨rfl, rfl⟩⟩
 ·rcases Classical.em (Rsz a.2 40) with h2 | h2
  ·have hog : outG a = .error 12 := qC8 fun h => h1 h.1
   have hout := qDX a.1 _ W0 ha1'.out h1
   have ⟨hog', hout', h1', h2'⟩ := hyd4 hog hout h1 h2
   clear h2 h1 hout hog
   go_enter Tryz.func78, Tryz.ntmps78
   go_wp2_with (fail)
   clear hW0
   go_at_call 77
   refine hout'.out.mono ?_
   rintro e W1 ⟨rfl, hle1⟩
   obtain ⟨ps1, pA1, pn1, pc1, pt1, pB1, pm1, pd1, hzp⟩ : ∃ s A n c t B m d, qCR = .agg #[.bool s, .slice A n c, .bool t, .slice B m d] := ⟨_, _, _, _, _, _, _, _, rfl⟩
   rw [hzp]
   clear hzp
   obtain ⟨V1, hV1, hle2, j1⟩ := al1 W1 (.cells #[.bool ps1, .slice pA1 pn1 pc1, .bool pt1, .slice pB1 pm1 pd1] 27)
   have hl2 := hle1.trans hle2
   have kb := bxl hl2 k0'.out
   obtain ⟨e0, e1, e2, e3, e4, e5⟩ := qAC kb
   have hout2 := qDW a.2 _ V1 (ha2'.out.le hl2) h2'.out
   have k1b := bxl hl2 k1'.out
   have hlV := hle'.out.trans hl2
   have hs1 := hle1.size
   have ⟨hle1', hle2', hl2', j1', kb', hout2', k1b', hlV'⟩ := hyd8 hle1 hle2 hl2 j1 kb hout2 k1b hlV
   clear hlV k1b hout2 kb j1 hl2 hle2 hle1
   go_wp2_with (fail)
   clear hV1
   go_at_call 77
   refine hout2'.out.mono ?_
   rintro e W2 ⟨v2, rfl, hle3, hf2⟩
   obtain ⟨qs1, qA1, qn1, qc1, qt1, qB1, qm1, qd1, rfl⟩ := hf2.fform
   obtain ⟨V2, hV2, hle4, j2⟩ := al1 W2 (.cells #[.bool qs1, .slice qA1 qn1 qc1, .bool qt1, .slice qB1 qm1 qd1] 27)
   have hl4 := hle3.trans hle4
   have j1b := bxl hl4 j1'.out
   have k1c := bxl hl4 k1b'.out
   have hlW := hlV'.out.trans hl4
   obtain ⟨y0, y1, y2, y3⟩ := qAM j1b
   obtain ⟨x0, x1, x2, x3⟩ := qAM j2
   have hs3 := hle3.size
   have hs2 := hle2'.out.size
   have ⟨hle3', hle4', hl4', j1b', j2', hlW'⟩ := hyd6 hle3 hle4 hl4 j1b j2 hlW
   clear hlW j2 j1b hl4 hle4 hle3
   try clear hV2x
   obtain ⟨z0, z1, z2, z3, z4, z5, z6, z7⟩ := qAB k1c
   have ⟨g0, g1, g2, g3, g4, g5, g6, g7⟩ := frz8 k1c
   have hle9 := fun u0 u1 u2 u3 u4 u5 u6 u7 => qAW (hlW'.out) (show w.heap.size ≤ w.heap.size + 1 by omega) u0 u1 u2 u3 u4 u5 u6 u7
   have hb9 := fun u0 u1 u2 u3 u4 u5 u6 u7 => qAB (qAI k1c u0 u1 u2 u3 u4 u5 u6 u7)
   simp only [set8] at hb9
   have ⟨hle9', hb9', k1c'⟩ := hyd3 hle9 hb9 k1c
   clear k1c hb9 hle9
   go_wp2
   obtain ⟨d0, d1, d2, d3, d4, d5, d6, d7⟩ := hb9'.out (.bool false) (.slice none 0 0) (.bool false) (.slice none 0 0) (.bool false) (.slice none 0 0) (.bool false) (.slice none 0 0)
   exact bodyPost_ret (v := .tuple #[.agg #[.bool false, .slice none 0 0, .bool false, .slice none 0 0, .bool false, .slice none 0 0, .bool false, .slice none 0 0], .int .i64 12]) (by simp [results, Tryz.results78, go_sem, d0, d1, d2, d3, d4, d5, d6, d7]) rfl ⟨hle9'.out _ _ _ _ _ _ _ _, _, _, rfl, by rw [hog'.out]; exact ⟨rfl, rfl⟩⟩
  ·have hog : outG a = .error 12 := qC8 fun h => h1 h.1
   have hout := qDX a.1 _ W0 ha1'.out h1
   have ⟨hog', hout', h1', h2'⟩ := hyd4 hog hout h1 h2
   clear h2 h1 hout hog
   go_enter Tryz.func78, Tryz.ntmps78
   go_wp2_with (fail)
   clear hW0
   go_at_call 77
   refine hout'.out.mono ?_
   rintro e W1 ⟨rfl, hle1⟩
   obtain ⟨ps1, pA1, pn1, pc1, pt1, pB1, pm1, pd1, hzp⟩ : ∃ s A n c t B m d, qCR = .agg #[.bool s, .slice A n c, .bool t, .slice B m d] := ⟨_, _, _, _, _, _, _, _, rfl⟩
   rw [hzp]
   clear hzp
   obtain ⟨V1, hV1, hle2, j1⟩ := al1 W1 (.cells #[.bool ps1, .slice pA1 pn1 pc1, .bool pt1, .slice pB1 pm1 pd1] 27)
   have hl2 := hle1.trans hle2
   have kb := bxl hl2 k0'.out
   obtain ⟨e0, e1, e2, e3, e4, e5⟩ := qAC kb
   have hout2 := qDX a.2 _ V1 (ha2'.out.le hl2) h2'.out
   have k1b := bxl hl2 k1'.out
   have hlV := hle'.out.trans hl2
   have hs1 := hle1.size
   have ⟨hle1', hle2', hl2', j1', kb', hout2', k1b', hlV'⟩ := hyd8 hle1 hle2 hl2 j1 kb hout2 k1b hlV
   clear hlV k1b hout2 kb j1 hl2 hle2 hle1
   go_wp2_with (fail)
   clear hV1
   go_at_call 77
   refine hout2'.out.mono ?_
   rintro e W2 ⟨rfl, hle3⟩
   obtain ⟨qs1, qA1, qn1, qc1, qt1, qB1, qm1, qd1, hzq⟩ : ∃ s A n c t B m d, qCR = .agg #[.bool s, .slice A n c, .bool t, .slice B m d] := ⟨_, _, _, _, _, _, _, _, rfl⟩
   rw [hzq]
   clear hzq
   obtain ⟨V2, hV2, hle4, j2⟩ := al1 W2 (.cells #[.bool qs1, .slice qA1 qn1 qc1, .bool qt1, .slice qB1 qm1 qd1] 27)
   have hl4 := hle3.trans hle4
   have j1b := bxl hl4 j1'.out
   have k1c := bxl hl4 k1b'.out
   have hlW := hlV'.out.trans hl4
   obtain ⟨y0, y1, y2, y3⟩ := qAM j1b
   obtain ⟨x0, x1, x2, x3⟩ := qAM j2
   have hs3 := hle3.size
   have hs2 := hle2'.out.size
   have ⟨hle3', hle4', hl4', j1b', j2', hlW'⟩ := hyd6 hle3 hle4 hl4 j1b j2 hlW
   clear hlW j2 j1b hl4 hle4 hle3
   try clear hV2x
   obtain ⟨z0, z1, z2, z3, z4, z5, z6, z7⟩ := qAB k1c
   have ⟨g0, g1, g2, g3, g4, g5, g6, g7⟩ := frz8 k1c
   have hle9 := fun u0 u1 u2 u3 u4 u5 u6 u7 => qAW (hlW'.out) (show w.heap.size ≤ w.heap.size + 1 by omega) u0 u1 u2 u3 u4 u5 u6 u7
   have hb9 := fun u0 u1 u2 u3 u4 u5 u6 u7 => qAB (qAI k1c u0 u1 u2 u3 u4 u5 u6 u7)
   simp only [set8] at hb9
   have ⟨hle9', hb9', k1c'⟩ := hyd3 hle9 hb9 k1c
   clear k1c hb9 hle9
   go_wp2
   obtain ⟨d0, d1, d2, d3, d4, d5, d6, d7⟩ := hb9'.out (.bool false) (.slice none 0 0) (.bool false) (.slice none 0 0) (.bool false) (.slice none 0 0) (.bool false) (.slice none 0 0)
   exact bodyPost_ret (v := .tuple #[.agg #[.bool false, .slice none 0 0, .bool false, .slice none 0 0, .bool false, .slice none 0 0, .bool false, .slice none 0 0], .int .i64 12]) (by simp [results, Tryz.results78, go_sem, d0, d1, d2, d3, d4, d5, d6, d7]) rfl ⟨hle9'.out _ _ _ _ _ _ _ _, _, _, rfl, by rw [hog'.out]; exact ⟨rfl, rfl⟩⟩
theorem qHd (x y : FracA × FracA) (va vb : Value) (w : World) (h1 : IsTurnA w va x) (h2 : IsTurnA w vb y) : Calls Tryz.prog 80 #[va, vb] w (qEf x y w) := by
 obtain ⟨x1A, x1c, x1B, x1d, x2A, x2c, x2B, x2d, rfl, p1, p2⟩ := h1
 obtain ⟨y1A, y1c, y1B, y1d, y2A, y2c, y2B, y2d, rfl, q1, q2⟩ := h2
 obtain ⟨W0, hW0, hsz, hle, k0, k1, k2, k3⟩ := qGw w (.cells #[.bool x.1.sn, .slice x1A x.1.gn.length x1c, .bool x.1.sd, .slice x1B x.1.gd.length x1d, .bool x.2.sn, .slice x2A x.2.gn.length x2c, .bool x.2.sd, .slice x2B x.2.gd.length x2d] 29) (.cells #[.bool y.1.sn, .slice y1A y.1.gn.length y1c, .bool y.1.sd, .slice y1B y.1.gd.length y1d, .bool y.2.sn, .slice y2A y.2.gn.length y2c, .bool y.2.sd, .slice y2B y.2.gd.length y2d] 29) (.cells #[.bool false, .slice none 0 0, .slice none 0 0, .bool false, .slice none 0 0, .slice none 0 0] 61) (.cells #[.bool false, .slice none 0 0, .slice none 0 0, .bool false, .slice none 0 0, .slice none 0 0] 61)
 obtain ⟨c0, c1, c2, c3, c4, c5, c6, c7⟩ := qAB k0
 have r1 := qBI x _ W0 (IsTurnA.mk (p1.le hle) (p2.le hle))
 obtain ⟨b1, hb1⟩ : ∃ b, (tval x).isSome = b := ⟨_, rfl⟩
 obtain ⟨b2, hb2⟩ : ∃ b, (tval y).isSome = b := ⟨_, rfl⟩
 unfold qCO at r1
 rw [hb1] at r1
 unfold qEf
 rw [hb1, hb2]
 have ⟨hle', k0', k1', k2', k3', p1', p2', q1'⟩ := hyd8 hle k0 k1 k2 k3 p1 p2 q1
 have ⟨q2', r1', hb1', hb2'⟩ := hyd4 q2 r1 hb1 hb2
 clear hb2 hb1 r1 q2 q1 p2 p1 k3 k2 k1 k0 hle
 go_enter Tryz.func80, Tryz.ntmps80
 go_wp2_with (fail)
 clear hW0
 go_at_call 21
 refine r1'.out.mono ?_
 rintro e W1 ⟨hle1, v1, rfl, ⟨⟨ps1, pA1, pn1, pc1, pB1, pm1, pd1, ps2, pA2, pn2, pc2, pB2, pm2, pd2, rfl⟩, hc1⟩⟩
 clear c0 c1 c2 c3 c4 c5 c6 c7
 obtain ⟨V1, hV1, hle2, kx⟩ := al1 W1 (.cells #[.bool ps1, .slice pA1 pn1 pc1, .slice pB1 pm1 pd1, .bool ps2, .slice pA2 pn2 pc2, .slice pB2 pm2 pd2] 61)
 have hl2 := hle1.trans hle2
 have k1b := bxl hl2 k1'.out
 have k2b := bxl hl2 k2'.out
 have k3b := bxl hl2 k3'.out
 have hlV1 := hle'.out.trans hl2
 have r2 := qBI y _ V1 (IsTurnA.mk (q1'.out.le hlV1) (q2'.out.le hlV1))
 unfold qCO at r2
 rw [hb2'.out] at r2
 obtain ⟨c0, c1, c2, c3, c4, c5, c6, c7⟩ := qAB k1b
 have hs1 := hle1.size
 have ⟨hle1', hle2', hl2', kx', k1b', k2b', k3b', hlV1'⟩ := hyd8 hle1 hle2 hl2 kx k1b k2b k3b hlV1
 have ⟨r2', hc1'⟩ := hyd2 r2 hc1
 clear hc1 r2 hlV1 k3b k2b k1b kx hl2 hle2 hle1
 go_wp2_with (fail)
 clear hV1
 go_at_call 21
 refine r2'.out.mono ?_
 rintro e W2 ⟨hle3, v2, rfl, ⟨⟨qs1, qA1, qn1, qc1, qB1, qm1, qd1, qs2, qA2, qn2, qc2, qB2, qm2, qd2, rfl⟩, hc2⟩⟩
 clear c0 c1 c2 c3 c4 c5 c6 c7
 obtain ⟨V2, hV2, hle4, ky⟩ := al1 W2 (.cells #[.bool qs1, .slice qA1 qn1 qc1, .slice qB1 qm1 qd1, .bool qs2, .slice qA2 qn2 qc2, .slice qB2 qm2 qd2] 61)
 have hl4 := hle3.trans hle4
 have k2c := bxl hl4 k2b'.out
 have k3c := bxl hl4 k3b'.out
 have kx4 := bxl hl4 kx'.out
 have hall := hlV1'.out.trans hl4
 have s12 := hle2'.out.size
 have s3 := hle3.size
 have t1 : TurnC V2 (.agg #[.bool ps1, .slice pA1 pn1 pc1, .slice pB1 pm1 pd1, .bool ps2, .slice pA2 pn2 pc2, .slice pB2 pm2 pd2]) x := TurnC.le ⟨⟨_, _, _, _, _, _, _, _, _, _, _, _, _, _, rfl⟩, hc1'.out⟩ (hle2'.out.trans hl4)
 have t2 : TurnC V2 (.agg #[.bool qs1, .slice qA1 qn1 qc1, .slice qB1 qm1 qd1, .bool qs2, .slice qA2 qn2 qc2, .slice qB2 qm2 qd2]) y := TurnC.le ⟨⟨_, _, _, _, _, _, _, _, _, _, _, _, _, _, rfl⟩, hc2⟩ hle4
 obtain ⟨x0, x1, x2, x3, x4, x5⟩ := qAC kx4
 obtain ⟨y0, y1, y2, y3, y4, y5⟩ := qAC ky
 obtain ⟨z0, z1, z2, z3, z4, z5⟩ := qAC k2c
 obtain ⟨u0, u1, u2, u3, u4, u5⟩ := qAC k3c
 have ⟨f0, f1, f2, f3, f4, f5⟩ := frz6 k2c
 have ⟨g0, g1, g2, g3, g4, g5⟩ := frz6 k3c
 have m1 : ¬ W2.heap.size = w.heap.size + 1 + 1 := by omega
 have m2 : ¬ W2.heap.size = w.heap.size + 1 + 1 + 1 := by omega
 have m3 : ¬ w.heap.size + 1 + 1 = W2.heap.size := by omega
 have m4 : ¬ w.heap.size + 1 + 1 + 1 = W2.heap.size := by omega
 have m5 : ¬ W1.heap.size = w.heap.size + 1 + 1 := by omega
 have m6 : ¬ W1.heap.size = w.heap.size + 1 + 1 + 1 := by omega
 have m7 : ¬ w.heap.size + 1 + 1 = W1.heap.size := by omega
 have m8 : ¬ w.heap.size + 1 + 1 + 1 = W1.heap.size := by omega
 have hm2 : W1.heap.size ≠ w.heap.size + 1 + 1 := by omega
 have hm3 : W1.heap.size ≠ w.heap.size + 1 + 1 + 1 := by omega
 have hm4 : W2.heap.size ≠ w.heap.size + 1 + 1 := by omega
 have hm5 : W2.heap.size ≠ w.heap.size + 1 + 1 + 1 := by omega
 have hm6 : w.heap.size + 1 + 1 ≠ w.heap.size + 1 + 1 + 1 := by omega
 clear m1 m2 m3 m4 m5 m6 m7 m8 x0 x1 x2 x3 x4 x5 y0 y1 y2 y3 y4 y5 z0 z1 z2 z3 z4 z5 u0 u1 u2 u3 u4 u5 f0 f1 f2 f3 f4 f5 g0 g1 g2 g3 g4 g5
 have ⟨hle3', hle4', hl4', k2c', k3c', hall', hc2', t1'⟩ := hyd8 hle3 hle4 hl4 k2c k3c hall hc2 t1
 have ⟨t2', kx4', ky'⟩ := hyd3 t2 kx4 ky
 clear ky kx4 t2 t1 hc2 hall k3c k2c hl4 hle4 hle3
 go_wp2_with (fail)
 clear hV2
 cases b1
 ·refine qAG (R := twoRel (w.heap.size + 1 + 1) (w.heap.size + 1 + 1 + 1) (.cells #[.bool ps1, .slice pA1 pn1 pc1, .slice pB1 pm1 pd1, .bool ps2, .slice pA2 pn2 pc2, .slice pB2 pm2 pd2] 61) (.cells #[.bool qs1, .slice qA1 qn1 qc1, .slice qB1 qm1 qd1, .bool qs2, .slice qA2 qn2 qc2, .slice qB2 qm2 qd2] 61)) 8 [some 21, some 22, some 23, some 24, some 25, some 26, none, none, some 6] [[], [], [], [2], [3], [3, 4], [0], [1], [5]]
   [.eq (.agg #[.bool ps1, .slice pA1 pn1 pc1, .slice pB1 pm1 pd1, .bool ps2, .slice pA2 pn2 pc2, .slice pB2 pm2 pd2]), .eq (.agg #[.bool qs1, .slice qA1 qn1 qc1, .slice qB1 qm1 qd1, .bool qs2, .slice qA2 qn2 qc2, .slice qB2 qm2 qd2]), .eq (.bool false), .eq (.bool false), MPredR.any, .eq (.bool false), MPredR.at2, MPredR.at3] (fun _ _ => False) (by kernel_rfl) (by kernel_rfl) (by kernel_rfl) (by kernel_rfl) ?_ (fun _ _ _ _ _ h => h.elim) ?_
  ·simp only [List.take_succ_cons, List.take_zero]
   refine mSc ?_ (mSc ?_ (mSc ?_ (mSc ?_ (mSc ?_ (mSc ?_ (mSc ?_ (mSc ?_ (qAJ))))))))
   ·refine mSl rfl fun xv W hR hf Q hK hP => ?_
    obtain ⟨x0, x1, x2, x3, x4, x5⟩ := qAC ((hR.2.1 _ hm2 hm3).trans kx4'.out)
    simp only [fA] at hK ⊢
    go_wp2
    exact hK _ _ (WRel.refl _ _) rfl
   ·refine mSl rfl fun xv W hR hf Q hK hP => ?_
    obtain ⟨x0, x1, x2, x3, x4, x5⟩ := qAC ((hR.2.1 _ hm4 hm5).trans ky'.out)
    simp only [fA] at hK ⊢
    go_wp2
    exact hK _ _ (WRel.refl _ _) rfl
   ·refine mSl rfl fun xv W hR hf Q hK hP => ?_
    simp only [fA] at hK ⊢
    go_wp2
    exact hK _ _ (WRel.refl _ _) rfl
   ·refine mSl rfl fun xv W hR hf Q hK hP => ?_
    obtain ⟨e0, -⟩ := hf
    change _ = _ at e0
    simp only [fA, e0] at hK ⊢
    go_wp2
    exact hK _ _ (WRel.refl _ _) rfl
   ·refine qIz (fun xv W hf => ?_) fun _ => trivial
    obtain ⟨e0, -⟩ := hf
    change _ = _ at e0
    simp only [fA, e0]
    kernel_rfl
   ·refine mSl rfl fun xv W hR hf Q hK hP => ?_
    obtain ⟨e0, e1, -⟩ := hf
    change _ = _ at e0
    simp only [fA, e0] at hK ⊢
    go_wp2
    exact hK _ _ (WRel.refl _ _) rfl
   ·refine mSl rfl fun xv W hR hf Q hK hP => ?_
    obtain ⟨e0, -⟩ := hf
    change _ = _ at e0
    obtain ⟨v0, v1, v2, v3, v4, v5, hv⟩ : ∃ v0 v1 v2 v3 v4 v5, W.heap[w.heap.size + 1 + 1]? = some (.cells #[v0, v1, v2, v3, v4, v5] 61) := by
     rcases hR.2.2.1 with h | h
     ·exact ⟨_, _, _, _, _, _, h.trans k2c'.out⟩
     ·exact ⟨_, _, _, _, _, _, h⟩
    obtain ⟨z0, z1, z2, z3, z4, z5⟩ := qAC hv
    have ⟨f0, f1, f2, f3, f4, f5⟩ := frz6 hv
    have hst := twoRel.set2 (o2 := (.cells #[.bool ps1, .slice pA1 pn1 pc1, .slice pB1 pm1 pd1, .bool ps2, .slice pA2 pn2 pc2, .slice pB2 pm2 pd2] 61)) (o3 := (.cells #[.bool qs1, .slice qA1 qn1 qc1, .slice qB1 qm1 qd1, .bool qs2, .slice qA2 qn2 qc2, .slice qB2 qm2 qd2] 61)) hm6 hv
    have ⟨hv', hst'⟩ := hyd2 hv hst
    clear hst hv
    simp only [fA, e0] at hK ⊢
    go_wp2
    exact hK undef _ hst'.out (qAZ hv'.out _ _ _ _ _ _)
   ·refine mSl rfl fun xv W hR hf Q hK hP => ?_
    obtain ⟨e0, -⟩ := hf
    change _ = _ at e0
    obtain ⟨v0, v1, v2, v3, v4, v5, hv⟩ : ∃ v0 v1 v2 v3 v4 v5, W.heap[w.heap.size + 1 + 1 + 1]? = some (.cells #[v0, v1, v2, v3, v4, v5] 61) := by
     rcases hR.2.2.2.1 with h | h
     ·exact ⟨_, _, _, _, _, _, h.trans k3c'.out⟩
     ·exact ⟨_, _, _, _, _, _, h⟩
    obtain ⟨z0, z1, z2, z3, z4, z5⟩ := qAC hv
    have ⟨f0, f1, f2, f3, f4, f5⟩ := frz6 hv
    have hst := twoRel.set3 (o2 := (.cells #[.bool ps1, .slice pA1 pn1 pc1, .slice pB1 pm1 pd1, .bool ps2, .slice pA2 pn2 pc2, .slice pB2 pm2 pd2] 61)) (o3 := (.cells #[.bool qs1, .slice qA1 qn1 qc1, .slice qB1 qm1 qd1, .bool qs2, .slice qA2 qn2 qc2, .slice qB2 qm2 qd2] 61)) hm6 hv
    have ⟨hv', hst'⟩ := hyd2 hv hst
    clear hst hv
    simp only [fA, e0] at hK ⊢
    go_wp2
    exact hK undef _ hst'.out (qAZ hv'.out _ _ _ _ _ _)
  ·intro xv W hR hf Q' hQ1 _
   have e5 : xv 5 = .bool false := hf 5 (by decide)
   have kV2 : W.heap[w.heap.size + 1 + 1]? = some (.cells #[.bool ps1, .slice pA1 pn1 pc1, .slice pB1 pm1 pd1, .bool ps2, .slice pA2 pn2 pc2, .slice pB2 pm2 pd2] 61) := hf 6 (by decide)
   have kV3 : W.heap[w.heap.size + 1 + 1 + 1]? = some (.cells #[.bool qs1, .slice qA1 qn1 qc1, .slice qB1 qm1 qd1, .bool qs2, .slice qA2 qn2 qc2, .slice qB2 qm2 qd2] 61) := hf 7 (by decide)
   obtain ⟨d0, d1, d2, d3, d4, d5⟩ := qAC kV2
   obtain ⟨d6, d7, d8, d9, d10, d11⟩ := qAC kV3
   have hlW := twoRel.le hR hall'.out (show w.heap.size ≤ w.heap.size + 1 + 1 by omega) (show w.heap.size ≤ w.heap.size + 1 + 1 + 1 by omega)
   have tt1 := twoRel.turnC hR t1'.out (qAN k2c'.out) (qAN k3c'.out)
   have tt2 := twoRel.turnC hR t2'.out (qAN k2c'.out) (qAN k3c'.out)
   simp only [List.drop_succ_cons, List.drop_zero]
   rw [show List.range 8 = [0, 1, 2, 3, 4, 5, 6, 7] from rfl]
   simp only [fA, e5]
   clear hf e5
   have ⟨kV2', kV3', hlW', tt1', tt2', hR'⟩ := hyd6 kV2 kV3 hlW tt1 tt2 hR
   clear hR tt2 tt1 hlW kV3 kV2
   go_wp2
   refine hQ1 _ _ ?_
   go_wp2
   exact bodyPost_ret (v := .tuple #[.agg #[.bool ps1, .slice pA1 pn1 pc1, .slice pB1 pm1 pd1, .bool ps2, .slice pA2 pn2 pc2, .slice pB2 pm2 pd2], .agg #[.bool qs1, .slice qA1 qn1 qc1, .slice qB1 qm1 qd1, .bool qs2, .slice qA2 qn2 qc2, .slice qB2 qm2 qd2], .bool false]) (by simp [results, Tryz.results80, go_sem, d0, d1, d2, d3, d4, d5, d6, d7, d8, d9, d10, d11]) rfl ⟨hlW'.out, (.agg #[.bool ps1, .slice pA1 pn1 pc1, .slice pB1 pm1 pd1, .bool ps2, .slice pA2 pn2 pc2, .slice pB2 pm2 pd2]), (.agg #[.bool qs1, .slice qA1 qn1 qc1, .slice qB1 qm1 qd1, .bool qs2, .slice qA2 qn2 qc2, .slice qB2 qm2 qd2]), by simp, tt1'.out, tt2'.out⟩
 ·refine qAG (R := twoRel (w.heap.size + 1 + 1) (w.heap.size + 1 + 1 + 1) (.cells #[.bool ps1, .slice pA1 pn1 pc1, .slice pB1 pm1 pd1, .bool ps2, .slice pA2 pn2 pc2, .slice pB2 pm2 pd2] 61) (.cells #[.bool qs1, .slice qA1 qn1 qc1, .slice qB1 qm1 qd1, .bool qs2, .slice qA2 qn2 qc2, .slice qB2 qm2 qd2] 61)) 8 [some 21, some 22, some 23, some 24, some 25, some 26, none, none, some 6] [[], [], [], [2], [3], [3, 4], [0], [1], [5]]
   [.eq (.agg #[.bool ps1, .slice pA1 pn1 pc1, .slice pB1 pm1 pd1, .bool ps2, .slice pA2 pn2 pc2, .slice pB2 pm2 pd2]), .eq (.agg #[.bool qs1, .slice qA1 qn1 qc1, .slice qB1 qm1 qd1, .bool qs2, .slice qA2 qn2 qc2, .slice qB2 qm2 qd2]), .eq (.bool true), .eq (.bool true), .eq (.bool b2), .eq (.bool b2), MPredR.at2, MPredR.at3] (fun _ _ => False) (by kernel_rfl) (by kernel_rfl) (by kernel_rfl) (by kernel_rfl) ?_ (fun _ _ _ _ _ h => h.elim) ?_
  ·simp only [List.take_succ_cons, List.take_zero]
   refine mSc ?_ (mSc ?_ (mSc ?_ (mSc ?_ (mSc ?_ (mSc ?_ (mSc ?_ (mSc ?_ (qAJ))))))))
   ·refine mSl rfl fun xv W hR hf Q hK hP => ?_
    obtain ⟨x0, x1, x2, x3, x4, x5⟩ := qAC ((hR.2.1 _ hm2 hm3).trans kx4'.out)
    simp only [fA] at hK ⊢
    go_wp2
    exact hK _ _ (WRel.refl _ _) rfl
   ·refine mSl rfl fun xv W hR hf Q hK hP => ?_
    obtain ⟨x0, x1, x2, x3, x4, x5⟩ := qAC ((hR.2.1 _ hm4 hm5).trans ky'.out)
    simp only [fA] at hK ⊢
    go_wp2
    exact hK _ _ (WRel.refl _ _) rfl
   ·refine mSl rfl fun xv W hR hf Q hK hP => ?_
    simp only [fA] at hK ⊢
    go_wp2
    exact hK _ _ (WRel.refl _ _) rfl
   ·refine mSl rfl fun xv W hR hf Q hK hP => ?_
    obtain ⟨e0, -⟩ := hf
    change _ = _ at e0
    simp only [fA, e0] at hK ⊢
    go_wp2
    exact hK _ _ (WRel.refl _ _) rfl
   ·refine qGp (fun xv W hf => ?_) fun xv W hR hf Q hK hP => ?_
    ·obtain ⟨e0, -⟩ := hf
     change _ = _ at e0
     simp only [fA, e0]
     kernel_rfl
    obtain ⟨e0, -⟩ := hf
    change _ = _ at e0
    simp only [fA, e0] at hK ⊢
    go_wp2
    exact hK _ _ (WRel.refl _ _) rfl
   ·refine mSl rfl fun xv W hR hf Q hK hP => ?_
    obtain ⟨e0, e1, -⟩ := hf
    change _ = _ at e0 e1
    simp only [fA, e0, e1] at hK ⊢
    go_wp2
    exact hK _ _ (WRel.refl _ _) rfl
   ·refine mSl rfl fun xv W hR hf Q hK hP => ?_
    obtain ⟨e0, -⟩ := hf
    change _ = _ at e0
    obtain ⟨v0, v1, v2, v3, v4, v5, hv⟩ : ∃ v0 v1 v2 v3 v4 v5, W.heap[w.heap.size + 1 + 1]? = some (.cells #[v0, v1, v2, v3, v4, v5] 61) := by
     rcases hR.2.2.1 with h | h
     ·exact ⟨_, _, _, _, _, _, h.trans k2c'.out⟩
     ·exact ⟨_, _, _, _, _, _, h⟩
    obtain ⟨z0, z1, z2, z3, z4, z5⟩ := qAC hv
    have ⟨f0, f1, f2, f3, f4, f5⟩ := frz6 hv
    have hst := twoRel.set2 (o2 := (.cells #[.bool ps1, .slice pA1 pn1 pc1, .slice pB1 pm1 pd1, .bool ps2, .slice pA2 pn2 pc2, .slice pB2 pm2 pd2] 61)) (o3 := (.cells #[.bool qs1, .slice qA1 qn1 qc1, .slice qB1 qm1 qd1, .bool qs2, .slice qA2 qn2 qc2, .slice qB2 qm2 qd2] 61)) hm6 hv
    have ⟨hv', hst'⟩ := hyd2 hv hst
    clear hst hv
    simp only [fA, e0] at hK ⊢
    go_wp2
    exact hK undef _ hst'.out (qAZ hv'.out _ _ _ _ _ _)
   ·refine mSl rfl fun xv W hR hf Q hK hP => ?_
    obtain ⟨e0, -⟩ := hf
    change _ = _ at e0
    obtain ⟨v0, v1, v2, v3, v4, v5, hv⟩ : ∃ v0 v1 v2 v3 v4 v5, W.heap[w.heap.size + 1 + 1 + 1]? = some (.cells #[v0, v1, v2, v3, v4, v5] 61) := by
     rcases hR.2.2.2.1 with h | h
     ·exact ⟨_, _, _, _, _, _, h.trans k3c'.out⟩
     ·exact ⟨_, _, _, _, _, _, h⟩
    obtain ⟨z0, z1, z2, z3, z4, z5⟩ := qAC hv
    have ⟨f0, f1, f2, f3, f4, f5⟩ := frz6 hv
    have hst := twoRel.set3 (o2 := (.cells #[.bool ps1, .slice pA1 pn1 pc1, .slice pB1 pm1 pd1, .bool ps2, .slice pA2 pn2 pc2, .slice pB2 pm2 pd2] 61)) (o3 := (.cells #[.bool qs1, .slice qA1 qn1 qc1, .slice qB1 qm1 qd1, .bool qs2, .slice qA2 qn2 qc2, .slice qB2 qm2 qd2] 61)) hm6 hv
    have ⟨hv', hst'⟩ := hyd2 hv hst
    clear hst hv
    simp only [fA, e0] at hK ⊢
    go_wp2
    exact hK undef _ hst'.out (qAZ hv'.out _ _ _ _ _ _)
  ·intro xv W hR hf Q' hQ1 _
   have e5 : xv 5 = .bool b2 := hf 5 (by decide)
   have kV2 : W.heap[w.heap.size + 1 + 1]? = some (.cells #[.bool ps1, .slice pA1 pn1 pc1, .slice pB1 pm1 pd1, .bool ps2, .slice pA2 pn2 pc2, .slice pB2 pm2 pd2] 61) := hf 6 (by decide)
   have kV3 : W.heap[w.heap.size + 1 + 1 + 1]? = some (.cells #[.bool qs1, .slice qA1 qn1 qc1, .slice qB1 qm1 qd1, .bool qs2, .slice qA2 qn2 qc2, .slice qB2 qm2 qd2] 61) := hf 7 (by decide)
   obtain ⟨d0, d1, d2, d3, d4, d5⟩ := qAC kV2
   obtain ⟨d6, d7, d8, d9, d10, d11⟩ := qAC kV3
   have hlW := twoRel.le hR hall'.out (show w.heap.size ≤ w.heap.size + 1 + 1 by omega) (show w.heap.size ≤ w.heap.size + 1 + 1 + 1 by omega)
   have tt1 := twoRel.turnC hR t1'.out (qAN k2c'.out) (qAN k3c'.out)
   have tt2 := twoRel.turnC hR t2'.out (qAN k2c'.out) (qAN k3c'.out)
   simp only [List.drop_succ_cons, List.drop_zero]
   rw [show List.range 8 = [0, 1, 2, 3, 4, 5, 6, 7] from rfl]
   simp only [fA, e5]
   clear hf e5
   have ⟨kV2', kV3', hlW', tt1', tt2', hR'⟩ := hyd6 kV2 kV3 hlW tt1 tt2 hR
   clear hR tt2 tt1 hlW kV3 kV2
   go_wp2
   refine hQ1 _ _ ?_
   go_wp2
   exact bodyPost_ret (v := .tuple #[.agg #[.bool ps1, .slice pA1 pn1 pc1, .slice pB1 pm1 pd1, .bool ps2, .slice pA2 pn2 pc2, .slice pB2 pm2 pd2], .agg #[.bool qs1, .slice qA1 qn1 qc1, .slice qB1 qm1 qd1, .bool qs2, .slice qA2 qn2 qc2, .slice qB2 qm2 qd2], .bool b2]) (by simp [results, Tryz.results80, go_sem, d0, d1, d2, d3, d4, d5, d6, d7, d8, d9, d10, d11]) rfl ⟨hlW'.out, (.agg #[.bool ps1, .slice pA1 pn1 pc1, .slice pB1 pm1 pd1, .bool ps2, .slice pA2 pn2 pc2, .slice pB2 pm2 pd2]), (.agg #[.bool qs1, .slice qA1 qn1 qc1, .slice qB1 qm1 qd1, .bool qs2, .slice qA2 qn2 qc2, .slice qB2 qm2 qd2]), by simp, tt1'.out, tt2'.out⟩
theorem qHH (x : FracA × FracA) (v : Value) (w : World) (hv : IsTurnA w v x) : Calls Tryz.prog 22 #[v] w fun e w' => e = .returned (.int .i64 (okE (tval x).isSome)) ∧ Le w w' := by
 obtain ⟨x1A, x1c, x1B, x1d, x2A, x2c, x2B, x2d, rfl, p1, p2⟩ := hv
 obtain ⟨W0, hW0, hle, k0⟩ := al1 w (.cells #[.bool x.1.sn, .slice x1A x.1.gn.length x1c, .bool x.1.sd, .slice x1B x.1.gd.length x1d, .bool x.2.sn, .slice x2A x.2.gn.length x2c, .bool x.2.sd, .slice x2B x.2.gd.length x2d] 29)
 obtain ⟨c0, c1, c2, c3, c4, c5, c6, c7⟩ := qAB k0
 have r1 := qBI x _ W0 (IsTurnA.mk (p1.le hle) (p2.le hle))
 obtain ⟨b1, hb1⟩ : ∃ b, (tval x).isSome = b := ⟨_, rfl⟩
 unfold qCO at r1
 rw [hb1] at r1
 rw [hb1]
 have ⟨hle', k0', p1', p2', r1', hb1'⟩ := hyd6 hle k0 p1 p2 r1 hb1
 clear hb1 r1 p2 p1 k0 hle
 go_enter Tryz.func22, Tryz.ntmps22
 go_wp2_with (fail)
 clear hW0
 go_at_call 21
 refine r1'.out.mono ?_
 rintro e W1 ⟨hle1, v1, rfl, ⟨⟨ps1, pA1, pn1, pc1, pB1, pm1, pd1, ps2, pA2, pn2, pc2, pB2, pm2, pd2, rfl⟩, hc1⟩⟩
 have hle9 := (hle'.out.trans hle1).trans (qAA W1 (.cells #[.bool ps1, .slice pA1 pn1 pc1, .slice pB1 pm1 pd1, .bool ps2, .slice pA2 pn2 pc2, .slice pB2 pm2 pd2] 61))
 have ⟨hle1', hc1', hle9'⟩ := hyd3 hle1 hc1 hle9
 clear hle9 hc1 hle1
 cases b1
 all_goals
  go_wp2
  go_ret
  exact ⟨rfl, hle9'.out⟩
theorem qHp (x y : FracA × FracA) (va vb : Value) (w : World) (h1 : IsTurnA w va x) (h2 : IsTurnA w vb y) : Calls Tryz.prog 10 #[va, vb] w fun e w' => e = .returned (.bool (qGY x y)) ∧ Le w w' := by
 obtain ⟨x1A, x1c, x1B, x1d, x2A, x2c, x2B, x2d, rfl, p1, p2⟩ := h1
 obtain ⟨y1A, y1c, y1B, y1d, y2A, y2c, y2B, y2d, rfl, q1, q2⟩ := h2
 obtain ⟨W0, hW0, hsz, hle, k0, k1⟩ := qAQ w (.cells #[.bool x.1.sn, .slice x1A x.1.gn.length x1c, .bool x.1.sd, .slice x1B x.1.gd.length x1d, .bool x.2.sn, .slice x2A x.2.gn.length x2c, .bool x.2.sd, .slice x2B x.2.gd.length x2d] 29) (.cells #[.bool y.1.sn, .slice y1A y.1.gn.length y1c, .bool y.1.sd, .slice y1B y.1.gd.length y1d, .bool y.2.sn, .slice y2A y.2.gn.length y2c, .bool y.2.sd, .slice y2B y.2.gd.length y2d] 29)
 obtain ⟨a0, a1, a2, a3, a4, a5, a6, a7⟩ := qAB k0
 obtain ⟨b0, b1, b2, b3, b4, b5, b6, b7⟩ := qAB k1
 have r1 := qEo (fun _ => True) (fun _ => True) x.1 y.1 _ _ W0 (p1.le hle) (q1.le hle)
 have r2 := fun W (hW : Le W0 W) => qEo (fun _ => True) (fun _ => True) x.2 y.2 _ _ W (p2.le (hle.trans hW)) (q2.le (hle.trans hW))
 obtain ⟨s1, hs1⟩ : ∃ s, qDc x.1 y.1 = s := ⟨_, rfl⟩
 obtain ⟨s2, hs2⟩ : ∃ s, qDc x.2 y.2 = s := ⟨_, rfl⟩
 have hT : qGY x y = (s1 && s2) := by unfold qGY; rw [hs1, hs2]
 rw [hs1] at r1
 rw [hs2] at r2
 rw [hT]
 have ⟨hle', k0', k1', p1', p2', q1', q2', r1'⟩ := hyd8 hle k0 k1 p1 p2 q1 q2 r1
 have ⟨r2', hs1', hs2', hT'⟩ := hyd4 r2 hs1 hs2 hT
 clear hT hs2 hs1 r2 r1 q2 q1 p2 p1 k1 k0 hle
 cases s1
 ·go_enter Tryz.func10, Tryz.ntmps10
  go_wp2_with (fail)
  clear hW0
  go_at_call 36
  refine r1'.out.mono ?_
  rintro e W1 ⟨rfl, hle1⟩
  have hl1 := hle'.out.trans hle1
  have ⟨hle1', hl1'⟩ := hyd2 hle1 hl1
  clear hl1 hle1
  go_wp2
  go_ret
  exact ⟨by simp, hl1'.out⟩
 ·go_enter Tryz.func10, Tryz.ntmps10
  go_wp2_with (fail)
  clear hW0
  go_at_call 36
  refine r1'.out.mono ?_
  rintro e W1 ⟨rfl, hle1⟩
  clear a0 a1 a2 a3 a4 a5 a6 a7 b0 b1 b2 b3 b4 b5 b6 b7
  obtain ⟨a0, a1, a2, a3, a4, a5, a6, a7⟩ := qAB (bxl hle1 k0'.out)
  obtain ⟨b0, b1, b2, b3, b4, b5, b6, b7⟩ := qAB (bxl hle1 k1'.out)
  have r3 := r2'.out W1 hle1
  have ⟨hle1', r3'⟩ := hyd2 hle1 r3
  clear r3 hle1
  go_wp2_with (fail)
  go_at_call 36
  refine r3'.out.mono ?_
  rintro e W2 ⟨rfl, hle2⟩
  have hl2 := (hle'.out.trans hle1'.out).trans hle2
  have ⟨hle2', hl2'⟩ := hyd2 hle2 hl2
  clear hl2 hle2
  go_wp2
  go_ret
  exact ⟨by simp, hl2'.out⟩
theorem qEZ (x : FracA × FracA) (m : Nat) (v : Value) (w : World) (hm : (m : Int) ≤ 1000) (h : IsTurnA w v x) : Calls Tryz.prog 5 #[v, .int .i64 m] w fun e w' => e = .returned (.bool (qD3 x m)) ∧ Le w w' := by
 obtain ⟨x1A, x1c, x1B, x1d, x2A, x2c, x2B, x2d, rfl, p1, p2⟩ := h
 obtain ⟨W0, hW0, hle, k0⟩ := al1 w (.cells #[.bool x.1.sn, .slice x1A x.1.gn.length x1c, .bool x.1.sd, .slice x1B x.1.gd.length x1d, .bool x.2.sn, .slice x2A x.2.gn.length x2c, .bool x.2.sd, .slice x2B x.2.gd.length x2d] 29)
 obtain ⟨a0, a1, a2, a3, a4, a5, a6, a7⟩ := qAB k0
 have r1 := qGS (fun _ => True) x.1 m _ W0 hm (p1.le hle)
 have r2 := fun W (hW : Le W0 W) => qGS (fun _ => True) x.2 m _ W hm (p2.le (hle.trans hW))
 obtain ⟨s1, hs1⟩ : ∃ s, qDF x.1 m = s := ⟨_, rfl⟩
 obtain ⟨s2, hs2⟩ : ∃ s, qDF x.2 m = s := ⟨_, rfl⟩
 have hT : qD3 x m = (s1 || s2) := by unfold qD3; rw [hs1, hs2]
 rw [hs1] at r1
 rw [hs2] at r2
 rw [hT]
 have ⟨hle', k0', p1', p2', r1', r2', hs1', hs2'⟩ := hyd8 hle k0 p1 p2 r1 r2 hs1 hs2
 have hT' := hyd1 hT
 clear hT hs2 hs1 r2 r1 p2 p1 k0 hle
 cases s1
 ·go_enter Tryz.func5, Tryz.ntmps5
  go_wp2_with (fail)
  clear hW0
  go_at_call 13
  refine r1'.out.mono ?_
  rintro e W1 ⟨rfl, hle1⟩
  clear a0 a1 a2 a3 a4 a5 a6 a7
  obtain ⟨a0, a1, a2, a3, a4, a5, a6, a7⟩ := qAB (bxl hle1 k0'.out)
  have r3 := r2'.out W1 hle1
  have ⟨hle1', r3'⟩ := hyd2 hle1 r3
  clear r3 hle1
  go_wp2_with (fail)
  go_at_call 13
  refine r3'.out.mono ?_
  rintro e W2 ⟨rfl, hle2⟩
  have hl2 := (hle'.out.trans hle1'.out).trans hle2
  have ⟨hle2', hl2'⟩ := hyd2 hle2 hl2
  clear hl2 hle2
  go_wp2
  go_ret
  exact ⟨by simp, hl2'.out⟩
 ·go_enter Tryz.func5, Tryz.ntmps5
  go_wp2_with (fail)
  clear hW0
  go_at_call 13
  refine r1'.out.mono ?_
  rintro e W1 ⟨rfl, hle1⟩
  have hl1 := hle'.out.trans hle1
  have ⟨hle1', hl1'⟩ := hyd2 hle1 hl1
  clear hl1 hle1
  go_wp2
  go_ret
  exact ⟨by simp, hl1'.out⟩
end Go.Proofs.YtlhfonhbbpbmpaaGreat

