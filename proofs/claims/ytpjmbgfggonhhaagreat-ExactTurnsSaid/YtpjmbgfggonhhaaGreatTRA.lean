/- barleycornref01: InTurn, OutTurn. barleycornref01: pair, CheckTurn, Norm. barleycornref01: SameTurn, GreatTurn. -/
import Derived.Test.YtpjmbgfggonhhaaGreatTurnKit
import Derived.Test.YtpjmbgfggonhhaaGreatTrnR
namespace Go.Proofs.YtpjmbgfggonhhaaGreat
open Go.RowKit Go.Shelf
set_option linter.unusedVariables false
set_option linter.unusedSimpArgs false
set_option maxRecDepth 100000 in
set_option maxHeartbeats 4000000 in
theorem pf_n_InTurn (x : FracA × FracA) (v : Value) (w : World) (h : IsTurnA w v x) : Calls Tryz.prog 38 #[v] w (InPostN x w) := by
  obtain ⟨x1A, x1c, x1B, x1d, x2A, x2c, x2B, x2d, rfl, p1, p2⟩ := h
  obtain ⟨W0, hW0, hsz, hle, k0, k1⟩ := new2_le w (.cells #[.bool x.1.sn, .slice x1A x.1.gn.length x1c, .bool x.1.sd, .slice x1B x.1.gd.length x1d, .bool x.2.sn, .slice x2A x.2.gn.length x2c, .bool x.2.sd, .slice x2B x.2.gd.length x2d] 28) (.cells #[.bool false, .slice none 0 0, .slice none 0 0, .bool false, .slice none 0 0, .slice none 0 0] 61)
  obtain ⟨a0, a1, a2, a3, a4, a5, a6, a7⟩ := cells8 k0
  have hbo := pf_n_both (fun _ => True) (fun _ => True) x.1 x.2 _ _ W0 (Up.any _) (p1.le hle) (p2.le hle)
  obtain ⟨bb, hbb⟩ : ∃ b, (okA x.1 && okA x.2) = b := ⟨_, rfl⟩
  have htb : (tval x).isSome = bb := (tval_both x).trans hbb
  unfold BothPost at hbo
  rw [hbb] at hbo
  unfold InPostN
  rw [htb]
  have hle' := Lib.hid hle
  have k0' := Lib.hid k0
  have k1' := Lib.hid k1
  have p1' := Lib.hid p1
  have p2' := Lib.hid p2
  have hbo' := Lib.hid hbo
  have hbb' := Lib.hid hbb
  have htb' := Lib.hid htb
  clear htb hbb hbo p2 p1 k1 k0 hle
  go_enter Tryz.func38, Tryz.ntmps38
  go_wp2_with (fail)
  clear hW0
  go_at_call 70
  refine hbo'.out.mono ?_
  rintro e W1 ⟨hle1, vx, vy, rfl, ⟨ps1, pA1, pn1, pc1, pB1, pm1, pd1, rfl⟩, ⟨ps2, pA2, pn2, pc2, pB2, pm2, pd2, rfl⟩, hrx, hry⟩
  obtain ⟨V, hV, hsV, hle2, j0, j1⟩ := new2_le W1 (.cells #[.bool ps1, .slice pA1 pn1 pc1, .slice pB1 pm1 pd1] 59) (.cells #[.bool ps2, .slice pA2 pn2 pc2, .slice pB2 pm2 pd2] 59)
  have hcc : TurnC V (.agg #[.bool ps1, .slice pA1 pn1 pc1, .slice pB1 pm1 pd1, .bool ps2, .slice pA2 pn2 pc2, .slice pB2 pm2 pd2]) x := ⟨⟨_, _, _, _, _, _, _, _, _, _, _, _, _, _, rfl⟩, fun gg hg => TurnL.mk ((hrx _ (tval_parts hg).1).le hle2) ((hry _ (tval_parts hg).2).le hle2)⟩
  obtain ⟨c0, c1, c2, -⟩ := cells3 j0
  obtain ⟨d0, d1, d2, -⟩ := cells3 j1
  have hlV := (hle'.out.trans hle1).trans hle2
  have kV := box_later (hle1.trans hle2) k1'.out
  have hle1' := Lib.hid hle1
  have hle2' := Lib.hid hle2
  have j0' := Lib.hid j0
  have j1' := Lib.hid j1
  have hrx' := Lib.hid hrx
  have hry' := Lib.hid hry
  have hcc' := Lib.hid hcc
  have hlV' := Lib.hid hlV
  clear hlV hcc hry hrx j1 j0 hle2 hle1
  obtain ⟨z0, z1, z2, z3, z4, z5⟩ := cells6 kV
  have g0 := frozen00 kV 0
  have g1 := frozen00 kV 1
  have g2 := frozen00 kV 2
  have g3 := frozen00 kV 3
  have g4 := frozen00 kV 4
  have g5 := frozen00 kV 5
  have hle9 := fun u0 u1 u2 u3 u4 u5 => le_set6 (hlV'.out) (show w.heap.size ≤ w.heap.size + 1 by omega) u0 u1 u2 u3 u4 u5
  have hb9 := fun u0 u1 u2 u3 u4 u5 => cells6 (heap_set6 kV u0 u1 u2 u3 u4 u5)
  simp only [set6] at hb9
  have hf0 := fun u0 u1 u2 u3 u4 u5 => hcc'.out.touch (noInt6 kV) (touch_set6 V (w.heap.size + 1) u0 u1 u2 u3 u4 u5)
  have hle9' := Lib.hid hle9
  have hb9' := Lib.hid hb9
  have kV' := Lib.hid kV
  have hf0' := Lib.hid hf0
  clear hf0 kV hb9 hle9
  go_wp2
  obtain ⟨d0, d1, d2, d3, d4, d5⟩ := hb9'.out (.bool ps1) (.slice pA1 pn1 pc1) (.slice pB1 pm1 pd1) (.bool ps2) (.slice pA2 pn2 pc2) (.slice pB2 pm2 pd2)
  exact bodyPost_ret (v := .tuple #[.agg #[.bool ps1, .slice pA1 pn1 pc1, .slice pB1 pm1 pd1, .bool ps2, .slice pA2 pn2 pc2, .slice pB2 pm2 pd2], .bool bb]) (by simp [results, Tryz.results38, go_sem, d0, d1, d2, d3, d4, d5]) rfl ⟨hle9'.out _ _ _ _ _ _, _, rfl, hf0'.out _ _ _ _ _ _⟩
theorem pf_n_Out_ok (r : Rat) (v : Value) (w : World) (h : RatT .i64 w v r) (hs : Rsz r 40) : Calls Tryz.prog 43 #[v] w fun e w' => ∃ v', e = .returned (.tuple #[v', .int .i64 0]) ∧ Le w w' ∧ FracT w' v' r := by
  refine (pf_n_Out (fun _ => True) (fun _ => True) r v w (Up.any _) h).mono ?_
  rintro e w' ⟨hle, ⟨-, v', rfl, hf⟩ | ⟨hn, -⟩⟩
  · exact ⟨v', rfl, hle, hf⟩
  · exact absurd hs hn
theorem pf_n_Out_no (r : Rat) (v : Value) (w : World) (h : RatT .i64 w v r) (hs : ¬ Rsz r 40) : Calls Tryz.prog 43 #[v] w fun e w' => e = .returned (.tuple #[zeroF, .int .i64 12]) ∧ Le w w' := by
  refine (pf_n_Out (fun _ => True) (fun _ => True) r v w (Up.any _) h).mono ?_
  rintro e w' ⟨hle, ⟨hy, -⟩ | ⟨-, h⟩⟩
  · exact absurd hy hs
  · exact ⟨h, hle⟩
set_option maxRecDepth 100000 in
set_option maxHeartbeats 4000000 in
theorem pf_n_OutTurn (a : G2) (va : Value) (w : World) (ha : TurnL .i64 w va a) : Calls Tryz.prog 25 #[va] w (ResPostT (outG a) w) := by
  obtain ⟨as1, aA1, an1, ac1, aB1, am1, ad1, as2, aA2, an2, ac2, aB2, am2, ad2, rfl, ha1, ha2⟩ := ha
  obtain ⟨W0, hW0, hsz, hle, k0, k1⟩ := new2_le w (.cells #[.bool as1, .slice aA1 an1 ac1, .slice aB1 am1 ad1, .bool as2, .slice aA2 an2 ac2, .slice aB2 am2 ad2] 61) (.cells #[.bool false, .slice none 0 0, .bool false, .slice none 0 0, .bool false, .slice none 0 0, .bool false, .slice none 0 0] 28)
  obtain ⟨c0, c1, c2, c3, c4, c5⟩ := cells6 k0
  replace ha1 := ha1.le hle
  replace ha2 := ha2.le hle
  have hle' := Lib.hid hle
  have k0' := Lib.hid k0
  have k1' := Lib.hid k1
  have ha1' := Lib.hid ha1
  have ha2' := Lib.hid ha2
  clear ha2 ha1 k1 k0 hle
  skip
  rcases Classical.em (Rsz a.1 40) with h1 | h1
  · rcases Classical.em (Rsz a.2 40) with h2 | h2
    · have hog : outG a = .ok a := outG_ok ⟨h1, h2⟩
      have hout := pf_n_Out_ok a.1 _ W0 ha1'.out h1
      have hog' := Lib.hid hog
      have hout' := Lib.hid hout
      have h1' := Lib.hid h1
      have h2' := Lib.hid h2
      clear h2 h1 hout hog
      go_enter Tryz.func25, Tryz.ntmps25
      go_wp2_with (fail)
      clear hW0
      go_at_call 43
      refine hout'.out.mono ?_
      rintro e W1 ⟨v1, rfl, hle1, hf1⟩
      obtain ⟨ps1, pA1, pn1, pc1, pt1, pB1, pm1, pd1, rfl⟩ := hf1.fform
      obtain ⟨V1, hV1, hle2, j1⟩ : ∃ V, W1.alloc (.cells #[.bool ps1, .slice pA1 pn1 pc1, .bool pt1, .slice pB1 pm1 pd1] 26) = V ∧ Le W1 V ∧ V.heap[W1.heap.size]? = some (.cells #[.bool ps1, .slice pA1 pn1 pc1, .bool pt1, .slice pB1 pm1 pd1] 26) := ⟨_, rfl, le_alloc _ _, by unfold World.alloc; exact Array.getElem?_push_size⟩
      have hl2 := hle1.trans hle2
      have kb := box_later hl2 k0'.out
      obtain ⟨e0, e1, e2, e3, e4, e5⟩ := cells6 kb
      have hout2 := pf_n_Out_ok a.2 _ V1 (ha2'.out.le hl2) h2'.out
      have k1b := box_later hl2 k1'.out
      have hlV := hle'.out.trans hl2
      have hs1 := hle1.size
      have hg1 := hf1.le hle2
      have hle1' := Lib.hid hle1
      have hle2' := Lib.hid hle2
      have hl2' := Lib.hid hl2
      have j1' := Lib.hid j1
      have kb' := Lib.hid kb
      have hout2' := Lib.hid hout2
      have k1b' := Lib.hid k1b
      have hlV' := Lib.hid hlV
      have hf1' := Lib.hid hf1
      have hg1' := Lib.hid hg1
      clear hg1 hf1 hlV k1b hout2 kb j1 hl2 hle2 hle1
      go_wp2_with (fail)
      clear hV1
      go_at_call 43
      refine hout2'.out.mono ?_
      rintro e W2 ⟨v2, rfl, hle3, hf2⟩
      obtain ⟨qs1, qA1, qn1, qc1, qt1, qB1, qm1, qd1, rfl⟩ := hf2.fform
      obtain ⟨V2, hV2, hle4, j2⟩ : ∃ V, W2.alloc (.cells #[.bool qs1, .slice qA1 qn1 qc1, .bool qt1, .slice qB1 qm1 qd1] 26) = V ∧ Le W2 V ∧ V.heap[W2.heap.size]? = some (.cells #[.bool qs1, .slice qA1 qn1 qc1, .bool qt1, .slice qB1 qm1 qd1] 26) := ⟨_, rfl, le_alloc _ _, by unfold World.alloc; exact Array.getElem?_push_size⟩
      have hl4 := hle3.trans hle4
      have j1b := box_later hl4 j1'.out
      have k1c := box_later hl4 k1b'.out
      have hlW := hlV'.out.trans hl4
      obtain ⟨y0, y1, y2, y3⟩ := cells4 j1b
      obtain ⟨x0, x1, x2, x3⟩ := cells4 j2
      have hs3 := hle3.size
      have hs2 := hle2'.out.size
      have q1 := hg1'.out.le hl4
      have q2 := hf2.le hle4
      have hcc : TurnF V2 (.agg #[.bool ps1, .slice pA1 pn1 pc1, .bool pt1, .slice pB1 pm1 pd1, .bool qs1, .slice qA1 qn1 qc1, .bool qt1, .slice qB1 qm1 qd1]) a := ⟨_, _, _, _, _, _, _, _, _, _, _, _, _, _, _, _, rfl, q1, q2⟩
      have hle3' := Lib.hid hle3
      have hle4' := Lib.hid hle4
      have hl4' := Lib.hid hl4
      have j1b' := Lib.hid j1b
      have j2' := Lib.hid j2
      have hlW' := Lib.hid hlW
      have q1' := Lib.hid q1
      have q2' := Lib.hid q2
      have hcc' := Lib.hid hcc
      have hf2' := Lib.hid hf2
      clear hf2 hcc q2 q1 hlW j2 j1b hl4 hle4 hle3
      try clear hV2x
      obtain ⟨z0, z1, z2, z3, z4, z5, z6, z7⟩ := cells8 k1c
      have g0 := frozen00 k1c 0
      have g1 := frozen00 k1c 1
      have g2 := frozen00 k1c 2
      have g3 := frozen00 k1c 3
      have g4 := frozen00 k1c 4
      have g5 := frozen00 k1c 5
      have g6 := frozen00 k1c 6
      have g7 := frozen00 k1c 7
      have hle9 := fun u0 u1 u2 u3 u4 u5 u6 u7 => le_set8 (hlW'.out) (show w.heap.size ≤ w.heap.size + 1 by omega) u0 u1 u2 u3 u4 u5 u6 u7
      have hb9 := fun u0 u1 u2 u3 u4 u5 u6 u7 => cells8 (heap_set8 k1c u0 u1 u2 u3 u4 u5 u6 u7)
      simp only [set8] at hb9
      have hf0 := fun u0 u1 u2 u3 u4 u5 u6 u7 => hcc'.out.touch (noInt8 k1c) (touch_set8 V2 (w.heap.size + 1) u0 u1 u2 u3 u4 u5 u6 u7)
      have hle9' := Lib.hid hle9
      have hb9' := Lib.hid hb9
      have k1c' := Lib.hid k1c
      have hf0' := Lib.hid hf0
      clear hf0 k1c hb9 hle9
      go_wp2
      obtain ⟨d0, d1, d2, d3, d4, d5, d6, d7⟩ := hb9'.out (.bool ps1) (.slice pA1 pn1 pc1) (.bool pt1) (.slice pB1 pm1 pd1) (.bool qs1) (.slice qA1 qn1 qc1) (.bool qt1) (.slice qB1 qm1 qd1)
      exact bodyPost_ret (v := .tuple #[.agg #[.bool ps1, .slice pA1 pn1 pc1, .bool pt1, .slice pB1 pm1 pd1, .bool qs1, .slice qA1 qn1 qc1, .bool qt1, .slice qB1 qm1 qd1], .int .i64 0]) (by simp [results, Tryz.results25, go_sem, d0, d1, d2, d3, d4, d5, d6, d7]) rfl ⟨hle9'.out _ _ _ _ _ _ _ _, _, _, rfl, by rw [hog'.out]; exact ⟨hf0'.out _ _ _ _ _ _ _ _, rfl⟩⟩
    · have hog : outG a = .error 12 := outG_no fun h => h2 h.2
      have hout := pf_n_Out_ok a.1 _ W0 ha1'.out h1
      have hog' := Lib.hid hog
      have hout' := Lib.hid hout
      have h1' := Lib.hid h1
      have h2' := Lib.hid h2
      clear h2 h1 hout hog
      go_enter Tryz.func25, Tryz.ntmps25
      go_wp2_with (fail)
      clear hW0
      go_at_call 43
      refine hout'.out.mono ?_
      rintro e W1 ⟨v1, rfl, hle1, hf1⟩
      obtain ⟨ps1, pA1, pn1, pc1, pt1, pB1, pm1, pd1, rfl⟩ := hf1.fform
      obtain ⟨V1, hV1, hle2, j1⟩ : ∃ V, W1.alloc (.cells #[.bool ps1, .slice pA1 pn1 pc1, .bool pt1, .slice pB1 pm1 pd1] 26) = V ∧ Le W1 V ∧ V.heap[W1.heap.size]? = some (.cells #[.bool ps1, .slice pA1 pn1 pc1, .bool pt1, .slice pB1 pm1 pd1] 26) := ⟨_, rfl, le_alloc _ _, by unfold World.alloc; exact Array.getElem?_push_size⟩
      have hl2 := hle1.trans hle2
      have kb := box_later hl2 k0'.out
      obtain ⟨e0, e1, e2, e3, e4, e5⟩ := cells6 kb
      have hout2 := pf_n_Out_no a.2 _ V1 (ha2'.out.le hl2) h2'.out
      have k1b := box_later hl2 k1'.out
      have hlV := hle'.out.trans hl2
      have hs1 := hle1.size
      have hg1 := hf1.le hle2
      have hle1' := Lib.hid hle1
      have hle2' := Lib.hid hle2
      have hl2' := Lib.hid hl2
      have j1' := Lib.hid j1
      have kb' := Lib.hid kb
      have hout2' := Lib.hid hout2
      have k1b' := Lib.hid k1b
      have hlV' := Lib.hid hlV
      have hf1' := Lib.hid hf1
      have hg1' := Lib.hid hg1
      clear hg1 hf1 hlV k1b hout2 kb j1 hl2 hle2 hle1
      go_wp2_with (fail)
      clear hV1
      go_at_call 43
      refine hout2'.out.mono ?_
      rintro e W2 ⟨rfl, hle3⟩
      obtain ⟨qs1, qA1, qn1, qc1, qt1, qB1, qm1, qd1, hzq⟩ : ∃ s A n c t B m d, zeroF = .agg #[.bool s, .slice A n c, .bool t, .slice B m d] := ⟨_, _, _, _, _, _, _, _, rfl⟩
      rw [hzq]
      clear hzq
      obtain ⟨V2, hV2, hle4, j2⟩ : ∃ V, W2.alloc (.cells #[.bool qs1, .slice qA1 qn1 qc1, .bool qt1, .slice qB1 qm1 qd1] 26) = V ∧ Le W2 V ∧ V.heap[W2.heap.size]? = some (.cells #[.bool qs1, .slice qA1 qn1 qc1, .bool qt1, .slice qB1 qm1 qd1] 26) := ⟨_, rfl, le_alloc _ _, by unfold World.alloc; exact Array.getElem?_push_size⟩
      have hl4 := hle3.trans hle4
      have j1b := box_later hl4 j1'.out
      have k1c := box_later hl4 k1b'.out
      have hlW := hlV'.out.trans hl4
      obtain ⟨y0, y1, y2, y3⟩ := cells4 j1b
      obtain ⟨x0, x1, x2, x3⟩ := cells4 j2
      have hs3 := hle3.size
      have hs2 := hle2'.out.size
      have hle3' := Lib.hid hle3
      have hle4' := Lib.hid hle4
      have hl4' := Lib.hid hl4
      have j1b' := Lib.hid j1b
      have j2' := Lib.hid j2
      have hlW' := Lib.hid hlW
      clear hlW j2 j1b hl4 hle4 hle3
      try clear hV2x
      obtain ⟨z0, z1, z2, z3, z4, z5, z6, z7⟩ := cells8 k1c
      have g0 := frozen00 k1c 0
      have g1 := frozen00 k1c 1
      have g2 := frozen00 k1c 2
      have g3 := frozen00 k1c 3
      have g4 := frozen00 k1c 4
      have g5 := frozen00 k1c 5
      have g6 := frozen00 k1c 6
      have g7 := frozen00 k1c 7
      have hle9 := fun u0 u1 u2 u3 u4 u5 u6 u7 => le_set8 (hlW'.out) (show w.heap.size ≤ w.heap.size + 1 by omega) u0 u1 u2 u3 u4 u5 u6 u7
      have hb9 := fun u0 u1 u2 u3 u4 u5 u6 u7 => cells8 (heap_set8 k1c u0 u1 u2 u3 u4 u5 u6 u7)
      simp only [set8] at hb9
      have hle9' := Lib.hid hle9
      have hb9' := Lib.hid hb9
      have k1c' := Lib.hid k1c
      clear k1c hb9 hle9
      go_wp2
      obtain ⟨d0, d1, d2, d3, d4, d5, d6, d7⟩ := hb9'.out (.bool false) (.slice none 0 0) (.bool false) (.slice none 0 0) (.bool false) (.slice none 0 0) (.bool false) (.slice none 0 0)
      exact bodyPost_ret (v := .tuple #[.agg #[.bool false, .slice none 0 0, .bool false, .slice none 0 0, .bool false, .slice none 0 0, .bool false, .slice none 0 0], .int .i64 12]) (by simp [results, Tryz.results25, go_sem, d0, d1, d2, d3, d4, d5, d6, d7]) rfl ⟨hle9'.out _ _ _ _ _ _ _ _, _, _, rfl, by rw [hog'.out]; exact ⟨rfl, rfl⟩⟩
  · rcases Classical.em (Rsz a.2 40) with h2 | h2
    · have hog : outG a = .error 12 := outG_no fun h => h1 h.1
      have hout := pf_n_Out_no a.1 _ W0 ha1'.out h1
      have hog' := Lib.hid hog
      have hout' := Lib.hid hout
      have h1' := Lib.hid h1
      have h2' := Lib.hid h2
      clear h2 h1 hout hog
      go_enter Tryz.func25, Tryz.ntmps25
      go_wp2_with (fail)
      clear hW0
      go_at_call 43
      refine hout'.out.mono ?_
      rintro e W1 ⟨rfl, hle1⟩
      obtain ⟨ps1, pA1, pn1, pc1, pt1, pB1, pm1, pd1, hzp⟩ : ∃ s A n c t B m d, zeroF = .agg #[.bool s, .slice A n c, .bool t, .slice B m d] := ⟨_, _, _, _, _, _, _, _, rfl⟩
      rw [hzp]
      clear hzp
      obtain ⟨V1, hV1, hle2, j1⟩ : ∃ V, W1.alloc (.cells #[.bool ps1, .slice pA1 pn1 pc1, .bool pt1, .slice pB1 pm1 pd1] 26) = V ∧ Le W1 V ∧ V.heap[W1.heap.size]? = some (.cells #[.bool ps1, .slice pA1 pn1 pc1, .bool pt1, .slice pB1 pm1 pd1] 26) := ⟨_, rfl, le_alloc _ _, by unfold World.alloc; exact Array.getElem?_push_size⟩
      have hl2 := hle1.trans hle2
      have kb := box_later hl2 k0'.out
      obtain ⟨e0, e1, e2, e3, e4, e5⟩ := cells6 kb
      have hout2 := pf_n_Out_ok a.2 _ V1 (ha2'.out.le hl2) h2'.out
      have k1b := box_later hl2 k1'.out
      have hlV := hle'.out.trans hl2
      have hs1 := hle1.size
      have hle1' := Lib.hid hle1
      have hle2' := Lib.hid hle2
      have hl2' := Lib.hid hl2
      have j1' := Lib.hid j1
      have kb' := Lib.hid kb
      have hout2' := Lib.hid hout2
      have k1b' := Lib.hid k1b
      have hlV' := Lib.hid hlV
      clear hlV k1b hout2 kb j1 hl2 hle2 hle1
      go_wp2_with (fail)
      clear hV1
      go_at_call 43
      refine hout2'.out.mono ?_
      rintro e W2 ⟨v2, rfl, hle3, hf2⟩
      obtain ⟨qs1, qA1, qn1, qc1, qt1, qB1, qm1, qd1, rfl⟩ := hf2.fform
      obtain ⟨V2, hV2, hle4, j2⟩ : ∃ V, W2.alloc (.cells #[.bool qs1, .slice qA1 qn1 qc1, .bool qt1, .slice qB1 qm1 qd1] 26) = V ∧ Le W2 V ∧ V.heap[W2.heap.size]? = some (.cells #[.bool qs1, .slice qA1 qn1 qc1, .bool qt1, .slice qB1 qm1 qd1] 26) := ⟨_, rfl, le_alloc _ _, by unfold World.alloc; exact Array.getElem?_push_size⟩
      have hl4 := hle3.trans hle4
      have j1b := box_later hl4 j1'.out
      have k1c := box_later hl4 k1b'.out
      have hlW := hlV'.out.trans hl4
      obtain ⟨y0, y1, y2, y3⟩ := cells4 j1b
      obtain ⟨x0, x1, x2, x3⟩ := cells4 j2
      have hs3 := hle3.size
      have hs2 := hle2'.out.size
      have hle3' := Lib.hid hle3
      have hle4' := Lib.hid hle4
      have hl4' := Lib.hid hl4
      have j1b' := Lib.hid j1b
      have j2' := Lib.hid j2
      have hlW' := Lib.hid hlW
      clear hlW j2 j1b hl4 hle4 hle3
      try clear hV2x
      obtain ⟨z0, z1, z2, z3, z4, z5, z6, z7⟩ := cells8 k1c
      have g0 := frozen00 k1c 0
      have g1 := frozen00 k1c 1
      have g2 := frozen00 k1c 2
      have g3 := frozen00 k1c 3
      have g4 := frozen00 k1c 4
      have g5 := frozen00 k1c 5
      have g6 := frozen00 k1c 6
      have g7 := frozen00 k1c 7
      have hle9 := fun u0 u1 u2 u3 u4 u5 u6 u7 => le_set8 (hlW'.out) (show w.heap.size ≤ w.heap.size + 1 by omega) u0 u1 u2 u3 u4 u5 u6 u7
      have hb9 := fun u0 u1 u2 u3 u4 u5 u6 u7 => cells8 (heap_set8 k1c u0 u1 u2 u3 u4 u5 u6 u7)
      simp only [set8] at hb9
      have hle9' := Lib.hid hle9
      have hb9' := Lib.hid hb9
      have k1c' := Lib.hid k1c
      clear k1c hb9 hle9
      go_wp2
      obtain ⟨d0, d1, d2, d3, d4, d5, d6, d7⟩ := hb9'.out (.bool false) (.slice none 0 0) (.bool false) (.slice none 0 0) (.bool false) (.slice none 0 0) (.bool false) (.slice none 0 0)
      exact bodyPost_ret (v := .tuple #[.agg #[.bool false, .slice none 0 0, .bool false, .slice none 0 0, .bool false, .slice none 0 0, .bool false, .slice none 0 0], .int .i64 12]) (by simp [results, Tryz.results25, go_sem, d0, d1, d2, d3, d4, d5, d6, d7]) rfl ⟨hle9'.out _ _ _ _ _ _ _ _, _, _, rfl, by rw [hog'.out]; exact ⟨rfl, rfl⟩⟩
    · have hog : outG a = .error 12 := outG_no fun h => h1 h.1
      have hout := pf_n_Out_no a.1 _ W0 ha1'.out h1
      have hog' := Lib.hid hog
      have hout' := Lib.hid hout
      have h1' := Lib.hid h1
      have h2' := Lib.hid h2
      clear h2 h1 hout hog
      go_enter Tryz.func25, Tryz.ntmps25
      go_wp2_with (fail)
      clear hW0
      go_at_call 43
      refine hout'.out.mono ?_
      rintro e W1 ⟨rfl, hle1⟩
      obtain ⟨ps1, pA1, pn1, pc1, pt1, pB1, pm1, pd1, hzp⟩ : ∃ s A n c t B m d, zeroF = .agg #[.bool s, .slice A n c, .bool t, .slice B m d] := ⟨_, _, _, _, _, _, _, _, rfl⟩
      rw [hzp]
      clear hzp
      obtain ⟨V1, hV1, hle2, j1⟩ : ∃ V, W1.alloc (.cells #[.bool ps1, .slice pA1 pn1 pc1, .bool pt1, .slice pB1 pm1 pd1] 26) = V ∧ Le W1 V ∧ V.heap[W1.heap.size]? = some (.cells #[.bool ps1, .slice pA1 pn1 pc1, .bool pt1, .slice pB1 pm1 pd1] 26) := ⟨_, rfl, le_alloc _ _, by unfold World.alloc; exact Array.getElem?_push_size⟩
      have hl2 := hle1.trans hle2
      have kb := box_later hl2 k0'.out
      obtain ⟨e0, e1, e2, e3, e4, e5⟩ := cells6 kb
      have hout2 := pf_n_Out_no a.2 _ V1 (ha2'.out.le hl2) h2'.out
      have k1b := box_later hl2 k1'.out
      have hlV := hle'.out.trans hl2
      have hs1 := hle1.size
      have hle1' := Lib.hid hle1
      have hle2' := Lib.hid hle2
      have hl2' := Lib.hid hl2
      have j1' := Lib.hid j1
      have kb' := Lib.hid kb
      have hout2' := Lib.hid hout2
      have k1b' := Lib.hid k1b
      have hlV' := Lib.hid hlV
      clear hlV k1b hout2 kb j1 hl2 hle2 hle1
      go_wp2_with (fail)
      clear hV1
      go_at_call 43
      refine hout2'.out.mono ?_
      rintro e W2 ⟨rfl, hle3⟩
      obtain ⟨qs1, qA1, qn1, qc1, qt1, qB1, qm1, qd1, hzq⟩ : ∃ s A n c t B m d, zeroF = .agg #[.bool s, .slice A n c, .bool t, .slice B m d] := ⟨_, _, _, _, _, _, _, _, rfl⟩
      rw [hzq]
      clear hzq
      obtain ⟨V2, hV2, hle4, j2⟩ : ∃ V, W2.alloc (.cells #[.bool qs1, .slice qA1 qn1 qc1, .bool qt1, .slice qB1 qm1 qd1] 26) = V ∧ Le W2 V ∧ V.heap[W2.heap.size]? = some (.cells #[.bool qs1, .slice qA1 qn1 qc1, .bool qt1, .slice qB1 qm1 qd1] 26) := ⟨_, rfl, le_alloc _ _, by unfold World.alloc; exact Array.getElem?_push_size⟩
      have hl4 := hle3.trans hle4
      have j1b := box_later hl4 j1'.out
      have k1c := box_later hl4 k1b'.out
      have hlW := hlV'.out.trans hl4
      obtain ⟨y0, y1, y2, y3⟩ := cells4 j1b
      obtain ⟨x0, x1, x2, x3⟩ := cells4 j2
      have hs3 := hle3.size
      have hs2 := hle2'.out.size
      have hle3' := Lib.hid hle3
      have hle4' := Lib.hid hle4
      have hl4' := Lib.hid hl4
      have j1b' := Lib.hid j1b
      have j2' := Lib.hid j2
      have hlW' := Lib.hid hlW
      clear hlW j2 j1b hl4 hle4 hle3
      try clear hV2x
      obtain ⟨z0, z1, z2, z3, z4, z5, z6, z7⟩ := cells8 k1c
      have g0 := frozen00 k1c 0
      have g1 := frozen00 k1c 1
      have g2 := frozen00 k1c 2
      have g3 := frozen00 k1c 3
      have g4 := frozen00 k1c 4
      have g5 := frozen00 k1c 5
      have g6 := frozen00 k1c 6
      have g7 := frozen00 k1c 7
      have hle9 := fun u0 u1 u2 u3 u4 u5 u6 u7 => le_set8 (hlW'.out) (show w.heap.size ≤ w.heap.size + 1 by omega) u0 u1 u2 u3 u4 u5 u6 u7
      have hb9 := fun u0 u1 u2 u3 u4 u5 u6 u7 => cells8 (heap_set8 k1c u0 u1 u2 u3 u4 u5 u6 u7)
      simp only [set8] at hb9
      have hle9' := Lib.hid hle9
      have hb9' := Lib.hid hb9
      have k1c' := Lib.hid k1c
      clear k1c hb9 hle9
      go_wp2
      obtain ⟨d0, d1, d2, d3, d4, d5, d6, d7⟩ := hb9'.out (.bool false) (.slice none 0 0) (.bool false) (.slice none 0 0) (.bool false) (.slice none 0 0) (.bool false) (.slice none 0 0)
      exact bodyPost_ret (v := .tuple #[.agg #[.bool false, .slice none 0 0, .bool false, .slice none 0 0, .bool false, .slice none 0 0, .bool false, .slice none 0 0], .int .i64 12]) (by simp [results, Tryz.results25, go_sem, d0, d1, d2, d3, d4, d5, d6, d7]) rfl ⟨hle9'.out _ _ _ _ _ _ _ _, _, _, rfl, by rw [hog'.out]; exact ⟨rfl, rfl⟩⟩
end Go.Proofs.YtpjmbgfggonhhaaGreat
namespace Go.Proofs.YtpjmbgfggonhhaaGreat
open Go.RowKit Go.Shelf
set_option linter.unusedVariables false
set_option linter.unusedSimpArgs false
set_option maxRecDepth 100000 in
set_option maxHeartbeats 4000000 in
theorem pf_n_pair (x y : FracA × FracA) (va vb : Value) (w : World) (h1 : IsTurnA w va x) (h2 : IsTurnA w vb y) : Calls Tryz.prog 24 #[va, vb] w (PairPost x y w) := by
  obtain ⟨x1A, x1c, x1B, x1d, x2A, x2c, x2B, x2d, rfl, p1, p2⟩ := h1
  obtain ⟨y1A, y1c, y1B, y1d, y2A, y2c, y2B, y2d, rfl, q1, q2⟩ := h2
  obtain ⟨W0, hW0, hsz, hle, k0, k1, k2, k3⟩ := new4_le w (.cells #[.bool x.1.sn, .slice x1A x.1.gn.length x1c, .bool x.1.sd, .slice x1B x.1.gd.length x1d, .bool x.2.sn, .slice x2A x.2.gn.length x2c, .bool x.2.sd, .slice x2B x.2.gd.length x2d] 28) (.cells #[.bool y.1.sn, .slice y1A y.1.gn.length y1c, .bool y.1.sd, .slice y1B y.1.gd.length y1d, .bool y.2.sn, .slice y2A y.2.gn.length y2c, .bool y.2.sd, .slice y2B y.2.gd.length y2d] 28) (.cells #[.bool false, .slice none 0 0, .slice none 0 0, .bool false, .slice none 0 0, .slice none 0 0] 61) (.cells #[.bool false, .slice none 0 0, .slice none 0 0, .bool false, .slice none 0 0, .slice none 0 0] 61)
  obtain ⟨c0, c1, c2, c3, c4, c5, c6, c7⟩ := cells8 k0
  have r1 := pf_n_InTurn x _ W0 (IsTurnA.mk (p1.le hle) (p2.le hle))
  obtain ⟨b1, hb1⟩ : ∃ b, (tval x).isSome = b := ⟨_, rfl⟩
  obtain ⟨b2, hb2⟩ : ∃ b, (tval y).isSome = b := ⟨_, rfl⟩
  unfold InPostN at r1
  rw [hb1] at r1
  unfold PairPost
  rw [hb1, hb2]
  have hle' := Lib.hid hle
  have k0' := Lib.hid k0
  have k1' := Lib.hid k1
  have k2' := Lib.hid k2
  have k3' := Lib.hid k3
  have p1' := Lib.hid p1
  have p2' := Lib.hid p2
  have q1' := Lib.hid q1
  have q2' := Lib.hid q2
  have r1' := Lib.hid r1
  have hb1' := Lib.hid hb1
  have hb2' := Lib.hid hb2
  clear hb2 hb1 r1 q2 q1 p2 p1 k3 k2 k1 k0 hle
  go_enter Tryz.func24, Tryz.ntmps24
  go_wp2_with (fail)
  clear hW0
  go_at_call 38
  refine r1'.out.mono ?_
  rintro e W1 ⟨hle1, v1, rfl, ⟨⟨ps1, pA1, pn1, pc1, pB1, pm1, pd1, ps2, pA2, pn2, pc2, pB2, pm2, pd2, rfl⟩, hc1⟩⟩
  clear c0 c1 c2 c3 c4 c5 c6 c7
  obtain ⟨V1, hV1, hle2, kx⟩ : ∃ V, W1.alloc (.cells #[.bool ps1, .slice pA1 pn1 pc1, .slice pB1 pm1 pd1, .bool ps2, .slice pA2 pn2 pc2, .slice pB2 pm2 pd2] 61) = V ∧ Le W1 V ∧ V.heap[W1.heap.size]? = some (.cells #[.bool ps1, .slice pA1 pn1 pc1, .slice pB1 pm1 pd1, .bool ps2, .slice pA2 pn2 pc2, .slice pB2 pm2 pd2] 61) := ⟨_, rfl, le_alloc _ _, by unfold World.alloc; exact Array.getElem?_push_size⟩
  have hl2 := hle1.trans hle2
  have k1b := box_later hl2 k1'.out
  have k2b := box_later hl2 k2'.out
  have k3b := box_later hl2 k3'.out
  have hlV1 := hle'.out.trans hl2
  have r2 := pf_n_InTurn y _ V1 (IsTurnA.mk (q1'.out.le hlV1) (q2'.out.le hlV1))
  unfold InPostN at r2
  rw [hb2'.out] at r2
  obtain ⟨c0, c1, c2, c3, c4, c5, c6, c7⟩ := cells8 k1b
  have hs1 := hle1.size
  have hle1' := Lib.hid hle1
  have hle2' := Lib.hid hle2
  have hl2' := Lib.hid hl2
  have kx' := Lib.hid kx
  have k1b' := Lib.hid k1b
  have k2b' := Lib.hid k2b
  have k3b' := Lib.hid k3b
  have hlV1' := Lib.hid hlV1
  have r2' := Lib.hid r2
  have hc1' := Lib.hid hc1
  clear hc1 r2 hlV1 k3b k2b k1b kx hl2 hle2 hle1
  go_wp2_with (fail)
  clear hV1
  go_at_call 38
  refine r2'.out.mono ?_
  rintro e W2 ⟨hle3, v2, rfl, ⟨⟨qs1, qA1, qn1, qc1, qB1, qm1, qd1, qs2, qA2, qn2, qc2, qB2, qm2, qd2, rfl⟩, hc2⟩⟩
  clear c0 c1 c2 c3 c4 c5 c6 c7
  obtain ⟨V2, hV2, hle4, ky⟩ : ∃ V, W2.alloc (.cells #[.bool qs1, .slice qA1 qn1 qc1, .slice qB1 qm1 qd1, .bool qs2, .slice qA2 qn2 qc2, .slice qB2 qm2 qd2] 61) = V ∧ Le W2 V ∧ V.heap[W2.heap.size]? = some (.cells #[.bool qs1, .slice qA1 qn1 qc1, .slice qB1 qm1 qd1, .bool qs2, .slice qA2 qn2 qc2, .slice qB2 qm2 qd2] 61) := ⟨_, rfl, le_alloc _ _, by unfold World.alloc; exact Array.getElem?_push_size⟩
  have hl4 := hle3.trans hle4
  have k2c := box_later hl4 k2b'.out
  have k3c := box_later hl4 k3b'.out
  have kx4 := box_later hl4 kx'.out
  have hall := hlV1'.out.trans hl4
  have s12 := hle2'.out.size
  have s3 := hle3.size
  have t1 : TurnC V2 (.agg #[.bool ps1, .slice pA1 pn1 pc1, .slice pB1 pm1 pd1, .bool ps2, .slice pA2 pn2 pc2, .slice pB2 pm2 pd2]) x := TurnC.le ⟨⟨_, _, _, _, _, _, _, _, _, _, _, _, _, _, rfl⟩, hc1'.out⟩ (hle2'.out.trans hl4)
  have t2 : TurnC V2 (.agg #[.bool qs1, .slice qA1 qn1 qc1, .slice qB1 qm1 qd1, .bool qs2, .slice qA2 qn2 qc2, .slice qB2 qm2 qd2]) y := TurnC.le ⟨⟨_, _, _, _, _, _, _, _, _, _, _, _, _, _, rfl⟩, hc2⟩ hle4
  obtain ⟨x0, x1, x2, x3, x4, x5⟩ := cells6 kx4
  obtain ⟨y0, y1, y2, y3, y4, y5⟩ := cells6 ky
  obtain ⟨z0, z1, z2, z3, z4, z5⟩ := cells6 k2c
  obtain ⟨u0, u1, u2, u3, u4, u5⟩ := cells6 k3c
  have f0 := frozen00 k2c 0
  have f1 := frozen00 k2c 1
  have f2 := frozen00 k2c 2
  have f3 := frozen00 k2c 3
  have f4 := frozen00 k2c 4
  have f5 := frozen00 k2c 5
  have g0 := frozen00 k3c 0
  have g1 := frozen00 k3c 1
  have g2 := frozen00 k3c 2
  have g3 := frozen00 k3c 3
  have g4 := frozen00 k3c 4
  have g5 := frozen00 k3c 5
  have m1 : ¬ W2.heap.size = w.heap.size + 1 + 1 := by omega
  have m2 : ¬ W2.heap.size = w.heap.size + 1 + 1 + 1 := by omega
  have m3 : ¬ w.heap.size + 1 + 1 = W2.heap.size := by omega
  have m4 : ¬ w.heap.size + 1 + 1 + 1 = W2.heap.size := by omega
  have m5 : ¬ W1.heap.size = w.heap.size + 1 + 1 := by omega
  have m6 : ¬ W1.heap.size = w.heap.size + 1 + 1 + 1 := by omega
  have m7 : ¬ w.heap.size + 1 + 1 = W1.heap.size := by omega
  have m8 : ¬ w.heap.size + 1 + 1 + 1 = W1.heap.size := by omega
  have hm2 : W1.heap.size ≠ w.heap.size + 1 + 1 := by omega
  have hm3 : W1.heap.size ≠ w.heap.size + 1 + 1 + 1 := by omega
  have hm4 : W2.heap.size ≠ w.heap.size + 1 + 1 := by omega
  have hm5 : W2.heap.size ≠ w.heap.size + 1 + 1 + 1 := by omega
  have hm6 : w.heap.size + 1 + 1 ≠ w.heap.size + 1 + 1 + 1 := by omega
  clear m1 m2 m3 m4 m5 m6 m7 m8 x0 x1 x2 x3 x4 x5 y0 y1 y2 y3 y4 y5 z0 z1 z2 z3 z4 z5 u0 u1 u2 u3 u4 u5 f0 f1 f2 f3 f4 f5 g0 g1 g2 g3 g4 g5
  have hle3' := Lib.hid hle3
  have hle4' := Lib.hid hle4
  have hl4' := Lib.hid hl4
  have k2c' := Lib.hid k2c
  have k3c' := Lib.hid k3c
  have hall' := Lib.hid hall
  have hc2' := Lib.hid hc2
  have t1' := Lib.hid t1
  have t2' := Lib.hid t2
  have kx4' := Lib.hid kx4
  have ky' := Lib.hid ky
  clear ky kx4 t2 t1 hc2 hall k3c k2c hl4 hle4 hle3
  go_wp2_with (fail)
  clear hV2
  cases b1
  · refine wp_region_monoL (R := twoRel (w.heap.size + 1 + 1) (w.heap.size + 1 + 1 + 1) (.cells #[.bool ps1, .slice pA1 pn1 pc1, .slice pB1 pm1 pd1, .bool ps2, .slice pA2 pn2 pc2, .slice pB2 pm2 pd2] 61) (.cells #[.bool qs1, .slice qA1 qn1 qc1, .slice qB1 qm1 qd1, .bool qs2, .slice qA2 qn2 qc2, .slice qB2 qm2 qd2] 61)) 8 [some 21, some 22, some 23, some 24, some 25, some 26, none, none, some 6] [[], [], [], [2], [3], [3, 4], [0], [1], [5]]
      [.eq (.agg #[.bool ps1, .slice pA1 pn1 pc1, .slice pB1 pm1 pd1, .bool ps2, .slice pA2 pn2 pc2, .slice pB2 pm2 pd2]), .eq (.agg #[.bool qs1, .slice qA1 qn1 qc1, .slice qB1 qm1 qd1, .bool qs2, .slice qA2 qn2 qc2, .slice qB2 qm2 qd2]), .eq (.bool false), .eq (.bool false), MPredR.any, .eq (.bool false), MPredR.at2, MPredR.at3] (fun _ _ => False) (by kernel_rfl) (by kernel_rfl) (by kernel_rfl) (by kernel_rfl) ?_ (fun _ _ _ _ _ h => h.elim) ?_
    · simp only [List.take_succ_cons, List.take_zero]
      refine monoSteps_cons ?_ (monoSteps_cons ?_ (monoSteps_cons ?_ (monoSteps_cons ?_ (monoSteps_cons ?_ (monoSteps_cons ?_ (monoSteps_cons ?_ (monoSteps_cons ?_ (monoSteps_nil))))))))
      · refine monoStep_list rfl fun xv W hR hf Q hK hP => ?_
        obtain ⟨x0, x1, x2, x3, x4, x5⟩ := cells6 ((hR.2.1 _ hm2 hm3).trans kx4'.out)
        simp only [fillAct, List.getD_cons_succ, List.getD_cons_zero, Act.put, List.setIfInBounds_toArray, List.set_cons_succ, List.set_cons_zero] at hK ⊢
        go_wp2
        exact hK _ _ (WRel.refl _ _) rfl
      · refine monoStep_list rfl fun xv W hR hf Q hK hP => ?_
        obtain ⟨x0, x1, x2, x3, x4, x5⟩ := cells6 ((hR.2.1 _ hm4 hm5).trans ky'.out)
        simp only [fillAct, List.getD_cons_succ, List.getD_cons_zero, Act.put, List.setIfInBounds_toArray, List.set_cons_succ, List.set_cons_zero] at hK ⊢
        go_wp2
        exact hK _ _ (WRel.refl _ _) rfl
      · refine monoStep_list rfl fun xv W hR hf Q hK hP => ?_
        simp only [fillAct, List.getD_cons_succ, List.getD_cons_zero, Act.put, List.setIfInBounds_toArray, List.set_cons_succ, List.set_cons_zero] at hK ⊢
        go_wp2
        exact hK _ _ (WRel.refl _ _) rfl
      · refine monoStep_list rfl fun xv W hR hf Q hK hP => ?_
        obtain ⟨e0, -⟩ := hf
        change _ = _ at e0
        simp only [fillAct, List.getD_cons_succ, List.getD_cons_zero, Act.put, List.setIfInBounds_toArray, List.set_cons_succ, List.set_cons_zero, e0] at hK ⊢
        go_wp2
        exact hK _ _ (WRel.refl _ _) rfl
      · refine monoStep_no (fun xv W hf => ?_) fun _ => trivial
        obtain ⟨e0, -⟩ := hf
        change _ = _ at e0
        simp only [fillAct, List.getD_cons_succ, List.getD_cons_zero, Act.put, List.setIfInBounds_toArray, List.set_cons_succ, List.set_cons_zero, e0]
        kernel_rfl
      · refine monoStep_list rfl fun xv W hR hf Q hK hP => ?_
        obtain ⟨e0, e1, -⟩ := hf
        change _ = _ at e0
        simp only [fillAct, List.getD_cons_succ, List.getD_cons_zero, Act.put, List.setIfInBounds_toArray, List.set_cons_succ, List.set_cons_zero, e0] at hK ⊢
        go_wp2
        exact hK _ _ (WRel.refl _ _) rfl
      · refine monoStep_list rfl fun xv W hR hf Q hK hP => ?_
        obtain ⟨e0, -⟩ := hf
        change _ = _ at e0
        obtain ⟨v0, v1, v2, v3, v4, v5, hv⟩ : ∃ v0 v1 v2 v3 v4 v5, W.heap[w.heap.size + 1 + 1]? = some (.cells #[v0, v1, v2, v3, v4, v5] 61) := by
          rcases hR.2.2.1 with h | h
          · exact ⟨_, _, _, _, _, _, h.trans k2c'.out⟩
          · exact ⟨_, _, _, _, _, _, h⟩
        obtain ⟨z0, z1, z2, z3, z4, z5⟩ := cells6 hv
        have f0 := frozen00 hv 0
        have f1 := frozen00 hv 1
        have f2 := frozen00 hv 2
        have f3 := frozen00 hv 3
        have f4 := frozen00 hv 4
        have f5 := frozen00 hv 5
        have hst := twoRel.set2 (o2 := (.cells #[.bool ps1, .slice pA1 pn1 pc1, .slice pB1 pm1 pd1, .bool ps2, .slice pA2 pn2 pc2, .slice pB2 pm2 pd2] 61)) (o3 := (.cells #[.bool qs1, .slice qA1 qn1 qc1, .slice qB1 qm1 qd1, .bool qs2, .slice qA2 qn2 qc2, .slice qB2 qm2 qd2] 61)) hm6 hv
        have hv' := Lib.hid hv
        have hst' := Lib.hid hst
        clear hst hv
        simp only [fillAct, List.getD_cons_succ, List.getD_cons_zero, Act.put, List.setIfInBounds_toArray, List.set_cons_succ, List.set_cons_zero, e0] at hK ⊢
        go_wp2
        exact hK undef _ hst'.out (heap_set6 hv'.out _ _ _ _ _ _)
      · refine monoStep_list rfl fun xv W hR hf Q hK hP => ?_
        obtain ⟨e0, -⟩ := hf
        change _ = _ at e0
        obtain ⟨v0, v1, v2, v3, v4, v5, hv⟩ : ∃ v0 v1 v2 v3 v4 v5, W.heap[w.heap.size + 1 + 1 + 1]? = some (.cells #[v0, v1, v2, v3, v4, v5] 61) := by
          rcases hR.2.2.2.1 with h | h
          · exact ⟨_, _, _, _, _, _, h.trans k3c'.out⟩
          · exact ⟨_, _, _, _, _, _, h⟩
        obtain ⟨z0, z1, z2, z3, z4, z5⟩ := cells6 hv
        have f0 := frozen00 hv 0
        have f1 := frozen00 hv 1
        have f2 := frozen00 hv 2
        have f3 := frozen00 hv 3
        have f4 := frozen00 hv 4
        have f5 := frozen00 hv 5
        have hst := twoRel.set3 (o2 := (.cells #[.bool ps1, .slice pA1 pn1 pc1, .slice pB1 pm1 pd1, .bool ps2, .slice pA2 pn2 pc2, .slice pB2 pm2 pd2] 61)) (o3 := (.cells #[.bool qs1, .slice qA1 qn1 qc1, .slice qB1 qm1 qd1, .bool qs2, .slice qA2 qn2 qc2, .slice qB2 qm2 qd2] 61)) hm6 hv
        have hv' := Lib.hid hv
        have hst' := Lib.hid hst
        clear hst hv
        simp only [fillAct, List.getD_cons_succ, List.getD_cons_zero, Act.put, List.setIfInBounds_toArray, List.set_cons_succ, List.set_cons_zero, e0] at hK ⊢
        go_wp2
        exact hK undef _ hst'.out (heap_set6 hv'.out _ _ _ _ _ _)
    · intro xv W hR hf Q' hQ1 _
      have e5 : xv 5 = .bool false := hf 5 (by decide)
      have kV2 : W.heap[w.heap.size + 1 + 1]? = some (.cells #[.bool ps1, .slice pA1 pn1 pc1, .slice pB1 pm1 pd1, .bool ps2, .slice pA2 pn2 pc2, .slice pB2 pm2 pd2] 61) := hf 6 (by decide)
      have kV3 : W.heap[w.heap.size + 1 + 1 + 1]? = some (.cells #[.bool qs1, .slice qA1 qn1 qc1, .slice qB1 qm1 qd1, .bool qs2, .slice qA2 qn2 qc2, .slice qB2 qm2 qd2] 61) := hf 7 (by decide)
      obtain ⟨d0, d1, d2, d3, d4, d5⟩ := cells6 kV2
      obtain ⟨d6, d7, d8, d9, d10, d11⟩ := cells6 kV3
      have hlW := twoRel.le hR hall'.out (show w.heap.size ≤ w.heap.size + 1 + 1 by omega) (show w.heap.size ≤ w.heap.size + 1 + 1 + 1 by omega)
      have tt1 := twoRel.turnC hR t1'.out (noInt6 k2c'.out) (noInt6 k3c'.out)
      have tt2 := twoRel.turnC hR t2'.out (noInt6 k2c'.out) (noInt6 k3c'.out)
      simp only [List.drop_succ_cons, List.drop_zero]
      rw [show List.range 8 = [0, 1, 2, 3, 4, 5, 6, 7] from rfl]
      simp only [fillAct, List.getD_cons_succ, List.getD_cons_zero, Act.put, List.setIfInBounds_toArray, List.set_cons_succ, List.set_cons_zero, e5]
      clear hf e5
      have kV2' := Lib.hid kV2
      have kV3' := Lib.hid kV3
      have hlW' := Lib.hid hlW
      have tt1' := Lib.hid tt1
      have tt2' := Lib.hid tt2
      have hR' := Lib.hid hR
      clear hR tt2 tt1 hlW kV3 kV2
      go_wp2
      refine hQ1 _ _ ?_
      go_wp2
      exact bodyPost_ret (v := .tuple #[.agg #[.bool ps1, .slice pA1 pn1 pc1, .slice pB1 pm1 pd1, .bool ps2, .slice pA2 pn2 pc2, .slice pB2 pm2 pd2], .agg #[.bool qs1, .slice qA1 qn1 qc1, .slice qB1 qm1 qd1, .bool qs2, .slice qA2 qn2 qc2, .slice qB2 qm2 qd2], .bool false]) (by simp [results, Tryz.results24, go_sem, d0, d1, d2, d3, d4, d5, d6, d7, d8, d9, d10, d11]) rfl ⟨hlW'.out, (.agg #[.bool ps1, .slice pA1 pn1 pc1, .slice pB1 pm1 pd1, .bool ps2, .slice pA2 pn2 pc2, .slice pB2 pm2 pd2]), (.agg #[.bool qs1, .slice qA1 qn1 qc1, .slice qB1 qm1 qd1, .bool qs2, .slice qA2 qn2 qc2, .slice qB2 qm2 qd2]), by simp, tt1'.out, tt2'.out⟩
  · refine wp_region_monoL (R := twoRel (w.heap.size + 1 + 1) (w.heap.size + 1 + 1 + 1) (.cells #[.bool ps1, .slice pA1 pn1 pc1, .slice pB1 pm1 pd1, .bool ps2, .slice pA2 pn2 pc2, .slice pB2 pm2 pd2] 61) (.cells #[.bool qs1, .slice qA1 qn1 qc1, .slice qB1 qm1 qd1, .bool qs2, .slice qA2 qn2 qc2, .slice qB2 qm2 qd2] 61)) 8 [some 21, some 22, some 23, some 24, some 25, some 26, none, none, some 6] [[], [], [], [2], [3], [3, 4], [0], [1], [5]]
      [.eq (.agg #[.bool ps1, .slice pA1 pn1 pc1, .slice pB1 pm1 pd1, .bool ps2, .slice pA2 pn2 pc2, .slice pB2 pm2 pd2]), .eq (.agg #[.bool qs1, .slice qA1 qn1 qc1, .slice qB1 qm1 qd1, .bool qs2, .slice qA2 qn2 qc2, .slice qB2 qm2 qd2]), .eq (.bool true), .eq (.bool true), .eq (.bool b2), .eq (.bool b2), MPredR.at2, MPredR.at3] (fun _ _ => False) (by kernel_rfl) (by kernel_rfl) (by kernel_rfl) (by kernel_rfl) ?_ (fun _ _ _ _ _ h => h.elim) ?_
    · simp only [List.take_succ_cons, List.take_zero]
      refine monoSteps_cons ?_ (monoSteps_cons ?_ (monoSteps_cons ?_ (monoSteps_cons ?_ (monoSteps_cons ?_ (monoSteps_cons ?_ (monoSteps_cons ?_ (monoSteps_cons ?_ (monoSteps_nil))))))))
      · refine monoStep_list rfl fun xv W hR hf Q hK hP => ?_
        obtain ⟨x0, x1, x2, x3, x4, x5⟩ := cells6 ((hR.2.1 _ hm2 hm3).trans kx4'.out)
        simp only [fillAct, List.getD_cons_succ, List.getD_cons_zero, Act.put, List.setIfInBounds_toArray, List.set_cons_succ, List.set_cons_zero] at hK ⊢
        go_wp2
        exact hK _ _ (WRel.refl _ _) rfl
      · refine monoStep_list rfl fun xv W hR hf Q hK hP => ?_
        obtain ⟨x0, x1, x2, x3, x4, x5⟩ := cells6 ((hR.2.1 _ hm4 hm5).trans ky'.out)
        simp only [fillAct, List.getD_cons_succ, List.getD_cons_zero, Act.put, List.setIfInBounds_toArray, List.set_cons_succ, List.set_cons_zero] at hK ⊢
        go_wp2
        exact hK _ _ (WRel.refl _ _) rfl
      · refine monoStep_list rfl fun xv W hR hf Q hK hP => ?_
        simp only [fillAct, List.getD_cons_succ, List.getD_cons_zero, Act.put, List.setIfInBounds_toArray, List.set_cons_succ, List.set_cons_zero] at hK ⊢
        go_wp2
        exact hK _ _ (WRel.refl _ _) rfl
      · refine monoStep_list rfl fun xv W hR hf Q hK hP => ?_
        obtain ⟨e0, -⟩ := hf
        change _ = _ at e0
        simp only [fillAct, List.getD_cons_succ, List.getD_cons_zero, Act.put, List.setIfInBounds_toArray, List.set_cons_succ, List.set_cons_zero, e0] at hK ⊢
        go_wp2
        exact hK _ _ (WRel.refl _ _) rfl
      · refine monoStep_listG (fun xv W hf => ?_) fun xv W hR hf Q hK hP => ?_
        · obtain ⟨e0, -⟩ := hf
          change _ = _ at e0
          simp only [fillAct, List.getD_cons_succ, List.getD_cons_zero, Act.put, List.setIfInBounds_toArray, List.set_cons_succ, List.set_cons_zero, e0]
          kernel_rfl
        obtain ⟨e0, -⟩ := hf
        change _ = _ at e0
        simp only [fillAct, List.getD_cons_succ, List.getD_cons_zero, Act.put, List.setIfInBounds_toArray, List.set_cons_succ, List.set_cons_zero, e0] at hK ⊢
        go_wp2
        exact hK _ _ (WRel.refl _ _) rfl
      · refine monoStep_list rfl fun xv W hR hf Q hK hP => ?_
        obtain ⟨e0, e1, -⟩ := hf
        change _ = _ at e0 e1
        simp only [fillAct, List.getD_cons_succ, List.getD_cons_zero, Act.put, List.setIfInBounds_toArray, List.set_cons_succ, List.set_cons_zero, e0, e1] at hK ⊢
        go_wp2
        exact hK _ _ (WRel.refl _ _) rfl
      · refine monoStep_list rfl fun xv W hR hf Q hK hP => ?_
        obtain ⟨e0, -⟩ := hf
        change _ = _ at e0
        obtain ⟨v0, v1, v2, v3, v4, v5, hv⟩ : ∃ v0 v1 v2 v3 v4 v5, W.heap[w.heap.size + 1 + 1]? = some (.cells #[v0, v1, v2, v3, v4, v5] 61) := by
          rcases hR.2.2.1 with h | h
          · exact ⟨_, _, _, _, _, _, h.trans k2c'.out⟩
          · exact ⟨_, _, _, _, _, _, h⟩
        obtain ⟨z0, z1, z2, z3, z4, z5⟩ := cells6 hv
        have f0 := frozen00 hv 0
        have f1 := frozen00 hv 1
        have f2 := frozen00 hv 2
        have f3 := frozen00 hv 3
        have f4 := frozen00 hv 4
        have f5 := frozen00 hv 5
        have hst := twoRel.set2 (o2 := (.cells #[.bool ps1, .slice pA1 pn1 pc1, .slice pB1 pm1 pd1, .bool ps2, .slice pA2 pn2 pc2, .slice pB2 pm2 pd2] 61)) (o3 := (.cells #[.bool qs1, .slice qA1 qn1 qc1, .slice qB1 qm1 qd1, .bool qs2, .slice qA2 qn2 qc2, .slice qB2 qm2 qd2] 61)) hm6 hv
        have hv' := Lib.hid hv
        have hst' := Lib.hid hst
        clear hst hv
        simp only [fillAct, List.getD_cons_succ, List.getD_cons_zero, Act.put, List.setIfInBounds_toArray, List.set_cons_succ, List.set_cons_zero, e0] at hK ⊢
        go_wp2
        exact hK undef _ hst'.out (heap_set6 hv'.out _ _ _ _ _ _)
      · refine monoStep_list rfl fun xv W hR hf Q hK hP => ?_
        obtain ⟨e0, -⟩ := hf
        change _ = _ at e0
        obtain ⟨v0, v1, v2, v3, v4, v5, hv⟩ : ∃ v0 v1 v2 v3 v4 v5, W.heap[w.heap.size + 1 + 1 + 1]? = some (.cells #[v0, v1, v2, v3, v4, v5] 61) := by
          rcases hR.2.2.2.1 with h | h
          · exact ⟨_, _, _, _, _, _, h.trans k3c'.out⟩
          · exact ⟨_, _, _, _, _, _, h⟩
        obtain ⟨z0, z1, z2, z3, z4, z5⟩ := cells6 hv
        have f0 := frozen00 hv 0
        have f1 := frozen00 hv 1
        have f2 := frozen00 hv 2
        have f3 := frozen00 hv 3
        have f4 := frozen00 hv 4
        have f5 := frozen00 hv 5
        have hst := twoRel.set3 (o2 := (.cells #[.bool ps1, .slice pA1 pn1 pc1, .slice pB1 pm1 pd1, .bool ps2, .slice pA2 pn2 pc2, .slice pB2 pm2 pd2] 61)) (o3 := (.cells #[.bool qs1, .slice qA1 qn1 qc1, .slice qB1 qm1 qd1, .bool qs2, .slice qA2 qn2 qc2, .slice qB2 qm2 qd2] 61)) hm6 hv
        have hv' := Lib.hid hv
        have hst' := Lib.hid hst
        clear hst hv
        simp only [fillAct, List.getD_cons_succ, List.getD_cons_zero, Act.put, List.setIfInBounds_toArray, List.set_cons_succ, List.set_cons_zero, e0] at hK ⊢
        go_wp2
        exact hK undef _ hst'.out (heap_set6 hv'.out _ _ _ _ _ _)
    · intro xv W hR hf Q' hQ1 _
      have e5 : xv 5 = .bool b2 := hf 5 (by decide)
      have kV2 : W.heap[w.heap.size + 1 + 1]? = some (.cells #[.bool ps1, .slice pA1 pn1 pc1, .slice pB1 pm1 pd1, .bool ps2, .slice pA2 pn2 pc2, .slice pB2 pm2 pd2] 61) := hf 6 (by decide)
      have kV3 : W.heap[w.heap.size + 1 + 1 + 1]? = some (.cells #[.bool qs1, .slice qA1 qn1 qc1, .slice qB1 qm1 qd1, .bool qs2, .slice qA2 qn2 qc2, .slice qB2 qm2 qd2] 61) := hf 7 (by decide)
      obtain ⟨d0, d1, d2, d3, d4, d5⟩ := cells6 kV2
      obtain ⟨d6, d7, d8, d9, d10, d11⟩ := cells6 kV3
      have hlW := twoRel.le hR hall'.out (show w.heap.size ≤ w.heap.size + 1 + 1 by omega) (show w.heap.size ≤ w.heap.size + 1 + 1 + 1 by omega)
      have tt1 := twoRel.turnC hR t1'.out (noInt6 k2c'.out) (noInt6 k3c'.out)
      have tt2 := twoRel.turnC hR t2'.out (noInt6 k2c'.out) (noInt6 k3c'.out)
      simp only [List.drop_succ_cons, List.drop_zero]
      rw [show List.range 8 = [0, 1, 2, 3, 4, 5, 6, 7] from rfl]
      simp only [fillAct, List.getD_cons_succ, List.getD_cons_zero, Act.put, List.setIfInBounds_toArray, List.set_cons_succ, List.set_cons_zero, e5]
      clear hf e5
      have kV2' := Lib.hid kV2
      have kV3' := Lib.hid kV3
      have hlW' := Lib.hid hlW
      have tt1' := Lib.hid tt1
      have tt2' := Lib.hid tt2
      have hR' := Lib.hid hR
      clear hR tt2 tt1 hlW kV3 kV2
      go_wp2
      refine hQ1 _ _ ?_
      go_wp2
      exact bodyPost_ret (v := .tuple #[.agg #[.bool ps1, .slice pA1 pn1 pc1, .slice pB1 pm1 pd1, .bool ps2, .slice pA2 pn2 pc2, .slice pB2 pm2 pd2], .agg #[.bool qs1, .slice qA1 qn1 qc1, .slice qB1 qm1 qd1, .bool qs2, .slice qA2 qn2 qc2, .slice qB2 qm2 qd2], .bool b2]) (by simp [results, Tryz.results24, go_sem, d0, d1, d2, d3, d4, d5, d6, d7, d8, d9, d10, d11]) rfl ⟨hlW'.out, (.agg #[.bool ps1, .slice pA1 pn1 pc1, .slice pB1 pm1 pd1, .bool ps2, .slice pA2 pn2 pc2, .slice pB2 pm2 pd2]), (.agg #[.bool qs1, .slice qA1 qn1 qc1, .slice qB1 qm1 qd1, .bool qs2, .slice qA2 qn2 qc2, .slice qB2 qm2 qd2]), by simp, tt1'.out, tt2'.out⟩
set_option maxRecDepth 100000 in
set_option maxHeartbeats 4000000 in
theorem pf_n_CheckTurn (x : FracA × FracA) (v : Value) (w : World) (hv : IsTurnA w v x) : Calls Tryz.prog 12 #[v] w fun e w' => e = .returned (.int .i64 (okE (tval x).isSome)) ∧ Le w w' := by
  obtain ⟨x1A, x1c, x1B, x1d, x2A, x2c, x2B, x2d, rfl, p1, p2⟩ := hv
  obtain ⟨W0, hW0, hle, k0⟩ : ∃ V, w.alloc (.cells #[.bool x.1.sn, .slice x1A x.1.gn.length x1c, .bool x.1.sd, .slice x1B x.1.gd.length x1d, .bool x.2.sn, .slice x2A x.2.gn.length x2c, .bool x.2.sd, .slice x2B x.2.gd.length x2d] 28) = V ∧ Le w V ∧ V.heap[w.heap.size]? = some (.cells #[.bool x.1.sn, .slice x1A x.1.gn.length x1c, .bool x.1.sd, .slice x1B x.1.gd.length x1d, .bool x.2.sn, .slice x2A x.2.gn.length x2c, .bool x.2.sd, .slice x2B x.2.gd.length x2d] 28) := ⟨_, rfl, le_alloc _ _, by unfold World.alloc; exact Array.getElem?_push_size⟩
  obtain ⟨c0, c1, c2, c3, c4, c5, c6, c7⟩ := cells8 k0
  have r1 := pf_n_InTurn x _ W0 (IsTurnA.mk (p1.le hle) (p2.le hle))
  obtain ⟨b1, hb1⟩ : ∃ b, (tval x).isSome = b := ⟨_, rfl⟩
  unfold InPostN at r1
  rw [hb1] at r1
  rw [hb1]
  have hle' := Lib.hid hle
  have k0' := Lib.hid k0
  have p1' := Lib.hid p1
  have p2' := Lib.hid p2
  have r1' := Lib.hid r1
  have hb1' := Lib.hid hb1
  clear hb1 r1 p2 p1 k0 hle
  go_enter Tryz.func12, Tryz.ntmps12
  go_wp2_with (fail)
  clear hW0
  go_at_call 38
  refine r1'.out.mono ?_
  rintro e W1 ⟨hle1, v1, rfl, ⟨⟨ps1, pA1, pn1, pc1, pB1, pm1, pd1, ps2, pA2, pn2, pc2, pB2, pm2, pd2, rfl⟩, hc1⟩⟩
  have hle9 := (hle'.out.trans hle1).trans (le_alloc W1 (.cells #[.bool ps1, .slice pA1 pn1 pc1, .slice pB1 pm1 pd1, .bool ps2, .slice pA2 pn2 pc2, .slice pB2 pm2 pd2] 61))
  have hle1' := Lib.hid hle1
  have hc1' := Lib.hid hc1
  have hle9' := Lib.hid hle9
  clear hle9 hc1 hle1
  cases b1
  all_goals
    go_wp2
    go_ret
    exact ⟨rfl, hle9'.out⟩
set_option maxRecDepth 100000 in
set_option maxHeartbeats 4000000 in
theorem pf_n_Norm (x : FracA × FracA) (v : Value) (w : World) (hv : IsTurnA w v x) : Calls Tryz.prog 15 #[v] w (ResPost (fun _ => True) (normR x) w) := by
  obtain ⟨x1A, x1c, x1B, x1d, x2A, x2c, x2B, x2d, rfl, p1, p2⟩ := hv
  obtain ⟨W0, hW0, hsz, hle, k0, k1⟩ := new2_le w (.cells #[.bool x.1.sn, .slice x1A x.1.gn.length x1c, .bool x.1.sd, .slice x1B x.1.gd.length x1d, .bool x.2.sn, .slice x2A x.2.gn.length x2c, .bool x.2.sd, .slice x2B x.2.gd.length x2d] 28) (.cells #[.bool false, .slice none 0 0, .bool false, .slice none 0 0] 26)
  obtain ⟨c0, c1, c2, c3, c4, c5, c6, c7⟩ := cells8 k0
  have r1 := pf_n_InTurn x _ W0 (IsTurnA.mk (p1.le hle) (p2.le hle))
  obtain ⟨b1, hb1⟩ : ∃ b, (tval x).isSome = b := ⟨_, rfl⟩
  unfold InPostN at r1
  rw [hb1] at r1
  have hle' := Lib.hid hle
  have k0' := Lib.hid k0
  have k1' := Lib.hid k1
  have p1' := Lib.hid p1
  have p2' := Lib.hid p2
  have r1' := Lib.hid r1
  have hb1' := Lib.hid hb1
  clear hb1 r1 p2 p1 k1 k0 hle
  go_enter Tryz.func15, Tryz.ntmps15
  go_wp2_with (fail)
  clear hW0
  go_at_call 38
  refine r1'.out.mono ?_
  rintro e W1 ⟨hle1, v1, rfl, ⟨⟨ps1, pA1, pn1, pc1, pB1, pm1, pd1, ps2, pA2, pn2, pc2, pB2, pm2, pd2, rfl⟩, hc1⟩⟩
  clear c0 c1 c2 c3 c4 c5 c6 c7
  obtain ⟨V, hV, hle2, kx⟩ : ∃ V, W1.alloc (.cells #[.bool ps1, .slice pA1 pn1 pc1, .slice pB1 pm1 pd1, .bool ps2, .slice pA2 pn2 pc2, .slice pB2 pm2 pd2] 61) = V ∧ Le W1 V ∧ V.heap[W1.heap.size]? = some (.cells #[.bool ps1, .slice pA1 pn1 pc1, .slice pB1 pm1 pd1, .bool ps2, .slice pA2 pn2 pc2, .slice pB2 pm2 pd2] 61) := ⟨_, rfl, le_alloc _ _, by unfold World.alloc; exact Array.getElem?_push_size⟩
  have hlV := (hle'.out.trans hle1).trans hle2
  have kV := box_later (hle1.trans hle2) k1'.out
  have t1 : TurnC V (.agg #[.bool ps1, .slice pA1 pn1 pc1, .slice pB1 pm1 pd1, .bool ps2, .slice pA2 pn2 pc2, .slice pB2 pm2 pd2]) x := TurnC.le ⟨⟨_, _, _, _, _, _, _, _, _, _, _, _, _, _, rfl⟩, hc1⟩ hle2
  obtain ⟨cp0, cp1, cp2, cp3, cp4, cp5⟩ := cells6 kx
  have hle1' := Lib.hid hle1
  have hle2' := Lib.hid hle2
  have hlV' := Lib.hid hlV
  have kV' := Lib.hid kV
  have kx' := Lib.hid kx
  have hc1' := Lib.hid hc1
  have t1' := Lib.hid t1
  clear t1 hc1 kx kV hlV hle2 hle1
  have kVo := kV'.out
  cases b1 with
  | false =>
    have hno := normR_none (tval_false hb1'.out)
    have hno' := Lib.hid hno
    clear hno
    obtain ⟨z0, z1, z2, z3⟩ := cells4 kVo
    have g0 := frozen00 kVo 0
    have g1 := frozen00 kVo 1
    have g2 := frozen00 kVo 2
    have g3 := frozen00 kVo 3
    have hle9 := fun u0 u1 u2 u3 => le_set4 (u0 := u0) (u1 := u1) (u2 := u2) (u3 := u3) (hlV'.out) (show w.heap.size ≤ w.heap.size + 1 by omega)
    have hb9 := fun u0 u1 u2 u3 => cells4 (heap_set4 (u0 := u0) (u1 := u1) (u2 := u2) (u3 := u3) kVo)
    have hle9' := Lib.hid hle9
    have hb9' := Lib.hid hb9
    have kVo' := Lib.hid kVo
    clear kVo hb9 hle9
    go_wp2
    obtain ⟨d0, d1, d2, d3⟩ := hb9'.out (.bool false) (.slice none 0 0) (.bool false) (.slice none 0 0)
    exact bodyPost_ret (v := .tuple #[.agg #[.bool false, .slice none 0 0, .bool false, .slice none 0 0], .int .i64 10]) (by simp [results, Tryz.results15, go_sem, d0, d1, d2, d3]) rfl ⟨hle9'.out _ _ _ _, _, _, rfl, by rw [hno'.out]; exact ⟨rfl, rfl⟩⟩
  | true =>
    obtain ⟨a, ha⟩ := tval_true hb1'.out
    have hop := normR_some ha
    have hta := t1'.out.2 a ha
    have hsz9 := tval_sz ha
    have ha' := Lib.hid ha
    have hop' := Lib.hid hop
    have hta' := Lib.hid hta
    have hsz9' := Lib.hid hsz9
    have kVo' := Lib.hid kVo
    clear kVo hsz9 hta hop ha
    go_wp2_with (fail)
    clear hV
    go_at_call 44
    refine (pf_n_Square a _ V hta'.out (hsz9'.out.up (by decide))).mono ?_
    rintro e W2 ⟨v2, rfl, hle3, h2⟩
    have h20 := h2
    obtain ⟨qs1, qA1, qn1, qc1, qB1, qm1, qd1, rfl⟩ := h2.qform
    have k2 := box_later hle3 kV'.out
    have hl3 := hlV'.out.trans hle3
    have hle3' := Lib.hid hle3
    have h2' := Lib.hid h2
    have h20' := Lib.hid h20
    have k2' := Lib.hid k2
    have hl3' := Lib.hid hl3
    clear hl3 k2 h20 h2 hle3
    go_wp2_with (fail)
    go_at_call 43
    refine (pf_n_Out (fun _ => True) (fun _ => True) _ _ W2 (Up.any _) h20'.out).mono ?_
    rintro e W3 hout
    obtain ⟨hle4, v4, c4, rfl, hres⟩ := hout.res
    obtain ⟨rs1, rA1, rn1, rc1, rt1, rB1, rm1, rd1, rfl⟩ := hres.form
    have k3 := box_later hle4 k2'.out
    have hl4 := hl3'.out.trans hle4
    have hout' := Lib.hid hout
    have hle4' := Lib.hid hle4
    have hres' := Lib.hid hres
    have hl4' := Lib.hid hl4
    clear hl4 hres hle4 hout
    obtain ⟨z0, z1, z2, z3⟩ := cells4 k3
    have g0 := frozen00 k3 0
    have g1 := frozen00 k3 1
    have g2 := frozen00 k3 2
    have g3 := frozen00 k3 3
    have hle9 := fun u0 u1 u2 u3 => le_set4 (u0 := u0) (u1 := u1) (u2 := u2) (u3 := u3) (hl4'.out) (show w.heap.size ≤ w.heap.size + 1 by omega)
    have hb9 := fun u0 u1 u2 u3 => cells4 (heap_set4 (u0 := u0) (u1 := u1) (u2 := u2) (u3 := u3) k3)
    have hf0 := fun u0 u1 u2 u3 => hres'.out.touch (noInt4 k3) (touch_set4 W3 (w.heap.size + 1) u0 u1 u2 u3)
    have hle9' := Lib.hid hle9
    have hb9' := Lib.hid hb9
    have k3' := Lib.hid k3
    have hf0' := Lib.hid hf0
    clear hf0 k3 hb9 hle9
    go_wp2
    obtain ⟨d0, d1, d2, d3⟩ := hb9'.out (.bool rs1) (.slice rA1 rn1 rc1) (.bool rt1) (.slice rB1 rm1 rd1)
    exact bodyPost_ret (v := .tuple #[.agg #[.bool rs1, .slice rA1 rn1 rc1, .bool rt1, .slice rB1 rm1 rd1], .int .i64 c4]) (by simp [results, Tryz.results15, go_sem, d0, d1, d2, d3]) rfl ⟨hle9'.out _ _ _ _, _, _, rfl, by rw [hop'.out]; exact hf0'.out _ _ _ _⟩
end Go.Proofs.YtpjmbgfggonhhaaGreat
namespace Go.Proofs.YtpjmbgfggonhhaaGreat
open Go.RowKit Go.Shelf
set_option linter.unusedVariables false
set_option linter.unusedSimpArgs false
set_option maxRecDepth 100000 in
set_option maxHeartbeats 4000000 in
theorem pf_n_SameTurn (x y : FracA × FracA) (va vb : Value) (w : World) (h1 : IsTurnA w va x) (h2 : IsTurnA w vb y) : Calls Tryz.prog 13 #[va, vb] w fun e w' => e = .returned (.bool (sameT x y)) ∧ Le w w' := by
  obtain ⟨x1A, x1c, x1B, x1d, x2A, x2c, x2B, x2d, rfl, p1, p2⟩ := h1
  obtain ⟨y1A, y1c, y1B, y1d, y2A, y2c, y2B, y2d, rfl, q1, q2⟩ := h2
  obtain ⟨W0, hW0, hsz, hle, k0, k1⟩ := new2_le w (.cells #[.bool x.1.sn, .slice x1A x.1.gn.length x1c, .bool x.1.sd, .slice x1B x.1.gd.length x1d, .bool x.2.sn, .slice x2A x.2.gn.length x2c, .bool x.2.sd, .slice x2B x.2.gd.length x2d] 28) (.cells #[.bool y.1.sn, .slice y1A y.1.gn.length y1c, .bool y.1.sd, .slice y1B y.1.gd.length y1d, .bool y.2.sn, .slice y2A y.2.gn.length y2c, .bool y.2.sd, .slice y2B y.2.gd.length y2d] 28)
  obtain ⟨a0, a1, a2, a3, a4, a5, a6, a7⟩ := cells8 k0
  obtain ⟨b0, b1, b2, b3, b4, b5, b6, b7⟩ := cells8 k1
  have r1 := pf_n_SameFrac (fun _ => True) (fun _ => True) x.1 y.1 _ _ W0 (p1.le hle) (q1.le hle)
  have r2 := fun W (hW : Le W0 W) => pf_n_SameFrac (fun _ => True) (fun _ => True) x.2 y.2 _ _ W (p2.le (hle.trans hW)) (q2.le (hle.trans hW))
  obtain ⟨s1, hs1⟩ : ∃ s, sameF x.1 y.1 = s := ⟨_, rfl⟩
  obtain ⟨s2, hs2⟩ : ∃ s, sameF x.2 y.2 = s := ⟨_, rfl⟩
  have hT : sameT x y = (s1 && s2) := by unfold sameT; rw [hs1, hs2]
  rw [hs1] at r1
  rw [hs2] at r2
  rw [hT]
  have hle' := Lib.hid hle
  have k0' := Lib.hid k0
  have k1' := Lib.hid k1
  have p1' := Lib.hid p1
  have p2' := Lib.hid p2
  have q1' := Lib.hid q1
  have q2' := Lib.hid q2
  have r1' := Lib.hid r1
  have r2' := Lib.hid r2
  have hs1' := Lib.hid hs1
  have hs2' := Lib.hid hs2
  have hT' := Lib.hid hT
  clear hT hs2 hs1 r2 r1 q2 q1 p2 p1 k1 k0 hle
  cases s1
  · go_enter Tryz.func13, Tryz.ntmps13
    go_wp2_with (fail)
    clear hW0
    go_at_call 18
    refine r1'.out.mono ?_
    rintro e W1 ⟨rfl, hle1⟩
    have hl1 := hle'.out.trans hle1
    have hle1' := Lib.hid hle1
    have hl1' := Lib.hid hl1
    clear hl1 hle1
    go_wp2
    go_ret
    exact ⟨by simp, hl1'.out⟩
  · go_enter Tryz.func13, Tryz.ntmps13
    go_wp2_with (fail)
    clear hW0
    go_at_call 18
    refine r1'.out.mono ?_
    rintro e W1 ⟨rfl, hle1⟩
    clear a0 a1 a2 a3 a4 a5 a6 a7 b0 b1 b2 b3 b4 b5 b6 b7
    obtain ⟨a0, a1, a2, a3, a4, a5, a6, a7⟩ := cells8 (box_later hle1 k0'.out)
    obtain ⟨b0, b1, b2, b3, b4, b5, b6, b7⟩ := cells8 (box_later hle1 k1'.out)
    have r3 := r2'.out W1 hle1
    have hle1' := Lib.hid hle1
    have r3' := Lib.hid r3
    clear r3 hle1
    go_wp2_with (fail)
    go_at_call 18
    refine r3'.out.mono ?_
    rintro e W2 ⟨rfl, hle2⟩
    have hl2 := (hle'.out.trans hle1'.out).trans hle2
    have hle2' := Lib.hid hle2
    have hl2' := Lib.hid hl2
    clear hl2 hle2
    go_wp2
    go_ret
    exact ⟨by simp, hl2'.out⟩
set_option maxRecDepth 100000 in
set_option maxHeartbeats 4000000 in
theorem pf_n_GreatTurn (x : FracA × FracA) (m : Nat) (v : Value) (w : World) (hm : (m : Int) ≤ 1000) (h : IsTurnA w v x) : Calls Tryz.prog 4 #[v, .int .i64 m] w fun e w' => e = .returned (.bool (greatT x m)) ∧ Le w w' := by
  obtain ⟨x1A, x1c, x1B, x1d, x2A, x2c, x2B, x2d, rfl, p1, p2⟩ := h
  obtain ⟨W0, hW0, hle, k0⟩ : ∃ V, w.alloc (.cells #[.bool x.1.sn, .slice x1A x.1.gn.length x1c, .bool x.1.sd, .slice x1B x.1.gd.length x1d, .bool x.2.sn, .slice x2A x.2.gn.length x2c, .bool x.2.sd, .slice x2B x.2.gd.length x2d] 28) = V ∧ Le w V ∧ V.heap[w.heap.size]? = some (.cells #[.bool x.1.sn, .slice x1A x.1.gn.length x1c, .bool x.1.sd, .slice x1B x.1.gd.length x1d, .bool x.2.sn, .slice x2A x.2.gn.length x2c, .bool x.2.sd, .slice x2B x.2.gd.length x2d] 28) := ⟨_, rfl, le_alloc _ _, by unfold World.alloc; exact Array.getElem?_push_size⟩
  obtain ⟨a0, a1, a2, a3, a4, a5, a6, a7⟩ := cells8 k0
  have r1 := pf_n_Great (fun _ => True) x.1 m _ W0 hm (p1.le hle)
  have r2 := fun W (hW : Le W0 W) => pf_n_Great (fun _ => True) x.2 m _ W hm (p2.le (hle.trans hW))
  obtain ⟨s1, hs1⟩ : ∃ s, greatB x.1 m = s := ⟨_, rfl⟩
  obtain ⟨s2, hs2⟩ : ∃ s, greatB x.2 m = s := ⟨_, rfl⟩
  have hT : greatT x m = (s1 || s2) := by unfold greatT; rw [hs1, hs2]
  rw [hs1] at r1
  rw [hs2] at r2
  rw [hT]
  have hle' := Lib.hid hle
  have k0' := Lib.hid k0
  have p1' := Lib.hid p1
  have p2' := Lib.hid p2
  have r1' := Lib.hid r1
  have r2' := Lib.hid r2
  have hs1' := Lib.hid hs1
  have hs2' := Lib.hid hs2
  have hT' := Lib.hid hT
  clear hT hs2 hs1 r2 r1 p2 p1 k0 hle
  cases s1
  · go_enter Tryz.func4, Tryz.ntmps4
    go_wp2_with (fail)
    clear hW0
    go_at_call 21
    refine r1'.out.mono ?_
    rintro e W1 ⟨rfl, hle1⟩
    clear a0 a1 a2 a3 a4 a5 a6 a7
    obtain ⟨a0, a1, a2, a3, a4, a5, a6, a7⟩ := cells8 (box_later hle1 k0'.out)
    have r3 := r2'.out W1 hle1
    have hle1' := Lib.hid hle1
    have r3' := Lib.hid r3
    clear r3 hle1
    go_wp2_with (fail)
    go_at_call 21
    refine r3'.out.mono ?_
    rintro e W2 ⟨rfl, hle2⟩
    have hl2 := (hle'.out.trans hle1'.out).trans hle2
    have hle2' := Lib.hid hle2
    have hl2' := Lib.hid hl2
    clear hl2 hle2
    go_wp2
    go_ret
    exact ⟨by simp, hl2'.out⟩
  · go_enter Tryz.func4, Tryz.ntmps4
    go_wp2_with (fail)
    clear hW0
    go_at_call 21
    refine r1'.out.mono ?_
    rintro e W1 ⟨rfl, hle1⟩
    have hl1 := hle'.out.trans hle1
    have hle1' := Lib.hid hle1
    have hl1' := Lib.hid hl1
    clear hl1 hle1
    go_wp2
    go_ret
    exact ⟨by simp, hl1'.out⟩
end Go.Proofs.YtpjmbgfggonhhaaGreat
