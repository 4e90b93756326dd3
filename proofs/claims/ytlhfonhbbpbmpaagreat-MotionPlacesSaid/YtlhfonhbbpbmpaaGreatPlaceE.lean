/- barleycornref02.at: the place of a path at a moment. -/
import Derived.Test.YtlhfonhbbpbmpaaGreatPlaceB
import Derived.Test.YtlhfonhbbpbmpaaGreatBoxReg
import Derived.Test.YtlhfonhbbpbmpaaGreatTR6
import Derived.Test.YtlhfonhbbpbmpaaGreatTRB
namespace Go.Proofs.YtlhfonhbbpbmpaaGreat
set_option maxRecDepth 100000
set_option maxHeartbeats 2000000
open Go.RowKit Go.Shelf
set_option linter.unusedVariables false
set_option linter.unusedSimpArgs false
structure AtI (w : World) (t : TypeId) (cu : Array Value) (B6 : Nat) (l : List ArmA) (u : FracA × FracA) (j : Nat) (W : World) : Prop where
 below : Below w.heap.size w W
 bu : W.heap[w.heap.size]? = some (.cells cu t)
 r4 : W.heap[w.heap.size + 1]? = some (.cells qAb t)
 sum : ∃ s, Box8 t W B6 s ∧ TSz s 40 ∧ qAc u (0, 0) l = qAc u s (l.drop j)
theorem qLM : TSz (0, 0) 40 := ⟨(qDh 0 (by decide) (by decide)).up (by decide), (qDh 0 (by decide) (by decide)).up (by decide)⟩
theorem qJX (l : List ArmA) (u : FracA × FracA) (v vu : Value) (w : World) (hv : ArmsL w v l) (hu : IsTurnA w vu u) (hz : ∀ g, tval u = some g → TSz g 2) (hl : l.length ≤ 1000) :
  Calls Tryz.prog 26 #[v, vu] w (qAa (qAc u (0, 0) l) w) := by
 obtain ⟨tv, hvv⟩ := hv.vals
 have hvv' := hyd1 hvv
 obtain ⟨A, c, rfl, hlc, hcm, -⟩ := hvv
 unfold maxLen at hcm
 have hu0 := hu
 obtain ⟨us1, uA1, un1, uc1, ut1, uB1, um1, ud1, us2, uA2, un2, uc2, ut2, uB2, um2, ud2, rfl⟩ := hu.form
 clear hu
 obtain ⟨W0, hW0, hsz, hle, k0, k4⟩ := qAQ w (.cells #[.bool us1, .slice uA1 un1 uc1, .bool ut1, .slice uB1 um1 ud1, .bool us2, .slice uA2 un2 uc2, .bool ut2, .slice uB2 um2 ud2] 29) (.cells qAb 29)
 have hs2 : w.heap.size + 2 ≤ W0.heap.size := by omega
 clear hsz
 have ⟨hv', hu0', hz', hle', k0', k4'⟩ := hyd6 hv hu0 hz hle k0 k4
 clear k4 k0 hle hz hu0 hv
 go_enter Tryz.func26, Tryz.ntmps26
 go_wp2_with (fail)
 clear hW0
 go_at_call 61
 refine (qKl W0).mono ?_
 rintro e W1 ⟨v1, rfl, hle1, hf1⟩
 obtain ⟨ps1, pA1, pn1, pc1, pt1, pB1, pm1, pd1, ps2, pA2, pn2, pc2, pt2, pB2, pm2, pd2, rfl⟩ := id hf1.aform
 obtain ⟨W2, hW2, hle2, k2⟩ := al1 W1 (.cells #[.bool ps1, .slice pA1 pn1 pc1, .bool pt1, .slice pB1 pm1 pd1, .bool ps2, .slice pA2 pn2 pc2, .bool pt2, .slice pB2 pm2 pd2] 29)
 have hs1 := hle1.size
 have hI0 : AtI w 29 #[.bool us1, .slice uA1 un1 uc1, .bool ut1, .slice uB1 um1 ud1, .bool us2, .slice uA2 un2 uc2, .bool ut2, .slice uB2 um2 ud2] W1.heap.size l u 0 W2 := ⟨hle'.out.trans (hle1.trans hle2), bxl (hle1.trans hle2) k0'.out, bxl (hle1.trans hle2) k4'.out, (0, 0), ⟨ps1, pA1, pn1, pc1, pt1, pB1, pm1, pd1, ps2, pA2, pn2, pc2, pt2, pB2, pm2, pd2, k2, hf1.le hle2⟩, qLM, rfl⟩
 have ⟨hle1', hf1', hle2', k2', hI0'⟩ := hyd5 hle1 hf1 hle2 k2 hI0
 clear hI0 k2 hle2 hf1 hle1
 go_wp2_with (fail)
 clear hW2
 generalize hB6 : W1.heap.size = B6 at hI0' k2' hs1 ⊢
 have hB6' := hyd1 hB6
 clear hB6
 go_loopw [7] (fun ix wr => ∃ j : Nat, j ≤ l.length ∧ ix = .int .i64 j ∧ Hid (AtI w 29 #[.bool us1, .slice uA1 un1 uc1, .bool ut1, .slice uB1 um1 ud1, .bool us2, .slice uA2 un2 uc2, .bool ut2, .slice uB2 um2 ud2] B6 l u j wr)) (fun ix _ => l.length - (intOf ix).toNat)
 case atStart => exact ⟨0, Nat.zero_le _, rfl, hI0'⟩
 case round =>
  obtain ⟨j, hj, rfl, hI⟩ := hrel
  obtain ⟨hbw, ku, k4r, s, ⟨os1, oA1, on1, oc1, ot1, oB1, om1, od1, os2, oA2, on2, oc2, ot2, oB2, om2, od2, kold, hfold⟩, hsz40, hpl⟩ := hI.out
  by_cases hlt : j < l.length
  ·obtain ⟨b, off, c', heq, -, hb, hac, hta, hk1, hk2⟩ := qGf hvv'.out hlt
   injection heq with q1 q2 q3
   subst q1 q3
   clear q2
   obtain ⟨s1, A1, n1, c1, t1, B1, m1, d1, s2, A2, n2, c2, t2, B2, m2, d2, he, a0, a1, a2, a3, a4, a5, a6, a7, a8⟩ := hac.same (W := wr) fun i => hbw.cell (p := ⟨b, i, none⟩) hb
   have htV := hta.le hbw
   rw [he] at htV
   have hdrop := qF7 (u := u) (s := s) hlt
   obtain ⟨am, ham⟩ : ∃ am, l.getD j default = am := ⟨_, rfl⟩
   rw [ham] at htV a0 hk1 hk2 hdrop
   obtain ⟨kk, yt⟩ := am
   dsimp only at htV a0 hk1 hk2
   have i1 : (j : Int) < (l.length : Int) := by omega
   have i2 : (0 : Int) ≤ (j : Int) := by omega
   have hbz : b < wr.heap.size := Nat.lt_of_lt_of_le hb hbw.size
   have hcell0 := fun (W : World) (h : Le wr W) => (h.cell (p := ⟨b, off + j * 9, none⟩) hbz).trans a0
   have hpow := fun (W : World) (h : Le wr W) => qKC u kk _ W (hu0'.out.le (hbw.trans (h.mono hbw.size))) hz'.out
   obtain ⟨P1, hP1⟩ : ∃ P, powG u kk = P := ⟨_, rfl⟩
   rw [hP1] at hpow
   clear hac
   have ⟨hI', hbw', ku', k4r', kold', hfold', hsz40', hpl'⟩ := hyd8 hI hbw ku k4r kold hfold hsz40 hpl
   have ⟨htV', hdrop', ham', he', hcell0', hpow', hP1', a0'⟩ := hyd8 htV hdrop ham he hcell0 hpow hP1 a0
   have ⟨a1', a2', a3', a4', a5', a6', a7', a8'⟩ := hyd8 a1 a2 a3 a4 a5 a6 a7 a8
   clear a8 a7 a6 a5 a4 a3 a2 a1 a0 hP1 hpow hcell0 he ham hdrop htV hpl hsz40 hfold kold k4r ku hbw hI
   go_wp2_with (fail)
   refine qBc (R := resRel) 12 [some 18, some 19, some 20, some 21, some 22, some 23, some 24, some 17, some 25, some 26, some 8, none, some 9] [[], [], [], [1, 2], [3], [4], [0, 5], [6], [7], [7], [], [8, 10], [9]]
    [.eq (.agg #[.bool us1, .slice uA1 un1 uc1, .bool ut1, .slice uB1 um1 ud1, .bool us2, .slice uA2 un2 uc2, .bool ut2, .slice uB2 um2 ud2]), .eq (.slice (some ⟨b, off, none⟩) l.length c), .eq (.int .i64 (j : Nat)), .eq (.pointer (some ⟨b, off + j * 9, none⟩)), .eq (.pointer (some ⟨b, off + j * 9, none⟩)), .eq (.int .i64 kk), RPred.pair P1, RPred.pair P1, RPred.val P1, .eq (.int .i64 (codeG P1)), MPredR.any, MPredR.any] (GBox8 8 10 11 wr 29) (fun _ _ => False) (by kernel_rfl) (by kernel_rfl) (by kernel_rfl) (by kernel_rfl) (by kernel_rfl) (GBox8.start 8 10 11 wr 29 _ (by decide)) ?_ (fun _ _ _ _ h => h.elim) ?_
   ·simp only [List.take_succ_cons, List.take_zero]
    refine sGc rfl ?_ (sGc rfl ?_ (sGc rfl ?_ (sGc rfl ?_ (sGc rfl ?_ (sGc rfl ?_ (sGc rfl ?_ (sGc rfl ?_ (sGc rfl ?_ (sGc rfl ?_ (sGc rfl ?_ (sGc rfl ?_ (qBT))))))))))))
    ·intro Dn xv W hD hdp hR hf hG Q hK hP
     have hRb := hG.1
     obtain ⟨z0, z1, z2, z3, z4, z5, z6, z7⟩ := qAB (bxl hRb ku'.out)
     clear hRb
     simp only [fA] at hK ⊢
     have hG' := hyd1 hG
     clear hG
     go_wp2
     exact hK _ _ (qAV (Le.refl _)) rfl (hG'.out.keep rfl (Le.refl _))
    ·intro Dn xv W hD hdp hR hf hG Q hK hP
     simp only [fA] at hK ⊢
     have hG' := hyd1 hG
     clear hG
     go_wp2
     exact hK _ _ (qAV (Le.refl _)) rfl (hG'.out.keep rfl (Le.refl _))
    ·intro Dn xv W hD hdp hR hf hG Q hK hP
     simp only [fA] at hK ⊢
     have hG' := hyd1 hG
     clear hG
     go_wp2
     exact hK _ _ (qAV (Le.refl _)) rfl (hG'.out.keep rfl (Le.refl _))
    ·intro Dn xv W hD hdp hR hf hG Q hK hP
     obtain ⟨e0, e1, -⟩ := hf
     change _ = _ at e0 e1
     simp only [fA, e0, e1] at hK ⊢
     have hG' := hyd1 hG
     clear hG
     go_wp2
     exact hK _ _ (qAV (Le.refl _)) rfl (hG'.out.keep rfl (Le.refl _))
    ·intro Dn xv W hD hdp hR hf hG Q hK hP
     obtain ⟨e0, -⟩ := hf
     change _ = _ at e0
     simp only [fA, e0] at hK ⊢
     have hG' := hyd1 hG
     clear hG
     go_wp2
     exact hK _ _ (qAV (Le.refl _)) rfl (hG'.out.keep rfl (Le.refl _))
    ·intro Dn xv W hD hdp hR hf hG Q hK hP
     obtain ⟨e0, -⟩ := hf
     change _ = _ at e0
     have hRb := hG.1
     have cc := hcell0'.out W hRb
     clear hRb
     simp only [fA, e0] at hK ⊢
     have hG' := hyd1 hG
     clear hG
     go_wp2
     exact hK _ _ (qAV (Le.refl _)) rfl (hG'.out.keep rfl (Le.refl _))
    ·intro Dn xv W hD hdp hR hf hG Q hK hP
     obtain ⟨e0, e1, -⟩ := hf
     change _ = _ at e0 e1
     have hcl := hpow'.out W hG.1
     simp only [fA, e0, e1] at hK ⊢
     have ⟨hG', hcl'⟩ := hyd2 hG hcl
     clear hcl hG
     go_wp2_with (fail)
     go_at_call 62
     refine hcl'.out.mono ?_
     rintro e w' ⟨y1, v1, cc, rfl, hr⟩
     have hcc := hr.codeG
     subst hcc
     have ⟨y1', hr'⟩ := hyd2 y1 hr
     clear hr y1
     go_wp2
     exact hK _ _ (qAV y1'.out) ⟨_, rfl, hr'.out⟩ (hG'.out.keep rfl y1'.out)
    ·intro Dn xv W hD hdp hR hf hG Q hK hP
     obtain ⟨e0, -⟩ := hf
     replace e0 : ∃ v', (xv 6) = .tuple #[v', .int .i64 (codeG P1)] ∧ IsResT W v' (codeG P1) P1 := e0
     obtain ⟨vv, qv, hv1⟩ := e0
     have hv2 := hv1
     obtain ⟨fs1, fA1, fn1, fc1, ft1, fB1, fm1, fd1, fs2, fA2, fn2, fc2, ft2, fB2, fm2, fd2, rfl⟩ := hv1.form
     clear hv1
     have hv2' := hyd1 hv2
     clear hv2
     simp only [fA, qv] at hK ⊢
     have qv9 := qv
     clear qv qv9
     have hG' := hyd1 hG
     clear hG
     go_wp2
     exact hK _ _ (qAV (Le.refl _)) ⟨_, rfl, hv2'.out⟩ (hG'.out.keep rfl (Le.refl _))
    ·intro Dn xv W hD hdp hR hf hG Q hK hP
     obtain ⟨e0, -⟩ := hf
     replace e0 : ∃ v', (xv 7) = .tuple #[v', .int .i64 (codeG P1)] ∧ IsResT W v' (codeG P1) P1 := e0
     obtain ⟨vv, qv, hv1⟩ := e0
     have hv2 := hv1
     obtain ⟨fs1, fA1, fn1, fc1, ft1, fB1, fm1, fd1, fs2, fA2, fn2, fc2, ft2, fB2, fm2, fd2, rfl⟩ := hv1.form
     clear hv1
     have hv2' := hyd1 hv2
     clear hv2
     simp only [fA, qv] at hK ⊢
     have qv9 := qv
     clear qv qv9
     have hG' := hyd1 hG
     clear hG
     go_wp2
     exact hK _ _ (qAV (Le.refl _)) hv2'.out (hG'.out.take hD rfl)
    ·intro Dn xv W hD hdp hR hf hG Q hK hP
     obtain ⟨e0, -⟩ := hf
     replace e0 : ∃ v', (xv 7) = .tuple #[v', .int .i64 (codeG P1)] ∧ IsResT W v' (codeG P1) P1 := e0
     obtain ⟨vv, qv, hv1⟩ := e0
     have hv2 := hv1
     obtain ⟨fs1, fA1, fn1, fc1, ft1, fB1, fm1, fd1, fs2, fA2, fn2, fc2, ft2, fB2, fm2, fd2, rfl⟩ := hv1.form
     clear hv1
     have hv2' := hyd1 hv2
     clear hv2
     simp only [fA, qv] at hK ⊢
     have qv9 := qv
     clear qv qv9
     have hG' := hyd1 hG
     clear hG
     go_wp2
     exact hK _ _ (qAV (Le.refl _)) rfl (hG'.out.keep rfl (Le.refl _))
    ·intro Dn xv W hD hdp hR hf hG Q hK hP
     simp only [fA] at hK ⊢
     have hG' := hyd1 hG
     clear hG
     go_wp2
     exact hK _ _ (qAV (qAA _ _)) trivial (hG'.out.make hD rfl)
    ·intro Dn xv W hD hdp hR hf hG Q hK hP
     obtain ⟨e0, e1, -⟩ := hf
     have d0 := hdp 8 (by decide)
     have d1 := hdp 10 (by decide)
     replace e0 : IsResT W (xv 8) (codeG P1) P1 := e0
     obtain ⟨kb, qb, hkb, hxb⟩ := hG.ready d1 hD
     obtain ⟨fs1, fA1, fn1, fc1, ft1, fB1, fm1, fd1, fs2, fA2, fn2, fc2, ft2, fB2, fm2, fd2, qv⟩ := IsResT.form e0
     have hput := hG.put (v := undef) d1 d0 qb hkb hxb qv rfl
     simp only [fA, qv, qb] at hK ⊢
     obtain ⟨z0, z1, z2, z3, z4, z5, z6, z7⟩ := qAB hxb
     have ⟨y0, y1, y2, y3, y4, y5, y6, y7⟩ := frz8 hxb
     clear qv qb
     clear e0 e1
     have ⟨hput', hG', hxb'⟩ := hyd3 hput hG hxb
     clear hxb hG hput
     go_wp2
     exact hK undef _ hput'.out.2 trivial hput'.out.1
   ·intro Dn xv V5 hD hR hf hG Q' hQ1 _
    have e2 : IsResT V5 (xv 8) (codeG P1) P1 := hf 8 (by decide)
    have e1 : xv 9 = .int .i64 (codeG P1) := hf 9 (by decide)
    obtain ⟨kb5, qb, hkb5, xs1, xA1, xn1, xc1, xt1, xB1, xm1, xd1, xs2, xA2, xn2, xc2, xt2, xB2, xm2, xd2, qv, kV5⟩ := hG.full (hD 10 (by decide)) (hD 11 (by decide))
    have hleV5 := hG.1
    rw [qv] at e2
    have frV5 := e2
    simp only [List.drop_succ_cons, List.drop_zero]
    rw [show List.range 12 = [0, 1, 2, 3, 4, 5, 6, 7, 8, 9, 10, 11] from rfl]
    simp only [fA, qv, e1, qb]
    clear qv e1 qb hf e2 hG hD hR
    have ⟨hleV5', kV5', frV5'⟩ := hyd3 hleV5 kV5 frV5
    clear frV5 kV5 hleV5
    go_wp2
    refine hQ1 _ _ ?_
    clear hQ1
    cases P1 with
    | error z =>
     have hP := hP1'.out
     have hz0 : z ≠ 0 := qGD hP
     have hcd : codeG (.error z) = z := rfl
     have hle05 : Le w V5 := hbw'.out.trans (hleV5'.out.mono hbw'.out.size)
     have q4 := bxl hleV5'.out k4r'.out
     obtain ⟨gf0, gf1, gf2, gf3, gf4, gf5, gf6, gf7⟩ := qAB q4
     have ⟨f0, f1, f2, f3, f4, f5, f6, f7⟩ := frz8 q4
     obtain ⟨W9, hW9, hle9⟩ := qBA (k := w.heap.size + 1) hle05 (show w.heap.size ≤ w.heap.size + 1 by omega)
     have q9 : W9.heap[w.heap.size + 1]? = some (.cells qAb 29) := by rw [← hW9]; exact qAI q4 _ _ _ _ _ _ _ _
     obtain ⟨d0, d1, d2, d3, d4, d5, d6, d7⟩ := qAB q9
     have hres : qAc u (0, 0) l = .error z := by rw [hpl'.out, hdrop'.out, qHF hP]
     have ⟨q4', hle9', q9', hres', hP'⟩ := hyd5 q4 hle9 q9 hres hP
     clear hP hres q9 hle9 q4
     go_wp2
     exact bodyPost_ret (v := .tuple #[.agg qAb, .int .i64 z]) (by simp [results, Tryz.results26, go_sem, codeG, d0, d1, d2, d3, d4, d5, d6, d7]) rfl ⟨hle9'.out, _, _, rfl, by rw [hres'.out]; exact ⟨rfl, rfl⟩⟩
    | ok xg =>
     have hP := hP1'.out
     obtain ⟨P2, hP2⟩ : ∃ P, mulG yt (qAS xg) = P := ⟨_, rfl⟩
     have hmul : ∀ (W : World), Le wr W → resRel.r V5 W → Calls Tryz.prog 34 #[.agg #[.bool s1, .slice A1 n1 c1, .bool t1, .slice B1 m1 d1, .bool s2, .slice A2 n2 c2, .bool t2, .slice B2 m2 d2], .agg #[.bool xs1, .slice xA1 xn1 xc1, .bool xt1, .slice xB1 xm1 xd1, .bool xs2, .slice xA2 xn2 xc2, .bool xt2, .slice xB2 xm2 xd2]] W (qAa P2 W) := fun W h1 h2 => by
      have := qDv yt (qAS xg) _ _ W (htV'.out.le h1) (h2.2 _ _ _ frV5'.out).isAV
      change Calls Tryz.prog 34 _ W (qAa (mulG yt (qAS xg)) W) at this
      rwa [hP2] at this
     have hcellC := fun (W : World) (h : Le wr W) => (show _ ∧ _ ∧ _ ∧ _ ∧ _ ∧ _ ∧ _ ∧ _ from ⟨(h.cell (p := ⟨b, off + j * 9 + 1, none⟩) hbz).trans a1'.out, (h.cell (p := ⟨b, off + j * 9 + 2, none⟩) hbz).trans a2'.out, (h.cell (p := ⟨b, off + j * 9 + 3, none⟩) hbz).trans a3'.out, (h.cell (p := ⟨b, off + j * 9 + 4, none⟩) hbz).trans a4'.out, (h.cell (p := ⟨b, off + j * 9 + 5, none⟩) hbz).trans a5'.out, (h.cell (p := ⟨b, off + j * 9 + 6, none⟩) hbz).trans a6'.out, (h.cell (p := ⟨b, off + j * 9 + 7, none⟩) hbz).trans a7'.out, (h.cell (p := ⟨b, off + j * 9 + 8, none⟩) hbz).trans a8'.out⟩)
     have hcd : codeG (.ok xg) = 0 := rfl
     have ⟨hP', hP2', hmul', hcellC'⟩ := hyd4 hP hP2 hmul hcellC
     clear hcellC hmul hP2 hP
     go_wp2_with (fail)
     refine qBc (R := resRel) 11 [some 32, some 33, some 34, some 35, some 36, some 37, some 38, some 31, some 39, some 40, none, some 9] [[], [], [0, 1], [2], [3], [], [4, 5], [6], [7], [7], [8], [9]]
      [.eq (.slice (some ⟨b, off, none⟩) l.length c), .eq (.int .i64 (j : Nat)), .eq (.pointer (some ⟨b, off + j * 9, none⟩)), .eq (.pointer (some ⟨b, off + j * 9 + 1, none⟩)), .eq (.agg #[.bool s1, .slice A1 n1 c1, .bool t1, .slice B1 m1 d1, .bool s2, .slice A2 n2 c2, .bool t2, .slice B2 m2 d2]), .eq (.agg #[.bool xs1, .slice xA1 xn1 xc1, .bool xt1, .slice xB1 xm1 xd1, .bool xs2, .slice xA2 xn2 xc2, .bool xt2, .slice xB2 xm2 xd2]), RPred.pair P2, RPred.pair P2, RPred.val P2, .eq (.int .i64 (codeG P2)), MPredR.any] (GFill 8 7 6 5 10 wr kb5 #[.bool xs1, .slice xA1 xn1 xc1, .bool xt1, .slice xB1 xm1 xd1, .bool xs2, .slice xA2 xn2 xc2, .bool xt2, .slice xB2 xm2 xd2] 29) (fun _ _ => False) (by kernel_rfl) (by kernel_rfl) (by kernel_rfl) (by kernel_rfl) (by kernel_rfl) (GFill.start 8 7 6 5 10 _ (by decide) hleV5'.out kV5'.out) ?_ (fun _ _ _ _ h => h.elim) ?_
     ·simp only [List.take_succ_cons, List.take_zero]
      refine sGc rfl ?_ (sGc rfl ?_ (sGc rfl ?_ (sGc rfl ?_ (sGc rfl ?_ (sGc rfl ?_ (sGc rfl ?_ (sGc rfl ?_ (sGc rfl ?_ (sGc rfl ?_ (sGc rfl ?_ (qBT)))))))))))
      ·intro Dn xv W hD hdp hR hf hG Q hK hP
       simp only [fA] at hK ⊢
       have hG' := hyd1 hG
       clear hG
       go_wp2
       exact hK _ _ (qAV (Le.refl _)) rfl (hG'.out.keep rfl (fun h => absurd h (by decide)) (fun h => absurd h (by decide)) (Le.refl _))
      ·intro Dn xv W hD hdp hR hf hG Q hK hP
       simp only [fA] at hK ⊢
       have hG' := hyd1 hG
       clear hG
       go_wp2
       exact hK _ _ (qAV (Le.refl _)) rfl (hG'.out.keep rfl (fun h => absurd h (by decide)) (fun h => absurd h (by decide)) (Le.refl _))
      ·intro Dn xv W hD hdp hR hf hG Q hK hP
       obtain ⟨e0, e1, -⟩ := hf
       change _ = _ at e0 e1
       simp only [fA, e0, e1] at hK ⊢
       have hG' := hyd1 hG
       clear hG
       go_wp2
       exact hK _ _ (qAV (Le.refl _)) rfl (hG'.out.keep rfl (fun h => absurd h (by decide)) (fun h => absurd h (by decide)) (Le.refl _))
      ·intro Dn xv W hD hdp hR hf hG Q hK hP
       obtain ⟨e0, -⟩ := hf
       change _ = _ at e0
       simp only [fA, e0] at hK ⊢
       have hG' := hyd1 hG
       clear hG
       go_wp2
       exact hK _ _ (qAV (Le.refl _)) rfl (hG'.out.keep rfl (fun h => absurd h (by decide)) (fun h => absurd h (by decide)) (Le.refl _))
      ·intro Dn xv W hD hdp hR hf hG Q hK hP
       obtain ⟨e0, -⟩ := hf
       change _ = _ at e0
       obtain ⟨z0, z1, z2, z3, z4, z5, z6, z7⟩ := hcellC'.out W hG.1
       simp only [fA, e0] at hK ⊢
       have hG' := hyd1 hG
       clear hG
       go_wp2
       exact hK _ _ (qAV (Le.refl _)) rfl (hG'.out.keep rfl (fun h => absurd h (by decide)) (fun h => absurd h (by decide)) (Le.refl _))
      ·intro Dn xv W hD hdp hR hf hG Q hK hP
       obtain ⟨z0, z1, z2, z3, z4, z5, z6, z7⟩ := qAB (hG.ready (hG.unset hD))
       simp only [fA] at hK ⊢
       have hG' := hyd1 hG
       clear hG
       go_wp2
       exact hK _ _ (qAV (Le.refl _)) rfl (hG'.out.keep rfl (fun h => absurd h (by decide)) (fun h => absurd h (by decide)) (Le.refl _))
      ·intro Dn xv W hD hdp hR hf hG Q hK hP
       obtain ⟨e0, e1, -⟩ := hf
       change _ = _ at e0 e1
       have hcl := hmul'.out W hG.1 hR
       simp only [fA, e0, e1] at hK ⊢
       have ⟨hG', hcl'⟩ := hyd2 hG hcl
       clear hcl hG
       go_wp2_with (fail)
       go_at_call 34
       refine hcl'.out.mono ?_
       rintro e w' ⟨y1, v1, cc, rfl, hr⟩
       have hcc := hr.codeG
       subst hcc
       have ⟨y1', hr'⟩ := hyd2 y1 hr
       clear hr y1
       go_wp2
       exact hK _ _ (qAV y1'.out) ⟨_, rfl, hr'.out⟩ (hG'.out.keep rfl (fun h => absurd h (by decide)) (fun _ => hdp 5 (by decide)) y1'.out)
      ·intro Dn xv W hD hdp hR hf hG Q hK hP
       obtain ⟨e0, -⟩ := hf
       replace e0 : ∃ v', (xv 6) = .tuple #[v', .int .i64 (codeG P2)] ∧ IsResT W v' (codeG P2) P2 := e0
       obtain ⟨vv, qv, hv1⟩ := e0
       have hv2 := hv1
       obtain ⟨fs1, fA1, fn1, fc1, ft1, fB1, fm1, fd1, fs2, fA2, fn2, fc2, ft2, fB2, fm2, fd2, rfl⟩ := hv1.form
       clear hv1
       have hv2' := hyd1 hv2
       clear hv2
       simp only [fA, qv] at hK ⊢
       have qv9 := qv
       clear qv qv9
       have hG' := hyd1 hG
       clear hG
       go_wp2
       exact hK _ _ (qAV (Le.refl _)) ⟨_, rfl, hv2'.out⟩ (hG'.out.keep rfl (fun _ => hdp 6 (by decide)) (fun h => absurd h (by decide)) (Le.refl _))
      ·intro Dn xv W hD hdp hR hf hG Q hK hP
       obtain ⟨e0, -⟩ := hf
       replace e0 : ∃ v', (xv 7) = .tuple #[v', .int .i64 (codeG P2)] ∧ IsResT W v' (codeG P2) P2 := e0
       obtain ⟨vv, qv, hv1⟩ := e0
       have hv2 := hv1
       obtain ⟨fs1, fA1, fn1, fc1, ft1, fB1, fm1, fd1, fs2, fA2, fn2, fc2, ft2, fB2, fm2, fd2, rfl⟩ := hv1.form
       clear hv1
       have hv2' := hyd1 hv2
       clear hv2
       simp only [fA, qv] at hK ⊢
       have qv9 := qv
       clear qv qv9
       have hG' := hyd1 hG
       clear hG
       go_wp2
       exact hK _ _ (qAV (Le.refl _)) hv2'.out (hG'.out.take hD (hdp 7 (by decide)) rfl)
      ·intro Dn xv W hD hdp hR hf hG Q hK hP
       obtain ⟨e0, -⟩ := hf
       replace e0 : ∃ v', (xv 7) = .tuple #[v', .int .i64 (codeG P2)] ∧ IsResT W v' (codeG P2) P2 := e0
       obtain ⟨vv, qv, hv1⟩ := e0
       have hv2 := hv1
       obtain ⟨fs1, fA1, fn1, fc1, ft1, fB1, fm1, fd1, fs2, fA2, fn2, fc2, ft2, fB2, fm2, fd2, rfl⟩ := hv1.form
       clear hv1
       have hv2' := hyd1 hv2
       clear hv2
       simp only [fA, qv] at hK ⊢
       have qv9 := qv
       clear qv qv9
       have hG' := hyd1 hG
       clear hG
       go_wp2
       exact hK _ _ (qAV (Le.refl _)) rfl (hG'.out.keep rfl (fun h => absurd h (by decide)) (fun h => absurd h (by decide)) (Le.refl _))
      ·intro Dn xv W hD hdp hR hf hG Q hK hP
       obtain ⟨e0, -⟩ := hf
       have d0 := hdp 8 (by decide)
       replace e0 : IsResT W (xv 8) (codeG P2) P2 := e0
       have hxb := hG.ready hD
       obtain ⟨fs1, fA1, fn1, fc1, ft1, fB1, fm1, fd1, fs2, fA2, fn2, fc2, ft2, fB2, fm2, fd2, qv⟩ := IsResT.form e0
       have hput := hG.put (v := undef) d0 hD hkb5 qv rfl
       simp only [fA, qv] at hK ⊢
       obtain ⟨z0, z1, z2, z3, z4, z5, z6, z7⟩ := qAB hxb
       have ⟨y0, y1, y2, y3, y4, y5, y6, y7⟩ := frz8 hxb
       clear qv
       clear e0
       have ⟨hput', hG', hxb'⟩ := hyd3 hput hG hxb
       clear hxb hG hput
       go_wp2
       exact hK undef _ hput'.out.2 trivial hput'.out.1
     ·intro Dn xv V8 hD hR hf hG Q' hQ1 _
      have e2 : IsResT V8 (xv 8) (codeG P2) P2 := hf 8 (by decide)
      have e1 : xv 9 = .int .i64 (codeG P2) := hf 9 (by decide)
      obtain ⟨ys1, yA1, yn1, yc1, yt1, yB1, ym1, yd1, ys2, yA2, yn2, yc2, yt2, yB2, ym2, yd2, qv, kV8⟩ := hG.full (hD 10 (by decide))
      have hleV8 := hG.1
      rw [qv] at e2
      have frV8 := e2
      simp only [List.drop_succ_cons, List.drop_zero]
      rw [show List.range 11 = [0, 1, 2, 3, 4, 5, 6, 7, 8, 9, 10] from rfl]
      simp only [fA, qv, e1]
      clear qv e1 hf e2 hG hD hR
      have ⟨hleV8', kV8', frV8'⟩ := hyd3 hleV8 kV8 frV8
      clear frV8 kV8 hleV8
      go_wp2
      refine hQ1 _ _ ?_
      clear hQ1
      cases P2 with
      | error z =>
       have hM := hP2'.out
       have hz0 : z ≠ 0 := qDi hM
       have hcd2 : codeG (.error z) = z := rfl
       have hle08 : Le w V8 := hbw'.out.trans (hleV8'.out.mono hbw'.out.size)
       have q4 := bxl hleV8'.out k4r'.out
       obtain ⟨gf0, gf1, gf2, gf3, gf4, gf5, gf6, gf7⟩ := qAB q4
       have ⟨f0, f1, f2, f3, f4, f5, f6, f7⟩ := frz8 q4
       obtain ⟨W9, hW9, hle9⟩ := qBA (k := w.heap.size + 1) hle08 (show w.heap.size ≤ w.heap.size + 1 by omega)
       have q9 : W9.heap[w.heap.size + 1]? = some (.cells qAb 29) := by rw [← hW9]; exact qAI q4 _ _ _ _ _ _ _ _
       obtain ⟨d0, d1, d2, d3, d4, d5, d6, d7⟩ := qAB q9
       have hres : qAc u (0, 0) l = .error z := by rw [hpl'.out, hdrop'.out, qHG hP'.out hM]
       have ⟨q4', hle9', q9', hres', hM'⟩ := hyd5 q4 hle9 q9 hres hM
       clear hM hres q9 hle9 q4
       go_wp2
       exact bodyPost_ret (v := .tuple #[.agg qAb, .int .i64 z]) (by simp [results, Tryz.results26, go_sem, codeG, d0, d1, d2, d3, d4, d5, d6, d7]) rfl ⟨hle9'.out, _, _, rfl, by rw [hres'.out]; exact ⟨rfl, rfl⟩⟩
      | ok yg =>
       have hM := hP2'.out
       have hcd2 : codeG (.ok yg) = 0 := rfl
       have fy := frV8'.out
       have ks := bxl hleV8'.out kold'.out
       obtain ⟨h0, h1, h2, h3, h4, h5, h6, h7⟩ := qAB ks
       obtain ⟨g0, g1, g2, g3, g4, g5, g6, g7⟩ := qAB kV8'.out
       have hadd := qIl (qAS s) (qAS yg) _ _ V8 (hfold'.out.le hleV8'.out).isAV fy.isAV
       have ⟨hM', fy', ks', hadd'⟩ := hyd4 hM fy ks hadd
       clear hadd ks fy hM
       go_wp2_with (fail)
       go_at_call 63
       refine hadd'.out.mono ?_
       rintro e w5 ⟨hle5, v5, cc, rfl, hr5⟩
       clear h0 h1 h2 h3 h4 h5 h6 h7 g0 g1 g2 g3 g4 g5 g6 g7
       have hle05 : Le wr w5 := hleV8'.out.trans hle5
       have ks5 := bxl hle5 ks'.out
       obtain ⟨gk0, gk1, gk2, gk3, gk4, gk5, gk6, gk7⟩ := qAB ks5
       have ⟨k0, k1, k2, k3, k4, k5, k6, k7⟩ := frz8 ks5
       change IsResT w5 v5 cc (qFX (qAS s) (qAS yg)) at hr5
       cases hA : qFX (qAS s) (qAS yg) with
       | error z =>
        rw [hA] at hr5
        obtain ⟨rfl, rfl⟩ := hr5
        have hz0 := qDi hA
        have hB6w : w.heap.size + 2 ≤ B6 := by omega
        have ht := qAL w5 B6 (.bool false) (.slice none 0 0) (.bool false) (.slice none 0 0) (.bool false) (.slice none 0 0) (.bool false) (.slice none 0 0)
        obtain ⟨w6, hw6⟩ : ∃ w6, ((((((((w5.setCell ⟨B6, 0, none⟩ (.bool false)).setCell ⟨B6, 1, none⟩ (.slice none 0 0)).setCell ⟨B6, 2, none⟩ (.bool false)).setCell ⟨B6, 3, none⟩ (.slice none 0 0)).setCell ⟨B6, 4, none⟩ (.bool false)).setCell ⟨B6, 5, none⟩ (.slice none 0 0)).setCell ⟨B6, 6, none⟩ (.bool false)).setCell ⟨B6, 7, none⟩ (.slice none 0 0)) = w6 := ⟨_, rfl⟩
        have ht6 : Touch B6 w5 w6 := by rw [← hw6]; exact ht
        have hb6 : Le w w6 := by rw [← hw6]; exact qCb (hbw'.out.trans (hle05.mono hbw'.out.size)) (by omega) _ _ _ _ _ _ _ _
        have q4 := (ht6.2.1 _ (show w.heap.size + 1 ≠ B6 by omega)).trans (bxl hle05 k4r'.out)
        have ⟨hle5', hle05', ks5', ht', ht6'⟩ := hyd5 hle5 hle05 ks5 ht ht6
        clear ht6 ht ks5 hle05 hle5
        obtain ⟨gf0, gf1, gf2, gf3, gf4, gf5, gf6, gf7⟩ := qAB q4
        have ⟨f0, f1, f2, f3, f4, f5, f6, f7⟩ := frz8 q4
        obtain ⟨W9, hW9, hle9⟩ := qBA (k := w.heap.size + 1) hb6 (show w.heap.size ≤ w.heap.size + 1 by omega)
        have q9 : W9.heap[w.heap.size + 1]? = some (.cells qAb 29) := by rw [← hW9]; exact qAI q4 _ _ _ _ _ _ _ _
        obtain ⟨d0, d1, d2, d3, d4, d5, d6, d7⟩ := qAB q9
        have hres : qAc u (0, 0) l = .error cc := by rw [hpl'.out, hdrop'.out, qEY hP'.out hM'.out, hA]
        have ⟨q4', hle9', q9', hres', hA', hb6'⟩ := hyd6 q4 hle9 q9 hres hA hb6
        clear hb6 hA hres q9 hle9 q4
        go_wp2
        exact bodyPost_ret (v := .tuple #[.agg qAb, .int .i64 cc]) (by simp [results, Tryz.results26, go_sem, codeG, d0, d1, d2, d3, d4, d5, d6, d7]) rfl ⟨hle9'.out, _, _, rfl, by rw [hres'.out]; exact ⟨rfl, rfl⟩⟩
       | ok sg =>
        rw [hA] at hr5
        obtain ⟨hf5, rfl⟩ := hr5
        obtain ⟨zs1, zA1, zn1, zc1, zt1, zB1, zm1, zd1, zs2, zA2, zn2, zc2, zt2, zB2, zm2, zd2, rfl⟩ := id hf5.aform
        have hB6w : w.heap.size + 2 ≤ B6 := by omega
        have ht := qAL w5 B6 (.bool zs1) (.slice zA1 zn1 zc1) (.bool zt1) (.slice zB1 zm1 zd1) (.bool zs2) (.slice zA2 zn2 zc2) (.bool zt2) (.slice zB2 zm2 zd2)
        have hI2 : AtI w 29 #[.bool us1, .slice uA1 un1 uc1, .bool ut1, .slice uB1 um1 ud1, .bool us2, .slice uA2 un2 uc2, .bool ut2, .slice uB2 um2 ud2] B6 l u (j + 1) (set8 w5 B6 (.bool zs1) (.slice zA1 zn1 zc1) (.bool zt1) (.slice zB1 zm1 zd1) (.bool zs2) (.slice zA2 zn2 zc2) (.bool zt2) (.slice zB2 zm2 zd2)) :=
         ⟨qCb (hbw'.out.trans (hle05.mono hbw'.out.size)) (by omega) _ _ _ _ _ _ _ _, (ht.2.1 _ (by omega)).trans (bxl hle05 ku'.out), (ht.2.1 _ (by omega)).trans (bxl hle05 k4r'.out), sg,
          ⟨zs1, zA1, zn1, zc1, zt1, zB1, zm1, zd1, zs2, zA2, zn2, zc2, zt2, zB2, zm2, zd2, qAI ks5 _ _ _ _ _ _ _ _, hf5.touch (qA9 ks5) ht⟩, qKg hA, by rw [hpl'.out, hdrop'.out, qEY hP'.out hM'.out, hA]⟩
        have ⟨hle5', hle05', ks5', hf5', ht', hI2', hA'⟩ := hyd7 hle5 hle05 ks5 hf5 ht hI2 hA
        clear hA hI2 ht hf5 ks5 hle05 hle5
        go_wp2
        go_roundw
        case rel => exact ⟨j + 1, by omega, by go_num, hI2'⟩
        case measure => simp [intOf]; omega
  ·obtain rfl : j = l.length := by omega
   have hres : qAc u (0, 0) l = .ok s := hpl.trans qGc
   obtain ⟨h0, h1, h2, h3, h4, h5, h6, h7⟩ := qAB kold
   obtain ⟨gf0, gf1, gf2, gf3, gf4, gf5, gf6, gf7⟩ := qAB k4r
   have ⟨f0, f1, f2, f3, f4, f5, f6, f7⟩ := frz8 k4r
   obtain ⟨W9, hW9, hle9, q9, hf9⟩ := qDI (w := w) hbw (show w.heap.size ≤ w.heap.size + 1 by omega) k4r hfold
   obtain ⟨d0, d1, d2, d3, d4, d5, d6, d7⟩ := qAB q9
   have ⟨hI', hbw', ku', k4r', kold', hfold', hsz40', hpl'⟩ := hyd8 hI hbw ku k4r kold hfold hsz40 hpl
   have ⟨hres', hle9', q9', hf9'⟩ := hyd4 hres hle9 q9 hf9
   clear hf9 q9 hle9 hres hpl hsz40 hfold kold k4r ku hbw hI
   go_wp2
   exact bodyPost_ret (v := .tuple #[.agg #[.bool os1, .slice oA1 on1 oc1, .bool ot1, .slice oB1 om1 od1, .bool os2, .slice oA2 on2 oc2, .bool ot2, .slice oB2 om2 od2], .int .i64 0]) (by simp [results, Tryz.results26, go_sem, d0, d1, d2, d3, d4, d5, d6, d7]) rfl ⟨hle9'.out, _, _, rfl, by rw [hres'.out]; exact ⟨hf9'.out, rfl⟩⟩
end Go.Proofs.YtlhfonhbbpbmpaaGreat

