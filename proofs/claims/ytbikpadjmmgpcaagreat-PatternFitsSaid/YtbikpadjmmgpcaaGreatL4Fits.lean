/- The law PatternFits: its walk. -/
import Derived.Test.YtbikpadjmmgpcaaGreatP4Fit
import Derived.Test.YtbikpadjmmgpcaaGreatIdxR
import Derived.Test.YtbikpadjmmgpcaaGreatPathR
import Derived.Test.YtbikpadjmmgpcaaGreatBoxKit
namespace Go.Proofs.YtbikpadjmmgpcaaGreat
open Go.RowKit Go.Shelf
set_option linter.unusedVariables false
set_option linter.unusedSimpArgs false
theorem pf_pat_Index (ps : List Int) (num den : Int) (v : Value) (w : World) (hv : Ints w v ps) : Calls Tryz.prog 7 #[v, .int .i64 num, .int .i64 den] w (IdxPost ps num den w) := by
  by_cases h : idxE ps num den = 0
  · exact pf_pat_Index_ok ps num den v w hv h
  · exact pf_pat_Index_bad ps num den v w hv h
theorem fitL_len (l : List Int) (n : Int) : (fitL l n).length ≤ 1000000 := by
  unfold fitL
  split
  · simp
  · rename_i h
    split
    · split
      · rw [List.length_take, fitD_length]; omega
      · simp
    · simp
set_option maxRecDepth 100000 in
set_option maxHeartbeats 4000000 in
theorem law_PatternFits (a0 : List Int) (x0 : Value) (a1 : Int) (a2 : List Int) (x2 : Value) (a3 a4 : Int) (a5 : List ArmA) (x5 : Value) (a6 : Int) (w : World) (h0 : Ints w x0 a0 ∧ ∀ n ∈ a0, (Lit.int .i64 n).wf = true) (h1 : (Lit.int .i64 a1).wf = true) (h2 : Ints w x2 a2 ∧ ∀ n ∈ a2, (Lit.int .i64 n).wf = true) (h3 : (Lit.int .i64 a3).wf = true) (h4 : (Lit.int .i64 a4).wf = true) (h5 : ArmsL w x5 a5) (h6 : (Lit.int .i64 a6).wf = true) :
    Calls Tryz.prog 3 #[x0, .int .i64 a1, x2, .int .i64 a3, .int .i64 a4, x5, .int .i64 a6] w fun e w' => e = .returned (.bool true) ∧ Below w.heap.size w w' := by
  obtain ⟨h0, -⟩ := h0
  obtain ⟨h2, -⟩ := h2
  clear h1 h3 h4 h6
  have k0 := h0
  have k2 := h2
  obtain ⟨A0, c0, rfl, l0, m0, -, -⟩ := k0
  obtain ⟨A2, c2, rfl, l2, m2, -, -⟩ := k2
  obtain ⟨A5, c5, rfl, l5, m5, -⟩ := id h5
  unfold maxLen at m0 m2 m5
  by_cases b0 : 210 < a0.length
  · have b1 : (210 : Int) < (a0.length : Int) := by omega
    have h0' := Lib.hid h0
    have h2' := Lib.hid h2
    have h5' := Lib.hid h5
    clear h5 h2 h0
    go_enter Tryz.func3, Tryz.ntmps3
    go_wp2
    go_ret
    exact ⟨rfl, Below.refl _ _⟩
  · have b1 : ¬ (210 : Int) < (a0.length : Int) := by omega
    by_cases b2 : 20 < a2.length
    · have b3 : (20 : Int) < (a2.length : Int) := by omega
      have h0' := Lib.hid h0
      have h2' := Lib.hid h2
      have h5' := Lib.hid h5
      clear h5 h2 h0
      go_enter Tryz.func3, Tryz.ntmps3
      go_wp2
      go_ret
      exact ⟨rfl, Below.refl _ _⟩
    · have b3 : ¬ (20 : Int) < (a2.length : Int) := by omega
      have hg : Calls Tryz.prog 4 #[.slice A5 a5.length c5, .int .i64 25, .int .i64 3, .int .i64 64] w fun e w' => e = .returned (.bool (pathGreat a5 25 3 64)) ∧ Le w w' := pf_n_GreatP a5 25 3 64 _ w h5 (by omega) (by omega) (by omega)
      obtain ⟨G, hG⟩ : ∃ G, pathGreat a5 25 3 64 = G := ⟨_, rfl⟩
      rw [hG] at hg
      cases G with
      | true =>
        have h0' := Lib.hid h0
        have h2' := Lib.hid h2
        have h5' := Lib.hid h5
        have hg' := Lib.hid hg
        have hG' := Lib.hid hG
        clear hG hg h5 h2 h0
        go_enter Tryz.func3, Tryz.ntmps3
        go_wp2_with (first | (go_at_call 4; ((with_reducible refine (hg'.out).mono ?_); rintro e w' ⟨rfl, hle1⟩)))
        go_ret
        exact ⟨rfl, hle1⟩
      | false =>
        have h0' := Lib.hid h0
        have h2' := Lib.hid h2
        have h5' := Lib.hid h5
        have hg' := Lib.hid hg
        have hG' := Lib.hid hG
        clear hG hg h5 h2 h0
        go_enter Tryz.func3, Tryz.ntmps3
        go_wp2_with (fail)
        go_at_call 4
        refine hg'.out.mono ?_
        rintro e W1 ⟨rfl, hle1⟩
        have p0 := h0'.out.below hle1
        have p2 := h2'.out.below hle1
        have p5 := h5'.out.le hle1
        have hle1' := Lib.hid hle1
        have p0' := Lib.hid p0
        have p2' := Lib.hid p2
        have p5' := Lib.hid p5
        clear p5 p2 p0 hle1
        go_wp2_with (first | (at_builtin; go_must (refine wpList_appI rfl _ _ 22 rfl W1.heap.size 3 elemInt _ [] rfl (own_empty _ _ _ (Nat.le_refl _)) _ a0 rfl (p0'.out.below (alc1 _ _)) (by simp; omega) (by simp) ?_)))
        intro va Wa ho1 hb1 hg1 _
        have hba : Below W1.heap.size W1 Wa := (alc1 _ _).trans hb1
        have p2a := p2'.out.below hba
        have hsa := hba.size
        have ho1' := Lib.hid ho1
        have hb1' := Lib.hid hb1
        have hg1' := Lib.hid hg1
        have hba' := Lib.hid hba
        have p2a' := Lib.hid p2a
        clear p2a hba hg1 hb1 ho1
        go_wp2_with (first | (at_builtin; go_must (refine wpList_appI rfl _ _ 22 rfl Wa.heap.size 3 elemInt _ [] rfl (own_empty _ _ _ (Nat.le_refl _)) _ a2 rfl (p2a'.out.below (alc1 _ _)) (by simp; omega) (by simp) ?_)))
        intro vb Wb ho2 hb2 hg2 _
        have hbb : Below Wa.heap.size Wa Wb := (alc1 _ _).trans hb2
        have hown := own_below ho1'.out hbb
        have hle1b : Le W1 Wb := hba'.out.trans (hbb.mono hsa)
        have hlewb : Le w Wb := hle1'.out.trans hle1b
        have i0 := own_ints hown
        have i2 := own_ints ho2
        obtain ⟨Aa, ca, rfl, -⟩ := id i0
        obtain ⟨Ab, cb, rfl, -⟩ := id i2
        have q0 := h0'.out.below hlewb
        have q2 := h2'.out.below hlewb
        have q5 := h5'.out.le hlewb
        have hfit := pf_pat_Fit _ a0 a1 Wb i0
        clear ho1' hb1' hg1' hba' p2a' hb2 hg2 hbb
        obtain ⟨fe, hfe⟩ : ∃ E, fitE a0 a1 = E := ⟨_, rfl⟩
        rw [hfe] at hfit
        have hown' := Lib.hid hown
        have ho2' := Lib.hid ho2
        have hle1b' := Lib.hid hle1b
        have hlewb' := Lib.hid hlewb
        have i0' := Lib.hid i0
        have i2' := Lib.hid i2
        have q0' := Lib.hid q0
        have q2' := Lib.hid q2
        have q5' := Lib.hid q5
        have hfit' := Lib.hid hfit
        have hfe' := Lib.hid hfe
        clear hfe hfit q5 q2 q0 i2 i0 hlewb hle1b ho2 hown
        go_wp2_with (fail)
        go_at_call 5
        refine hfit'.out.mono ?_
        rintro e W2 ⟨vf, rfl, hb2, hof⟩
        obtain ⟨Af, cf, rfl, -⟩ := id (own_ints hof)
        have hfit2 := pf_n_Fit _ a0 a1 W2 (q0'.out.below hb2)
        unfold FitPost at hfit2
        rw [hfe'.out] at hfit2
        have hb2' := Lib.hid hb2
        have hof' := Lib.hid hof
        have hfit2' := Lib.hid hfit2
        clear hfit2 hof hb2
        go_wp2_with (fail)
        go_at_call 6
        refine hfit2'.out.mono ?_
        rintro e W3 ⟨vg, rfl, hb3, hog⟩
        obtain ⟨Ag, cg, rfl, -⟩ := id hog
        have hle3 : Le Wb W3 := hb2'.out.trans (Below.mono hb3 hb2'.out.size)
        have hidx := pf_pat_Index a2 a3 a4 _ W3 (i2'.out.below hle3)
        unfold IdxPost at hidx
        obtain ⟨v1, hv1⟩ : ∃ v, (idxV a2 a3 a4).1 = v := ⟨_, rfl⟩
        obtain ⟨v2, hv2⟩ : ∃ v, (idxV a2 a3 a4).2.1 = v := ⟨_, rfl⟩
        obtain ⟨v3, hv3⟩ : ∃ v, (idxV a2 a3 a4).2.2 = v := ⟨_, rfl⟩
        obtain ⟨v4, hv4⟩ : ∃ v, idxE a2 a3 a4 = v := ⟨_, rfl⟩
        rw [hv1, hv2, hv3, hv4] at hidx
        have hb3' := Lib.hid hb3
        have hog' := Lib.hid hog
        have hle3' := Lib.hid hle3
        have hidx' := Lib.hid hidx
        have hv1' := Lib.hid hv1
        have hv2' := Lib.hid hv2
        have hv3' := Lib.hid hv3
        have hv4' := Lib.hid hv4
        clear hv4 hv3 hv2 hv1 hidx hle3 hog hb3
        go_wp2_with (fail)
        go_at_call 7
        refine hidx'.out.mono ?_
        rintro e W4 ⟨hb4, vx, rfl, hrx⟩
        have hrx0 := hrx
        obtain ⟨r1, r2, r3, r4, r5, r6, r7, r8, rfl⟩ := hrx.form
        obtain ⟨W5, hW5, hle5, k5⟩ : ∃ W5, W4.alloc (.cells #[.bool r1, .slice r2 r3 r4, .bool r5, .slice r6 r7 r8] 34) = W5 ∧ Le W4 W5 ∧ W5.heap[W4.heap.size]? = some (.cells #[.bool r1, .slice r2 r3 r4, .bool r5, .slice r6 r7 r8] 34) := ⟨_, rfl, le_alloc _ _, alc_at _ _⟩
        have hle35 : Le W3 W5 := Le.trans hb4 hle5
        have hleb5 : Le Wb W5 := hle3'.out.trans hle35
        have hidx2 := pf_n_Index a2 a3 a4 _ W5 (q2'.out.below hleb5)
        unfold IdxPost at hidx2
        rw [hv1'.out, hv2'.out, hv3'.out, hv4'.out] at hidx2
        have hX5 := hrx0.isA.le hle5
        have hb4' := Lib.hid hb4
        have hrx' := Lib.hid hrx
        have hrx0' := Lib.hid hrx0
        have hle5' := Lib.hid hle5
        have k5' := Lib.hid k5
        have hle35' := Lib.hid hle35
        have hleb5' := Lib.hid hleb5
        have hidx2' := Lib.hid hidx2
        have hX5' := Lib.hid hX5
        clear hX5 hidx2 hleb5 hle35 k5 hle5 hrx0 hrx hb4
        go_wp2_with (fail)
        clear hW5
        go_at_call 8
        refine hidx2'.out.mono ?_
        rintro e W6 ⟨hb6, vy, rfl, hry⟩
        have hry0 := hry
        obtain ⟨s1, s2, s3, s4, s5, s6, s7, s8, rfl⟩ := hry.form
        obtain ⟨W7, hW7, hle7, k7⟩ : ∃ W7, W6.alloc (.cells #[.bool s1, .slice s2 s3 s4, .bool s5, .slice s6 s7 s8] 34) = W7 ∧ Le W6 W7 ∧ W7.heap[W6.heap.size]? = some (.cells #[.bool s1, .slice s2 s3 s4, .bool s5, .slice s6 s7 s8] 34) := ⟨_, rfl, le_alloc _ _, alc_at _ _⟩
        have hle57 : Le W5 W7 := Le.trans hb6 hle7
        have hleb7 : Le Wb W7 := hleb5'.out.trans hle57
        have hX7 := hX5'.out.le hle57
        have hY7 := hry0.isA.le hle7
        have kX := box_later hle57 k5'.out
        have har := pf_pat_Around a5 _ a6 W7 (q5'.out.le hleb7)
        obtain ⟨u1, hu1⟩ : ∃ v, (aroundV a5 a6).1 = v := ⟨_, rfl⟩
        obtain ⟨u2, hu2⟩ : ∃ v, (aroundV a5 a6).2 = v := ⟨_, rfl⟩
        rw [hu1, hu2] at har
        have hb6' := Lib.hid hb6
        have hry' := Lib.hid hry
        have hry0' := Lib.hid hry0
        have hle7' := Lib.hid hle7
        have k7' := Lib.hid k7
        have hle57' := Lib.hid hle57
        have hleb7' := Lib.hid hleb7
        have hX7' := Lib.hid hX7
        have hY7' := Lib.hid hY7
        have kX' := Lib.hid kX
        have har' := Lib.hid har
        have hu1' := Lib.hid hu1
        have hu2' := Lib.hid hu2
        clear hu2 hu1 har kX hY7 hX7 hleb7 hle57 k7 hle7 hry0 hry hb6
        go_wp2_with (fail)
        clear hW7
        go_at_call 9
        refine har'.out.mono ?_
        rintro e W8 ⟨rfl, hle8⟩
        have har2 := pf_n_AroundP a5 _ a6 W8 (q5'.out.le (hleb7'.out.trans hle8))
        rw [hu1'.out, hu2'.out] at har2
        have hle8' := Lib.hid hle8
        have har2' := Lib.hid har2
        clear har2 hle8
        go_wp2_with (fail)
        go_at_call 10
        refine har2'.out.mono ?_
        rintro e W9 ⟨rfl, hle9⟩
        have hle79 := hle8'.out.trans hle9
        have hleb9 := hleb7'.out.trans hle79
        have hle29 : Le W2 W9 := (show Le W2 W3 from hb3'.out).trans (hle35'.out.trans (hle57'.out.trans hle79))
        have hle39 : Le W3 W9 := hle35'.out.trans (hle57'.out.trans hle79)
        have hof9 := own_below hof'.out hle29
        have hog9 := hog'.out.below hle39
        have kX9 := box_later hle79 kX'.out
        have kY9 := box_later hle79 k7'.out
        have hX9 := hX7'.out.le hle79
        have hY9 := hY7'.out.le hle79
        have hsame := same_true (own_ints hof9) hog9
        obtain ⟨a', b', c', d'⟩ := cells4 kX9
        obtain ⟨e', f', g', i'⟩ := cells4 kY9
        have hle9' := Lib.hid hle9
        have hle79' := Lib.hid hle79
        have hleb9' := Lib.hid hleb9
        have hle29' := Lib.hid hle29
        have hle39' := Lib.hid hle39
        have hof9' := Lib.hid hof9
        have hog9' := Lib.hid hog9
        have kX9' := Lib.hid kX9
        have kY9' := Lib.hid kY9
        have hX9' := Lib.hid hX9
        have hY9' := Lib.hid hY9
        have hsame' := Lib.hid hsame
        clear hsame hY9 hX9 kY9 kX9 hog9 hof9 hle39 hle29 hleb9 hle79 hle9
        go_wp2_with (fail)
        go_at_call 11
        refine hsame'.out.mono ?_
        rintro e WA ⟨rfl, nA, hA⟩
        have hle9A : Le W9 WA := by rw [hA]; exact Below.of_drewN W9 nA
        have kXA := box_later hle9A kX9'.out
        have kYA := box_later hle9A kY9'.out
        clear a' b' c' d' e' f' g' i'
        obtain ⟨a', b', c', d'⟩ := cells4 kXA
        obtain ⟨e', f', g', i'⟩ := cells4 kYA
        have hsf := pf_n_SameFrac _ _ (resA v3) (resA v3) _ _ WA (hX9'.out.le hle9A) (hY9'.out.le hle9A)
        rw [sameF_self] at hsf
        have hA' := Lib.hid hA
        have hle9A' := Lib.hid hle9A
        have kXA' := Lib.hid kXA
        have kYA' := Lib.hid kYA
        have hsf' := Lib.hid hsf
        clear hsf kYA kXA hle9A hA
        go_wp2_with (fail)
        go_at_call 12
        refine hsf'.out.mono ?_
        rintro e WB ⟨rfl, hleB⟩
        have hle9B : Le W9 WB := hle9A'.out.trans hleB
        have hofB := own_below hof9'.out hle9B
        have her := pf_l4_erase _ _ WB _ hofB (fitL_len a0 a1)
        have hlebB := hleb9'.out.trans hle9B
        clear a' b' c' d' e' f' g' i'
        have hleB' := Lib.hid hleB
        have hle9B' := Lib.hid hle9B
        have hofB' := Lib.hid hofB
        have her' := Lib.hid her
        have hlebB' := Lib.hid hlebB
        clear hlebB her hofB hle9B hleB
        go_wp2_with (fail)
        go_at_call 13
        refine her'.out.mono ?_
        rintro e WC ⟨rfl, hbC, hgC⟩
        have hlebC : Le Wb WC := Below.trans hlebB'.out hbC
        have i0C := own_ints (own_below hown'.out hlebC)
        have i2C := own_ints (own_below ho2'.out hlebC)
        have q0C := q0'.out.below hlebC
        have q2C := q2'.out.below hlebC
        have hs1 := same_true i0C q0C
        have hlewC : Le w WC := hlewb'.out.trans hlebC
        have hbC' := Lib.hid hbC
        have hgC' := Lib.hid hgC
        have hlebC' := Lib.hid hlebC
        have i0C' := Lib.hid i0C
        have i2C' := Lib.hid i2C
        have q0C' := Lib.hid q0C
        have q2C' := Lib.hid q2C
        have hs1' := Lib.hid hs1
        have hlewC' := Lib.hid hlewC
        clear hlewC hs1 q2C q0C i2C i0C hlebC hgC hbC
        go_wp2_with (fail)
        go_at_call 11
        refine hs1'.out.mono ?_
        rintro e WD ⟨rfl, nD, hD⟩
        have hleCD : Le WC WD := by rw [hD]; exact Below.of_drewN WC nD
        have hs2 := same_true (i2C'.out.below hleCD) (q2C'.out.below hleCD)
        have hD' := Lib.hid hD
        have hleCD' := Lib.hid hleCD
        have hs2' := Lib.hid hs2
        clear hs2 hleCD hD
        go_wp2_with (fail)
        go_at_call 11
        refine hs2'.out.mono ?_
        rintro e WE ⟨rfl, nE, hE⟩
        have hleE : Le w WE := by rw [hE]; exact (hlewC'.out.trans hleCD'.out).trans (Below.of_drewN WD nE)
        have hE' := Lib.hid hE
        have hleE' := Lib.hid hleE
        clear hleE hE
        go_wp2
        go_ret
        exact ⟨rfl, hleE'.out⟩
end Go.Proofs.YtbikpadjmmgpcaaGreat
