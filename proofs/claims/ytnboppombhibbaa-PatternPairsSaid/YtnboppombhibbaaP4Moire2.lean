/- Moire, with its errors, both; the law PatternPairs. -/
import Derived.Test.YtnboppombhibbaaP4Moire
import Derived.Test.YtnboppombhibbaaR4Moire
namespace Go.Proofs.Ytnboppombhibbaa
open Go.RowKit
set_option linter.unusedVariables false
set_option linter.unusedSimpArgs false
theorem moireE_cases (p q : Prog) (E : Int) (hE : moireE p q = E) :
    (progE p ≠ 0 ∧ progE p = E) ∨ (progE p = 0 ∧ progE q ≠ 0 ∧ progE q = E) ∨ (progE p = 0 ∧ progE q = 0 ∧ p.ros.length ≠ q.ros.length ∧ E = 2) ∨ (progE p = 0 ∧ progE q = 0 ∧ p.ros.length = q.ros.length ∧ E = 0) := by
  unfold moireE at hE
  split at hE
  · rename_i h; exact .inl ⟨h, hE⟩
  · rename_i h
    have h : progE p = 0 := by omega
    split at hE
    · rename_i h2; exact .inr (.inl ⟨h, h2, hE⟩)
    · rename_i h2
      have h2 : progE q = 0 := by omega
      split at hE
      · rename_i h3; exact .inr (.inr (.inl ⟨h, h2, h3, hE.symm⟩))
      · rename_i h3; exact .inr (.inr (.inr ⟨h, h2, by omega, hE.symm⟩))
set_option maxRecDepth 100000 in
set_option maxHeartbeats 2000000 in
theorem pf_pat_Moire (vp vq : Value) (p q : Prog) (w : World) (hvp : IsProg w vp p) (hvq : IsProg w vq q) (E : Int) (hE : moireE p q = E) :
    Calls Try.prog 27 #[vp, vq] w fun e w' => e = .returned (.tuple #[.int .i64 (onOkI E (togetherN p q)), .int .i64 (onOkI E (beatN p q)), .int .i64 E]) ∧ Below w.heap.size w w' := by
  rcases moireE_cases p q E hE with ⟨h1, h2⟩ | ⟨h1, h2, h3⟩ | ⟨h1, h2, h3, rfl⟩ | ⟨h1, h2, h3, rfl⟩
  rotate_left 3
  · rw [onOkI_zero, onOkI_zero]
    exact pf_pat_Moire_ok vp vq p q w hvp hvq h1 h2 h3
  all_goals
    clear hE
    have hp0 := Lib.hid hvp
    have hq0 := Lib.hid hvq
    obtain ⟨v0, v1, v5, rfl, h0, h1', h5⟩ := hvp
    obtain ⟨u0, u1, u5, rfl, k0, k1, k5⟩ := hvq
    clear h0 h1' h5 k0 k1 k5
    have ht := Twins.start w #[v0, v1, .int .i64 p.start, .int .i64 p.throw, .int .i64 p.adv, v5] #[u0, u1, .int .i64 q.start, .int .i64 q.throw, .int .i64 q.adv, u5]
  · rw [h2] at h1
    have hne : (E != 0) = true := by simpa using h1
    rw [onOkI_ne h1, onOkI_ne h1]
    have h1' := Lib.hid h1
    have h2' := Lib.hid h2
    clear h2 h1
    go_enter Try.func27, Try.ntmps27
    go_wp2_with (first | (go_at_call 51; ((with_reducible refine (pf_mounted _ p _ (hp0.out.below ht.below) E h2'.out).mono ?_); rintro e w' ⟨vb, rfl, hb1, hn1, -⟩; have hn2 := hn1 h1'.out; subst hn2; clear hn1)))
    go_ret3
    exact ⟨rfl, (ht.next hb1).below⟩
  · rw [h3] at h2
    have hne : (E != 0) = true := by simpa using h2
    rw [onOkI_ne h2, onOkI_ne h2]
    have h1' := Lib.hid h1
    have h2' := Lib.hid h2
    have h3' := Lib.hid h3
    clear h3 h2 h1
    go_enter Try.func27, Try.ntmps27
    go_wp2_with (first | (go_at_call 51; ((with_reducible refine (pf_mounted _ p _ (hp0.out.below ht.below) 0 h1'.out).mono ?_); rintro e w' ⟨vb, rfl, hb1, -, hok⟩; obtain ⟨b, rfl, -, hbench⟩ := hok rfl; have ht2 := ht.next hb1; obtain ⟨r0, r1, r2, r3, r4, r5⟩ := prog_cells ht2.out; clear hb1 hok hbench ht)) | (go_at_call 51; ((with_reducible refine (pf_mounted _ q _ (hq0.out.below ht2.below) E h3'.out).mono ?_); rintro e w' ⟨vb, rfl, hb1, hn1, -⟩; have hn2 := hn1 h2'.out; subst hn2; clear hn1)))
    go_ret3
    exact ⟨rfl, ((ht2.next hb1).next (alc1 _ _)).below⟩
  · rw [onOkI_ne (by decide), onOkI_ne (by decide)]
    have h4 : (p.ros.length : Int) ≠ (q.ros.length : Int) := fun e => h3 (Int.ofNat.inj e)
    have hlz : ((p.ros.length : Int) != (q.ros.length : Int)) = true := bne_iff_ne.2 h4
    have h4' := Lib.hid h4
    clear h4
    have hp := benchFacts h1
    have hq := benchFacts h2
    have hpr := hp.ros1
    have hqr := hq.ros1
    have h1' := Lib.hid h1
    have h2' := Lib.hid h2
    have h3' := Lib.hid h3
    clear h3 h2 h1
    go_enter Try.func27, Try.ntmps27
    go_wp2_with (first | (go_at_call 51; ((with_reducible refine (pf_mounted _ p _ (hp0.out.below ht.below) 0 h1'.out).mono ?_); rintro e w' ⟨vb, rfl, hb1, -, hok⟩; obtain ⟨b, rfl, -, hbench⟩ := hok rfl; have hB1 := Lib.hid hbench; have ht2 := ht.next hb1; obtain ⟨r0, r1, r2, r3, r4, r5⟩ := prog_cells ht2.out; clear hb1 hok hbench ht)) | (go_at_call 51; ((with_reducible refine (pf_mounted _ q _ (hq0.out.below ht2.below) 0 h2'.out).mono ?_); rintro e w' ⟨vc, rfl, hb2, -, hok2⟩; obtain ⟨c, rfl, -, hbench2⟩ := hok2 rfl; have hB2 := Lib.hid hbench2; have hB1' := Lib.hid (hB1.out.below hb2); have hbel := Lib.hid (ht2.next hb2).below; clear hb2 hok2 hbench2 hB1 ht2 r0 r1 r2 r3 r4 r5)))
    have hT : Two w b c p q w'.heap.size (w'.alloc (.cells #[.pointer (some ⟨c, 0, none⟩)] 84)) := ⟨hbel.out.alloc hbel.out.size _, hB1'.out.below (alc1 _ _), hB2.out.below (alc1 _ _), alc_at _ _⟩
    generalize w'.alloc (.cells #[.pointer (some ⟨c, 0, none⟩)] 84) = W2 at hT ⊢
    generalize w'.heap.size = T at hT ⊢
    clear hB1' hB2 hbel
    obtain ⟨_, _, -, -, -, -, -, -, -, c7, -, -⟩ := hT.one.cells
    obtain ⟨_, _, -, -, -, -, -, -, -, d7, -, -⟩ := hT.two.cells
    have hTc := cell0 hT.box
    go_quiet (fail)
    have hbel := below_drewN' hT.below nq
    generalize W2.drewN nq = W3 at hbel ⊢
    clear c7 d7 hTc hT
    go_wp2
    go_ret3
    exact ⟨rfl, hbel⟩
set_option maxRecDepth 100000 in
set_option maxHeartbeats 2000000 in
theorem pf_r4_Moire (vp vq : Value) (p q : Prog) (w : World) (hvp : IsProg w vp p) (hvq : IsProg w vq q) (E : Int) (hE : moireE p q = E) :
    Calls Try.prog 28 #[vp, vq] w fun e w' => e = .returned (.tuple #[.int .i64 (onOkI E (togetherN p q)), .int .i64 (onOkI E (beatN p q)), .int .i64 E]) ∧ Below w.heap.size w w' := by
  rcases moireE_cases p q E hE with ⟨h1, h2⟩ | ⟨h1, h2, h3⟩ | ⟨h1, h2, h3, rfl⟩ | ⟨h1, h2, h3, rfl⟩
  rotate_left 3
  · rw [onOkI_zero, onOkI_zero]
    exact pf_r4_Moire_ok vp vq p q w hvp hvq h1 h2 h3
  all_goals
    clear hE
    have hp0 := Lib.hid hvp
    have hq0 := Lib.hid hvq
    obtain ⟨v0, v1, v5, rfl, h0, h1', h5⟩ := hvp
    obtain ⟨u0, u1, u5, rfl, k0, k1, k5⟩ := hvq
    obtain ⟨A0, c0, rfl, _, _, _, _⟩ := h0
    obtain ⟨D0, d0, rfl, _, _, _, _⟩ := k0
    clear h1' h5 k1 k5
    have ht := Twins.start w #[.slice A0 p.ros.length c0, v1, .int .i64 p.start, .int .i64 p.throw, .int .i64 p.adv, v5] #[.slice D0 q.ros.length d0, u1, .int .i64 q.start, .int .i64 q.throw, .int .i64 q.adv, u5]
  · rw [h2] at h1
    have hne : (E != 0) = true := by simpa using h1
    rw [onOkI_ne h1, onOkI_ne h1]
    have h1' := Lib.hid h1
    have h2' := Lib.hid h2
    clear h2 h1
    go_enter Try.func28, Try.ntmps28
    go_wp2_with (first | (go_at_call 23; ((with_reducible refine (pf_r4_Check _ p _ (hp0.out.below ht.below) E h2'.out).mono ?_); rintro e w' ⟨rfl, hb1⟩)))
    go_ret3
    exact ⟨rfl, (ht.next' hb1).below⟩
  · rw [h3] at h2
    have hne : (E != 0) = true := by simpa using h2
    rw [onOkI_ne h2, onOkI_ne h2]
    have h1' := Lib.hid h1
    have h2' := Lib.hid h2
    have h3' := Lib.hid h3
    clear h3 h2 h1
    go_enter Try.func28, Try.ntmps28
    go_wp2_with (first | (go_at_call 23; ((with_reducible refine (pf_r4_Check _ p _ (hp0.out.below ht.below) 0 h1'.out).mono ?_); rintro e w' ⟨rfl, hb1⟩; have ht2 := ht.next' hb1; obtain ⟨r0, r1, r2, r3, r4, r5⟩ := prog_cells ht2.out; clear hb1 ht)) | (go_at_call 23; ((with_reducible refine (pf_r4_Check _ q _ (hq0.out.below ht2.below) E h3'.out).mono ?_); rintro e w' ⟨rfl, hb2⟩)))
    go_ret3
    exact ⟨rfl, (ht2.next' hb2).below⟩
  · rw [onOkI_ne (by decide), onOkI_ne (by decide)]
    have h4 : (p.ros.length : Int) ≠ (q.ros.length : Int) := fun e => h3 (Int.ofNat.inj e)
    have hlz : ((p.ros.length : Int) != (q.ros.length : Int)) = true := bne_iff_ne.2 h4
    have h4' := Lib.hid h4
    clear h4
    have h1' := Lib.hid h1
    have h2' := Lib.hid h2
    have h3' := Lib.hid h3
    clear h3 h2 h1
    go_enter Try.func28, Try.ntmps28
    go_wp2_with (first | (go_at_call 23; ((with_reducible refine (pf_r4_Check _ p _ (hp0.out.below ht.below) 0 h1'.out).mono ?_); rintro e w' ⟨rfl, hb1⟩; have ht2 := ht.next' hb1; obtain ⟨r0, r1, r2, r3, r4, r5⟩ := prog_cells ht2.out; clear hb1 ht)) | (go_at_call 23; ((with_reducible refine (pf_r4_Check _ q _ (hq0.out.below ht2.below) 0 h2'.out).mono ?_); rintro e w' ⟨rfl, hb2⟩; have ht3 := ht2.next' hb2; obtain ⟨r0, r1, r2, r3, r4, r5⟩ := prog_cells ht3.out; obtain ⟨p0, p1, p2, p3, p4, p5⟩ := prog_cells ht3.box; clear hb2 ht2)))
    go_ret3
    exact ⟨rfl, ht3.below⟩
end Go.Proofs.Ytnboppombhibbaa
