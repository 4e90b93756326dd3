/- The law PatternMoire: its walk. -/
import Derived.Test.YtnboppombhibbaaAlive
import Derived.Test.YtnboppombhibbaaMoireSym
import Derived.Test.YtnboppombhibbaaP4Moire
import Derived.Test.YtnboppombhibbaaL4Cuts
namespace Go.Proofs.Ytnboppombhibbaa
open Go.RowKit
set_option linter.unusedVariables false
set_option linter.unusedSimpArgs false
set_option maxRecDepth 100000 in
set_option maxHeartbeats 4000000 in
theorem walk_PatternMoire (p q : Prog) (vp vq : Value) (w : World) (hvp : IsProg w vp p) (hvq : IsProg w vq q) :
    Calls Try.prog 11 #[vp, vq] w fun e w' => e = .returned (.bool true) ∧ Below w.heap.size w w' := by
  have hp0 := Lib.hid hvp
  have hq0 := Lib.hid hvq
  obtain ⟨A0, c0, A1, c1, A5, c5, rfl⟩ := hvp.open
  obtain ⟨B0, d0, B1, d1, B5, d5, rfl⟩ := hvq.open
  clear hvp hvq
  obtain ⟨G1, hG1⟩ : ∃ G, greatB p = G := ⟨_, rfl⟩
  obtain ⟨G2, hG2⟩ : ∃ G, greatB q = G := ⟨_, rfl⟩
  obtain ⟨E, hE⟩ : ∃ F, moireE p q = F := ⟨_, rfl⟩
  have ht := Twins.start w #[.slice A0 p.ros.length c0, .slice A1 p.rub.length c1, .int .i64 p.start, .int .i64 p.throw, .int .i64 p.adv, .slice A5 p.shifts.length c5] #[.slice B0 q.ros.length d0, .slice B1 q.rub.length d1, .int .i64 q.start, .int .i64 q.throw, .int .i64 q.adv, .slice B5 q.shifts.length d5]
  cases G1 with
  | true =>
    have hG1' := Lib.hid hG1
    have hG2' := Lib.hid hG2
    have hE' := Lib.hid hE
    clear hE hG2 hG1
    go_enter Try.func11, Try.ntmps11
    go_wp2_with (first | (go_at_call 37; ((with_reducible refine (pf_alive _).mono ?_); rintro e w' ⟨rfl, hb⟩; have ht2 := ht.next hb; obtain ⟨r0, r1, r2, r3, r4, r5⟩ := prog_cells ht2.out; obtain ⟨p0, p1, p2, p3, p4, p5⟩ := prog_cells ht2.box; clear hb ht)) | (go_at_call 14; ((with_reducible refine (pf_r4_Great _ p _ (hp0.out.below ht2.below)).mono ?_); rintro e w' ⟨rfl, hb⟩; rw [hG1'.out])))
    go_ret
    exact ⟨rfl, (ht2.next hb).below⟩
  | false =>
    cases G2 with
    | true =>
      have hG1' := Lib.hid hG1
      have hG2' := Lib.hid hG2
      have hE' := Lib.hid hE
      clear hE hG2 hG1
      go_enter Try.func11, Try.ntmps11
      go_wp2_with (first | (go_at_call 37; ((with_reducible refine (pf_alive _).mono ?_); rintro e w' ⟨rfl, hb⟩; have ht2 := ht.next hb; obtain ⟨r0, r1, r2, r3, r4, r5⟩ := prog_cells ht2.out; obtain ⟨p0, p1, p2, p3, p4, p5⟩ := prog_cells ht2.box; clear hb ht)) | (go_at_call 14; ((with_reducible refine (pf_r4_Great _ p _ (hp0.out.below ht2.below)).mono ?_); rintro e w' ⟨rfl, hb⟩; rw [hG1'.out]; have ht3 := ht2.next hb; clear hb ht2 r0 r1 r2 r3 r4 r5 p0 p1 p2 p3 p4 p5; obtain ⟨r0, r1, r2, r3, r4, r5⟩ := prog_cells ht3.out; obtain ⟨p0, p1, p2, p3, p4, p5⟩ := prog_cells ht3.box)) | (go_at_call 14; ((with_reducible refine (pf_r4_Great _ q _ (hq0.out.below ht3.below)).mono ?_); rintro e w' ⟨rfl, hb⟩; rw [hG2'.out])))
      go_ret
      exact ⟨rfl, (ht3.next hb).below⟩
    | false =>
      have hgcalls : ∀ (a b : Nat) (W : World), a ≤ 1000000 → b ≤ 1000000 → Calls Try.prog 46 #[.int .i64 a, .int .i64 b] W fun e w' => e = .returned (.int .i64 (Nat.gcd a b)) ∧ W = w' := fun a b W h1 h2 => pf_r2_Gcd a b W h1 h2
      by_cases hE0 : E = 0
      · subst hE0
        have hEE : progE p = 0 ∧ progE q = 0 ∧ p.ros.length = q.ros.length := by
          unfold moireE at hE
          by_cases h1 : progE p = 0
          · by_cases h2 : progE q = 0
            · by_cases h3 : p.ros.length = q.ros.length
              · exact ⟨h1, h2, h3⟩
              · simp [h1, h2, h3] at hE
            · simp [h1, h2] at hE
          · simp [h1] at hE
        obtain ⟨hEp, hEq, hlen⟩ := hEE
        have hp := benchFacts hEp
        have hq := benchFacts hEq
        have hEr : moireE q p = 0 := by unfold moireE; rw [if_neg (by simp [hEq]), if_neg (by simp [hEp]), if_neg (by simp [hlen])]
        have hEs : moireE p p = 0 := by unfold moireE; rw [if_neg (by simp [hEp]), if_neg (by simp [hEp]), if_neg (by simp)]
        have m1 : ∀ W V U, IsProg W V p → IsProg W U q → Calls Try.prog 27 #[V, U] W fun e w' => e = .returned (.tuple #[.int .i64 (togetherN p q), .int .i64 (beatN p q), .int .i64 0]) ∧ Below W.heap.size W w' := fun W V U h k => pf_pat_Moire V U p q W h k 0 hE
        have m2 : ∀ W V U, IsProg W V q → IsProg W U p → Calls Try.prog 27 #[V, U] W fun e w' => e = .returned (.tuple #[.int .i64 (togetherN p q), .int .i64 (beatN p q), .int .i64 0]) ∧ Below W.heap.size W w' := fun W V U h k => by have h2 := pf_pat_Moire V U q p W h k 0 hEr; rw [together_comm hp hq, beat_comm hp hq] at h2; exact h2
        have m3 : ∀ W V U, IsProg W V p → IsProg W U p → Calls Try.prog 27 #[V, U] W fun e w' => e = .returned (.tuple #[.int .i64 (closeN p), .int .i64 1, .int .i64 0]) ∧ Below W.heap.size W w' := fun W V U h k => by have h2 := pf_pat_Moire V U p p W h k 0 hEs; rw [together_self hp, beat_self hp] at h2; exact h2
        have k1 : ∀ W V, IsProg W V p → Calls Try.prog 29 #[V] W fun e w' => e = .returned (.tuple #[.int .i64 (closeN p), .int .i64 0]) ∧ Below W.heap.size W w' := fun W V h => pf_pat_Closes V p W h 0 hEp
        have k2 : ∀ W V, IsProg W V q → Calls Try.prog 29 #[V] W fun e w' => e = .returned (.tuple #[.int .i64 (closeN q), .int .i64 0]) ∧ Below W.heap.size W w' := fun W V h => pf_pat_Closes V q W h 0 hEq
        have hmulN := together_gcd p q
        have hmul : (togetherN p q : Int) * (Nat.gcd (closeN p) (closeN q) : Int) = (closeN p : Int) * (closeN q : Int) := by rw [← Int.natCast_mul, hmulN, Int.natCast_mul]
        have hb1 := beat_pos hp hq
        have hb2 := beat_le hp hq
        have hc1 := (close_le hp).2.2
        have hc2 := (close_le hq).2.2
        have hper1 := per_pos hp
        have hper2 := per_pos hq
        have hr1 := hp.ros1
        have hr2 := hq.ros1
        have hpe1 := progE_zero hEp
        have hpe2 := progE_zero hEq
        have l1 : ∀ W V U, Ints W V p.ros → Ints W U p.rub → Calls Try.prog 47 #[V, U] W fun e w' => ∃ v', e = .returned (.tuple #[v', .int .i64 0]) ∧ Below W.heap.size W w' ∧ Ints w' v' (liftL p.ros p.rub) := fun W V U h k => (pf_ros_Lift V U p.ros p.rub W h k 0 (by unfold bothE; rw [hpe1.1, hpe1.2.1]; rfl)).mono fun e w' ⟨v', h1, h2, h3, _⟩ => ⟨v', h1, h2, Arr.of_own (h3 rfl)⟩
        have l2 : ∀ W V U, Ints W V q.ros → Ints W U q.rub → Calls Try.prog 47 #[V, U] W fun e w' => ∃ v', e = .returned (.tuple #[v', .int .i64 0]) ∧ Below W.heap.size W w' ∧ Ints w' v' (liftL q.ros q.rub) := fun W V U h k => (pf_ros_Lift V U q.ros q.rub W h k 0 (by unfold bothE; rw [hpe2.1, hpe2.2.1]; rfl)).mono fun e w' ⟨v', h1, h2, h3, _⟩ => ⟨v', h1, h2, Arr.of_own (h3 rfl)⟩
        have dP : ∀ W V, Ints W V (liftL p.ros p.rub) → Calls Try.prog 42 #[V] W fun e w' => e = .returned (.tuple #[.int .i64 (per p), .int .i64 0]) ∧ Below W.heap.size W w' := fun W V h => pf_ros_Period V _ W h (lift_ok hpe1.1 hpe1.2.1)
        have dQ : ∀ W V, Ints W V (liftL q.ros q.rub) → Calls Try.prog 42 #[V] W fun e w' => e = .returned (.tuple #[.int .i64 (per q), .int .i64 0]) ∧ Below W.heap.size W w' := fun W V h => pf_ros_Period V _ W h (lift_ok hpe2.1 hpe2.2.1)
        have hg1 : ∀ W : World, Calls Try.prog 46 #[.int .i64 (closeN p), .int .i64 (closeN q)] W fun e w' => e = .returned (.int .i64 (Nat.gcd (closeN p) (closeN q))) ∧ W = w' := fun W => hgcalls _ _ W (by omega) (by omega)
        have hg2 : ∀ W : World, Calls Try.prog 46 #[.int .i64 (per p), .int .i64 (per q)] W fun e w' => e = .returned (.int .i64 (commonG p q)) ∧ W = w' := fun W => hgcalls _ _ W (by omega) (by omega)
        have hz0 : ∀ W V, IsProg W V p → ∃ u0 u1 u2 u3 u4 u5, V = .agg #[u0, u1, u2, u3, u4, u5] ∧ Ints W u0 p.ros ∧ Ints W u1 p.rub := fun W V ⟨a0, a1, a5, h, h0, h1, h5⟩ => ⟨_, _, _, _, _, _, h, h0, h1⟩
        have iP : Ints w (.slice A0 p.ros.length c0) p.ros ∧ Ints w (.slice A1 p.rub.length c1) p.rub := by
          obtain ⟨a0, a1, a5, h, h0, h1, h5⟩ := hp0.out
          injection h with h
          injection h with h
          injection h with e0 h
          injection h with e1 h
          exact ⟨e0 ▸ h0, e1 ▸ h1⟩
        have iQ : Ints w (.slice B0 q.ros.length d0) q.ros ∧ Ints w (.slice B1 q.rub.length d1) q.rub := by
          obtain ⟨a0, a1, a5, h, h0, h1, h5⟩ := hq0.out
          injection h with h
          injection h with h
          injection h with e0 h
          injection h with e1 h
          exact ⟨e0 ▸ h0, e1 ▸ h1⟩
        clear hgcalls hz0 hE hEp hEq hlen hp hq hEr hEs hpe1 hpe2 hper1 hper2 hr1 hr2 hmulN
        generalize togetherN p q = N at m1 m2 hmul
        generalize Nat.gcd (closeN p) (closeN q) = G at hmul hg1
        generalize closeN p = a at *
        generalize closeN q = b at *
        generalize beatN p q = bt at *
        generalize commonG p q = cg at *
        have hG1' := Lib.hid hG1
        have hG2' := Lib.hid hG2
        have m1' := Lib.hid m1
        have m2' := Lib.hid m2
        have m3' := Lib.hid m3
        have k1' := Lib.hid k1
        have k2' := Lib.hid k2
        have l1' := Lib.hid l1
        have l2' := Lib.hid l2
        have dP' := Lib.hid dP
        have dQ' := Lib.hid dQ
        have hg1' := Lib.hid hg1
        have hg2' := Lib.hid hg2
        have iP' := Lib.hid iP
        have iQ' := Lib.hid iQ
        clear iQ iP hg2 hg1 dQ dP l2 l1 k2 k1 m3 m2 m1 hG2 hG1
        go_enter Try.func11, Try.ntmps11
        go_wp2_with (first | (go_at_call 37; ((with_reducible refine (pf_alive _).mono ?_); rintro e w' ⟨rfl, hb⟩; have ht2 := ht.next hb; obtain ⟨r0, r1, r2, r3, r4, r5⟩ := prog_cells ht2.out; obtain ⟨p0, p1, p2, p3, p4, p5⟩ := prog_cells ht2.box; clear hb ht)) | (go_at_call 14; ((with_reducible refine (pf_r4_Great _ p _ (hp0.out.below ht2.below)).mono ?_); rintro e w' ⟨rfl, hb⟩; rw [hG1'.out]; have ht3 := ht2.next hb; clear hb ht2 r0 r1 r2 r3 r4 r5 p0 p1 p2 p3 p4 p5; obtain ⟨r0, r1, r2, r3, r4, r5⟩ := prog_cells ht3.out; obtain ⟨p0, p1, p2, p3, p4, p5⟩ := prog_cells ht3.box)) | (go_at_call 14; ((with_reducible refine (pf_r4_Great _ q _ (hq0.out.below ht3.below)).mono ?_); rintro e w' ⟨rfl, hb⟩; rw [hG2'.out]; have ht4 := ht3.next hb; clear hb ht3 r0 r1 r2 r3 r4 r5 p0 p1 p2 p3 p4 p5; obtain ⟨r0, r1, r2, r3, r4, r5⟩ := prog_cells ht4.out; obtain ⟨p0, p1, p2, p3, p4, p5⟩ := prog_cells ht4.box)) | (go_at_call 27; ((with_reducible refine (m1'.out _ _ _ (hp0.out.below ht4.below) (hq0.out.below ht4.below)).mono ?_); rintro e w' ⟨rfl, hb⟩; have ht5 := ht4.next hb; clear hb ht4 r0 r1 r2 r3 r4 r5 p0 p1 p2 p3 p4 p5; obtain ⟨r0, r1, r2, r3, r4, r5⟩ := prog_cells ht5.out; obtain ⟨p0, p1, p2, p3, p4, p5⟩ := prog_cells ht5.box)) | (go_at_call 29; ((with_reducible refine (k1'.out _ _ (hp0.out.below ht5.below)).mono ?_); rintro e w' ⟨rfl, hb⟩; have ht6 := ht5.next hb; clear hb ht5 r0 r1 r2 r3 r4 r5 p0 p1 p2 p3 p4 p5; obtain ⟨r0, r1, r2, r3, r4, r5⟩ := prog_cells ht6.out; obtain ⟨p0, p1, p2, p3, p4, p5⟩ := prog_cells ht6.box)) | (go_at_call 29; ((with_reducible refine (k2'.out _ _ (hq0.out.below ht6.below)).mono ?_); rintro e w' ⟨rfl, hb⟩; have ht7 := ht6.next hb; clear hb ht6 r0 r1 r2 r3 r4 r5 p0 p1 p2 p3 p4 p5; obtain ⟨r0, r1, r2, r3, r4, r5⟩ := prog_cells ht7.out; obtain ⟨p0, p1, p2, p3, p4, p5⟩ := prog_cells ht7.box)) | (go_at_call 27; ((with_reducible refine (m2'.out _ _ _ (hq0.out.below ht7.below) (hp0.out.below ht7.below)).mono ?_); rintro e w' ⟨rfl, hb⟩; have ht8 := ht7.next hb; clear hb ht7 r0 r1 r2 r3 r4 r5 p0 p1 p2 p3 p4 p5; obtain ⟨r0, r1, r2, r3, r4, r5⟩ := prog_cells ht8.out; obtain ⟨p0, p1, p2, p3, p4, p5⟩ := prog_cells ht8.box)) | (go_at_call 27; ((with_reducible refine (m3'.out _ _ _ (hp0.out.below ht8.below) (hp0.out.below ht8.below)).mono ?_); rintro e w' ⟨rfl, hb⟩; have ht9 := ht8.next hb; clear hb ht8 r0 r1 r2 r3 r4 r5 p0 p1 p2 p3 p4 p5; obtain ⟨r0, r1, r2, r3, r4, r5⟩ := prog_cells ht9.out; obtain ⟨p0, p1, p2, p3, p4, p5⟩ := prog_cells ht9.box)) | (go_at_call 46; ((with_reducible refine (hg1'.out _).mono ?_); rintro e w' ⟨rfl, rfl⟩)) | (go_at_call 47; ((with_reducible refine (l1'.out _ _ _ (iP'.out.1.below ht9.below) (iP'.out.2.below ht9.below)).mono ?_); rintro e w' ⟨vl1, rfl, hb, hl⟩; have hl1 := Lib.hid hl; have htA := ht9.next hb; clear hb ht9 r0 r1 r2 r3 r4 r5 p0 p1 p2 p3 p4 p5; obtain ⟨r0, r1, r2, r3, r4, r5⟩ := prog_cells htA.out; obtain ⟨p0, p1, p2, p3, p4, p5⟩ := prog_cells htA.box; clear hl)) | (go_at_call 47; ((with_reducible refine (l2'.out _ _ _ (iQ'.out.1.below htA.below) (iQ'.out.2.below htA.below)).mono ?_); rintro e w' ⟨vl2, rfl, hb, hl⟩; have hl2 := Lib.hid hl; have hl1 := Lib.hid (hl1.out.below hb); have htB := htA.next hb; clear hb htA r0 r1 r2 r3 r4 r5 p0 p1 p2 p3 p4 p5; obtain ⟨r0, r1, r2, r3, r4, r5⟩ := prog_cells htB.out; obtain ⟨p0, p1, p2, p3, p4, p5⟩ := prog_cells htB.box; clear hl)) | (go_at_call 42; ((with_reducible refine (dP'.out _ _ hl1.out).mono ?_); rintro e w' ⟨rfl, hb⟩; have hl2 := Lib.hid (hl2.out.below hb); have htC := htB.next hb; clear hb htB r0 r1 r2 r3 r4 r5 p0 p1 p2 p3 p4 p5; obtain ⟨r0, r1, r2, r3, r4, r5⟩ := prog_cells htC.out; obtain ⟨p0, p1, p2, p3, p4, p5⟩ := prog_cells htC.box)) | (go_at_call 42; ((with_reducible refine (dQ'.out _ _ hl2.out).mono ?_); rintro e w' ⟨rfl, hb⟩; have htD := htC.next hb; clear hb htC r0 r1 r2 r3 r4 r5 p0 p1 p2 p3 p4 p5; obtain ⟨r0, r1, r2, r3, r4, r5⟩ := prog_cells htD.out; obtain ⟨p0, p1, p2, p3, p4, p5⟩ := prog_cells htD.box)) | (go_at_call 46; ((with_reducible refine (hg2'.out _).mono ?_); rintro e w' ⟨rfl, rfl⟩)))
        go_ret
        exact ⟨rfl, htD.below⟩
      · have m1 : ∀ W V U, IsProg W V p → IsProg W U q → Calls Try.prog 27 #[V, U] W fun e w' => e = .returned (.tuple #[.int .i64 0, .int .i64 0, .int .i64 E]) ∧ Below W.heap.size W w' := fun W V U h k => by have h2 := pf_pat_Moire V U p q W h k E hE; rwa [onOkI_ne hE0, onOkI_ne hE0] at h2
        obtain ⟨F1, hF1⟩ : ∃ F, progE p = F := ⟨_, rfl⟩
        obtain ⟨F2, hF2⟩ : ∃ F, progE q = F := ⟨_, rfl⟩
        have k1 : ∀ W V, IsProg W V p → Calls Try.prog 29 #[V] W fun e w' => e = .returned (.tuple #[.int .i64 (onOkI F1 (closeN p)), .int .i64 F1]) ∧ Below W.heap.size W w' := fun W V h => pf_pat_Closes V p W h F1 hF1
        have k2 : ∀ W V, IsProg W V q → Calls Try.prog 29 #[V] W fun e w' => e = .returned (.tuple #[.int .i64 (onOkI F2 (closeN q)), .int .i64 F2]) ∧ Below W.heap.size W w' := fun W V h => pf_pat_Closes V q W h F2 hF2
        have hEE : (F1 != 0) = true ∨ (F1 = 0 ∧ (F2 != 0) = true) ∨ (F1 = 0 ∧ F2 = 0 ∧ ((p.ros.length : Int) != (q.ros.length : Int)) = true) := by
          unfold moireE at hE
          rw [hF1, hF2] at hE
          by_cases h1 : F1 = 0
          · by_cases h2 : F2 = 0
            · by_cases h3 : p.ros.length = q.ros.length
              · simp [h1, h2, h3] at hE; omega
              · exact .inr (.inr ⟨h1, h2, by simp; omega⟩)
            · exact .inr (.inl ⟨h1, by simpa using h2⟩)
          · exact .inl (by simpa using h1)
        have hEz : (E != 0) = true := by simpa using hE0
        generalize onOkI F1 (closeN p) = x1 at k1
        generalize onOkI F2 (closeN q) = x2 at k2
        clear hgcalls hE hE0 hF1 hF2
        have hG1' := Lib.hid hG1
        have hG2' := Lib.hid hG2
        have m1' := Lib.hid m1
        have k1' := Lib.hid k1
        have k2' := Lib.hid k2
        clear k2 k1 m1 hG2 hG1
        rcases hEE with h1 | ⟨rfl, h1⟩ | ⟨rfl, rfl, h1⟩
        all_goals
          go_enter Try.func11, Try.ntmps11
          go_wp2_with (first | (go_at_call 37; ((with_reducible refine (pf_alive _).mono ?_); rintro e w' ⟨rfl, hb⟩; have ht2 := ht.next hb; obtain ⟨r0, r1, r2, r3, r4, r5⟩ := prog_cells ht2.out; obtain ⟨p0, p1, p2, p3, p4, p5⟩ := prog_cells ht2.box; clear hb ht)) | (go_at_call 14; ((with_reducible refine (pf_r4_Great _ p _ (hp0.out.below ht2.below)).mono ?_); rintro e w' ⟨rfl, hb⟩; rw [hG1'.out]; have ht3 := ht2.next hb; clear hb ht2 r0 r1 r2 r3 r4 r5 p0 p1 p2 p3 p4 p5; obtain ⟨r0, r1, r2, r3, r4, r5⟩ := prog_cells ht3.out; obtain ⟨p0, p1, p2, p3, p4, p5⟩ := prog_cells ht3.box)) | (go_at_call 14; ((with_reducible refine (pf_r4_Great _ q _ (hq0.out.below ht3.below)).mono ?_); rintro e w' ⟨rfl, hb⟩; rw [hG2'.out]; have ht4 := ht3.next hb; clear hb ht3 r0 r1 r2 r3 r4 r5 p0 p1 p2 p3 p4 p5; obtain ⟨r0, r1, r2, r3, r4, r5⟩ := prog_cells ht4.out; obtain ⟨p0, p1, p2, p3, p4, p5⟩ := prog_cells ht4.box)) | (go_at_call 27; ((with_reducible refine (m1'.out _ _ _ (hp0.out.below ht4.below) (hq0.out.below ht4.below)).mono ?_); rintro e w' ⟨rfl, hb⟩; have ht5 := ht4.next hb; clear hb ht4 r0 r1 r2 r3 r4 r5 p0 p1 p2 p3 p4 p5; obtain ⟨r0, r1, r2, r3, r4, r5⟩ := prog_cells ht5.out; obtain ⟨p0, p1, p2, p3, p4, p5⟩ := prog_cells ht5.box)) | (go_at_call 29; ((with_reducible refine (k1'.out _ _ (hp0.out.below ht5.below)).mono ?_); rintro e w' ⟨rfl, hb⟩; have ht6 := ht5.next hb; clear hb ht5 r0 r1 r2 r3 r4 r5 p0 p1 p2 p3 p4 p5; obtain ⟨r0, r1, r2, r3, r4, r5⟩ := prog_cells ht6.out; obtain ⟨p0, p1, p2, p3, p4, p5⟩ := prog_cells ht6.box)) | (go_at_call 29; ((with_reducible refine (k2'.out _ _ (hq0.out.below ht6.below)).mono ?_); rintro e w' ⟨rfl, hb⟩; have ht7 := ht6.next hb; clear hb ht6 r0 r1 r2 r3 r4 r5 p0 p1 p2 p3 p4 p5; obtain ⟨r0, r1, r2, r3, r4, r5⟩ := prog_cells ht7.out; obtain ⟨p0, p1, p2, p3, p4, p5⟩ := prog_cells ht7.box)))
          go_ret
          exact ⟨rfl, ht7.below⟩
theorem law_PatternMoire (a0 : Prog) (x0 : Value) (a1 : Prog) (x1 : Value) (w : World) (w0 : IsProg w x0 a0 ∧ a0.fits) (w1 : IsProg w x1 a1 ∧ a1.fits) :
    Calls Try.prog 11 #[x0, x1] w fun e w' => e = .returned (.bool true) ∧ Below w.heap.size w w' := walk_PatternMoire a0 a1 x0 x1 w w0.1 w1.1
end Go.Proofs.Ytnboppombhibbaa
