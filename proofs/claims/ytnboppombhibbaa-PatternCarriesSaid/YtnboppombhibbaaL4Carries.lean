/- The law PatternCarries: its walk. -/
import Derived.Test.YtnboppombhibbaaAlive
import Derived.Test.YtnboppombhibbaaCarryLaw
import Derived.Test.YtnboppombhibbaaL4Cuts
namespace Go.Proofs.Ytnboppombhibbaa
open Go.RowKit
set_option linter.unusedVariables false
set_option linter.unusedSimpArgs false
/-- Three boxes. -/
structure Trio (w : World) (a b c : Array Value) (W : World) : Prop where
  below : Below w.heap.size w W
  size : w.heap.size + 3 ≤ W.heap.size
  one : W.heap[w.heap.size]? = some (.cells a 24)
  two : W.heap[w.heap.size + 1]? = some (.cells b 24)
  three : W.heap[w.heap.size + 1 + 1]? = some (.cells c 24)
theorem Trio.next {w : World} {a b c : Array Value} {W W2 : World} (h : Trio w a b c W) (hb : Below W.heap.size W W2) : Trio w a b c W2 :=
  ⟨h.below.trans (hb.mono h.below.size), Nat.le_trans h.size hb.size, (hb.block _ (by have := h.size; omega)).trans h.one, (hb.block _ (by have := h.size; omega)).trans h.two, (hb.block _ (by have := h.size; omega)).trans h.three⟩
theorem Trio.sizes {w : World} {a b c : Array Value} {W : World} (h : Trio w a b c W) : w.heap.size < W.heap.size ∧ w.heap.size + 1 < W.heap.size ∧ w.heap.size + 1 + 1 < W.heap.size := by have := h.size; omega
theorem Trio.start (w : World) (a b c : Array Value) : Trio w a b c (((w.alloc (.cells a 24)).alloc (.cells b 24)).alloc (.cells c 24)) := by
  refine ⟨alc3 _ _ _ _, by simp, ?_, ?_, ?_⟩
  · exact (Below.heap_alloc _ _ _ (by simp; omega)).trans ((Below.heap_alloc _ _ _ (by simp)).trans (heap_alloc_new _ _))
  · exact (Below.heap_alloc _ _ _ (by simp)).trans (by have h := heap_alloc_new (w.alloc (.cells a 24)) (.cells b 24); simpa only [World.size_alloc] using h)
  · have h := heap_alloc_new ((w.alloc (.cells a 24)).alloc (.cells b 24)) (.cells c 24); simpa only [World.size_alloc] using h
theorem keep1 {W W2 : World} {X : Nat} {o a : Obj} (h : W.heap[X]? = some o) (hb : Below (W.alloc a).heap.size (W.alloc a) W2) : W2.heap[X]? = some o := by
  have hl := (Array.getElem?_eq_some_iff.1 h).1
  exact (hb.block _ (by simp; omega)).trans ((Below.heap_alloc _ _ _ hl).trans h)
set_option maxRecDepth 100000 in
set_option maxHeartbeats 4000000 in
theorem walk_PatternCarries (p q r : Prog) (vp vq vr : Value) (how other : Nat) (w : World) (hvp : IsProg w vp p) (hvq : IsProg w vq q) (hvr : IsProg w vr r) (hhow : how ≤ 255) (hother : other ≤ 255) :
    Calls Try.prog 10 #[vp, vq, vr, .int .u8 how, .int .u8 other] w fun e w' => e = .returned (.bool true) ∧ Below w.heap.size w w' := by
  have hp0 := Lib.hid hvp
  have hq0 := Lib.hid hvq
  have hr0 := Lib.hid hvr
  obtain ⟨A0, c0, A1, c1, A5, c5, rfl⟩ := hvp.open
  obtain ⟨B0, d0, B1, d1, B5, d5, rfl⟩ := hvq.open
  obtain ⟨C0, e0, C1, e1, C5, e5, rfl⟩ := hvr.open
  clear hvp hvq hvr
  obtain ⟨G1, hG1⟩ : ∃ G, greatB p = G := ⟨_, rfl⟩
  obtain ⟨G2, hG2⟩ : ∃ G, greatB q = G := ⟨_, rfl⟩
  obtain ⟨G3, hG3⟩ : ∃ G, greatB r = G := ⟨_, rfl⟩
  have ht := Trio.start w #[.slice A0 p.ros.length c0, .slice A1 p.rub.length c1, .int .i64 p.start, .int .i64 p.throw, .int .i64 p.adv, .slice A5 p.shifts.length c5] #[.slice B0 q.ros.length d0, .slice B1 q.rub.length d1, .int .i64 q.start, .int .i64 q.throw, .int .i64 q.adv, .slice B5 q.shifts.length d5] #[.slice C0 r.ros.length e0, .slice C1 r.rub.length e1, .int .i64 r.start, .int .i64 r.throw, .int .i64 r.adv, .slice C5 r.shifts.length e5]
  cases G1 with
  | true =>
    have hG1' := Lib.hid hG1
    have hG2' := Lib.hid hG2
    have hG3' := Lib.hid hG3
    clear hG3 hG2 hG1
    go_enter Try.func10, Try.ntmps10
    go_wp2_with (first | (go_at_call 37; ((with_reducible refine (pf_alive _).mono ?_); rintro e w' ⟨rfl, hb⟩; have ht2 := ht.next hb; clear hb ht; obtain ⟨z0, z1, z2⟩ := ht2.sizes; obtain ⟨p0, p1, p2, p3, p4, p5⟩ := prog_cells ht2.one; obtain ⟨q0, q1, q2, q3, q4, q5⟩ := prog_cells ht2.two; obtain ⟨r0, r1, r2, r3, r4, r5⟩ := prog_cells ht2.three)) | (go_at_call 14; ((with_reducible refine (pf_r4_Great _ p _ (hp0.out.below ht2.below)).mono ?_); rintro e w' ⟨rfl, hb⟩; rw [hG1'.out])))
    go_ret
    exact ⟨rfl, (ht2.next hb).below⟩
  | false =>
    cases G2 with
    | true =>
      have hG1' := Lib.hid hG1
      have hG2' := Lib.hid hG2
      have hG3' := Lib.hid hG3
      clear hG3 hG2 hG1
      go_enter Try.func10, Try.ntmps10
      go_wp2_with (first | (go_at_call 37; ((with_reducible refine (pf_alive _).mono ?_); rintro e w' ⟨rfl, hb⟩; have ht2 := ht.next hb; clear hb ht; obtain ⟨z0, z1, z2⟩ := ht2.sizes; obtain ⟨p0, p1, p2, p3, p4, p5⟩ := prog_cells ht2.one; obtain ⟨q0, q1, q2, q3, q4, q5⟩ := prog_cells ht2.two; obtain ⟨r0, r1, r2, r3, r4, r5⟩ := prog_cells ht2.three)) | (go_at_call 14; ((with_reducible refine (pf_r4_Great _ p _ (hp0.out.below ht2.below)).mono ?_); rintro e w' ⟨rfl, hb⟩; rw [hG1'.out]; have ht3 := ht2.next hb; clear hb ht2 z0 z1 z2 p0 p1 p2 p3 p4 p5 q0 q1 q2 q3 q4 q5 r0 r1 r2 r3 r4 r5; obtain ⟨z0, z1, z2⟩ := ht3.sizes; obtain ⟨p0, p1, p2, p3, p4, p5⟩ := prog_cells ht3.one; obtain ⟨q0, q1, q2, q3, q4, q5⟩ := prog_cells ht3.two; obtain ⟨r0, r1, r2, r3, r4, r5⟩ := prog_cells ht3.three)) | (go_at_call 14; ((with_reducible refine (pf_r4_Great _ q _ (hq0.out.below ht3.below)).mono ?_); rintro e w' ⟨rfl, hb⟩; rw [hG2'.out])))
      go_ret
      exact ⟨rfl, (ht3.next hb).below⟩
    | false =>
      cases G3 with
      | true =>
        have hG1' := Lib.hid hG1
        have hG2' := Lib.hid hG2
        have hG3' := Lib.hid hG3
        clear hG3 hG2 hG1
        go_enter Try.func10, Try.ntmps10
        go_wp2_with (first | (go_at_call 37; ((with_reducible refine (pf_alive _).mono ?_); rintro e w' ⟨rfl, hb⟩; have ht2 := ht.next hb; clear hb ht; obtain ⟨z0, z1, z2⟩ := ht2.sizes; obtain ⟨p0, p1, p2, p3, p4, p5⟩ := prog_cells ht2.one; obtain ⟨q0, q1, q2, q3, q4, q5⟩ := prog_cells ht2.two; obtain ⟨r0, r1, r2, r3, r4, r5⟩ := prog_cells ht2.three)) | (go_at_call 14; ((with_reducible refine (pf_r4_Great _ p _ (hp0.out.below ht2.below)).mono ?_); rintro e w' ⟨rfl, hb⟩; rw [hG1'.out]; have ht3 := ht2.next hb; clear hb ht2 z0 z1 z2 p0 p1 p2 p3 p4 p5 q0 q1 q2 q3 q4 q5 r0 r1 r2 r3 r4 r5; obtain ⟨z0, z1, z2⟩ := ht3.sizes; obtain ⟨p0, p1, p2, p3, p4, p5⟩ := prog_cells ht3.one; obtain ⟨q0, q1, q2, q3, q4, q5⟩ := prog_cells ht3.two; obtain ⟨r0, r1, r2, r3, r4, r5⟩ := prog_cells ht3.three)) | (go_at_call 14; ((with_reducible refine (pf_r4_Great _ q _ (hq0.out.below ht3.below)).mono ?_); rintro e w' ⟨rfl, hb⟩; rw [hG2'.out]; have ht4 := ht3.next hb; clear hb ht3 z0 z1 z2 p0 p1 p2 p3 p4 p5 q0 q1 q2 q3 q4 q5 r0 r1 r2 r3 r4 r5; obtain ⟨z0, z1, z2⟩ := ht4.sizes; obtain ⟨p0, p1, p2, p3, p4, p5⟩ := prog_cells ht4.one; obtain ⟨q0, q1, q2, q3, q4, q5⟩ := prog_cells ht4.two; obtain ⟨r0, r1, r2, r3, r4, r5⟩ := prog_cells ht4.three)) | (go_at_call 14; ((with_reducible refine (pf_r4_Great _ r _ (hr0.out.below ht4.below)).mono ?_); rintro e w' ⟨rfl, hb⟩; rw [hG3'.out])))
        go_ret
        exact ⟨rfl, (ht4.next hb).below⟩
      | false =>
        by_cases hE : progE p = 0
        · have hbf := benchFacts hE
          have hself := same_self hE (close_le hbf).2.2.1 (per_pos hbf).1
          have s1 : ∀ W V U, IsProg W V p → IsProg W U p → Calls Try.prog 45 #[V, U, .int .u8 0] W fun e w' => e = .returned (.tuple #[.agg #[.int .i64 0, .int .i64 0, .bool false, .bool false], .int .i64 0]) ∧ Below W.heap.size W w' := fun W V U h k => by have h2 := pf_pat_Same V U p p 0 W h k 0 hself.1; rw [hself.2] at h2; exact h2
          obtain ⟨F, hF⟩ : ∃ F, sameE p q how = F := ⟨_, rfl⟩
          obtain ⟨H, hH⟩ : ∃ F, sameE q r other = F := ⟨_, rfl⟩
          obtain ⟨⟨a2, b2, k2, l2⟩, hM2⟩ : ∃ M, sameM p q how = M := ⟨_, rfl⟩
          have s2 : ∀ W V U, IsProg W V p → IsProg W U q → Calls Try.prog 45 #[V, U, .int .u8 how] W fun e w' => e = .returned (.tuple #[.agg #[.int .i64 a2, .int .i64 b2, .bool k2, .bool l2], .int .i64 F]) ∧ Below W.heap.size W w' := fun W V U h k => by have h2 := pf_pat_Same V U p q how W h k F hF; rw [hM2] at h2; exact h2
          obtain ⟨⟨a3, b3, k3, l3⟩, hM3⟩ : ∃ M, sameM q r other = M := ⟨_, rfl⟩
          have s3 : ∀ W V U, IsProg W V q → IsProg W U r → Calls Try.prog 45 #[V, U, .int .u8 other] W fun e w' => e = .returned (.tuple #[.agg #[.int .i64 a3, .int .i64 b3, .bool k3, .bool l3], .int .i64 H]) ∧ Below W.heap.size W w' := fun W V U h k => by have h2 := pf_pat_Same V U q r other W h k H hH; rw [hM3] at h2; exact h2
          by_cases hz : F = 0 ∧ H = 0
          · obtain ⟨rfl, rfl⟩ := hz
            have h4 := same_comp hF hH
            have h5 := same_back hF
            have hbits : bits BinOp.or IntKind.u8 (how : Int) (other : Int) = ((how ||| other : Nat) : Int) := by
              have h0 : ∀ a, a < 4 → ∀ b, b < 4 → bits BinOp.or IntKind.u8 ((a : Nat) : Int) ((b : Nat) : Int) = ((a ||| b : Nat) : Int) := by decide
              exact h0 how (by have := (sameE_zero.1 hF).2.2.1; omega) other (by have := (sameE_zero.1 hH).2.2.1; omega)
            obtain ⟨⟨a4, b4, k4, l4⟩, hM4⟩ : ∃ M, sameM p r (how ||| other) = M := ⟨_, rfl⟩
            have s4 : ∀ W V U, IsProg W V p → IsProg W U r → Calls Try.prog 45 #[V, U, .int .u8 (bits BinOp.or IntKind.u8 (how : Int) (other : Int))] W fun e w' => e = .returned (.tuple #[.agg #[.int .i64 a4, .int .i64 b4, .bool k4, .bool l4], .int .i64 0]) ∧ Below W.heap.size W w' := fun W V U h k => by have h2 := pf_pat_Same V U p r (how ||| other) W h k 0 h4; rw [hM4] at h2; rw [hbits]; exact h2
            obtain ⟨⟨a5, b5, k5, l5⟩, hM5⟩ : ∃ M, sameM q p how = M := ⟨_, rfl⟩
            have s5 : ∀ W V U, IsProg W V q → IsProg W U p → Calls Try.prog 45 #[V, U, .int .u8 how] W fun e w' => e = .returned (.tuple #[.agg #[.int .i64 a5, .int .i64 b5, .bool k5, .bool l5], .int .i64 0]) ∧ Below W.heap.size W w' := fun W V U h k => by have h2 := pf_pat_Same V U q p how W h k 0 h5; rw [hM5] at h2; exact h2
            clear hE hbf hself hF hH h4 h5 hM2 hM3 hM4 hM5 hbits
            have hG1' := Lib.hid hG1
            have hG2' := Lib.hid hG2
            have hG3' := Lib.hid hG3
            have s1' := Lib.hid s1
            have s2' := Lib.hid s2
            have s3' := Lib.hid s3
            have s4' := Lib.hid s4
            have s5' := Lib.hid s5
            clear s5 s4 s3 s2 s1 hG3 hG2 hG1
            go_enter Try.func10, Try.ntmps10
            go_wp2_with (first | (go_at_call 37; ((with_reducible refine (pf_alive _).mono ?_); rintro e w' ⟨rfl, hb⟩; have ht2 := ht.next hb; clear hb ht; obtain ⟨z0, z1, z2⟩ := ht2.sizes; obtain ⟨p0, p1, p2, p3, p4, p5⟩ := prog_cells ht2.one; obtain ⟨q0, q1, q2, q3, q4, q5⟩ := prog_cells ht2.two; obtain ⟨r0, r1, r2, r3, r4, r5⟩ := prog_cells ht2.three)) | (go_at_call 14; ((with_reducible refine (pf_r4_Great _ p _ (hp0.out.below ht2.below)).mono ?_); rintro e w' ⟨rfl, hb⟩; rw [hG1'.out]; have ht3 := ht2.next hb; clear hb ht2 z0 z1 z2 p0 p1 p2 p3 p4 p5 q0 q1 q2 q3 q4 q5 r0 r1 r2 r3 r4 r5; obtain ⟨z0, z1, z2⟩ := ht3.sizes; obtain ⟨p0, p1, p2, p3, p4, p5⟩ := prog_cells ht3.one; obtain ⟨q0, q1, q2, q3, q4, q5⟩ := prog_cells ht3.two; obtain ⟨r0, r1, r2, r3, r4, r5⟩ := prog_cells ht3.three)) | (go_at_call 14; ((with_reducible refine (pf_r4_Great _ q _ (hq0.out.below ht3.below)).mono ?_); rintro e w' ⟨rfl, hb⟩; rw [hG2'.out]; have ht4 := ht3.next hb; clear hb ht3 z0 z1 z2 p0 p1 p2 p3 p4 p5 q0 q1 q2 q3 q4 q5 r0 r1 r2 r3 r4 r5; obtain ⟨z0, z1, z2⟩ := ht4.sizes; obtain ⟨p0, p1, p2, p3, p4, p5⟩ := prog_cells ht4.one; obtain ⟨q0, q1, q2, q3, q4, q5⟩ := prog_cells ht4.two; obtain ⟨r0, r1, r2, r3, r4, r5⟩ := prog_cells ht4.three)) | (go_at_call 14; ((with_reducible refine (pf_r4_Great _ r _ (hr0.out.below ht4.below)).mono ?_); rintro e w' ⟨rfl, hb⟩; rw [hG3'.out]; have ht5 := ht4.next hb; clear hb ht4 z0 z1 z2 p0 p1 p2 p3 p4 p5 q0 q1 q2 q3 q4 q5 r0 r1 r2 r3 r4 r5; obtain ⟨z0, z1, z2⟩ := ht5.sizes; obtain ⟨p0, p1, p2, p3, p4, p5⟩ := prog_cells ht5.one; obtain ⟨q0, q1, q2, q3, q4, q5⟩ := prog_cells ht5.two; obtain ⟨r0, r1, r2, r3, r4, r5⟩ := prog_cells ht5.three)) | (go_at_call 45; ((with_reducible refine (s1'.out _ _ _ (hp0.out.below ht5.below) (hp0.out.below ht5.below)).mono ?_); rintro e w' ⟨rfl, hb⟩; have ht6 := ht5.next hb; clear hb ht5 z0 z1 z2 p0 p1 p2 p3 p4 p5 q0 q1 q2 q3 q4 q5 r0 r1 r2 r3 r4 r5; obtain ⟨z0, z1, z2⟩ := ht6.sizes; obtain ⟨p0, p1, p2, p3, p4, p5⟩ := prog_cells ht6.one; obtain ⟨q0, q1, q2, q3, q4, q5⟩ := prog_cells ht6.two; obtain ⟨r0, r1, r2, r3, r4, r5⟩ := prog_cells ht6.three)) | (go_at_call 45; ((with_reducible refine (s2'.out _ _ _ (hp0.out.below (ht6.next (alc1 _ _)).below) (hq0.out.below (ht6.next (alc1 _ _)).below)).mono ?_); rintro e w' ⟨rfl, hb⟩; have hx1 := (hb.block _ (by simp)).trans (alc_at _ _); have zx := (Array.getElem?_eq_some_iff.1 hx1).1; obtain ⟨x0, x1, x2, x3⟩ := move_cells hx1; have ht7 := (ht6.next (alc1 _ _)).next hb; clear hb ht6 z0 z1 z2 p0 p1 p2 p3 p4 p5 q0 q1 q2 q3 q4 q5 r0 r1 r2 r3 r4 r5; obtain ⟨z0, z1, z2⟩ := ht7.sizes; obtain ⟨p0, p1, p2, p3, p4, p5⟩ := prog_cells ht7.one; obtain ⟨q0, q1, q2, q3, q4, q5⟩ := prog_cells ht7.two; obtain ⟨r0, r1, r2, r3, r4, r5⟩ := prog_cells ht7.three)) | (go_at_call 45; ((with_reducible refine (s3'.out _ _ _ (hq0.out.below (ht7.next (alc1 _ _)).below) (hr0.out.below (ht7.next (alc1 _ _)).below)).mono ?_); rintro e w' ⟨rfl, hb⟩; have hx2 := keep1 hx1 hb; clear hx1 zx x0 x1 x2 x3; have zx := (Array.getElem?_eq_some_iff.1 hx2).1; obtain ⟨x0, x1, x2, x3⟩ := move_cells hx2; have ht8 := (ht7.next (alc1 _ _)).next hb; clear hb ht7 z0 z1 z2 p0 p1 p2 p3 p4 p5 q0 q1 q2 q3 q4 q5 r0 r1 r2 r3 r4 r5; obtain ⟨z0, z1, z2⟩ := ht8.sizes; obtain ⟨p0, p1, p2, p3, p4, p5⟩ := prog_cells ht8.one; obtain ⟨q0, q1, q2, q3, q4, q5⟩ := prog_cells ht8.two; obtain ⟨r0, r1, r2, r3, r4, r5⟩ := prog_cells ht8.three)) | (go_at_call 45; ((with_reducible refine (s4'.out _ _ _ (hp0.out.below (ht8.next (alc1 _ _)).below) (hr0.out.below (ht8.next (alc1 _ _)).below)).mono ?_); rintro e w' ⟨rfl, hb⟩; have ht9 := (ht8.next (alc1 _ _)).next hb; clear hb ht8 z0 z1 z2 p0 p1 p2 p3 p4 p5 q0 q1 q2 q3 q4 q5 r0 r1 r2 r3 r4 r5; obtain ⟨z0, z1, z2⟩ := ht9.sizes; obtain ⟨p0, p1, p2, p3, p4, p5⟩ := prog_cells ht9.one; obtain ⟨q0, q1, q2, q3, q4, q5⟩ := prog_cells ht9.two; obtain ⟨r0, r1, r2, r3, r4, r5⟩ := prog_cells ht9.three)) | (go_at_call 45; ((with_reducible refine (s5'.out _ _ _ (hq0.out.below (ht9.next (alc1 _ _)).below) (hp0.out.below (ht9.next (alc1 _ _)).below)).mono ?_); rintro e w' ⟨rfl, hb⟩; have htA := (ht9.next (alc1 _ _)).next hb; clear hb ht9 z0 z1 z2 p0 p1 p2 p3 p4 p5 q0 q1 q2 q3 q4 q5 r0 r1 r2 r3 r4 r5; obtain ⟨z0, z1, z2⟩ := htA.sizes; obtain ⟨p0, p1, p2, p3, p4, p5⟩ := prog_cells htA.one; obtain ⟨q0, q1, q2, q3, q4, q5⟩ := prog_cells htA.two; obtain ⟨r0, r1, r2, r3, r4, r5⟩ := prog_cells htA.three)))
            go_ret
            exact ⟨rfl, (htA.next (alc1 _ _)).below⟩
          · have hzB : (F = 0 ∧ (H != 0) = true) ∨ (F != 0) = true := by
              by_cases h1 : F = 0
              · exact .inl ⟨h1, by simpa using fun h2 => hz ⟨h1, h2⟩⟩
              · exact .inr (by simpa using h1)
            clear hE hbf hself hF hH hz hM2 hM3
            have hG1' := Lib.hid hG1
            have hG2' := Lib.hid hG2
            have hG3' := Lib.hid hG3
            have s1' := Lib.hid s1
            have s2' := Lib.hid s2
            have s3' := Lib.hid s3
            clear s3 s2 s1 hG3 hG2 hG1
            rcases hzB with ⟨rfl, hzz⟩ | hzz
            all_goals
              go_enter Try.func10, Try.ntmps10
              go_wp2_with (first | (go_at_call 37; ((with_reducible refine (pf_alive _).mono ?_); rintro e w' ⟨rfl, hb⟩; have ht2 := ht.next hb; clear hb ht; obtain ⟨z0, z1, z2⟩ := ht2.sizes; obtain ⟨p0, p1, p2, p3, p4, p5⟩ := prog_cells ht2.one; obtain ⟨q0, q1, q2, q3, q4, q5⟩ := prog_cells ht2.two; obtain ⟨r0, r1, r2, r3, r4, r5⟩ := prog_cells ht2.three)) | (go_at_call 14; ((with_reducible refine (pf_r4_Great _ p _ (hp0.out.below ht2.below)).mono ?_); rintro e w' ⟨rfl, hb⟩; rw [hG1'.out]; have ht3 := ht2.next hb; clear hb ht2 z0 z1 z2 p0 p1 p2 p3 p4 p5 q0 q1 q2 q3 q4 q5 r0 r1 r2 r3 r4 r5; obtain ⟨z0, z1, z2⟩ := ht3.sizes; obtain ⟨p0, p1, p2, p3, p4, p5⟩ := prog_cells ht3.one; obtain ⟨q0, q1, q2, q3, q4, q5⟩ := prog_cells ht3.two; obtain ⟨r0, r1, r2, r3, r4, r5⟩ := prog_cells ht3.three)) | (go_at_call 14; ((with_reducible refine (pf_r4_Great _ q _ (hq0.out.below ht3.below)).mono ?_); rintro e w' ⟨rfl, hb⟩; rw [hG2'.out]; have ht4 := ht3.next hb; clear hb ht3 z0 z1 z2 p0 p1 p2 p3 p4 p5 q0 q1 q2 q3 q4 q5 r0 r1 r2 r3 r4 r5; obtain ⟨z0, z1, z2⟩ := ht4.sizes; obtain ⟨p0, p1, p2, p3, p4, p5⟩ := prog_cells ht4.one; obtain ⟨q0, q1, q2, q3, q4, q5⟩ := prog_cells ht4.two; obtain ⟨r0, r1, r2, r3, r4, r5⟩ := prog_cells ht4.three)) | (go_at_call 14; ((with_reducible refine (pf_r4_Great _ r _ (hr0.out.below ht4.below)).mono ?_); rintro e w' ⟨rfl, hb⟩; rw [hG3'.out]; have ht5 := ht4.next hb; clear hb ht4 z0 z1 z2 p0 p1 p2 p3 p4 p5 q0 q1 q2 q3 q4 q5 r0 r1 r2 r3 r4 r5; obtain ⟨z0, z1, z2⟩ := ht5.sizes; obtain ⟨p0, p1, p2, p3, p4, p5⟩ := prog_cells ht5.one; obtain ⟨q0, q1, q2, q3, q4, q5⟩ := prog_cells ht5.two; obtain ⟨r0, r1, r2, r3, r4, r5⟩ := prog_cells ht5.three)) | (go_at_call 45; ((with_reducible refine (s1'.out _ _ _ (hp0.out.below ht5.below) (hp0.out.below ht5.below)).mono ?_); rintro e w' ⟨rfl, hb⟩; have ht6 := ht5.next hb; clear hb ht5 z0 z1 z2 p0 p1 p2 p3 p4 p5 q0 q1 q2 q3 q4 q5 r0 r1 r2 r3 r4 r5; obtain ⟨z0, z1, z2⟩ := ht6.sizes; obtain ⟨p0, p1, p2, p3, p4, p5⟩ := prog_cells ht6.one; obtain ⟨q0, q1, q2, q3, q4, q5⟩ := prog_cells ht6.two; obtain ⟨r0, r1, r2, r3, r4, r5⟩ := prog_cells ht6.three)) | (go_at_call 45; ((with_reducible refine (s2'.out _ _ _ (hp0.out.below (ht6.next (alc1 _ _)).below) (hq0.out.below (ht6.next (alc1 _ _)).below)).mono ?_); rintro e w' ⟨rfl, hb⟩; have hx1 := (hb.block _ (by simp)).trans (alc_at _ _); have zx := (Array.getElem?_eq_some_iff.1 hx1).1; obtain ⟨x0, x1, x2, x3⟩ := move_cells hx1; have ht7 := (ht6.next (alc1 _ _)).next hb; clear hb ht6 z0 z1 z2 p0 p1 p2 p3 p4 p5 q0 q1 q2 q3 q4 q5 r0 r1 r2 r3 r4 r5; obtain ⟨z0, z1, z2⟩ := ht7.sizes; obtain ⟨p0, p1, p2, p3, p4, p5⟩ := prog_cells ht7.one; obtain ⟨q0, q1, q2, q3, q4, q5⟩ := prog_cells ht7.two; obtain ⟨r0, r1, r2, r3, r4, r5⟩ := prog_cells ht7.three)) | (go_at_call 45; ((with_reducible refine (s3'.out _ _ _ (hq0.out.below (ht7.next (alc1 _ _)).below) (hr0.out.below (ht7.next (alc1 _ _)).below)).mono ?_); rintro e w' ⟨rfl, hb⟩; have hx2 := keep1 hx1 hb; clear hx1 zx x0 x1 x2 x3; have zx := (Array.getElem?_eq_some_iff.1 hx2).1; obtain ⟨x0, x1, x2, x3⟩ := move_cells hx2; have ht8 := (ht7.next (alc1 _ _)).next hb; clear hb ht7 z0 z1 z2 p0 p1 p2 p3 p4 p5 q0 q1 q2 q3 q4 q5 r0 r1 r2 r3 r4 r5; obtain ⟨z0, z1, z2⟩ := ht8.sizes; obtain ⟨p0, p1, p2, p3, p4, p5⟩ := prog_cells ht8.one; obtain ⟨q0, q1, q2, q3, q4, q5⟩ := prog_cells ht8.two; obtain ⟨r0, r1, r2, r3, r4, r5⟩ := prog_cells ht8.three)))
              go_ret
              exact ⟨rfl, (ht8.next (alc1 _ _)).below⟩
        · obtain ⟨E, hEE⟩ : ∃ E, progE p = E := ⟨_, rfl⟩
          have hs : sameE p p 0 = E := by unfold sameE; rw [if_pos hE, hEE]
          have hm : sameM p p 0 = zeroMv := by unfold sameM; rw [hs, if_neg (by rw [← hEE]; exact hE)]
          have hEz : (E != 0) = true := by rw [← hEE]; simpa using hE
          have s1 : ∀ W V U, IsProg W V p → IsProg W U p → Calls Try.prog 45 #[V, U, .int .u8 0] W fun e w' => e = .returned (.tuple #[.agg #[.int .i64 0, .int .i64 0, .bool false, .bool false], .int .i64 E]) ∧ Below W.heap.size W w' := fun W V U h k => by have h2 := pf_pat_Same V U p p 0 W h k E hs; rw [hm] at h2; exact h2
          have hck : ∀ W V, IsProg W V p → Calls Try.prog 22 #[V] W fun e w' => e = .returned (.int .i64 E) ∧ Below W.heap.size W w' := fun W V h => pf_pat_Check V p W h E hEE
          clear hE hEE hs hm
          have hG1' := Lib.hid hG1
          have hG2' := Lib.hid hG2
          have hG3' := Lib.hid hG3
          have s1' := Lib.hid s1
          have hck' := Lib.hid hck
          clear hck s1 hG3 hG2 hG1
          go_enter Try.func10, Try.ntmps10
          go_wp2_with (first | (go_at_call 37; ((with_reducible refine (pf_alive _).mono ?_); rintro e w' ⟨rfl, hb⟩; have ht2 := ht.next hb; clear hb ht; obtain ⟨z0, z1, z2⟩ := ht2.sizes; obtain ⟨p0, p1, p2, p3, p4, p5⟩ := prog_cells ht2.one; obtain ⟨q0, q1, q2, q3, q4, q5⟩ := prog_cells ht2.two; obtain ⟨r0, r1, r2, r3, r4, r5⟩ := prog_cells ht2.three)) | (go_at_call 14; ((with_reducible refine (pf_r4_Great _ p _ (hp0.out.below ht2.below)).mono ?_); rintro e w' ⟨rfl, hb⟩; rw [hG1'.out]; have ht3 := ht2.next hb; clear hb ht2 z0 z1 z2 p0 p1 p2 p3 p4 p5 q0 q1 q2 q3 q4 q5 r0 r1 r2 r3 r4 r5; obtain ⟨z0, z1, z2⟩ := ht3.sizes; obtain ⟨p0, p1, p2, p3, p4, p5⟩ := prog_cells ht3.one; obtain ⟨q0, q1, q2, q3, q4, q5⟩ := prog_cells ht3.two; obtain ⟨r0, r1, r2, r3, r4, r5⟩ := prog_cells ht3.three)) | (go_at_call 14; ((with_reducible refine (pf_r4_Great _ q _ (hq0.out.below ht3.below)).mono ?_); rintro e w' ⟨rfl, hb⟩; rw [hG2'.out]; have ht4 := ht3.next hb; clear hb ht3 z0 z1 z2 p0 p1 p2 p3 p4 p5 q0 q1 q2 q3 q4 q5 r0 r1 r2 r3 r4 r5; obtain ⟨z0, z1, z2⟩ := ht4.sizes; obtain ⟨p0, p1, p2, p3, p4, p5⟩ := prog_cells ht4.one; obtain ⟨q0, q1, q2, q3, q4, q5⟩ := prog_cells ht4.two; obtain ⟨r0, r1, r2, r3, r4, r5⟩ := prog_cells ht4.three)) | (go_at_call 14; ((with_reducible refine (pf_r4_Great _ r _ (hr0.out.below ht4.below)).mono ?_); rintro e w' ⟨rfl, hb⟩; rw [hG3'.out]; have ht5 := ht4.next hb; clear hb ht4 z0 z1 z2 p0 p1 p2 p3 p4 p5 q0 q1 q2 q3 q4 q5 r0 r1 r2 r3 r4 r5; obtain ⟨z0, z1, z2⟩ := ht5.sizes; obtain ⟨p0, p1, p2, p3, p4, p5⟩ := prog_cells ht5.one; obtain ⟨q0, q1, q2, q3, q4, q5⟩ := prog_cells ht5.two; obtain ⟨r0, r1, r2, r3, r4, r5⟩ := prog_cells ht5.three)) | (go_at_call 45; ((with_reducible refine (s1'.out _ _ _ (hp0.out.below ht5.below) (hp0.out.below ht5.below)).mono ?_); rintro e w' ⟨rfl, hb⟩; have ht6 := ht5.next hb; clear hb ht5 z0 z1 z2 p0 p1 p2 p3 p4 p5 q0 q1 q2 q3 q4 q5 r0 r1 r2 r3 r4 r5; obtain ⟨z0, z1, z2⟩ := ht6.sizes; obtain ⟨p0, p1, p2, p3, p4, p5⟩ := prog_cells ht6.one; obtain ⟨q0, q1, q2, q3, q4, q5⟩ := prog_cells ht6.two; obtain ⟨r0, r1, r2, r3, r4, r5⟩ := prog_cells ht6.three)) | (go_at_call 22; ((with_reducible refine (hck'.out _ _ (hp0.out.below (ht6.next (alc1 _ _)).below)).mono ?_); rintro e w' ⟨rfl, hb⟩; have ht7 := (ht6.next (alc1 _ _)).next hb)))
          go_ret
          exact ⟨rfl, ht7.below⟩
theorem law_PatternCarries (a0 : Prog) (x0 : Value) (a1 : Prog) (x1 : Value) (a2 : Prog) (x2 : Value) (a3 a4 : Int) (w : World) (w0 : IsProg w x0 a0 ∧ a0.fits) (w1 : IsProg w x1 a1 ∧ a1.fits) (w2 : IsProg w x2 a2 ∧ a2.fits) (w3 : (Lit.int .u8 a3).wf = true) (w4 : (Lit.int .u8 a4).wf = true) :
    Calls Try.prog 10 #[x0, x1, x2, .int .u8 a3, .int .u8 a4] w fun e w' => e = .returned (.bool true) ∧ Below w.heap.size w w' := by
  have h1' : IntKind.u8.min ≤ a3 ∧ a3 ≤ IntKind.u8.max := by simpa [Lit.wf] using w3
  have h2' : IntKind.u8.min ≤ a4 ∧ a4 ≤ IntKind.u8.max := by simpa [Lit.wf] using w4
  have h1 : 0 ≤ a3 ∧ a3 ≤ 255 := h1'
  have h2 : 0 ≤ a4 ∧ a4 ≤ 255 := h2'
  obtain ⟨n, rfl⟩ : ∃ n : Nat, a3 = n := ⟨a3.toNat, by omega⟩
  obtain ⟨m, rfl⟩ : ∃ n : Nat, a4 = n := ⟨a4.toNat, by omega⟩
  exact walk_PatternCarries a0 a1 a2 x0 x1 x2 n m w w0.1 w1.1 w2.1 (by omega) (by omega)

end Go.Proofs.Ytnboppombhibbaa
