/- The law PatternPairs: its walk. -/
import Derived.Test.YtnboppombhibbaaL4Cuts
import Derived.Test.YtnboppombhibbaaP4Moire2
namespace Go.Proofs.Ytnboppombhibbaa
open Go.RowKit
set_option linter.unusedVariables false
set_option linter.unusedSimpArgs false
set_option maxRecDepth 100000 in
set_option maxHeartbeats 2000000 in
theorem walk_PatternPairs (p q : Prog) (vp vq : Value) (w : World) (hvp : IsProg w vp p) (hvq : IsProg w vq q) :
    Calls Try.prog 4 #[vp, vq] w fun e w' => e = .returned (.bool true) ∧ Below w.heap.size w w' := by
  have hp0 := Lib.hid hvp
  have hq0 := Lib.hid hvq
  obtain ⟨v0, v1, v5, rfl, h0, h1, h5⟩ := hvp
  obtain ⟨u0, u1, u5, rfl, k0, k1, k5⟩ := hvq
  clear h0 h1 h5 k0 k1 k5
  obtain ⟨G1, hG1⟩ : ∃ G, greatB p = G := ⟨_, rfl⟩
  obtain ⟨G2, hG2⟩ : ∃ G, greatB q = G := ⟨_, rfl⟩
  obtain ⟨E, hE⟩ : ∃ F, moireE p q = F := ⟨_, rfl⟩
  obtain ⟨n1, hn1⟩ : ∃ n, onOkI E (togetherN p q) = n := ⟨_, rfl⟩
  obtain ⟨n2, hn2⟩ : ∃ n, onOkI E (beatN p q) = n := ⟨_, rfl⟩
  have hc1 : ∀ W V U, IsProg W V p → IsProg W U q → Calls Try.prog 27 #[V, U] W fun e w' => e = .returned (.tuple #[.int .i64 n1, .int .i64 n2, .int .i64 E]) ∧ Below W.heap.size W w' := fun W V U h k => by simpa only [hn1, hn2] using pf_pat_Moire V U p q W h k E hE
  have hc2 : ∀ W V U, IsProg W V p → IsProg W U q → Calls Try.prog 28 #[V, U] W fun e w' => e = .returned (.tuple #[.int .i64 n1, .int .i64 n2, .int .i64 E]) ∧ Below W.heap.size W w' := fun W V U h k => by simpa only [hn1, hn2] using pf_r4_Moire V U p q W h k E hE
  clear hn1 hn2 hE
  have hG1' := Lib.hid hG1
  have hG2' := Lib.hid hG2
  have hc1' := Lib.hid hc1
  have hc2' := Lib.hid hc2
  clear hc2 hc1 hG2 hG1
  have ht := Twins.start w #[v0, v1, .int .i64 p.start, .int .i64 p.throw, .int .i64 p.adv, v5] #[u0, u1, .int .i64 q.start, .int .i64 q.throw, .int .i64 q.adv, u5]
  cases G1 with
  | true =>
    go_enter Try.func4, Try.ntmps4
    go_wp2_with (first | (go_at_call 14; ((with_reducible refine (pf_r4_Great _ p _ (hp0.out.below ht.below)).mono ?_); rintro e w' ⟨rfl, hb⟩; rw [hG1'.out])))
    go_ret
    exact ⟨rfl, (ht.next hb).below⟩
  | false =>
    cases G2 with
    | true =>
      go_enter Try.func4, Try.ntmps4
      go_wp2_with (first | (go_at_call 14; ((with_reducible refine (pf_r4_Great _ p _ (hp0.out.below ht.below)).mono ?_); rintro e w' ⟨rfl, hb⟩; rw [hG1'.out]; have ht2 := ht.next hb; obtain ⟨r0, r1, r2, r3, r4, r5⟩ := prog_cells ht2.out; clear hb ht)) | (go_at_call 14; ((with_reducible refine (pf_r4_Great _ q _ (hq0.out.below ht2.below)).mono ?_); rintro e w' ⟨rfl, hb⟩; rw [hG2'.out])))
      go_ret
      exact ⟨rfl, (ht2.next hb).below⟩
    | false =>
      go_enter Try.func4, Try.ntmps4
      go_wp2_with (first | (go_at_call 14; ((with_reducible refine (pf_r4_Great _ p _ (hp0.out.below ht.below)).mono ?_); rintro e w' ⟨rfl, hb⟩; rw [hG1'.out]; have ht2 := ht.next hb; obtain ⟨r0, r1, r2, r3, r4, r5⟩ := prog_cells ht2.out; clear hb ht)) | (go_at_call 14; ((with_reducible refine (pf_r4_Great _ q _ (hq0.out.below ht2.below)).mono ?_); rintro e w' ⟨rfl, hb⟩; rw [hG2'.out]; have ht3 := ht2.next hb; obtain ⟨r0, r1, r2, r3, r4, r5⟩ := prog_cells ht3.out; obtain ⟨p0, p1, p2, p3, p4, p5⟩ := prog_cells ht3.box; clear hb ht2)) | (go_at_call 27; ((with_reducible refine (hc1'.out _ _ _ (hp0.out.below ht3.below) (hq0.out.below ht3.below)).mono ?_); rintro e w' ⟨rfl, hb⟩; have ht4 := ht3.next hb; clear hb ht3 p0 p1 p2 p3 p4 p5 r0 r1 r2 r3 r4 r5; obtain ⟨r0, r1, r2, r3, r4, r5⟩ := prog_cells ht4.out; obtain ⟨p0, p1, p2, p3, p4, p5⟩ := prog_cells ht4.box)) | (go_at_call 28; ((with_reducible refine (hc2'.out _ _ _ (hp0.out.below ht4.below) (hq0.out.below ht4.below)).mono ?_); rintro e w' ⟨rfl, hb⟩)))
      go_ret
      exact ⟨rfl, (ht4.next hb).below⟩
theorem law_PatternPairs (a0 : Prog) (x0 : Value) (a1 : Prog) (x1 : Value) (w : World) (w0 : IsProg w x0 a0 ∧ a0.fits) (w1 : IsProg w x1 a1 ∧ a1.fits) :
    Calls Try.prog 4 #[x0, x1] w fun e w' => e = .returned (.bool true) ∧ Below w.heap.size w w' := walk_PatternPairs a0 a1 x0 x1 w w0.1 w1.1
end Go.Proofs.Ytnboppombhibbaa
