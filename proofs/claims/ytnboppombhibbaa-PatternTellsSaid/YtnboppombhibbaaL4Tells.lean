/- The law PatternTells: its walk. -/
import Derived.Test.YtnboppombhibbaaL4Cuts
import Derived.Test.YtnboppombhibbaaP4Kind
import Derived.Test.YtnboppombhibbaaP4Gap2
namespace Go.Proofs.Ytnboppombhibbaa
open Go.RowKit
set_option linter.unusedVariables false
set_option linter.unusedSimpArgs false
set_option maxRecDepth 100000 in
set_option maxHeartbeats 4000000 in
theorem walk_PatternTells (p : Prog) (v : Value) (w : World) (hv : IsProg w v p) :
    Calls Try.prog 5 #[v] w fun e w' => e = .returned (.bool true) ∧ Below w.heap.size w w' := by
  have hp0 := Lib.hid hv
  obtain ⟨v0, v1, v5, rfl, h0, h1, h5⟩ := hv
  clear h0 h1 h5
  obtain ⟨G, hG⟩ : ∃ G, greatB p = G := ⟨_, rfl⟩
  cases G with
  | true =>
    have hG' := Lib.hid hG
    clear hG
    go_enter Try.func5, Try.ntmps5
    go_wp2_with (first | (go_at_call 14; ((with_reducible refine (pf_r4_Great _ p _ (hp0.out.below (alc1 _ _))).mono ?_); rintro e w' ⟨rfl, hb⟩; rw [hG'.out])))
    go_ret
    exact ⟨rfl, ((Box.start w _).next hb).below⟩
  | false =>
    obtain ⟨l0, l1, l5⟩ := great_false hG
    obtain ⟨E, hE⟩ : ∃ F, progE p = F := ⟨_, rfl⟩
    obtain ⟨n1, hn1⟩ : ∃ n, onOkI E (closeN p) = n := ⟨_, rfl⟩
    obtain ⟨n2, hn2⟩ : ∃ n, onOkI E (motifN p) = n := ⟨_, rfl⟩
    obtain ⟨n3, hn3⟩ : ∃ n, onOkI E (turnI p) = n := ⟨_, rfl⟩
    obtain ⟨n4, hn4⟩ : ∃ n, onOkI E (kindI p) = n := ⟨_, rfl⟩
    obtain ⟨n5, hn5⟩ : ∃ n, onOkI E (gapI p) = n := ⟨_, rfl⟩
    have hc1 : ∀ W V, IsProg W V p → Calls Try.prog 29 #[V] W fun e w' => e = .returned (.tuple #[.int .i64 n1, .int .i64 E]) ∧ Below W.heap.size W w' := fun W V h => by simpa only [hn1, hn2, hn3, hn4, hn5] using pf_pat_Closes V p W h E hE
    have hc2 : ∀ W V, IsProg W V p → Calls Try.prog 30 #[V] W fun e w' => e = .returned (.tuple #[.int .i64 n1, .int .i64 E]) ∧ Below W.heap.size W w' := fun W V h => by simpa only [hn1, hn2, hn3, hn4, hn5] using pf_r4_Closes V p W h E hE
    have hc3 : ∀ W V, IsProg W V p → Calls Try.prog 31 #[V] W fun e w' => e = .returned (.tuple #[.int .i64 n2, .int .i64 n3, .int .i64 E]) ∧ Below W.heap.size W w' := fun W V h => by simpa only [hn1, hn2, hn3, hn4, hn5] using pf_pat_Motif V p W h E hE
    have hc4 : ∀ W V, IsProg W V p → Calls Try.prog 32 #[V] W fun e w' => e = .returned (.tuple #[.int .i64 n2, .int .i64 n3, .int .i64 E]) ∧ Below W.heap.size W w' := fun W V h => by simpa only [hn1, hn2, hn3, hn4, hn5] using pf_r4_Motif V p W h E hE
    have hc5 : ∀ W V, IsProg W V p → Calls Try.prog 33 #[V] W fun e w' => e = .returned (.tuple #[.int .u8 n4, .int .i64 E]) ∧ Below W.heap.size W w' := fun W V h => by simpa only [hn1, hn2, hn3, hn4, hn5] using pf_pat_Kind V p W h E hE
    have hc6 : ∀ W V, IsProg W V p → Calls Try.prog 34 #[V] W fun e w' => e = .returned (.tuple #[.int .u8 n4, .int .i64 E]) ∧ Below W.heap.size W w' := fun W V h => by simpa only [hn1, hn2, hn3, hn4, hn5] using pf_r4_Kind V p W h E hE
    have hc7 : ∀ W V, IsProg W V p → Calls Try.prog 35 #[V] W fun e w' => e = .returned (.tuple #[.int .i64 n5, .int .i64 E]) ∧ Below W.heap.size W w' := fun W V h => by simpa only [hn1, hn2, hn3, hn4, hn5] using pf_pat_Gap V p W h E hE
    have hc8 : ∀ W V, IsProg W V p → Calls Try.prog 36 #[V] W fun e w' => e = .returned (.tuple #[.int .i64 n5, .int .i64 E]) ∧ Below W.heap.size W w' := fun W V h => by simpa only [hn1, hn2, hn3, hn4, hn5] using pf_r4_Gap V p W h E hE
    have hG' := Lib.hid hG
    have hc1' := Lib.hid hc1
    have hc2' := Lib.hid hc2
    have hc3' := Lib.hid hc3
    have hc4' := Lib.hid hc4
    have hc5' := Lib.hid hc5
    have hc6' := Lib.hid hc6
    have hc7' := Lib.hid hc7
    have hc8' := Lib.hid hc8
    clear hc8 hc7 hc6 hc5 hc4 hc3 hc2 hc1 hG
    clear hn1 hn2 hn3 hn4 hn5 hE
    go_enter Try.func5, Try.ntmps5
    go_wp2_with (first | (go_at_call 14; ((with_reducible refine (pf_r4_Great _ p _ (hp0.out.below (alc1 _ _))).mono ?_); rintro e w' ⟨rfl, hb⟩; rw [hG'.out]; have hx := (Box.start w _).next hb; obtain ⟨p0, p1, p2, p3, p4, p5⟩ := hx.prog; clear hb)) | (go_at_call 15; ((with_reducible refine (pf_r4_Twin _ p _ (hp0.out.below hx.below) ⟨by omega, by omega, by omega⟩).mono ?_); rintro e w' ⟨u, rfl, hb, hq⟩; have hx := hx.next hb; obtain ⟨A0, c0, A1, c1, A5, c5, rfl⟩ := hq.open; have hq0 := Lib.hid hq; clear hb hq p0 p1 p2 p3 p4 p5)))
    have hy := Box.start w' (.cells #[.slice A0 p.ros.length c0, .slice A1 p.rub.length c1, .int .i64 p.start, .int .i64 p.throw, .int .i64 p.adv, .slice A5 p.shifts.length c5] 24)
    replace hx := hx.alloc (.cells #[.slice A0 p.ros.length c0, .slice A1 p.rub.length c1, .int .i64 p.start, .int .i64 p.throw, .int .i64 p.adv, .slice A5 p.shifts.length c5] 24)
    generalize w'.alloc (.cells #[.slice A0 p.ros.length c0, .slice A1 p.rub.length c1, .int .i64 p.start, .int .i64 p.throw, .int .i64 p.adv, .slice A5 p.shifts.length c5] 24) = W1 at hx hy ⊢
    obtain ⟨p0, p1, p2, p3, p4, p5⟩ := hx.prog
    obtain ⟨q0, q1, q2, q3, q4, q5⟩ := hy.prog
    go_wp2_with (first | (go_at_call 29; ((with_reducible refine (hc1'.out _ _ (hq0.out.below hy.below)).mono ?_); rintro e w' ⟨rfl, hb⟩; have hx := hx.next hb; have hy := hy.next hb; clear hb; obtain ⟨p0, p1, p2, p3, p4, p5⟩ := hx.prog; obtain ⟨q0, q1, q2, q3, q4, q5⟩ := hy.prog)) | (go_at_call 30; ((with_reducible refine (hc2'.out _ _ (hp0.out.below hx.below)).mono ?_); rintro e w' ⟨rfl, hb⟩; have hx := hx.next hb; have hy := hy.next hb; clear hb; obtain ⟨p0, p1, p2, p3, p4, p5⟩ := hx.prog; obtain ⟨q0, q1, q2, q3, q4, q5⟩ := hy.prog)) | (go_at_call 31; ((with_reducible refine (hc3'.out _ _ (hq0.out.below hy.below)).mono ?_); rintro e w' ⟨rfl, hb⟩; have hx := hx.next hb; have hy := hy.next hb; clear hb; obtain ⟨p0, p1, p2, p3, p4, p5⟩ := hx.prog; obtain ⟨q0, q1, q2, q3, q4, q5⟩ := hy.prog)) | (go_at_call 32; ((with_reducible refine (hc4'.out _ _ (hp0.out.below hx.below)).mono ?_); rintro e w' ⟨rfl, hb⟩; have hx := hx.next hb; have hy := hy.next hb; clear hb; obtain ⟨p0, p1, p2, p3, p4, p5⟩ := hx.prog; obtain ⟨q0, q1, q2, q3, q4, q5⟩ := hy.prog)) | (go_at_call 33; ((with_reducible refine (hc5'.out _ _ (hq0.out.below hy.below)).mono ?_); rintro e w' ⟨rfl, hb⟩; have hx := hx.next hb; have hy := hy.next hb; clear hb; obtain ⟨p0, p1, p2, p3, p4, p5⟩ := hx.prog; obtain ⟨q0, q1, q2, q3, q4, q5⟩ := hy.prog)) | (go_at_call 34; ((with_reducible refine (hc6'.out _ _ (hp0.out.below hx.below)).mono ?_); rintro e w' ⟨rfl, hb⟩; have hx := hx.next hb; have hy := hy.next hb; clear hb; obtain ⟨p0, p1, p2, p3, p4, p5⟩ := hx.prog; obtain ⟨q0, q1, q2, q3, q4, q5⟩ := hy.prog)) | (go_at_call 35; ((with_reducible refine (hc7'.out _ _ (hq0.out.below hy.below)).mono ?_); rintro e w' ⟨rfl, hb⟩; have hx := hx.next hb; have hy := hy.next hb; clear hb; obtain ⟨p0, p1, p2, p3, p4, p5⟩ := hx.prog; obtain ⟨q0, q1, q2, q3, q4, q5⟩ := hy.prog)) | (go_at_call 36; ((with_reducible refine (hc8'.out _ _ (hp0.out.below hx.below)).mono ?_); rintro e w' ⟨rfl, hb⟩; have hx := hx.next hb; have hy := hy.next hb; clear hb; obtain ⟨p0, p1, p2, p3, p4, p5⟩ := hx.prog; obtain ⟨q0, q1, q2, q3, q4, q5⟩ := hy.prog)) | (go_at_call 26; ((with_reducible refine (pf_r4_SameProgram _ _ p _ (hq0.out.below hy.below) (hp0.out.below hx.below)).mono ?_); rintro e w' ⟨rfl, hb⟩)))
    go_ret
    exact ⟨rfl, (hx.next hb).below⟩
theorem law_PatternTells (a0 : Prog) (x0 : Value) (w : World) (w0 : IsProg w x0 a0 ∧ a0.fits) :
    Calls Try.prog 5 #[x0] w fun e w' => e = .returned (.bool true) ∧ Below w.heap.size w w' := walk_PatternTells a0 x0 w w0.1
end Go.Proofs.Ytnboppombhibbaa
