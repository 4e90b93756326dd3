/- The law PatternCuts: its walk. -/
import Derived.Test.YtnboppombhibbaaL4Small
import Derived.Test.YtnboppombhibbaaP4Phases
import Derived.Test.YtnboppombhibbaaQTail
namespace Go.Proofs.Ytnboppombhibbaa
open Go.RowKit
set_option linter.unusedVariables false
set_option linter.unusedSimpArgs false
theorem great_false {p : Prog} (h : greatB p = false) : p.ros.length ≤ 120 ∧ p.rub.length ≤ 120 ∧ p.shifts.length ≤ 20 := by
  unfold greatB at h
  simp only [Bool.or_eq_false_iff, decide_eq_false_iff_not] at h
  omega
/-- A program of some value is one of slices that are written out. -/
theorem IsProg.open {w : World} {v : Value} {p : Prog} (h : IsProg w v p) : ∃ A0 c0 A1 c1 A5 c5, v = .agg #[.slice A0 p.ros.length c0, .slice A1 p.rub.length c1, .int .i64 p.start, .int .i64 p.throw, .int .i64 p.adv, .slice A5 p.shifts.length c5] := by
  obtain ⟨v0, v1, v5, rfl, ⟨A0, c0, rfl, _⟩, ⟨A1, c1, rfl, _⟩, ⟨A5, c5, rfl, _⟩⟩ := h
  exact ⟨A0, c0, A1, c1, A5, c5, rfl⟩
theorem same_true {v v' : Value} {xs : List Int} {w : World} (hx : Ints w v xs) (hy : Ints w v' xs) :
    Calls Try.prog 24 #[v, v'] w fun e w' => e = .returned (.bool true) ∧ ∃ n, w' = w.drewN n := by
  have h := pf_l4_same v v' xs xs w hx hy
  rwa [show (xs == xs) = true by simp] at h
theorem onOk_len {E : Int} {l : List Int} {n : Nat} (h : E = 0 → l.length ≤ n) : (onOk E l).length ≤ n := by
  unfold onOk
  split
  · exact h ‹_›
  · simp
theorem own_ne2 {A B C : Nat} {va vc : Value} {w : World} {e n size : Nat} {xs : List Value} (hz : ∀ k, va.ownBlock = some k → A ≤ k ∧ k < B) (h : w.ownsRow C e size vc n xs) (hBC : B ≤ C) : vc.ownBlock = none ∨ vc.ownBlock ≠ va.ownBlock := by
  cases hc : vc.ownBlock with
  | none => exact .inl rfl
  | some k =>
    refine .inr fun he => ?_
    have h1 := (h.lt k hc).1
    have h2 := (hz k he.symm).2
    omega
theorem phasesE_n {p : Prog} {a n : Int} (h : phasesE p a n = 0) : n.toNat ≤ 200 := by
  unfold phasesE at h
  split at h
  · exact absurd h ‹_›
  · split at h
    · rename_i h2
      simp only [Bool.and_eq_true, within_iff] at h2
      omega
    · cases h
set_option maxRecDepth 100000 in
set_option maxHeartbeats 4000000 in
theorem walk_PatternCuts (p : Prog) (v : Value) (from0 n0 j0 : Int) (w : World) (hv : IsProg w v p) :
    Calls Try.prog 3 #[v, .int .i64 from0, .int .i64 n0, .int .i64 j0] w fun e w' => e = .returned (.bool true) ∧ Below w.heap.size w w' := by
  have hp0 := Lib.hid hv
  obtain ⟨v0, v1, v5, rfl, h0, h1, h5⟩ := hv
  clear h0 h1 h5
  obtain ⟨G, hG⟩ : ∃ G, greatB p = G := ⟨_, rfl⟩
  cases G with
  | true =>
    have hG' := Lib.hid hG
    clear hG
    go_enter Try.func3, Try.ntmps3
    go_wp2_with (first | (go_at_call 14; ((with_reducible refine (pf_r4_Great _ p _ (hp0.out.below (alc1 _ _))).mono ?_); rintro e w' ⟨rfl, hb⟩; rw [hG'.out])))
    go_ret
    exact ⟨rfl, ((Box.start w _).next hb).below⟩
  | false =>
    obtain ⟨l0, l1, l5⟩ := great_false hG
    obtain ⟨F1, hF1⟩ : ∃ F, progE p = F := ⟨_, rfl⟩
    obtain ⟨F2, hF2⟩ : ∃ F, phasesE p from0 n0 = F := ⟨_, rfl⟩
    obtain ⟨F3, hF3⟩ : ∃ F, cutE p j0 = F := ⟨_, rfl⟩
    have hG' := Lib.hid hG
    have hF1' := Lib.hid hF1
    have hF2' := Lib.hid hF2
    have hF3' := Lib.hid hF3
    clear hF3 hF2 hF1 hG
    go_enter Try.func3, Try.ntmps3
    go_wp2_with (first | (go_at_call 14; ((with_reducible refine (pf_r4_Great _ p _ (hp0.out.below (alc1 _ _))).mono ?_); rintro e w' ⟨rfl, hb⟩; rw [hG'.out]; have hx := (Box.start w _).next hb; obtain ⟨p0, p1, p2, p3, p4, p5⟩ := hx.prog; clear hb)) | (go_at_call 15; ((with_reducible refine (pf_r4_Twin _ p _ (hp0.out.below hx.below) ⟨by omega, by omega, by omega⟩).mono ?_); rintro e w' ⟨u, rfl, hb, hq⟩; have hx := hx.next hb; obtain ⟨A0, c0, A1, c1, A5, c5, rfl⟩ := hq.open; have hq0 := Lib.hid hq; clear hb hq p0 p1 p2 p3 p4 p5)))
    have hy := Box.start w' (.cells #[.slice A0 p.ros.length c0, .slice A1 p.rub.length c1, .int .i64 p.start, .int .i64 p.throw, .int .i64 p.adv, .slice A5 p.shifts.length c5] 24)
    replace hx := hx.alloc (.cells #[.slice A0 p.ros.length c0, .slice A1 p.rub.length c1, .int .i64 p.start, .int .i64 p.throw, .int .i64 p.adv, .slice A5 p.shifts.length c5] 24)
    have hs1 : w'.heap.size < (w'.alloc (.cells #[.slice A0 p.ros.length c0, .slice A1 p.rub.length c1, .int .i64 p.start, .int .i64 p.throw, .int .i64 p.adv, .slice A5 p.shifts.length c5] 24)).heap.size := by simp
    generalize w'.alloc (.cells #[.slice A0 p.ros.length c0, .slice A1 p.rub.length c1, .int .i64 p.start, .int .i64 p.throw, .int .i64 p.adv, .slice A5 p.shifts.length c5] 24) = W1 at hx hy hs1 ⊢
    have hs0 := hx.lt
    obtain ⟨p0, p1, p2, p3, p4, p5⟩ := hx.prog
    obtain ⟨q0, q1, q2, q3, q4, q5⟩ := hy.prog
    go_wp2_with (first | (go_at_call 16; ((with_reducible refine (pf_pat_Lift _ p _ (hq0.out.below hy.below) F1 hF1'.out).mono ?_); rintro e w' ⟨va, rfl, hb, hoa⟩; have m1 := hb.size; have ha := Lib.hid hoa; have za := Lib.hid hoa.lt; have hx := hx.next hb; have hy := hy.next hb; obtain ⟨p0, p1, p2, p3, p4, p5⟩ := hx.prog; obtain ⟨q0, q1, q2, q3, q4, q5⟩ := hy.prog; clear hoa hb)) | (go_at_call 17; ((with_reducible refine (pf_r4_Lift _ p _ (hp0.out.below hx.below) F1 hF1'.out).mono ?_); rintro e w' ⟨vb, rfl, hb, hob⟩; have m2 := hb.size; have ha := Lib.hid (own_below ha.out hb); have hB := Lib.hid hob; have hx := hx.next hb; have hy := hy.next hb; obtain ⟨p0, p1, p2, p3, p4, p5⟩ := hx.prog; obtain ⟨q0, q1, q2, q3, q4, q5⟩ := hy.prog; clear hob hb)) | (go_at_call 18; ((with_reducible refine (pf_pat_Phases _ p from0 n0 _ (hq0.out.below hy.below) F2 hF2'.out).mono ?_); rintro e w' ⟨vc, rfl, hb, hoc⟩; have m3 := hb.size; have ha := Lib.hid (own_below ha.out hb); have hB := Lib.hid (hB.out.below hb); have hc := Lib.hid hoc; have zc := Lib.hid hoc.lt; have hx := hx.next hb; have hy := hy.next hb; obtain ⟨p0, p1, p2, p3, p4, p5⟩ := hx.prog; obtain ⟨q0, q1, q2, q3, q4, q5⟩ := hy.prog; clear hoc hb)) | (go_at_call 19; ((with_reducible refine (pf_r4_Phases _ p from0 n0 _ (hp0.out.below hx.below) F2 hF2'.out).mono ?_); rintro e w' ⟨vd, rfl, hb, hod⟩; have m4 := hb.size; have ha := Lib.hid (own_below ha.out hb); have hc := Lib.hid (own_below hc.out hb); have hB := Lib.hid (hB.out.below hb); have hD := Lib.hid hod; have hx := hx.next hb; have hy := hy.next hb; obtain ⟨p0, p1, p2, p3, p4, p5⟩ := hx.prog; obtain ⟨q0, q1, q2, q3, q4, q5⟩ := hy.prog; clear hod hb)) | (go_at_call 20; ((with_reducible refine (pf_pat_Cut _ p j0 _ (hq0.out.below hy.below) F3 hF3'.out).mono ?_); rintro e w' ⟨vk, rfl, hb, hok⟩; have m5 := hb.size; have ha := Lib.hid (own_below ha.out hb); have hc := Lib.hid (own_below hc.out hb); have hB := Lib.hid (hB.out.below hb); have hD := Lib.hid (hD.out.below hb); have hk := Lib.hid hok; have hx := hx.next hb; have hy := hy.next hb; obtain ⟨p0, p1, p2, p3, p4, p5⟩ := hx.prog; obtain ⟨q0, q1, q2, q3, q4, q5⟩ := hy.prog; clear hok hb)) | (go_at_call 21; ((with_reducible refine (pf_r4_Cut _ p j0 _ (hp0.out.below hx.below) F3 hF3'.out).mono ?_); rintro e w' ⟨vl, rfl, hb, hol⟩; have m6 := hb.size; have ha := Lib.hid (own_below ha.out hb); have hc := Lib.hid (own_below hc.out hb); have hk := Lib.hid (own_below hk.out hb); have hB := Lib.hid (hB.out.below hb); have hD := Lib.hid (hD.out.below hb); have hL := Lib.hid hol; have hx := hx.next hb; have hy := hy.next hb; obtain ⟨p0, p1, p2, p3, p4, p5⟩ := hx.prog; obtain ⟨q0, q1, q2, q3, q4, q5⟩ := hy.prog; clear hol hb)))
    clear p0 p1 p2 p3 p4 p5 q0 q1 q2 q3 q4 q5
    obtain ⟨ι, fam, hne, hf1, hf2, hf0⟩ := fam_below w'.heap.size w' (Nat.le_refl _)
    have P0 := fun n => (hx.next (hf1 n)).prog.1
    have P1 := fun n => (hx.next (hf1 n)).prog.2.1
    have P2 := fun n => (hx.next (hf1 n)).prog.2.2.1
    have P3 := fun n => (hx.next (hf1 n)).prog.2.2.2.1
    have P4 := fun n => (hx.next (hf1 n)).prog.2.2.2.2.1
    have P5 := fun n => (hx.next (hf1 n)).prog.2.2.2.2.2
    have Q0 := fun n => (hy.next (hf1 n)).prog.1
    have Q1 := fun n => (hy.next (hf1 n)).prog.2.1
    have Q2 := fun n => (hy.next (hf1 n)).prog.2.2.1
    have Q3 := fun n => (hy.next (hf1 n)).prog.2.2.2.1
    have Q4 := fun n => (hy.next (hf1 n)).prog.2.2.2.2.1
    have Q5 := fun n => (hy.next (hf1 n)).prog.2.2.2.2.2
    have hf1' := Lib.hid hf1
    have hf2' := Lib.hid hf2
    clear hf2 hf1
    refine wp_region_fam hf0 (by kernel_rfl) (by kernel_rfl) ?_
    repeat (go_big_quiet_step (first | (go_at_call 22; exact fam_call hf2'.out (pf_pat_Check _ p _ (hq0.out.below (hy.next (hf1'.out _)).below) F1 hF1'.out)) | (go_at_call 23; exact fam_call hf2'.out (pf_r4_Check _ p _ (hp0.out.below (hx.next (hf1'.out _)).below) F1 hF1'.out)) | (go_at_call 24; first | exact fam_drew hf2'.out (same_true (own_ints (own_below ha.out (hf1'.out _))) (hB.out.below (hf1'.out _))) | exact fam_drew hf2'.out (same_true (own_ints (own_below hc.out (hf1'.out _))) (hD.out.below (hf1'.out _))) | exact fam_drew hf2'.out (same_true (own_ints (own_below hk.out (hf1'.out _))) (hL.out.below (hf1'.out _))))))
    refine wpQuiet_nil ?_
    intro nq
    clear P0 P1 P2 P3 P4 P5 Q0 Q1 Q2 Q3 Q4 Q5 hf0
    have hW := hf1'.out nq
    generalize fam nq = W9 at hW ⊢
    clear hf1' hf2'
    replace hx := hx.next hW
    replace hy := hy.next hW
    have ha := Lib.hid (own_below ha.out hW)
    have hc := Lib.hid (own_below hc.out hW)
    have hk := Lib.hid (own_below hk.out hW)
    have e1 := onOk_len (E := F1) (l := liftL p.ros p.rub) (n := 1000000) (fun _ => by rw [liftL_length]; omega)
    have e2 := onOk_len (E := F2) (l := phasesL p from0 n0.toNat) (n := 1000000) (fun h => by rw [phasesL_length]; have := phasesE_n (hF2'.out.trans h); omega)
    have e3 := onOk_len (E := F3) (l := cutL p j0) (n := 1000000) (fun _ => by rw [cutL_length]; omega)
    generalize onOk F1 (liftL p.ros p.rub) = L1 at ha e1
    generalize onOk F2 (phasesL p from0 n0.toNat) = L2 at hc zc e2
    generalize onOk F3 (cutL p j0) = L3 at hk e3
    have m9 := hW.size
    clear hW hB hD hL
    go_wp2_with (first | (go_at_call 25; ((with_reducible refine (pf_l4_erase va L1 _ W1.heap.size ha.out e1).mono ?_); rintro e w' ⟨rfl, hb, hg⟩)))
    have hc := Lib.hid (hc.out.kept hg (own_ne2 za.out hc.out (by omega)))
    have hk := Lib.hid (hk.out.kept hg (own_ne2 za.out hk.out (by omega)))
    replace hx := hx.nextB hb (by omega) (by omega)
    replace hy := hy.nextB hb (by omega) (by omega)
    have m10 := hb.size
    clear hb hg
    go_wp2_with (first | (go_at_call 25; ((with_reducible refine (pf_l4_erase vc L2 _ W1.heap.size (own_base hc.out (by omega)) e2).mono ?_); rintro e w' ⟨rfl, hb, hg⟩)))
    have hk := Lib.hid (hk.out.kept hg (own_ne2 zc.out hk.out (by omega)))
    replace hx := hx.nextB hb (by omega) (by omega)
    replace hy := hy.nextB hb (by omega) (by omega)
    have m11 := hb.size
    clear hb hg
    go_wp2_with (first | (go_at_call 25; ((with_reducible refine (pf_l4_erase vk L3 _ W1.heap.size (own_base hk.out (by omega)) e3).mono ?_); rintro e w' ⟨rfl, hb, hg⟩; have hx := hx.nextB hb (by omega) (by omega); have hy := hy.nextB hb (by omega) (by omega); obtain ⟨p0, p1, p2, p3, p4, p5⟩ := hx.prog; obtain ⟨q0, q1, q2, q3, q4, q5⟩ := hy.prog; clear hb hg)) | (go_at_call 26; ((with_reducible refine (pf_r4_SameProgram _ _ p _ (hq0.out.below hy.below) (hp0.out.below hx.below)).mono ?_); rintro e w' ⟨rfl, hb⟩)))
    go_ret
    exact ⟨rfl, (hx.next hb).below⟩
theorem law_PatternCuts (a0 : Prog) (x0 : Value) (a1 a2 a3 : Int) (w : World) (w0 : IsProg w x0 a0 ∧ a0.fits) (w1 : (Lit.int .i64 a1).wf = true) (w2 : (Lit.int .i64 a2).wf = true) (w3 : (Lit.int .i64 a3).wf = true) :
    Calls Try.prog 3 #[x0, .int .i64 a1, .int .i64 a2, .int .i64 a3] w fun e w' => e = .returned (.bool true) ∧ Below w.heap.size w w' := walk_PatternCuts a0 x0 a1 a2 a3 w w0.1
end Go.Proofs.Ytnboppombhibbaa
