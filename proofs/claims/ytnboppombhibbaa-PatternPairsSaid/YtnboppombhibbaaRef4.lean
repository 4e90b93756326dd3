/- The reference of layer 4: lift, Period, Great, Phase. -/
import Derived.Test.YtnboppombhibbaaRefLift2
import Derived.Test.YtnboppombhibbaaPhase
namespace Go.Proofs.Ytnboppombhibbaa
open Go.RowKit
set_option linter.unusedVariables false
set_option linter.unusedSimpArgs false
theorem pf_r4_lift (v : Value) (p : Prog) (w : World) (hv : IsProg w v p) (hp : BenchFacts p) :
    Calls Try.prog 52 #[v] w fun e w' => ∃ v', e = .returned v' ∧ Below w.heap.size w w' ∧ w'.ownsRow w.heap.size 3 1 v' (liftL p.ros p.rub).length ((liftL p.ros p.rub).map vint) := by
  obtain ⟨v0, v1, v5, rfl, h0, h1, h5⟩ := hv
  have h0' := Lib.hid h0
  have h1' := Lib.hid h1
  clear h0 h1 h5
  go_enter Try.func52, Try.ntmps52
  go_wp2_with (first | (go_at_call 89; refine (pf_Lifted _ _ p.ros p.rub _ (h0'.out.below (alc1 _ _)) (h1'.out.below (alc1 _ _)) hp.ros hp.rub).mono ?_; rintro e w' ⟨v', rfl, hb, ho⟩))
  go_ret
  exact ⟨v', rfl, (alc1 _ _).trans (hb.mono (by simp)), own_base ho (by simp)⟩
theorem pf_r4_Period (v : Value) (p : Prog) (w : World) (hv : IsProg w v p) (hp : BenchFacts p) :
    Calls Try.prog 70 #[v] w fun e w' => e = .returned (.int .i64 (periodL (liftL p.ros p.rub))) ∧ Below w.heap.size w w' := by
  have hv0 := Lib.hid hv
  have hr0 := hp.ros0
  have hr1 := hp.ros1
  obtain ⟨v0, v1, v5, rfl, h0, h1, h5⟩ := hv
  clear h0 h1 h5
  go_enter Try.func70, Try.ntmps70
  go_wp2_with (first | (go_at_call 52; refine (pf_r4_lift _ p _ (hv0.out.below (alc1 _ _)) hp).mono ?_; rintro e w1 ⟨v', rfl, hb, ho⟩; have hI := Lib.hid (Arr.of_own ho); clear ho) | (go_at_call 96; refine (pf_Least _ _ _ hI.out (by rw [liftL_length]; omega) (by rw [liftL_length]; omega)).mono ?_; rintro e w2 ⟨rfl, hb2⟩))
  go_ret
  exact ⟨rfl, (alc1 _ _).trans ((hb.trans (hb2.mono hb.size)).mono (by simp))⟩
def greatB (p : Prog) : Bool := decide (120 < p.ros.length) || (decide (120 < p.rub.length) || decide (20 < p.shifts.length))
set_option maxRecDepth 100000 in
theorem pf_r4_Great (v : Value) (p : Prog) (w : World) (hv : IsProg w v p) :
    Calls Try.prog 14 #[v] w fun e w' => e = .returned (.bool (greatB p)) ∧ Below w.heap.size w w' := by
  obtain ⟨v0, v1, v5, rfl, h0, h1, h5⟩ := hv
  have h0' := Lib.hid h0
  have h1' := Lib.hid h1
  obtain ⟨A5, c5, rfl, hc5, hm5, _, _⟩ := h5
  clear h0 h1
  unfold greatB
  obtain ⟨X, hX⟩ : ∃ X, decide (120 < p.ros.length) = X := ⟨_, rfl⟩
  obtain ⟨Y, hY⟩ : ∃ Y, decide (120 < p.rub.length) = Y := ⟨_, rfl⟩
  obtain ⟨Z, hZ⟩ : ∃ Z, decide (20 < p.shifts.length) = Z := ⟨_, rfl⟩
  rw [hX, hY, hZ]
  have hX' := Lib.hid hX
  have hY' := Lib.hid hY
  have hZ' : Z = decide ((20 : Int) < (p.shifts.length : Int)) := by rw [← hZ]; congr 1; exact propext (by omega)
  clear hX hY hZ
  cases X
  · cases Y
    · subst hZ'
      go_enter Try.func14, Try.ntmps14
      go_wp2_with (first | (go_at_call 50; refine (pf_r3_Great _ p.ros _ (h0'.out.below (alc1 _ _))).mono ?_; rintro e w' ⟨rfl, rfl⟩; rw [hX'.out]) | (go_at_call 50; refine (pf_r3_Great _ p.rub _ (h1'.out.below (alc1 _ _))).mono ?_; rintro e w' ⟨rfl, rfl⟩; rw [hY'.out]))
      go_ret
      exact ⟨rfl, alc1 _ _⟩
    · go_enter Try.func14, Try.ntmps14
      go_wp2_with (first | (go_at_call 50; refine (pf_r3_Great _ p.ros _ (h0'.out.below (alc1 _ _))).mono ?_; rintro e w' ⟨rfl, rfl⟩; rw [hX'.out]) | (go_at_call 50; refine (pf_r3_Great _ p.rub _ (h1'.out.below (alc1 _ _))).mono ?_; rintro e w' ⟨rfl, rfl⟩; rw [hY'.out]))
      go_ret
      exact ⟨rfl, alc1 _ _⟩
  · go_enter Try.func14, Try.ntmps14
    go_wp2_with (first | (go_at_call 50; refine (pf_r3_Great _ p.ros _ (h0'.out.below (alc1 _ _))).mono ?_; rintro e w' ⟨rfl, rfl⟩; rw [hX'.out]) | (go_at_call 50; refine (pf_r3_Great _ p.rub _ (h1'.out.below (alc1 _ _))).mono ?_; rintro e w' ⟨rfl, rfl⟩; rw [hY'.out]))
    go_ret
    exact ⟨rfl, alc1 _ _⟩
end Go.Proofs.Ytnboppombhibbaa
