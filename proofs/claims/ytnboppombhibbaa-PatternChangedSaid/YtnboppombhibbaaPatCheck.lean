/- Programs (layer 4): what their values are; Check. -/
import Derived.Test.YtnboppombhibbaaPerLaw
import Derived.Test.YtnboppombhibbaaBase
namespace Go.Proofs.Ytnboppombhibbaa
open Go.RowKit
set_option linter.unusedVariables false
set_option linter.unusedSimpArgs false

structure Prog where
  ros : List Int
  rub : List Int
  start : Int
  throw : Int
  adv : Int
  shifts : List Int
def Prog.fits (p : Prog) : Prop := (∀ x ∈ p.ros, (Lit.int .i64 x).wf = true) ∧ (∀ x ∈ p.rub, (Lit.int .i64 x).wf = true) ∧ (∀ x ∈ p.shifts, (Lit.int .i64 x).wf = true) ∧
  (Lit.int .i64 p.start).wf = true ∧ (Lit.int .i64 p.throw).wf = true ∧ (Lit.int .i64 p.adv).wf = true
/-- The value v is, in the world w, the program p. -/
def IsProg (w : World) (v : Value) (p : Prog) : Prop :=
  ∃ v0 v1 v5, v = .agg #[v0, v1, .int .i64 p.start, .int .i64 p.throw, .int .i64 p.adv, v5] ∧ Ints w v0 p.ros ∧ Ints w v1 p.rub ∧ Ints w v5 p.shifts
theorem IsProg.below {w w' : World} {v : Value} {p : Prog} (h : IsProg w v p) (hb : Below w.heap.size w w') : IsProg w' v p := by
  obtain ⟨v0, v1, v5, hv, h0, h1, h5⟩ := h
  exact ⟨v0, v1, v5, hv, h0.below hb, h1.below hb, h5.below hb⟩
def shiftB (n : Nat) (x : Int) : Bool := within x 0 ((n : Int) - 1)
/-- Start, Throw, Advance and the Shifts are in order. -/
def progB (p : Prog) : Bool := within p.start 0 10000 && (within p.throw 1 16 && (within p.adv (-1000) 1000 && (within p.shifts.length 1 12 && p.shifts.all (shiftB p.ros.length))))
def progE (p : Prog) : Int := if bothE p.ros p.rub ≠ 0 then bothE p.ros p.rub else if progB p then 0 else 40

theorem pf_pat_shift (x : Int) (n : Nat) (A : Option Addr) (c B : Nat) (w : World) (hn : n ≤ 1000) (hc : w.cell? ⟨B, 0, none⟩ = some (.slice A n c)) :
    Calls Try.prog 62 (#[.int .i64 x] ++ #[.pointer (some ⟨B, 0, none⟩)]) w fun e w' => e = .returned (.bool (!shiftB n x)) ∧ w = w' := by
  unfold shiftB
  show Calls Try.prog 62 #[.int .i64 x, .pointer (some ⟨B, 0, none⟩)] w _
  go_enter Try.func62, Try.ntmps62
  go_wp2_with (first | (go_at_call 53; refine (pf_within_pattern _ _ _ _).mono ?_; rintro e w' ⟨rfl, rfl⟩))
  go_ret
  exact ⟨rfl, rfl⟩
set_option maxHeartbeats 4000000 in
theorem pf_pat_Check (v : Value) (p : Prog) (w : World) (hv : IsProg w v p) (E : Int) (hE : progE p = E) :
    Calls Try.prog 22 #[v] w fun e w' => e = .returned (.int .i64 E) ∧ Below w.heap.size w w' := by
  obtain ⟨v0, v1, v5, rfl, h0, h1, h5⟩ := hv
  have hz0 := Lib.hid h0
  have hz1 := Lib.hid h1
  have hz5 := Lib.hid h5
  obtain ⟨A0, c0, rfl, hc0, hm0, _, _⟩ := h0
  obtain ⟨A1, c1, rfl, hc1, hm1, _, _⟩ := h1
  obtain ⟨A5, c5, rfl, hc5, hm5, _, _⟩ := h5
  unfold maxLen at hm0 hm1 hm5
  obtain ⟨B, hB⟩ : ∃ B, rosOk p.ros = B := ⟨_, rfl⟩
  obtain ⟨C, hC⟩ : ∃ C, rubOk p.rub p.ros.length = C := ⟨_, rfl⟩
  have hB' := Lib.hid hB
  have hC' := Lib.hid hC
  have hE' := Lib.hid hE
  clear hB hC hE
  cases B with
  | false =>
    obtain rfl : E = 30 := by
      have h := hE'.out
      unfold progE bothE at h
      rw [hB'.out] at h
      simpa using h.symm
    go_enter Try.func22, Try.ntmps22
    go_wp2_with (first | (go_at_call 60; refine (pf_ros_Check _ p.ros _ (hz0.out.below (alc1 _ _)) false hB'.out).mono ?_; rintro e w' ⟨rfl, rfl⟩))
    go_ret
    exact ⟨rfl, alc1 _ _⟩
  | true =>
    cases C with
    | false =>
      obtain rfl : E = 31 := by
        have h := hE'.out
        unfold progE bothE at h
        rw [hB'.out, hC'.out] at h
        simpa using h.symm
      go_enter Try.func22, Try.ntmps22
      go_wp2_with (first | (go_at_call 60; refine (pf_ros_Check _ p.ros _ (hz0.out.below (alc1 _ _)) true hB'.out).mono ?_; rintro e w' ⟨rfl, rfl⟩) | (go_at_call 61; refine (pf_ros_CheckRubber _ p.rub _ _ (hz1.out.below (alc1 _ _)) false hC'.out).mono ?_; rintro e w' ⟨rfl, rfl⟩))
      go_ret
      exact ⟨rfl, alc1 _ _⟩
    | true =>
      have hE2 : (if progB p then (0 : Int) else 40) = E := by
        have h := hE'.out
        unfold progE bothE at h
        rw [hB'.out, hC'.out] at h
        simpa using h
      have hros : p.ros.length ≤ 1000 := by
        have := hB'.out
        unfold rosOk at this
        simp only [Bool.and_eq_true, decide_eq_true_eq] at this
        omega
      unfold progB at hE2
      obtain ⟨X1, hX1⟩ : ∃ X, within p.start 0 10000 = X := ⟨_, rfl⟩
      obtain ⟨X2, hX2⟩ : ∃ X, within p.throw 1 16 = X := ⟨_, rfl⟩
      obtain ⟨X3, hX3⟩ : ∃ X, within p.adv (-1000) 1000 = X := ⟨_, rfl⟩
      obtain ⟨X4, hX4⟩ : ∃ X, within p.shifts.length 1 12 = X := ⟨_, rfl⟩
      obtain ⟨X5, hX5⟩ : ∃ X, p.shifts.all (shiftB p.ros.length) = X := ⟨_, rfl⟩
      rw [hX1, hX2, hX3, hX4, hX5] at hE2
      have hX1' := Lib.hid hX1
      have hX2' := Lib.hid hX2
      have hX3' := Lib.hid hX3
      have hX4' := Lib.hid hX4
      have hX5' := Lib.hid hX5
      have hcont : ∀ W, Below w.heap.size w W → ∀ Bb, W.cell? ⟨Bb, 0, none⟩ = some (.slice A0 p.ros.length c0) → Calls Try.prog 63 #[.slice A5 p.shifts.length c5, .func (.func 62) #[] #[.pointer (some ⟨Bb, 0, none⟩)]] W fun e w' => e = .returned (.bool (!X5)) ∧ W = w' := by
        intro W hb Bb hcell
        have h := pf_ContainsFunc (fun x => !shiftB p.ros.length x) 62 #[.pointer (some ⟨Bb, 0, none⟩)] _ p.shifts W (hz5.out.below hb) (fun _ _ => by kernel_rfl) (fun x _ => pf_pat_shift x _ _ _ _ _ hros hcell)
        rw [all_any, hX5'.out] at h
        exact h
      have hcont' := Lib.hid hcont
      have hmf : ∀ (fn : Fn) (first cap : Array Value) (w : World), (Instr.makeFunc fn first cap).run Try.prog w = .ok (.func fn first cap) w := fun _ _ _ _ => rfl
      clear hX1 hX2 hX3 hX4 hX5 hE' hcont
      have hE3 := Lib.hid hE2
      clear hE2
      cases X1 with
      | false =>
        have hE4 := hE3.out
        simp at hE4
        subst hE4
        clear hE3
        go_enter Try.func22, Try.ntmps22
        go_wp2_with (first | (go_at_call 60; refine (pf_ros_Check _ p.ros _ (hz0.out.below (alc1 _ _)) true hB'.out).mono ?_; rintro e w' ⟨rfl, rfl⟩) | (go_at_call 61; refine (pf_ros_CheckRubber _ p.rub _ _ (hz1.out.below (alc1 _ _)) true hC'.out).mono ?_; rintro e w' ⟨rfl, rfl⟩) | (go_at_call 53; refine (pf_within_pattern _ _ _ _).mono ?_; rintro e w' ⟨rfl, rfl⟩; (first | rw [hX1'.out] | rw [hX2'.out] | rw [hX3'.out] | rw [hX4'.out])) | (go_at_call 63; refine (hcont'.out _ (alc1 _ _) _ (World.cell?_alloc_at _ _ _ _ rfl)).mono ?_; rintro e w' ⟨rfl, rfl⟩))
        go_ret
        exact ⟨rfl, alc1 _ _⟩
      | true =>
        cases X2 with
        | false =>
          have hE4 := hE3.out
          simp at hE4
          subst hE4
          clear hE3
          go_enter Try.func22, Try.ntmps22
          go_wp2_with (first | (go_at_call 60; refine (pf_ros_Check _ p.ros _ (hz0.out.below (alc1 _ _)) true hB'.out).mono ?_; rintro e w' ⟨rfl, rfl⟩) | (go_at_call 61; refine (pf_ros_CheckRubber _ p.rub _ _ (hz1.out.below (alc1 _ _)) true hC'.out).mono ?_; rintro e w' ⟨rfl, rfl⟩) | (go_at_call 53; refine (pf_within_pattern _ _ _ _).mono ?_; rintro e w' ⟨rfl, rfl⟩; (first | rw [hX1'.out] | rw [hX2'.out] | rw [hX3'.out] | rw [hX4'.out])) | (go_at_call 63; refine (hcont'.out _ (alc1 _ _) _ (World.cell?_alloc_at _ _ _ _ rfl)).mono ?_; rintro e w' ⟨rfl, rfl⟩))
          go_ret
          exact ⟨rfl, alc1 _ _⟩
        | true =>
          cases X3 with
          | false =>
            have hE4 := hE3.out
            simp at hE4
            subst hE4
            clear hE3
            go_enter Try.func22, Try.ntmps22
            go_wp2_with (first | (go_at_call 60; refine (pf_ros_Check _ p.ros _ (hz0.out.below (alc1 _ _)) true hB'.out).mono ?_; rintro e w' ⟨rfl, rfl⟩) | (go_at_call 61; refine (pf_ros_CheckRubber _ p.rub _ _ (hz1.out.below (alc1 _ _)) true hC'.out).mono ?_; rintro e w' ⟨rfl, rfl⟩) | (go_at_call 53; refine (pf_within_pattern _ _ _ _).mono ?_; rintro e w' ⟨rfl, rfl⟩; (first | rw [hX1'.out] | rw [hX2'.out] | rw [hX3'.out] | rw [hX4'.out])) | (go_at_call 63; refine (hcont'.out _ (alc1 _ _) _ (World.cell?_alloc_at _ _ _ _ rfl)).mono ?_; rintro e w' ⟨rfl, rfl⟩))
            go_ret
            exact ⟨rfl, alc1 _ _⟩
          | true =>
            cases X4 with
            | false =>
              have hE4 := hE3.out
              simp at hE4
              subst hE4
              clear hE3
              go_enter Try.func22, Try.ntmps22
              go_wp2_with (first | (go_at_call 60; refine (pf_ros_Check _ p.ros _ (hz0.out.below (alc1 _ _)) true hB'.out).mono ?_; rintro e w' ⟨rfl, rfl⟩) | (go_at_call 61; refine (pf_ros_CheckRubber _ p.rub _ _ (hz1.out.below (alc1 _ _)) true hC'.out).mono ?_; rintro e w' ⟨rfl, rfl⟩) | (go_at_call 53; refine (pf_within_pattern _ _ _ _).mono ?_; rintro e w' ⟨rfl, rfl⟩; (first | rw [hX1'.out] | rw [hX2'.out] | rw [hX3'.out] | rw [hX4'.out])) | (go_at_call 63; refine (hcont'.out _ (alc1 _ _) _ (World.cell?_alloc_at _ _ _ _ rfl)).mono ?_; rintro e w' ⟨rfl, rfl⟩))
              go_ret
              exact ⟨rfl, alc1 _ _⟩
            | true =>
              cases X5
              all_goals
                have hE4 := hE3.out
                simp at hE4
                subst hE4
                clear hE3
                go_enter Try.func22, Try.ntmps22
                go_wp2_with (first | (go_at_call 60; refine (pf_ros_Check _ p.ros _ (hz0.out.below (alc1 _ _)) true hB'.out).mono ?_; rintro e w' ⟨rfl, rfl⟩) | (go_at_call 61; refine (pf_ros_CheckRubber _ p.rub _ _ (hz1.out.below (alc1 _ _)) true hC'.out).mono ?_; rintro e w' ⟨rfl, rfl⟩) | (go_at_call 53; refine (pf_within_pattern _ _ _ _).mono ?_; rintro e w' ⟨rfl, rfl⟩; (first | rw [hX1'.out] | rw [hX2'.out] | rw [hX3'.out] | rw [hX4'.out])) | (go_at_call 63; refine (hcont'.out _ (alc1 _ _) _ (World.cell?_alloc_at _ _ _ _ rfl)).mono ?_; rintro e w' ⟨rfl, rfl⟩))
                go_ret
                exact ⟨rfl, alc1 _ _⟩
end Go.Proofs.Ytnboppombhibbaa
