/- The reference of layer 4: Check, Lift. -/
import Derived.Test.YtnboppombhibbaaRef4
namespace Go.Proofs.Ytnboppombhibbaa
open Go.RowKit
set_option linter.unusedVariables false
set_option linter.unusedSimpArgs false
set_option maxRecDepth 100000 in
set_option maxHeartbeats 4000000 in
theorem pf_r4_Check (v : Value) (p : Prog) (w : World) (hv : IsProg w v p) (E : Int) (hE : progE p = E) :
    Calls Try.prog 23 #[v] w fun e w' => e = .returned (.int .i64 E) ∧ Below w.heap.size w w' := by
  obtain ⟨v0, v1, v5, rfl, h0, h1, h5⟩ := hv
  have h0' := Lib.hid h0
  have h1' := Lib.hid h1
  have h5' := Lib.hid h5
  obtain ⟨A0, c0, rfl, hc0, hm0, _, _⟩ := h0
  obtain ⟨A1, c1, rfl, hc1, hm1, _, _⟩ := h1
  obtain ⟨A5, c5, rfl, hc5, hm5, _, _⟩ := h5
  unfold maxLen at hm0 hm1 hm5
  unfold progE bothE at hE
  obtain ⟨R, hR⟩ : ∃ R, rosOk p.ros = R := ⟨_, rfl⟩
  obtain ⟨U, hU⟩ : ∃ U, rubOk p.rub p.ros.length = U := ⟨_, rfl⟩
  rw [hR, hU] at hE
  have hR' := Lib.hid hR
  have hU' := Lib.hid hU
  clear hU hR
  cases R with
  | false =>
    obtain rfl : 30 = E := hE
    go_enter Try.func23, Try.ntmps23
    go_wp2_with (first | (go_at_call 64; ((with_reducible refine (pf_r3_Check _ p.ros _ (h0'.out.below (alc1 _ _)) false hR'.out).mono ?_); rintro e w' ⟨rfl, rfl⟩)))
    go_ret
    exact ⟨rfl, alc1 _ _⟩
  | true =>
    cases U with
    | false =>
      obtain rfl : 31 = E := hE
      go_enter Try.func23, Try.ntmps23
      go_wp2_with (first | (go_at_call 64; ((with_reducible refine (pf_r3_Check _ p.ros _ (h0'.out.below (alc1 _ _)) true hR'.out).mono ?_); rintro e w' ⟨rfl, rfl⟩)) | (go_at_call 65; ((with_reducible refine (pf_r3_CheckRubber _ p.rub _ _ (h1'.out.below (alc1 _ _)) false hU'.out).mono ?_); rintro e w' ⟨rfl, rfl⟩)))
      go_ret
      exact ⟨rfl, alc1 _ _⟩
    | true =>
      have hrl := rosOk_iff.1 hR'.out
      obtain ⟨l1, l2, _⟩ := hrl
      unfold progB at hE
      obtain ⟨X1, hX1⟩ : ∃ X, within p.start 0 10000 = X := ⟨_, rfl⟩
      obtain ⟨X2, hX2⟩ : ∃ X, within p.throw 1 16 = X := ⟨_, rfl⟩
      obtain ⟨X3, hX3⟩ : ∃ X, within p.adv (-1000) 1000 = X := ⟨_, rfl⟩
      obtain ⟨X4, hX4⟩ : ∃ X, within p.shifts.length 1 12 = X := ⟨_, rfl⟩
      rw [hX1, hX2, hX3, hX4] at hE
      have hX1' := Lib.hid hX1
      have hX2' := Lib.hid hX2
      have hX3' := Lib.hid hX3
      have hX4' := Lib.hid hX4
      clear hX4 hX3 hX2 hX1
      by_cases hall : X1 = true ∧ X2 = true ∧ X3 = true ∧ X4 = true
      · obtain ⟨rfl, rfl, rfl, rfl⟩ := hall
        have h12 := within_iff.1 hX4'.out
        simp only [Bool.true_and, if_true] at hE
        go_enter Try.func23, Try.ntmps23
        go_wp2_with (first | (go_at_call 64; ((with_reducible refine (pf_r3_Check _ p.ros _ (h0'.out.below (alc1 _ _)) true hR'.out).mono ?_); rintro e w' ⟨rfl, rfl⟩)) | (go_at_call 65; ((with_reducible refine (pf_r3_CheckRubber _ p.rub _ _ (h1'.out.below (alc1 _ _)) true hU'.out).mono ?_); rintro e w' ⟨rfl, rfl⟩)) | (go_at_call 55; ((with_reducible refine (pf_within_barleycornref04 _ _ _ _).mono ?_); rintro e w' ⟨rfl, rfl⟩; first | rw [hX1'.out] | rw [hX2'.out] | rw [hX3'.out] | rw [hX4'.out])))
        go_loopw [5] (fun i wr => ∃ k : Nat, k ≤ p.shifts.length ∧ i = .int .i64 k ∧ Box w w.heap.size (.cells #[.slice A0 p.ros.length c0, .slice A1 p.rub.length c1, .int .i64 p.start, .int .i64 p.throw, .int .i64 p.adv, .slice A5 p.shifts.length c5] 24) wr ∧ Hid (∀ j (h : j < p.shifts.length), j < k → shiftB p.ros.length p.shifts[j] = true)) (fun i _ => p.shifts.length - (intOf i).toNat)
        case atStart => exact ⟨0, Nat.zero_le _, rfl, Box.start _ _, Lib.hid fun j _ h => absurd h (by omega)⟩
        case round =>
          obtain ⟨k, hk, rfl, hbox, hp⟩ := hrel
          obtain ⟨p0, p1, p2, p3, p4, p5⟩ := hbox.prog
          by_cases hlt : k < p.shifts.length
          · obtain ⟨b, off, rfl, hbz, hck⟩ := (h5'.out.below hbox.below).look hlt
            have hmem := List.getElem_mem hlt
            generalize hx : p.shifts[k] = x at hck hmem
            obtain ⟨B, hB⟩ : ∃ B, within x 0 ((p.ros.length : Int) - 1) = B := ⟨_, rfl⟩
            have hcall : ∀ W : World, Calls Try.prog 55 #[.int .i64 x, .int .i64 0, .int .i64 ((p.ros.length : Int) - 1)] W fun e w' => e = .returned (.bool B) ∧ W = w' := fun W => by rw [← hB]; exact pf_within_barleycornref04 _ _ _ _
            have i1 : (0 : Int) ≤ (k : Int) := by omega
            have i2 : (k : Int) < (p.shifts.length : Int) := by omega
            have i3 : IntKind.i64.wrap ((p.ros.length : Int) - 1) = (p.ros.length : Int) - 1 := IntWalk.i64_in _ (by omega)
            have hx' := Lib.hid hx
            have hB' := Lib.hid hB
            have hcall' := Lib.hid hcall
            have hE' := Lib.hid hE
            clear hE hcall hB hx
            cases B with
            | true =>
              go_wp2
              go_quiet (first | (go_at_call 55; exact quiet_same' (hcall'.out _)))
              go_wp2
              go_roundw
              case rel => exact ⟨k + 1, by omega, by go_num, hbox.drewN _, Lib.hid fun j h hj => by
                by_cases hjk : j = k
                · subst hjk; rw [hx'.out]; exact hB'.out
                · exact hp.out j h (by omega)⟩
              case measure => simp [intOf]; omega
            | false =>
              have he : p.shifts.all (shiftB p.ros.length) = false := List.all_eq_false.2 ⟨x, hmem, by unfold shiftB; rw [hB'.out]; decide⟩
              have hE2 := hE'.out
              rw [he] at hE2
              obtain rfl : 40 = E := hE2
              clear he
              go_wp2
              go_quiet (first | (go_at_call 55; exact quiet_same' (hcall'.out _)))
              go_wp2
              go_ret
              exact ⟨rfl, (hbox.drewN _).below⟩
          · have he : p.shifts.all (shiftB p.ros.length) = true := List.all_eq_true.2 fun x hx => by
              obtain ⟨j, hj, rfl⟩ := List.mem_iff_getElem.1 hx
              exact hp.out j hj (by omega)
            rw [he] at hE
            obtain rfl : 0 = E := hE
            clear he
            go_wp2
            go_ret
            exact ⟨rfl, hbox.below⟩
      · obtain rfl : 40 = E := by
          rw [← hE]
          cases X1 <;> cases X2 <;> cases X3 <;> cases X4 <;> simp_all
        clear hE
        cases X1
        rotate_left
        · cases X2
          rotate_left
          · cases X3
            rotate_left
            · cases X4
              rotate_left
              · exact absurd ⟨rfl, rfl, rfl, rfl⟩ hall
              all_goals
                clear hall
                go_enter Try.func23, Try.ntmps23
                go_wp2_with (first | (go_at_call 64; ((with_reducible refine (pf_r3_Check _ p.ros _ (h0'.out.below (alc1 _ _)) true hR'.out).mono ?_); rintro e w' ⟨rfl, rfl⟩)) | (go_at_call 65; ((with_reducible refine (pf_r3_CheckRubber _ p.rub _ _ (h1'.out.below (alc1 _ _)) true hU'.out).mono ?_); rintro e w' ⟨rfl, rfl⟩)) | (go_at_call 55; ((with_reducible refine (pf_within_barleycornref04 _ _ _ _).mono ?_); rintro e w' ⟨rfl, rfl⟩; first | rw [hX1'.out] | rw [hX2'.out] | rw [hX3'.out] | rw [hX4'.out])))
                go_ret
                exact ⟨rfl, alc1 _ _⟩
            all_goals
              clear hall
              go_enter Try.func23, Try.ntmps23
              go_wp2_with (first | (go_at_call 64; ((with_reducible refine (pf_r3_Check _ p.ros _ (h0'.out.below (alc1 _ _)) true hR'.out).mono ?_); rintro e w' ⟨rfl, rfl⟩)) | (go_at_call 65; ((with_reducible refine (pf_r3_CheckRubber _ p.rub _ _ (h1'.out.below (alc1 _ _)) true hU'.out).mono ?_); rintro e w' ⟨rfl, rfl⟩)) | (go_at_call 55; ((with_reducible refine (pf_within_barleycornref04 _ _ _ _).mono ?_); rintro e w' ⟨rfl, rfl⟩; first | rw [hX1'.out] | rw [hX2'.out] | rw [hX3'.out] | rw [hX4'.out])))
              go_ret
              exact ⟨rfl, alc1 _ _⟩
          all_goals
            clear hall
            go_enter Try.func23, Try.ntmps23
            go_wp2_with (first | (go_at_call 64; ((with_reducible refine (pf_r3_Check _ p.ros _ (h0'.out.below (alc1 _ _)) true hR'.out).mono ?_); rintro e w' ⟨rfl, rfl⟩)) | (go_at_call 65; ((with_reducible refine (pf_r3_CheckRubber _ p.rub _ _ (h1'.out.below (alc1 _ _)) true hU'.out).mono ?_); rintro e w' ⟨rfl, rfl⟩)) | (go_at_call 55; ((with_reducible refine (pf_within_barleycornref04 _ _ _ _).mono ?_); rintro e w' ⟨rfl, rfl⟩; first | rw [hX1'.out] | rw [hX2'.out] | rw [hX3'.out] | rw [hX4'.out])))
            go_ret
            exact ⟨rfl, alc1 _ _⟩
        all_goals
          clear hall
          go_enter Try.func23, Try.ntmps23
          go_wp2_with (first | (go_at_call 64; ((with_reducible refine (pf_r3_Check _ p.ros _ (h0'.out.below (alc1 _ _)) true hR'.out).mono ?_); rintro e w' ⟨rfl, rfl⟩)) | (go_at_call 65; ((with_reducible refine (pf_r3_CheckRubber _ p.rub _ _ (h1'.out.below (alc1 _ _)) true hU'.out).mono ?_); rintro e w' ⟨rfl, rfl⟩)) | (go_at_call 55; ((with_reducible refine (pf_within_barleycornref04 _ _ _ _).mono ?_); rintro e w' ⟨rfl, rfl⟩; first | rw [hX1'.out] | rw [hX2'.out] | rw [hX3'.out] | rw [hX4'.out])))
          go_ret
          exact ⟨rfl, alc1 _ _⟩
theorem pf_r4_Lift (v : Value) (p : Prog) (w : World) (hv : IsProg w v p) (E : Int) (hE : progE p = E) :
    Calls Try.prog 17 #[v] w fun e w' => ∃ v', e = .returned (.tuple #[v', .int .i64 E]) ∧ Below w.heap.size w w' ∧ Ints w' v' (onOk E (liftL p.ros p.rub)) := by
  have hv0 := Lib.hid hv
  obtain ⟨v0, v1, v5, rfl, h0, h1, h5⟩ := hv
  clear h0 h1 h5
  by_cases hE0 : E = 0
  · subst hE0
    have hp := benchFacts hE
    have hE' := Lib.hid hE
    clear hE
    go_enter Try.func17, Try.ntmps17
    go_wp2_with (first | (go_at_call 23; ((with_reducible refine (pf_r4_Check _ p _ (hv0.out.below (alc1 _ _)) 0 hE'.out).mono ?_); rintro e w' ⟨rfl, hb1⟩; have hbox := (Box.start w _).next hb1; obtain ⟨p0, p1, p2, p3, p4, p5⟩ := hbox.prog; clear hb1)) | (go_at_call 52; ((with_reducible refine (pf_r4_lift _ p _ (hv0.out.below hbox.below) hp).mono ?_); rintro e w' ⟨v', rfl, hb2, ho2⟩; have hI := Lib.hid (own_ints ho2); clear ho2)))
    go_ret2
    exact ⟨_, rfl, (hbox.next hb2).below, hI.out⟩
  · have hne : (E != 0) = true := by simpa using hE0
    have hE' := Lib.hid hE
    have hE0' := Lib.hid hE0
    clear hE0 hE
    go_enter Try.func17, Try.ntmps17
    go_wp2_with (first | (go_at_call 23; ((with_reducible refine (pf_r4_Check _ p _ (hv0.out.below (alc1 _ _)) E hE'.out).mono ?_); rintro e w' ⟨rfl, hb1⟩)))
    go_ret2
    exact ⟨_, rfl, ((Box.start w _).next hb1).below, by rw [onOk_ne hE0'.out]; exact Arr.nil _ _⟩
end Go.Proofs.Ytnboppombhibbaa
