/- The reference of layer 4: Cut. -/
import Derived.Test.YtnboppombhibbaaR4Shape
namespace Go.Proofs.Ytnboppombhibbaa
open Go.RowKit
set_option linter.unusedVariables false
set_option linter.unusedSimpArgs false
def cutE (p : Prog) (j : Int) : Int := if progE p ≠ 0 then progE p else if within j (-5000) 5000 then 0 else 2
theorem mul_adv (j t : Int) (hj : -5001 ≤ j ∧ j ≤ 5001) (ht : -1000 ≤ t ∧ t ≤ 1000) : -5001000 ≤ j * t ∧ j * t ≤ 5001000 := by
  rcases Int.le_total 0 t with h | h
  · have a := Int.mul_le_mul_of_nonneg_right hj.2 h
    have b := Int.mul_le_mul_of_nonneg_right hj.1 h
    omega
  · have a := Int.mul_le_mul_of_nonpos_right hj.1 h
    have b := Int.mul_le_mul_of_nonpos_right hj.2 h
    omega
theorem shape_bound {p : Prog} (hp : BenchFacts p) (j : Int) (k : Nat) (hk : k < (shapeL p j).length) : 0 ≤ (shapeL p j)[k] ∧ (shapeL p j)[k] ≤ 160000 := by
  unfold shapeL at hk ⊢
  rw [List.getElem_map]
  exact mul_small _ _ (moved_height (lift_ok hp.ros hp.rub) _ _ _) hp.throw
theorem shapeL_length (p : Prog) (j : Int) : (shapeL p j).length = p.ros.length := by simp [shapeL, movedL_length, liftL_length]
attribute [local go_sem ↓] Go.wp_at_zero Go.wp_at_succ
set_option maxRecDepth 100000 in
set_option maxHeartbeats 4000000 in
theorem pf_r4_Cut (v : Value) (p : Prog) (j : Int) (w : World) (hv : IsProg w v p) (E : Int) (hE : cutE p j = E) :
    Calls Try.prog 21 #[v, .int .i64 j] w fun e w' => ∃ v', e = .returned (.tuple #[v', .int .i64 E]) ∧ Below w.heap.size w w' ∧ Ints w' v' (onOk E (cutL p j)) := by
  have hv0 := Lib.hid hv
  obtain ⟨v0, v1, v5, rfl, h0, hh1, h5⟩ := hv
  clear h0 hh1 h5
  unfold cutE at hE
  obtain ⟨F, hF⟩ : ∃ F, progE p = F := ⟨_, rfl⟩
  rw [hF] at hE
  by_cases hF0 : F = 0
  · subst hF0
    have hp := benchFacts hF
    obtain ⟨X1, hX1⟩ : ∃ X, within j (-5000) 5000 = X := ⟨_, rfl⟩
    rw [hX1] at hE
    have hF' := Lib.hid hF
    have hX1' := Lib.hid hX1
    clear hX1 hF
    cases X1 with
    | false =>
      obtain rfl : 2 = E := hE
      go_enter Try.func21, Try.ntmps21
      go_wp2_with (first | (go_at_call 23; ((with_reducible refine (pf_r4_Check _ p _ (hv0.out.below (alc1 _ _)) 0 hF'.out).mono ?_); rintro e w' ⟨rfl, hb1⟩; have hbox := (Box.start w _).next hb1; clear hb1)) | (go_at_call 55; ((with_reducible refine (pf_within_barleycornref04 _ _ _ _).mono ?_); rintro e w' ⟨rfl, rfl⟩; rw [hX1'.out])))
      go_ret2
      exact ⟨_, rfl, hbox.below, Arr.nil _ _⟩
    | true =>
      obtain rfl : 0 = E := hE
      obtain ⟨a1, a2⟩ := within_iff.1 hX1'.out
      have hr0 := hp.ros0
      have hr1 := hp.ros1
      go_enter Try.func21, Try.ntmps21
      go_wp2_with (first | (go_at_call 23; ((with_reducible refine (pf_r4_Check _ p _ (hv0.out.below (alc1 _ _)) 0 hF'.out).mono ?_); rintro e w' ⟨rfl, hb1⟩; have hbox := (Box.start w _).next hb1; clear hb1; obtain ⟨p0, p1, p2, p3, p4, p5⟩ := hbox.prog)) | (go_at_call 55; ((with_reducible refine (pf_within_barleycornref04 _ _ _ _).mono ?_); rintro e w' ⟨rfl, rfl⟩; rw [hX1'.out])) | (go_at_call 59; ((with_reducible refine (pf_r4_Shape _ p j _ (hv0.out.below hbox.below) hp (by omega) (by omega)).mono ?_); rintro e w' ⟨v3, rfl, hb2, ho⟩; have ho' := Lib.hid (own_base ho (Nat.succ_le_of_lt hbox.lt)); have hbz := hbox.next hb2; clear ho hb2 hbox p0 p1 p2 p3 p4 p5)))
      have ho := ho'
      clear ho'
      have hL0 := shapeL_length p j
      have hLh := shape_bound hp j
      have hth := hp.throw
      rw [hL0] at ho
      generalize hLe : shapeL p j = L at ho hL0 hLh
      have hLe' := Lib.hid hLe
      clear hLe
      obtain ⟨g, c, rfl, hg, hgl, hgc, hgm⟩ := own_form ho.out (by omega)
      unfold maxLen at hgm
      have hadv := hp.adv
      have hst := hp.start
      have hma := mul_adv j p.adv (by omega) hadv
      obtain ⟨A, hA⟩ : ∃ A, p.start + j * p.adv = A := ⟨_, rfl⟩
      have hAb : -6000000 ≤ A ∧ A ≤ 6000000 := by omega
      go_wp2
      go_loopw [8] (fun i wr => ∃ k : Nat, k ≤ p.ros.length ∧ i = .int .i64 k ∧ Box w w.heap.size (.cells #[v0, v1, .int .i64 p.start, .int .i64 p.throw, .int .i64 p.adv, v5] 24) wr ∧ Hid (wr.ownsRow (w.heap.size + 1) 3 1 (.slice (some ⟨g, 0, none⟩) p.ros.length c) p.ros.length ((part (· + A) L k).map vint))) (fun i _ => p.ros.length - (intOf i).toNat)
      case atStart => exact ⟨0, Nat.zero_le _, rfl, hbz, by rw [part_zero]; exact ho⟩
      case round =>
        obtain ⟨k, hk, rfl, hbox, hown⟩ := hrel
        by_cases hlt : k < p.ros.length
        · have hkL : k < L.length := by omega
          have hlen := part_length (· + A) L k
          have hck := own_cell hown.out (by omega) (part_get (· + A) L k hkL)
          have hfr := hown.out.frozenAt k
          have hx := hLh k hkL
          have hset := part_set (· + A) L k hkL
          generalize L[k] = x at hck hx hset
          have hw1 : IntKind.i64.wrap (j * p.adv) = j * p.adv := IntWalk.i64_in _ (by omega)
          have hw2 : IntKind.i64.wrap (p.start + j * p.adv) = A := by rw [hA]; exact IntWalk.i64_in _ (by omega)
          have hw3 : IntKind.i64.wrap (x + A) = x + A := IntWalk.i64_in _ (by omega)
          obtain ⟨p0, p1, p2, p3, p4, p5⟩ := hbox.prog
          have i1 : (0 : Int) ≤ (k : Int) := by omega
          have i2 : (k : Int) < (p.ros.length : Int) := by omega
          have hset' := Lib.hid hset
          have hlen' := Lib.hid hlen
          have hA' := Lib.hid hA
          clear hA hlen hset
          go_wp2
          go_still_tail 13, (by kernel_rfl)
          change wpList _ _ _ _ _ wr.drew
          have hbd := hbox.drew
          have hod : Hid (wr.drew.ownsRow _ _ _ _ _ _) := hown
          clear hck hfr p0 p1 p2 p3 p4 p5 hbox hown
          generalize wr.drew = w4 at hbd hod ⊢
          have hck := own_cell hod.out (by have := hlen'.out; omega) (part_get (· + A) L k hkL)
          have hfr := hod.out.frozenAt k
          go_wp2
          go_roundw
          case rel => exact ⟨k + 1, by omega, by go_num, hbd.set (by omega) (by omega) _, Lib.hid (by have h := own_put hod.out k (x + A); rw [hset'.out] at h; exact h)⟩
          case measure => simp [intOf]; omega
        · obtain rfl : k = p.ros.length := by omega
          have hfin := hown.out
          rw [← hL0, part_all] at hfin
          have hfin' := Lib.hid hfin
          have hA' := Lib.hid hA
          clear hA hfin
          go_wp2
          go_ret2
          exact ⟨_, rfl, hbox.below, by rw [onOk_zero]; unfold cutL; rw [hLe'.out, hA'.out]; exact own_ints (n := p.ros.length) (by simpa [hL0] using hfin'.out)⟩
  · rw [if_pos hF0] at hE
    subst hE
    have hne : (F != 0) = true := by simpa using hF0
    have hn := Lib.hid (onOk_ne hF0 (cutL p j))
    have hF' := Lib.hid hF
    have hF0' := Lib.hid hF0
    clear hF0 hF
    go_enter Try.func21, Try.ntmps21
    go_wp2_with (first | (go_at_call 23; ((with_reducible refine (pf_r4_Check _ p _ (hv0.out.below (alc1 _ _)) F hF'.out).mono ?_); rintro e w' ⟨rfl, hb1⟩)))
    go_ret2
    exact ⟨_, rfl, ((Box.start w _).next hb1).below, by rw [hn.out]; exact Arr.nil _ _⟩
end Go.Proofs.Ytnboppombhibbaa
