/- The reference of layer 4: Phases. The reference of layer 4: Shape, Cut. The reference of layer 4: Cut. -/
import Derived.Test.YtnboppombhibbaaR4Check
import Derived.Test.YtnboppombhibbaaListAid
import Derived.StillTailTactics
import Derived.Deep.DrawnRows
namespace Go.Proofs.Ytnboppombhibbaa
open Go.RowKit
set_option linter.unusedVariables false
set_option linter.unusedSimpArgs false
/-- The phases of n cuts from one on. -/
def phasesL (p : Prog) (a : Int) (n : Nat) : List Int := (List.range n).map fun (k : Nat) => phaseI p (a + k)
theorem phasesL_succ (p : Prog) (a : Int) (n : Nat) : phasesL p a (n + 1) = phasesL p a n ++ [phaseI p (a + n)] := by unfold phasesL; rw [List.range_succ]; simp
theorem phasesL_length (p : Prog) (a : Int) (n : Nat) : (phasesL p a n).length = n := by simp [phasesL]
/-- The error of 'Phases'. -/
def phasesE (p : Prog) (a n : Int) : Int := if progE p ≠ 0 then progE p else if within a (-5000) 5000 && within n 0 200 then 0 else 2
set_option maxRecDepth 100000 in
set_option maxHeartbeats 4000000 in
theorem pf_r4_Phases (v : Value) (p : Prog) (a n : Int) (w : World) (hv : IsProg w v p) (E : Int) (hE : phasesE p a n = E) :
    Calls Try.prog 19 #[v, .int .i64 a, .int .i64 n] w fun e w' => ∃ v', e = .returned (.tuple #[v', .int .i64 E]) ∧ Below w.heap.size w w' ∧ Ints w' v' (onOk E (phasesL p a n.toNat)) := by
  have hv0 := Lib.hid hv
  obtain ⟨v0, v1, v5, rfl, h0, h1, h5⟩ := hv
  clear h0 h1 h5
  unfold phasesE at hE
  obtain ⟨F, hF⟩ : ∃ F, progE p = F := ⟨_, rfl⟩
  rw [hF] at hE
  by_cases hF0 : F = 0
  · subst hF0
    have hp := benchFacts hF
    obtain ⟨X1, hX1⟩ : ∃ X, within a (-5000) 5000 = X := ⟨_, rfl⟩
    obtain ⟨X2, hX2⟩ : ∃ X, within n 0 200 = X := ⟨_, rfl⟩
    rw [hX1, hX2] at hE
    have hF' := Lib.hid hF
    have hX1' := Lib.hid hX1
    have hX2' := Lib.hid hX2
    clear hX2 hX1 hF
    by_cases hall : X1 = true ∧ X2 = true
    · obtain ⟨rfl, rfl⟩ := hall
      obtain rfl : 0 = E := hE
      obtain ⟨a1, a2⟩ := within_iff.1 hX1'.out
      obtain ⟨n1, n2⟩ := within_iff.1 hX2'.out
      obtain ⟨m, rfl⟩ : ∃ m : Nat, n = m := ⟨n.toNat, by omega⟩
      rw [onOk_zero, Int.toNat_natCast]
      go_enter Try.func19, Try.ntmps19
      go_wp2_with (first | (go_at_call 23; ((with_reducible refine (pf_r4_Check _ p _ (hv0.out.below (alc1 _ _)) 0 hF'.out).mono ?_); rintro e w' ⟨rfl, hb1⟩; have hbox := (Box.start w _).next hb1; clear hb1)) | (go_at_call 55; ((with_reducible refine (pf_within_barleycornref04 _ _ _ _).mono ?_); rintro e w' ⟨rfl, rfl⟩; first | rw [hX1'.out] | rw [hX2'.out])))
      go_loopw [10, 9] (fun i r wr => ∃ k : Nat, k ≤ m ∧ i = .int .i64 k ∧ Box w w.heap.size (.cells #[v0, v1, .int .i64 p.start, .int .i64 p.throw, .int .i64 p.adv, v5] 24) wr ∧ Hid (wr.ownsRow (w.heap.size + 1) 3 1 r (phasesL p a k).length ((phasesL p a k).map vint))) (fun i _ _ => m - (intOf i).toNat)
      case atStart => exact ⟨0, Nat.zero_le _, rfl, hbox, Lib.hid (World.ownsRow_nil _ _ _ _)⟩
      case round =>
        obtain ⟨k, hk, rfl, hbox, hown⟩ := hrel
        by_cases hlt : k < m
        · obtain ⟨p0, p1, p2, p3, p4, p5⟩ := hbox.prog
          have hsz := hbox.size
          have hsuc := Lib.hid (phasesL_succ p a k)
          have hlen := phasesL_length p a k
          generalize phasesL p a k = L at hown hsuc hlen
          obtain ⟨y, hy⟩ : ∃ y, phaseI p (a + k) = y := ⟨_, rfl⟩
          have hy' := Lib.hid hy
          clear hy
          go_wp2_with (first | (go_at_call 56; ((with_reducible refine (pf_r4_Phase _ p _ _ (hv0.out.below hbox.below) hp (by omega) (by omega)).mono ?_); rintro e w' ⟨rfl, hb2⟩; rw [hy'.out]; have hbox2 := hbox.next hb2; have hown2 := Lib.hid (own_below hown.out hb2); have hsz2 := hbox2.size; have hlt2 := hbox2.lt; clear hbox hown hb2 p0 p1 p2 p3 p4 p5)) | (at_builtin; go_must (refine wpList_appI rfl _ _ 22 rfl (w.heap.size + 1) 3 elemInt _ L rfl (hown2.out.alloc _) _ [y] rfl (one_newI _ _ _) (by simp; omega) (by simp; omega) ?_)))
          intro v3 w3 h1 h2 h3 _
          have h1' := Lib.hid h1
          clear h1
          have hbox3 : Box w w.heap.size (.cells #[v0, v1, .int .i64 p.start, .int .i64 p.throw, .int .i64 p.adv, v5] 24) w3 := (hbox2.alloc _).nextB h2 (by omega) (by omega)
          clear h2 h3
          go_wp2
          go_roundw
          case rel => exact ⟨k + 1, by omega, by go_num, hbox3, Lib.hid (by have h := h1'.out; rw [hsuc.out, hy'.out]; simpa [hlen] using h)⟩
          case measure => simp [intOf]; omega
        · obtain rfl : k = m := by omega
          go_wp2
          go_ret2
          exact ⟨_, rfl, hbox.below, own_ints hown.out⟩
    · obtain rfl : 2 = E := by
        rw [← hE]
        cases X1 <;> cases X2 <;> simp_all
      clear hE
      cases X1
      rotate_left
      · cases X2
        rotate_left
        · exact absurd ⟨rfl, rfl⟩ hall
        all_goals
          clear hall
          go_enter Try.func19, Try.ntmps19
          go_wp2_with (first | (go_at_call 23; ((with_reducible refine (pf_r4_Check _ p _ (hv0.out.below (alc1 _ _)) 0 hF'.out).mono ?_); rintro e w' ⟨rfl, hb1⟩; have hbox := (Box.start w _).next hb1; clear hb1)) | (go_at_call 55; ((with_reducible refine (pf_within_barleycornref04 _ _ _ _).mono ?_); rintro e w' ⟨rfl, rfl⟩; first | rw [hX1'.out] | rw [hX2'.out])))
          go_ret2
          exact ⟨_, rfl, hbox.below, Arr.nil _ _⟩
      all_goals
        clear hall
        go_enter Try.func19, Try.ntmps19
        go_wp2_with (first | (go_at_call 23; ((with_reducible refine (pf_r4_Check _ p _ (hv0.out.below (alc1 _ _)) 0 hF'.out).mono ?_); rintro e w' ⟨rfl, hb1⟩; have hbox := (Box.start w _).next hb1; clear hb1)) | (go_at_call 55; ((with_reducible refine (pf_within_barleycornref04 _ _ _ _).mono ?_); rintro e w' ⟨rfl, rfl⟩; first | rw [hX1'.out] | rw [hX2'.out])))
        go_ret2
        exact ⟨_, rfl, hbox.below, Arr.nil _ _⟩
  · rw [if_pos hF0] at hE
    subst hE
    have hne : (F != 0) = true := by simpa using hF0
    have hn := Lib.hid (onOk_ne hF0 (phasesL p a n.toNat))
    have hF' := Lib.hid hF
    have hF0' := Lib.hid hF0
    clear hF0 hF
    go_enter Try.func19, Try.ntmps19
    go_wp2_with (first | (go_at_call 23; ((with_reducible refine (pf_r4_Check _ p _ (hv0.out.below (alc1 _ _)) F hF'.out).mono ?_); rintro e w' ⟨rfl, hb1⟩)))
    go_ret2
    exact ⟨_, rfl, ((Box.start w _).next hb1).below, by rw [hn.out]; exact Arr.nil _ _⟩
end Go.Proofs.Ytnboppombhibbaa
namespace Go.Proofs.Ytnboppombhibbaa
open Go.RowKit
set_option linter.unusedVariables false
set_option linter.unusedSimpArgs false
/-- The shape of the cut j. -/
def shapeL (p : Prog) (j : Int) : List Int := (movedL (liftL p.ros p.rub) (phaseI p j)).map (· * p.throw)
def cutL (p : Prog) (j : Int) : List Int := (shapeL p j).map (· + (p.start + j * p.adv))
theorem phaseI_bound {p : Prog} (hp : BenchFacts p) (j : Int) : 0 ≤ phaseI p j ∧ phaseI p j < p.ros.length := by
  have := hp.ros0
  exact ⟨Int.emod_nonneg _ (by omega), Int.emod_lt_of_pos _ (by omega)⟩
theorem moved_height {f : List Int} (h : rosOk f = true) (s : Int) (k : Nat) (hk : k < (movedL f s).length) : 0 ≤ (movedL f s)[k] ∧ (movedL f s)[k] ≤ 10000 := by
  rw [movedL_length] at hk
  rw [movedL_get f s k hk]
  exact atR_height h _
theorem mul_small (x t : Int) (hx : 0 ≤ x ∧ x ≤ 10000) (ht : 1 ≤ t ∧ t ≤ 16) : 0 ≤ x * t ∧ x * t ≤ 160000 := by
  have h1 := Int.mul_le_mul hx.2 ht.2 (by omega) (by omega)
  have h2 := Int.mul_nonneg hx.1 (show (0 : Int) ≤ t by omega)
  omega
attribute [local go_sem ↓] Go.wp_at_zero Go.wp_at_succ
set_option maxRecDepth 100000 in
set_option maxHeartbeats 4000000 in
theorem pf_r4_Shape (v : Value) (p : Prog) (j : Int) (w : World) (hv : IsProg w v p) (hp : BenchFacts p) (h1 : -1000000 ≤ j) (h2 : j ≤ 1000000) :
    Calls Try.prog 59 #[v, .int .i64 j] w fun e w' => ∃ v', e = .returned v' ∧ Below w.heap.size w w' ∧ w'.ownsRow w.heap.size 3 1 v' (shapeL p j).length ((shapeL p j).map vint) := by
  have hv0 := Lib.hid hv
  obtain ⟨v0, v1, v5, rfl, h0, hh1, h5⟩ := hv
  clear h0 hh1 h5
  have hr0 := hp.ros0
  have hr1 := hp.ros1
  have hph := phaseI_bound hp j
  obtain ⟨y, hy⟩ : ∃ y, phaseI p j = y := ⟨_, rfl⟩
  rw [hy] at hph
  have hcall : ∀ W V, IsProg W V p → Calls Try.prog 56 #[V, .int .i64 j] W fun e w' => e = .returned (.int .i64 y) ∧ Below W.heap.size W w' := fun W V h => by rw [← hy]; exact pf_r4_Phase V p j W h hp h1 h2
  unfold shapeL
  rw [hy]
  have hcall' := Lib.hid hcall
  have hy' := Lib.hid hy
  clear hy hcall
  have hbx0 := (Box.start w (.cells #[v0, v1, .int .i64 p.start, .int .i64 p.throw, .int .i64 p.adv, v5] 24)).drew
  go_enter Try.func59, Try.ntmps59
  go_wp2
  go_region_held3 (fun w' => w'.cell? ⟨w.heap.size, 0, none⟩ = some v0 ∧ w'.cell? ⟨w.heap.size, 1, none⟩ = some v1 ∧ w'.cell? ⟨w.heap.size, 2, none⟩ = some (.int .i64 p.start) ∧ w'.cell? ⟨w.heap.size, 3, none⟩ = some (.int .i64 p.throw) ∧ w'.cell? ⟨w.heap.size, 4, none⟩ = some (.int .i64 p.adv) ∧ w'.cell? ⟨w.heap.size, 5, none⟩ = some v5) (go_keep) (first | (go_at_call 52; refine (pf_r4_lift _ p _ (hv0.out.below (Box.below (by assumption))) hp).mono ?_; rintro e w' ⟨v', rfl, hb, ho⟩; have hI := Lib.hid (own_ints ho); clear ho; have hbx := Box.next (by assumption) hb; obtain ⟨p0, p1, p2, p3, p4, p5⟩ := hbx.prog) | (go_at_call 56; refine (hcall'.out _ _ (hv0.out.below (Box.below (by assumption)))).mono ?_; rintro e w' ⟨rfl, hbp⟩; have hbx := Box.next (by assumption) hbp; obtain ⟨p0, p1, p2, p3, p4, p5⟩ := hbx.prog) | (go_at_call 91; refine (pf_Moved _ _ y _ (by first | exact hI.out | exact hI.out.below hbp) (by rw [liftL_length]; omega) (by omega)).mono ?_; rintro e w' ⟨v3, rfl, hb3, ho3⟩; have hbx3 := Box.next (by assumption) hb3; obtain ⟨p0, p1, p2, p3, p4, p5⟩ := hbx3.prog; have ho3' := Lib.hid ho3; clear ho3))
  all_goals
    have ho := Lib.hid (own_base ho3'.out (Nat.succ_le_of_lt hbx.lt))
    have hb3' := Lib.hid hb3
    have hbz := hbx3
    clear ho3' hbx3 hbx hb3 p0 p1 p2 p3 p4 p5
    have hL0 : (movedL (liftL p.ros p.rub) y).length = p.ros.length := by rw [movedL_length, liftL_length]
    have hLh := moved_height (lift_ok hp.ros hp.rub) y
    have hth := hp.throw
    rw [hL0] at ho
    generalize hLe : movedL (liftL p.ros p.rub) y = L at ho hL0 hLh
    have hLe' := Lib.hid hLe
    clear hLe
    obtain ⟨g, c, rfl, hg, hgl, hgc, hgm⟩ := own_form ho.out (by omega)
    unfold maxLen at hgm
    go_wp2
    go_loopw [6] (fun i wr => ∃ k : Nat, k ≤ p.ros.length ∧ i = .int .i64 k ∧ Box w w.heap.size (.cells #[v0, v1, .int .i64 p.start, .int .i64 p.throw, .int .i64 p.adv, v5] 24) wr ∧ Hid (wr.ownsRow (w.heap.size + 1) 3 1 (.slice (some ⟨g, 0, none⟩) p.ros.length c) p.ros.length ((part (· * p.throw) L k).map vint))) (fun i _ => p.ros.length - (intOf i).toNat)
    case atStart => exact ⟨0, Nat.zero_le _, rfl, hbz, by rw [part_zero]; exact ho⟩
    case round =>
      obtain ⟨k, hk, rfl, hbox, hown⟩ := hrel
      by_cases hlt : k < p.ros.length
      · have hkL : k < L.length := by omega
        have hlen := part_length (· * p.throw) L k
        have hck := own_cell hown.out (by omega) (part_get (· * p.throw) L k hkL)
        have hfr := hown.out.frozenAt k
        have hx := hLh k hkL
        have hset := part_set (· * p.throw) L k hkL
        generalize L[k] = x at hck hx hset
        have hm := mul_small x p.throw hx hth
        have hw1 : IntKind.i64.wrap (x * p.throw) = x * p.throw := IntWalk.i64_in _ (by omega)
        obtain ⟨p0, p1, p2, p3, p4, p5⟩ := hbox.prog
        have i1 : (0 : Int) ≤ (k : Int) := by omega
        have i2 : (k : Int) < (p.ros.length : Int) := by omega
        have hset' := Lib.hid hset
        have hlen' := Lib.hid hlen
        clear hlen hset
        go_wp2
        go_still_tail 8, (by kernel_rfl)
        change wpList _ _ _ _ _ wr.drew
        have hbd := hbox.drew
        have hod : Hid (wr.drew.ownsRow _ _ _ _ _ _) := hown
        clear hck hfr p0 p1 p2 p3 p4 p5 hbox hown
        generalize wr.drew = w4 at hbd hod ⊢
        have hck := own_cell hod.out (by have := hlen'.out; omega) (part_get (· * p.throw) L k hkL)
        have hfr := hod.out.frozenAt k
        go_wp2
        go_roundw
        case rel => exact ⟨k + 1, by omega, by go_num, hbd.set (by omega) (by omega) _, Lib.hid (by have h := own_put hod.out k (x * p.throw); rw [hset'.out] at h; exact h)⟩
        case measure => simp [intOf]; omega
      · obtain rfl : k = p.ros.length := by omega
        have hfin := hown.out
        rw [← hL0, part_all] at hfin
        have hfin' := Lib.hid hfin
        clear hfin
        go_wp2
        go_ret
        exact ⟨_, rfl, hbox.below, by have h := own_base hfin'.out (Nat.le_succ _); rw [hLe'.out]; simpa [hL0] using h⟩
end Go.Proofs.Ytnboppombhibbaa
namespace Go.Proofs.Ytnboppombhibbaa
open Go.RowKit
set_option linter.unusedVariables false
set_option linter.unusedSimpArgs false
def cutE (p : Prog) (j : Int) : Int := if progE p ≠ 0 then progE p else if within j (-5000) 5000 then 0 else 2
theorem mul_adv (j t : Int) (hj : -5001 ≤ j ∧ j ≤ 5001) (ht : -1000 ≤ t ∧ t ≤ 1000) : -5001000 ≤ j * t ∧ j * t ≤ 5001000 := by
  rcases Int.le_total 0 t with h | h
  · have a := Int.mul_le_mul_of_nonneg_right hj.2 h
    have b := Int.mul_le_mul_of_nonneg_right hj.1 h
    omega
  · have a := Int.mul_le_mul_of_nonpos_right hj.1 h
    have b := Int.mul_le_mul_of_nonpos_right hj.2 h
    omega
theorem shape_bound {p : Prog} (hp : BenchFacts p) (j : Int) (k : Nat) (hk : k < (shapeL p j).length) : 0 ≤ (shapeL p j)[k] ∧ (shapeL p j)[k] ≤ 160000 := by
  unfold shapeL at hk ⊢
  rw [List.getElem_map]
  exact mul_small _ _ (moved_height (lift_ok hp.ros hp.rub) _ _ _) hp.throw
theorem shapeL_length (p : Prog) (j : Int) : (shapeL p j).length = p.ros.length := by simp [shapeL, movedL_length, liftL_length]
attribute [local go_sem ↓] Go.wp_at_zero Go.wp_at_succ
set_option maxRecDepth 100000 in
set_option maxHeartbeats 4000000 in
theorem pf_r4_Cut (v : Value) (p : Prog) (j : Int) (w : World) (hv : IsProg w v p) (E : Int) (hE : cutE p j = E) :
    Calls Try.prog 21 #[v, .int .i64 j] w fun e w' => ∃ v', e = .returned (.tuple #[v', .int .i64 E]) ∧ Below w.heap.size w w' ∧ Ints w' v' (onOk E (cutL p j)) := by
  have hv0 := Lib.hid hv
  obtain ⟨v0, v1, v5, rfl, h0, hh1, h5⟩ := hv
  clear h0 hh1 h5
  unfold cutE at hE
  obtain ⟨F, hF⟩ : ∃ F, progE p = F := ⟨_, rfl⟩
  rw [hF] at hE
  by_cases hF0 : F = 0
  · subst hF0
    have hp := benchFacts hF
    obtain ⟨X1, hX1⟩ : ∃ X, within j (-5000) 5000 = X := ⟨_, rfl⟩
    rw [hX1] at hE
    have hF' := Lib.hid hF
    have hX1' := Lib.hid hX1
    clear hX1 hF
    cases X1 with
    | false =>
      obtain rfl : 2 = E := hE
      go_enter Try.func21, Try.ntmps21
      go_wp2_with (first | (go_at_call 23; ((with_reducible refine (pf_r4_Check _ p _ (hv0.out.below (alc1 _ _)) 0 hF'.out).mono ?_); rintro e w' ⟨rfl, hb1⟩; have hbox := (Box.start w _).next hb1; clear hb1)) | (go_at_call 55; ((with_reducible refine (pf_within_barleycornref04 _ _ _ _).mono ?_); rintro e w' ⟨rfl, rfl⟩; rw [hX1'.out])))
      go_ret2
      exact ⟨_, rfl, hbox.below, Arr.nil _ _⟩
    | true =>
      obtain rfl : 0 = E := hE
      obtain ⟨a1, a2⟩ := within_iff.1 hX1'.out
      have hr0 := hp.ros0
      have hr1 := hp.ros1
      go_enter Try.func21, Try.ntmps21
      go_wp2_with (first | (go_at_call 23; ((with_reducible refine (pf_r4_Check _ p _ (hv0.out.below (alc1 _ _)) 0 hF'.out).mono ?_); rintro e w' ⟨rfl, hb1⟩; have hbox := (Box.start w _).next hb1; clear hb1; obtain ⟨p0, p1, p2, p3, p4, p5⟩ := hbox.prog)) | (go_at_call 55; ((with_reducible refine (pf_within_barleycornref04 _ _ _ _).mono ?_); rintro e w' ⟨rfl, rfl⟩; rw [hX1'.out])) | (go_at_call 59; ((with_reducible refine (pf_r4_Shape _ p j _ (hv0.out.below hbox.below) hp (by omega) (by omega)).mono ?_); rintro e w' ⟨v3, rfl, hb2, ho⟩; have ho' := Lib.hid (own_base ho (Nat.succ_le_of_lt hbox.lt)); have hbz := hbox.next hb2; clear ho hb2 hbox p0 p1 p2 p3 p4 p5)))
      have ho := ho'
      clear ho'
      have hL0 := shapeL_length p j
      have hLh := shape_bound hp j
      have hth := hp.throw
      rw [hL0] at ho
      generalize hLe : shapeL p j = L at ho hL0 hLh
      have hLe' := Lib.hid hLe
      clear hLe
      obtain ⟨g, c, rfl, hg, hgl, hgc, hgm⟩ := own_form ho.out (by omega)
      unfold maxLen at hgm
      have hadv := hp.adv
      have hst := hp.start
      have hma := mul_adv j p.adv (by omega) hadv
      obtain ⟨A, hA⟩ : ∃ A, p.start + j * p.adv = A := ⟨_, rfl⟩
      have hAb : -6000000 ≤ A ∧ A ≤ 6000000 := by omega
      go_wp2
      go_loopw [8] (fun i wr => ∃ k : Nat, k ≤ p.ros.length ∧ i = .int .i64 k ∧ Box w w.heap.size (.cells #[v0, v1, .int .i64 p.start, .int .i64 p.throw, .int .i64 p.adv, v5] 24) wr ∧ Hid (wr.ownsRow (w.heap.size + 1) 3 1 (.slice (some ⟨g, 0, none⟩) p.ros.length c) p.ros.length ((part (· + A) L k).map vint))) (fun i _ => p.ros.length - (intOf i).toNat)
      case atStart => exact ⟨0, Nat.zero_le _, rfl, hbz, by rw [part_zero]; exact ho⟩
      case round =>
        obtain ⟨k, hk, rfl, hbox, hown⟩ := hrel
        by_cases hlt : k < p.ros.length
        · have hkL : k < L.length := by omega
          have hlen := part_length (· + A) L k
          have hck := own_cell hown.out (by omega) (part_get (· + A) L k hkL)
          have hfr := hown.out.frozenAt k
          have hx := hLh k hkL
          have hset := part_set (· + A) L k hkL
          generalize L[k] = x at hck hx hset
          have hw1 : IntKind.i64.wrap (j * p.adv) = j * p.adv := IntWalk.i64_in _ (by omega)
          have hw2 : IntKind.i64.wrap (p.start + j * p.adv) = A := by rw [hA]; exact IntWalk.i64_in _ (by omega)
          have hw3 : IntKind.i64.wrap (x + A) = x + A := IntWalk.i64_in _ (by omega)
          obtain ⟨p0, p1, p2, p3, p4, p5⟩ := hbox.prog
          have i1 : (0 : Int) ≤ (k : Int) := by omega
          have i2 : (k : Int) < (p.ros.length : Int) := by omega
          have hset' := Lib.hid hset
          have hlen' := Lib.hid hlen
          have hA' := Lib.hid hA
          clear hA hlen hset
          go_wp2
          go_still_tail 13, (by kernel_rfl)
          change wpList _ _ _ _ _ wr.drew
          have hbd := hbox.drew
          have hod : Hid (wr.drew.ownsRow _ _ _ _ _ _) := hown
          clear hck hfr p0 p1 p2 p3 p4 p5 hbox hown
          generalize wr.drew = w4 at hbd hod ⊢
          have hck := own_cell hod.out (by have := hlen'.out; omega) (part_get (· + A) L k hkL)
          have hfr := hod.out.frozenAt k
          go_wp2
          go_roundw
          case rel => exact ⟨k + 1, by omega, by go_num, hbd.set (by omega) (by omega) _, Lib.hid (by have h := own_put hod.out k (x + A); rw [hset'.out] at h; exact h)⟩
          case measure => simp [intOf]; omega
        · obtain rfl : k = p.ros.length := by omega
          have hfin := hown.out
          rw [← hL0, part_all] at hfin
          have hfin' := Lib.hid hfin
          have hA' := Lib.hid hA
          clear hA hfin
          go_wp2
          go_ret2
          exact ⟨_, rfl, hbox.below, by rw [onOk_zero]; unfold cutL; rw [hLe'.out, hA'.out]; exact own_ints (n := p.ros.length) (by simpa [hL0] using hfin'.out)⟩
  · rw [if_pos hF0] at hE
    subst hE
    have hne : (F != 0) = true := by simpa using hF0
    have hn := Lib.hid (onOk_ne hF0 (cutL p j))
    have hF' := Lib.hid hF
    have hF0' := Lib.hid hF0
    clear hF0 hF
    go_enter Try.func21, Try.ntmps21
    go_wp2_with (first | (go_at_call 23; ((with_reducible refine (pf_r4_Check _ p _ (hv0.out.below (alc1 _ _)) F hF'.out).mono ?_); rintro e w' ⟨rfl, hb1⟩)))
    go_ret2
    exact ⟨_, rfl, ((Box.start w _).next hb1).below, by rw [hn.out]; exact Arr.nil _ _⟩
end Go.Proofs.Ytnboppombhibbaa
