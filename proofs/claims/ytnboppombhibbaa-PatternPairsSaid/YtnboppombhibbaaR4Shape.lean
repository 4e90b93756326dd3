/- The reference of layer 4: Shape, Cut. -/
import Derived.Test.YtnboppombhibbaaR4Cut
import Derived.StillTailTactics
import Derived.Deep.DrawnRows
namespace Go.Proofs.Ytnboppombhibbaa
open Go.RowKit
set_option linter.unusedVariables false
set_option linter.unusedSimpArgs false
/-- The shape of the cut j. -/
def shapeL (p : Prog) (j : Int) : List Int := (movedL (liftL p.ros p.rub) (phaseI p j)).map (· * p.throw)
def cutL (p : Prog) (j : Int) : List Int := (shapeL p j).map (· + (p.start + j * p.adv))
theorem phaseI_bound {p : Prog} (hp : BenchFacts p) (j : Int) : 0 ≤ phaseI p j ∧ phaseI p j < p.ros.length := by
  have := hp.ros0
  exact ⟨Int.emod_nonneg _ (by omega), Int.emod_lt_of_pos _ (by omega)⟩
theorem moved_height {f : List Int} (h : rosOk f = true) (s : Int) (k : Nat) (hk : k < (movedL f s).length) : 0 ≤ (movedL f s)[k] ∧ (movedL f s)[k] ≤ 10000 := by
  rw [movedL_length] at hk
  rw [movedL_get f s k hk]
  exact atR_height h _
theorem mul_small (x t : Int) (hx : 0 ≤ x ∧ x ≤ 10000) (ht : 1 ≤ t ∧ t ≤ 16) : 0 ≤ x * t ∧ x * t ≤ 160000 := by
  have h1 := Int.mul_le_mul hx.2 ht.2 (by omega) (by omega)
  have h2 := Int.mul_nonneg hx.1 (show (0 : Int) ≤ t by omega)
  omega
attribute [local go_sem ↓] Go.wp_at_zero Go.wp_at_succ
set_option maxRecDepth 100000 in
set_option maxHeartbeats 4000000 in
theorem pf_r4_Shape (v : Value) (p : Prog) (j : Int) (w : World) (hv : IsProg w v p) (hp : BenchFacts p) (h1 : -1000000 ≤ j) (h2 : j ≤ 1000000) :
    Calls Try.prog 59 #[v, .int .i64 j] w fun e w' => ∃ v', e = .returned v' ∧ Below w.heap.size w w' ∧ w'.ownsRow w.heap.size 3 1 v' (shapeL p j).length ((shapeL p j).map vint) := by
  have hv0 := Lib.hid hv
  obtain ⟨v0, v1, v5, rfl, h0, hh1, h5⟩ := hv
  clear h0 hh1 h5
  have hr0 := hp.ros0
  have hr1 := hp.ros1
  have hph := phaseI_bound hp j
  obtain ⟨y, hy⟩ : ∃ y, phaseI p j = y := ⟨_, rfl⟩
  rw [hy] at hph
  have hcall : ∀ W V, IsProg W V p → Calls Try.prog 56 #[V, .int .i64 j] W fun e w' => e = .returned (.int .i64 y) ∧ Below W.heap.size W w' := fun W V h => by rw [← hy]; exact pf_r4_Phase V p j W h hp h1 h2
  unfold shapeL
  rw [hy]
  have hcall' := Lib.hid hcall
  have hy' := Lib.hid hy
  clear hy hcall
  have hbx0 := (Box.start w (.cells #[v0, v1, .int .i64 p.start, .int .i64 p.throw, .int .i64 p.adv, v5] 24)).drew
  go_enter Try.func59, Try.ntmps59
  go_wp2
  go_region_held3 (fun w' => w'.cell? ⟨w.heap.size, 0, none⟩ = some v0 ∧ w'.cell? ⟨w.heap.size, 1, none⟩ = some v1 ∧ w'.cell? ⟨w.heap.size, 2, none⟩ = some (.int .i64 p.start) ∧ w'.cell? ⟨w.heap.size, 3, none⟩ = some (.int .i64 p.throw) ∧ w'.cell? ⟨w.heap.size, 4, none⟩ = some (.int .i64 p.adv) ∧ w'.cell? ⟨w.heap.size, 5, none⟩ = some v5) (go_keep) (first | (go_at_call 52; refine (pf_r4_lift _ p _ (hv0.out.below (Box.below (by assumption))) hp).mono ?_; rintro e w' ⟨v', rfl, hb, ho⟩; have hI := Lib.hid (own_ints ho); clear ho; have hbx := Box.next (by assumption) hb; obtain ⟨p0, p1, p2, p3, p4, p5⟩ := hbx.prog) | (go_at_call 56; refine (hcall'.out _ _ (hv0.out.below (Box.below (by assumption)))).mono ?_; rintro e w' ⟨rfl, hbp⟩; have hbx := Box.next (by assumption) hbp; obtain ⟨p0, p1, p2, p3, p4, p5⟩ := hbx.prog) | (go_at_call 91; refine (pf_Moved _ _ y _ (by first | exact hI.out | exact hI.out.below hbp) (by rw [liftL_length]; omega) (by omega)).mono ?_; rintro e w' ⟨v3, rfl, hb3, ho3⟩; have hbx3 := Box.next (by assumption) hb3; obtain ⟨p0, p1, p2, p3, p4, p5⟩ := hbx3.prog; have ho3' := Lib.hid ho3; clear ho3))
  all_goals
    have ho := Lib.hid (own_base ho3'.out (Nat.succ_le_of_lt hbx.lt))
    have hb3' := Lib.hid hb3
    have hbz := hbx3
    clear ho3' hbx3 hbx hb3 p0 p1 p2 p3 p4 p5
    have hL0 : (movedL (liftL p.ros p.rub) y).length = p.ros.length := by rw [movedL_length, liftL_length]
    have hLh := moved_height (lift_ok hp.ros hp.rub) y
    have hth := hp.throw
    rw [hL0] at ho
    generalize hLe : movedL (liftL p.ros p.rub) y = L at ho hL0 hLh
    have hLe' := Lib.hid hLe
    clear hLe
    obtain ⟨g, c, rfl, hg, hgl, hgc, hgm⟩ := own_form ho.out (by omega)
    unfold maxLen at hgm
    go_wp2
    go_loopw [6] (fun i wr => ∃ k : Nat, k ≤ p.ros.length ∧ i = .int .i64 k ∧ Box w w.heap.size (.cells #[v0, v1, .int .i64 p.start, .int .i64 p.throw, .int .i64 p.adv, v5] 24) wr ∧ Hid (wr.ownsRow (w.heap.size + 1) 3 1 (.slice (some ⟨g, 0, none⟩) p.ros.length c) p.ros.length ((part (· * p.throw) L k).map vint))) (fun i _ => p.ros.length - (intOf i).toNat)
    case atStart => exact ⟨0, Nat.zero_le _, rfl, hbz, by rw [part_zero]; exact ho⟩
    case round =>
      obtain ⟨k, hk, rfl, hbox, hown⟩ := hrel
      by_cases hlt : k < p.ros.length
      · have hkL : k < L.length := by omega
        have hlen := part_length (· * p.throw) L k
        have hck := own_cell hown.out (by omega) (part_get (· * p.throw) L k hkL)
        have hfr := hown.out.frozenAt k
        have hx := hLh k hkL
        have hset := part_set (· * p.throw) L k hkL
        generalize L[k] = x at hck hx hset
        have hm := mul_small x p.throw hx hth
        have hw1 : IntKind.i64.wrap (x * p.throw) = x * p.throw := IntWalk.i64_in _ (by omega)
        obtain ⟨p0, p1, p2, p3, p4, p5⟩ := hbox.prog
        have i1 : (0 : Int) ≤ (k : Int) := by omega
        have i2 : (k : Int) < (p.ros.length : Int) := by omega
        have hset' := Lib.hid hset
        have hlen' := Lib.hid hlen
        clear hlen hset
        go_wp2
        go_still_tail 8, (by kernel_rfl)
        change wpList _ _ _ _ _ wr.drew
        have hbd := hbox.drew
        have hod : Hid (wr.drew.ownsRow _ _ _ _ _ _) := hown
        clear hck hfr p0 p1 p2 p3 p4 p5 hbox hown
        generalize wr.drew = w4 at hbd hod ⊢
        have hck := own_cell hod.out (by have := hlen'.out; omega) (part_get (· * p.throw) L k hkL)
        have hfr := hod.out.frozenAt k
        go_wp2
        go_roundw
        case rel => exact ⟨k + 1, by omega, by go_num, hbd.set (by omega) (by omega) _, Lib.hid (by have h := own_put hod.out k (x * p.throw); rw [hset'.out] at h; exact h)⟩
        case measure => simp [intOf]; omega
      · obtain rfl : k = p.ros.length := by omega
        have hfin := hown.out
        rw [← hL0, part_all] at hfin
        have hfin' := Lib.hid hfin
        clear hfin
        go_wp2
        go_ret
        exact ⟨_, rfl, hbox.below, by have h := own_base hfin'.out (Nat.le_succ _); rw [hLe'.out]; simpa [hL0] using h⟩
end Go.Proofs.Ytnboppombhibbaa
