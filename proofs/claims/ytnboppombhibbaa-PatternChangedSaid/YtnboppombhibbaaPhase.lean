/- The phases of a bench. -/
import Derived.Test.YtnboppombhibbaaMount
namespace Go.Proofs.Ytnboppombhibbaa
open Go.RowKit
set_option linter.unusedVariables false
set_option linter.unusedSimpArgs false
/-- The phase of the cut j. -/
def phaseI (p : Prog) (j : Int) : Int := (j / (p.shifts.length : Int) * sumTo p.shifts p.shifts.length + sumTo p.shifts (j % (p.shifts.length : Int)).toNat) % (p.ros.length : Int)
/-- What walks of benches use: cells, and bounds. -/
structure BenchFacts (p : Prog) : Prop where
  ros0 : 3 ≤ p.ros.length
  ros1 : p.ros.length ≤ 96
  start : 0 ≤ p.start ∧ p.start ≤ 10000
  throw : 1 ≤ p.throw ∧ p.throw ≤ 16
  adv : -1000 ≤ p.adv ∧ p.adv ≤ 1000
  sh0 : 1 ≤ p.shifts.length
  sh1 : p.shifts.length ≤ 12
  sh : ∀ i (h : i < p.shifts.length), 0 ≤ p.shifts[i] ∧ p.shifts[i] < p.ros.length
  ros : rosOk p.ros = true
  rub : rubOk p.rub p.ros.length = true
theorem benchFacts {p : Prog} (h : progE p = 0) : BenchFacts p := by
  obtain ⟨h1, h2, h3⟩ := progE_zero h
  obtain ⟨a1, a2, a3, a4, a5⟩ := progB_iff.1 h3
  obtain ⟨b1, b2, _⟩ := rosOk_iff.1 h1
  exact ⟨b1, b2, a1, a2, a3, a4.1, a4.2, a5, h1, h2⟩
theorem BenchFacts.sum {p : Prog} (h : BenchFacts p) (k : Nat) (hk : k ≤ p.shifts.length) : 0 ≤ sumTo p.shifts k ∧ sumTo p.shifts k ≤ 1152 :=
  sum_small (sumTo_le p.shifts p.ros.length h.sh k hk) h.ros1 (Nat.le_trans hk h.sh1)
theorem bench_low {W : World} {B : Nat} {t : TypeId} {p : Prog} {v0 v1 v5 vl : Value} {k : Nat} (h : W.heap[B]? = some (.cells (benchCells p v0 v1 v5 vl k) t)) :
    W.cell? ⟨B, 0, none⟩ = some v0 ∧ W.cell? ⟨B, 1, none⟩ = some v1 ∧ W.cell? ⟨B, 2, none⟩ = some (.int .i64 p.start) ∧ W.cell? ⟨B, 3, none⟩ = some (.int .i64 p.throw) ∧ W.cell? ⟨B, 4, none⟩ = some (.int .i64 p.adv) ∧ W.cell? ⟨B, 5, none⟩ = some v5 ∧
    W.cell? ⟨B, 6, none⟩ = some vl ∧ W.cell? ⟨B, 7, none⟩ = some (.int .i64 p.ros.length) ∧ W.cell? ⟨B, 8, none⟩ = some (.int .i64 p.shifts.length) ∧ W.cell? ⟨B, 9, none⟩ = some (.int .i64 (periodL (liftL p.ros p.rub))) :=
  ⟨cell_of_row W B 0 _ _ _ h, cell_of_row W B 1 _ _ _ h, cell_of_row W B 2 _ _ _ h, cell_of_row W B 3 _ _ _ h, cell_of_row W B 4 _ _ _ h, cell_of_row W B 5 _ _ _ h, cell_of_row W B 6 _ _ _ h, cell_of_row W B 7 _ _ _ h, cell_of_row W B 8 _ _ _ h, cell_of_row W B 9 _ _ _ h⟩
theorem div_bound (j : Int) (n : Nat) (h1 : -1000000 ≤ j) (h2 : j ≤ 1000000) (hn : 1 ≤ n) (hn2 : n ≤ 12) : -1000001 ≤ j / (n : Int) ∧ j / (n : Int) ≤ 1000001 := by
  obtain rfl | rfl | rfl | rfl | rfl | rfl | rfl | rfl | rfl | rfl | rfl | rfl : n = 1 ∨ n = 2 ∨ n = 3 ∨ n = 4 ∨ n = 5 ∨ n = 6 ∨ n = 7 ∨ n = 8 ∨ n = 9 ∨ n = 10 ∨ n = 11 ∨ n = 12 := by omega
  all_goals omega
theorem mul_bound (q S : Int) (h1 : -1000001 ≤ q) (h2 : q ≤ 1000001) (hS : 0 ≤ S ∧ S ≤ 1152) : -2000000000 ≤ q * S ∧ q * S ≤ 2000000000 := by
  have a := Int.mul_le_mul_of_nonneg_right h2 hS.1
  have b := Int.mul_le_mul_of_nonneg_right h1 hS.1
  omega
theorem tdiv_around (j n : Int) (h : 0 < n) : (j - j % n).tdiv n = j / n := by
  have h1 : j - j % n = n * (j / n) := by have := Int.emod_add_mul_ediv j n; omega
  rw [h1, Int.mul_tdiv_cancel_left _ (by omega)]
theorem pf_phase (b : Nat) (p : Prog) (j : Int) (w : World) (hb : IsBench w b p) (hp : BenchFacts p) (h1 : -1000000 ≤ j) (h2 : j ≤ 1000000) :
    Calls Try.prog 58 #[.pointer (some ⟨b, 0, none⟩), .int .i64 j] w fun e w' => e = .returned (.int .i64 (phaseI p j)) ∧ ∃ n, w' = w.drewN n := by
  obtain ⟨v0, v1, v5, vl, hc, _, _, _, _⟩ := hb
  obtain ⟨c0, c1, c2, c3, c4, c5, c6, c7, c8, c9⟩ := bench_low hc
  have hr0 := hp.ros0
  have hr1 := hp.ros1
  have hs0 := hp.sh0
  have hs1 := hp.sh1
  have hat0 := Int.emod_nonneg j (show (p.shifts.length : Int) ≠ 0 by omega)
  have hat1 := Int.emod_lt_of_pos j (show (0 : Int) < (p.shifts.length : Int) by omega)
  obtain ⟨a, ha⟩ : ∃ a : Nat, j % (p.shifts.length : Int) = (a : Int) := ⟨_, (Int.toNat_of_nonneg hat0).symm⟩
  have hq := div_bound j p.shifts.length h1 h2 hs0 hs1
  have htd := tdiv_around j p.shifts.length (by omega)
  have hS := hp.sum p.shifts.length (Nat.le_refl _)
  have hA := hp.sum a (by omega)
  have hmb := mul_bound _ _ hq.1 hq.2 hS
  have hcs := bench_sum hc p.shifts.length (by omega)
  have hca := bench_sum hc a (by omega)
  rw [show sumAt p.shifts p.shifts.length p.shifts.length = sumTo p.shifts p.shifts.length from if_pos (Nat.le_refl _)] at hcs
  rw [show sumAt p.shifts p.shifts.length a = sumTo p.shifts a from if_pos (by omega)] at hca
  have hval : phaseI p j = (j / (p.shifts.length : Int) * sumTo p.shifts p.shifts.length + sumTo p.shifts a) % (p.ros.length : Int) := by unfold phaseI; rw [ha, Int.toNat_natCast]
  rw [hval]
  rw [ha] at hat0 hat1 htd
  have ha' := Lib.hid ha
  clear hc hval ha
  generalize sumTo p.shifts p.shifts.length = S at hS hmb hcs
  generalize sumTo p.shifts a = s at hA hca
  generalize p.ros.length = n at hr0 hr1 c7
  generalize p.shifts.length = l at *
  generalize hQ : j / (l : Int) = q at htd hq hmb
  clear hQ
  have hi0 : (a : Int) < 13 := by omega
  have hi1 : (l : Int) < 13 := by omega
  have hw0 : IntKind.i64.wrap (j - (a : Int)) = j - a := IntWalk.i64_in _ (by omega)
  have hw1 : IntKind.i64.wrap q = q := IntWalk.i64_in _ (by omega)
  have hw2 : IntKind.i64.wrap (q * S) = q * S := IntWalk.i64_in _ (by omega)
  have hw3 : IntKind.i64.wrap (q * S + s) = q * S + s := IntWalk.i64_in _ (by omega)
  have hw4 : IntKind.i64.wrap (l : Int) = l := IntWalk.i64_in _ (by omega)
  have hw5 : IntKind.i64.wrap (a : Int) = a := IntWalk.i64_in _ (by omega)
  go_enter Try.func58, Try.ntmps58
  go_wp2_with (first | (go_at_call 57; refine (pf_pat_modulo _ _ _ (by omega) (by omega) (by unfold Mid; omega)).mono ?_; rintro e w' ⟨rfl, rfl⟩; rw [ha'.out]))
  go_quiet (first | (go_at_call 57; exact quiet_same' (pf_pat_modulo _ _ _ (by omega) (by omega) (by unfold Mid; omega))))
  go_wp2
  go_ret
  exact ⟨rfl, _, rfl⟩
end Go.Proofs.Ytnboppombhibbaa
