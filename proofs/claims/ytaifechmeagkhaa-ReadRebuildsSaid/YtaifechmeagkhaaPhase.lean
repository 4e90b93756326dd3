/- The phases of a bench. -/
import Derived.Test.YtaifechmeagkhaaMount
namespace Go.Proofs.Ytaifechmeagkhaa
open Go.RowKit
set_option linter.unusedVariables false
set_option linter.unusedSimpArgs false
/-- The phase of the cut j. -/
def phaseI (p : Prog) (j : Int) : Int := (j / (p.shifts.length : Int) * sumTo p.shifts p.shifts.length + sumTo p.shifts (j % (p.shifts.length : Int)).toNat) % (p.ros.length : Int)
/-- What walks of benches use: cells, and bounds. -/
structure BenchFacts (p : Prog) : Prop where
  ros0 : 3 ≤ p.ros.length
  ros1 : p.ros.length ≤ 96
  start : 0 ≤ p.start ∧ p.start ≤ 10000
  throw : 1 ≤ p.throw ∧ p.throw ≤ 16
  adv : -1000 ≤ p.adv ∧ p.adv ≤ 1000
  sh0 : 1 ≤ p.shifts.length
  sh1 : p.shifts.length ≤ 12
  sh : ∀ i (h : i < p.shifts.length), 0 ≤ p.shifts[i] ∧ p.shifts[i] < p.ros.length
  ros : rosOk p.ros = true
  rub : rubOk p.rub p.ros.length = true
theorem benchFacts {p : Prog} (h : progE p = 0) : BenchFacts p := by
  obtain ⟨h1, h2, h3⟩ := progE_zero h
  obtain ⟨a1, a2, a3, a4, a5⟩ := progB_iff.1 h3
  obtain ⟨b1, b2, _⟩ := rosOk_iff.1 h1
  exact ⟨b1, b2, a1, a2, a3, a4.1, a4.2, a5, h1, h2⟩
theorem BenchFacts.sum {p : Prog} (h : BenchFacts p) (k : Nat) (hk : k ≤ p.shifts.length) : 0 ≤ sumTo p.shifts k ∧ sumTo p.shifts k ≤ 1152 :=
  sum_small (sumTo_le p.shifts p.ros.length h.sh k hk) h.ros1 (Nat.le_trans hk h.sh1)
theorem bench_low {W : World} {B : Nat} {t : TypeId} {p : Prog} {v0 v1 v5 vl : Value} {k : Nat} (h : W.heap[B]? = some (.cells (benchCells p v0 v1 v5 vl k) t)) :
    W.cell? ⟨B, 0, none⟩ = some v0 ∧ W.cell? ⟨B, 1, none⟩ = some v1 ∧ W.cell? ⟨B, 2, none⟩ = some (.int .i64 p.start) ∧ W.cell? ⟨B, 3, none⟩ = some (.int .i64 p.throw) ∧ W.cell? ⟨B, 4, none⟩ = some (.int .i64 p.adv) ∧ W.cell? ⟨B, 5, none⟩ = some v5 ∧
    W.cell? ⟨B, 6, none⟩ = some vl ∧ W.cell? ⟨B, 7, none⟩ = some (.int .i64 p.ros.length) ∧ W.cell? ⟨B, 8, none⟩ = some (.int .i64 p.shifts.length) ∧ W.cell? ⟨B, 9, none⟩ = some (.int .i64 (periodL (liftL p.ros p.rub))) :=
  ⟨cell_of_row W B 0 _ _ _ h, cell_of_row W B 1 _ _ _ h, cell_of_row W B 2 _ _ _ h, cell_of_row W B 3 _ _ _ h, cell_of_row W B 4 _ _ _ h, cell_of_row W B 5 _ _ _ h, cell_of_row W B 6 _ _ _ h, cell_of_row W B 7 _ _ _ h, cell_of_row W B 8 _ _ _ h, cell_of_row W B 9 _ _ _ h⟩
theorem div_bound (j : Int) (n : Nat) (h1 : -1000000 ≤ j) (h2 : j ≤ 1000000) (hn : 1 ≤ n) (hn2 : n ≤ 12) : -1000001 ≤ j / (n : Int) ∧ j / (n : Int) ≤ 1000001 := by
  obtain rfl | rfl | rfl | rfl | rfl | rfl | rfl | rfl | rfl | rfl | rfl | rfl : n = 1 ∨ n = 2 ∨ n = 3 ∨ n = 4 ∨ n = 5 ∨ n = 6 ∨ n = 7 ∨ n = 8 ∨ n = 9 ∨ n = 10 ∨ n = 11 ∨ n = 12 := by omega
  all_goals omega
theorem mul_bound (q S : Int) (h1 : -1000001 ≤ q) (h2 : q ≤ 1000001) (hS : 0 ≤ S ∧ S ≤ 1152) : -2000000000 ≤ q * S ∧ q * S ≤ 2000000000 := by
  have a := Int.mul_le_mul_of_nonneg_right h2 hS.1
  have b := Int.mul_le_mul_of_nonneg_right h1 hS.1
  omega
theorem tdiv_around (j n : Int) (h : 0 < n) : (j - j % n).tdiv n = j / n := by
  have h1 : j - j % n = n * (j / n) := by have := Int.emod_add_mul_ediv j n; omega
  rw [h1, Int.mul_tdiv_cancel_left _ (by omega)]
end Go.Proofs.Ytaifechmeagkhaa
