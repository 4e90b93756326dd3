/- Numbers counted around: the three texts of one function. -/
import Derived.Test.YtpjmbgfggonhhaaGreatStd
namespace Go.Proofs.YtpjmbgfggonhhaaGreat
open Go.RowKit
set_option linter.unusedVariables false
set_option linter.unusedSimpArgs false
theorem tmod_facts (p n : Int) (hn : 0 < n) : -n < p.tmod n ∧ p.tmod n < n ∧ (p.tmod n < 0 → p.tmod n + n = p % n) ∧ (0 ≤ p.tmod n → p.tmod n = p % n) := by
  have h1 := Int.tmod_lt_of_pos p hn
  have h2 : -n < p.tmod n := by
    have := Int.tmod_lt_of_pos (-p) hn
    rw [Int.neg_tmod] at this; omega
  have h3 := Int.mul_tdiv_add_tmod p n
  refine ⟨h2, h1, fun h => ?_, fun h => ?_⟩
  · have e : p = (p.tmod n + n) + n * (p.tdiv n - 1) := by rw [Int.mul_sub]; omega
    conv => rhs; rw [e, Int.add_mul_emod_self_left]
    rw [Int.emod_eq_of_lt (by omega) (by omega)]
  · have e : p = p.tmod n + n * p.tdiv n := by omega
    conv => rhs; rw [e, Int.add_mul_emod_self_left]
    rw [Int.emod_eq_of_lt (by omega) (by omega)]
def Mid (p : Int) : Prop := -1000000000000000 ≤ p ∧ p ≤ 1000000000000000
end Go.Proofs.YtpjmbgfggonhhaaGreat
