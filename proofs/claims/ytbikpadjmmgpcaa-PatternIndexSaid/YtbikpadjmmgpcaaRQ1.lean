/- reference 1: fractions: lowest, Sign, Minus. reference 1: fractions: Plus. reference 1: fractions: Times, By. reference 1: fractions: absolute, Int, Over, Order. -/
import Derived.Test.YtbikpadjmmgpcaaRN1
import Derived.Test.YtbikpadjmmgpcaaRat4
import Derived.Test.YtbikpadjmmgpcaaMonoR
namespace Go.Proofs.Ytbikpadjmmgpcaa
open Go.RowKit Go.Shelf
set_option linter.unusedVariables false
set_option linter.unusedSimpArgs false
theorem dg_one_lt : (1 : Nat) < B9 := by have := B9_eq; omega
end Go.Proofs.Ytbikpadjmmgpcaa
namespace Go.Proofs.Ytbikpadjmmgpcaa
open Go.RowKit Go.Shelf
set_option linter.unusedVariables false
set_option linter.unusedSimpArgs false
end Go.Proofs.Ytbikpadjmmgpcaa
namespace Go.Proofs.Ytbikpadjmmgpcaa
open Go.RowKit Go.Shelf
set_option linter.unusedVariables false
set_option linter.unusedSimpArgs false
end Go.Proofs.Ytbikpadjmmgpcaa
namespace Go.Proofs.Ytbikpadjmmgpcaa
open Go.RowKit Go.Shelf
set_option linter.unusedVariables false
set_option linter.unusedSimpArgs false
theorem dg_u64 {N : Nat} (hN : N ≤ 18446744073709551615) : (dg N).length ≤ 3 := dg_length_le (by
  have h1 : B9 ^ 3 = 1000000000000000000000000000 := by rw [B9_eq]
  omega)
end Go.Proofs.Ytbikpadjmmgpcaa
