/- reference 1: numbers of 0 or more in groups: cut, order, group. reference 1: numbers of 0 or more in groups: sum, less. reference 1: numbers of 0 or more in .. -/
import Derived.Test.YtbcbcdgbliheoaaGreatPk30
import Derived.IntWalk
namespace Go.Proofs.YtbcbcdgbliheoaaGreat
set_option maxRecDepth 100000
open Go.RowKit Go.Shelf
set_option linter.unusedVariables false
set_option linter.unusedSimpArgs false
theorem Le.quiet {w:World} (n:Nat):Le w (w.drewN n):=qAF (Below.refl _ _) n
theorem qMN {N:Nat} (hN:N<=18446744073709551615):(dg N).length <=3:=qBA (by
 have h1:B9^3=1000000000000000000000000000:=by rw[qA5]
 omega)
end Go.Proofs.YtbcbcdgbliheoaaGreat
