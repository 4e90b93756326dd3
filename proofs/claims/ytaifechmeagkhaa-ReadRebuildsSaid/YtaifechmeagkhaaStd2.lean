/- More of package slices at []int: Grow, Concat, Equal. -/
import Derived.Test.YtaifechmeagkhaaStd
import Derived.Lib.AppendZeros
namespace Go.Proofs.Ytaifechmeagkhaa
open Go.RowKit
set_option linter.unusedVariables false
set_option linter.unusedSimpArgs false
end Go.Proofs.Ytaifechmeagkhaa
