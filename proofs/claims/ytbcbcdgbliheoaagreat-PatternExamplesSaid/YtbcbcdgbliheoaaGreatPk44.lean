/- From what a row's opening gives of a turning number (four api.Whole) to the predicate that the contracts speak of. -/
import Derived.Test.YtbcbcdgbliheoaaGreatPk43
import Derived.Test.YtbcbcdgbliheoaaGreatPk41
namespace Go.Proofs.YtbcbcdgbliheoaaGreat
set_option maxRecDepth 100000
open Go.RowKit Go.ChangeShapes Go.WideShapes Go.Deep
set_option linter.unusedVariables false
section
variable {H:Type} {enc:TypeId×Value->H} {w:World} {n:Nat}
end
end Go.Proofs.YtbcbcdgbliheoaaGreat
