/- From what a row's opening gives of a slice of integers to the predicate that the contracts speak of. From what a row's opening gives of a fraction (a struct of .. -/
import Derived.Test.YtbcbcdgbliheoaaGreatPk33
import Derived.ProofKit
import Derived.OpenShut
import Derived.ShutString
import Derived.ChangeOld
import Derived.Below
import Derived.Lib.SmallJoins
namespace Go.Proofs.YtbcbcdgbliheoaaGreat
set_option maxRecDepth 100000
open Go.RowKit
set_option linter.unusedVariables false
open Go.RowKit Go.ChangeShapes Go.WideShapes Go.Deep
section
variable {H:Type} {enc:TypeId×Value->H} {w:World} {n:Nat}
end
end Go.Proofs.YtbcbcdgbliheoaaGreat
