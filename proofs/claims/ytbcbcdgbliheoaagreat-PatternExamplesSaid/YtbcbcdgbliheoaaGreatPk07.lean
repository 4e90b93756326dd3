/- The reference of layer 3: SameInts, heights, Check, CheckRubber, Great. -/
import Derived.Test.YtbcbcdgbliheoaaGreatPk06
namespace Go.Proofs.YtbcbcdgbliheoaaGreat
set_option maxRecDepth 100000
open Go.RowKit
set_option linter.unusedVariables false
set_option linter.unusedSimpArgs false
end Go.Proofs.YtbcbcdgbliheoaaGreat
