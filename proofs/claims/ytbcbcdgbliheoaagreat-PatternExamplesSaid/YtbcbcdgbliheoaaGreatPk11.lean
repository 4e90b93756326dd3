/- A list in a box, appended to by the body of a range over a function. -/
import Derived.Test.YtbcbcdgbliheoaaGreatPk10
import Derived.Test.YtbcbcdgbliheoaaGreatPk08
namespace Go.Proofs.YtbcbcdgbliheoaaGreat
set_option maxRecDepth 100000
open Go.RowKit Go.Shelf
set_option linter.unusedVariables false
set_option linter.unusedSimpArgs false
end Go.Proofs.YtbcbcdgbliheoaaGreat
