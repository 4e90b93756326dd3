/- exact, turning numbers: over. exact, turning numbers: power. exact, turning numbers: combined's closure. exact, turning numbers: combined, AddTurn, MulTurn, .. -/
import Derived.Test.YtbcbcdgbliheoaaGreatPk45
import Derived.Test.YtbcbcdgbliheoaaGreatPk46
namespace Go.Proofs.YtbcbcdgbliheoaaGreat
set_option maxRecDepth 100000
open Go.RowKit Go.Shelf
set_option linter.unusedVariables false
set_option linter.unusedSimpArgs false
end Go.Proofs.YtbcbcdgbliheoaaGreat
