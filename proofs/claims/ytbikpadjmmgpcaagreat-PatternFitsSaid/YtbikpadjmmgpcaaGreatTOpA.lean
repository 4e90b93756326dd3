/- exact, turning numbers: combined's closure. exact, turning numbers: combined, AddTurn, MulTurn, DivTurn. -/
import Derived.Test.YtbikpadjmmgpcaaGreatTrnA
import Derived.Test.YtbikpadjmmgpcaaGreatRunTurn
import Derived.Test.YtbikpadjmmgpcaaGreatTrnB
namespace Go.Proofs.YtbikpadjmmgpcaaGreat
open Go.RowKit Go.Shelf
set_option linter.unusedVariables false
set_option linter.unusedSimpArgs false
end Go.Proofs.YtbikpadjmmgpcaaGreat
namespace Go.Proofs.YtbikpadjmmgpcaaGreat
open Go.RowKit Go.Shelf
set_option linter.unusedVariables false
set_option linter.unusedSimpArgs false
end Go.Proofs.YtbikpadjmmgpcaaGreat
