/- exact: Nearest's closure. -/
import Derived.Test.YtbikpadjmmgpcaaGreatOper2
namespace Go.Proofs.YtbikpadjmmgpcaaGreat
open Go.RowKit Go.Shelf
set_option linter.unusedVariables false
set_option linter.unusedSimpArgs false
attribute [local go_sem] Oper.semAt_some
end Go.Proofs.YtbikpadjmmgpcaaGreat
