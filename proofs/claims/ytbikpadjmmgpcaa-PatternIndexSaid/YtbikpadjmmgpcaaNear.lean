/- exact: Nearest's closure. -/
import Derived.Test.YtbikpadjmmgpcaaOper2
namespace Go.Proofs.Ytbikpadjmmgpcaa
open Go.RowKit Go.Shelf
set_option linter.unusedVariables false
set_option linter.unusedSimpArgs false
attribute [local go_sem] Oper.semAt_some
end Go.Proofs.Ytbikpadjmmgpcaa
