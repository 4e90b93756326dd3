/- exact: run at rat: the deferred closure, a call that returns, a call that reports an error; CheckFrac. -/
import Derived.Test.YtbikpadjmmgpcaaRS5
import Derived.Test.YtbikpadjmmgpcaaRunFrac
namespace Go.Proofs.Ytbikpadjmmgpcaa
open Go.RowKit Go.Shelf
set_option linter.unusedVariables false
set_option linter.unusedSimpArgs false
set_option maxRecDepth 10000
end Go.Proofs.Ytbikpadjmmgpcaa
