/- The reference of layer 3: SameInts, heights, Check, CheckRubber, Great. -/
import Derived.Test.YtbikpadjmmgpcaaBase
import Derived.Test.YtbikpadjmmgpcaaRos
import Derived.Test.YtbikpadjmmgpcaaStd
import Derived.Test.YtbikpadjmmgpcaaBoxKit
namespace Go.Proofs.Ytbikpadjmmgpcaa
open Go.RowKit
set_option linter.unusedVariables false
set_option linter.unusedSimpArgs false
end Go.Proofs.Ytbikpadjmmgpcaa
