/- The reference's Fitting: the walk. -/
import Derived.Test.YtjdgkmcmgagkgaaFindLaw
import Derived.Test.YtjdgkmcmgagkgaaRdFitsW
namespace Go.Proofs.Ytjdgkmcmgagkgaa
set_option maxRecDepth 100000
open Go.RowKit
set_option linter.unusedVariables false
set_option linter.unusedSimpArgs false
end Go.Proofs.Ytjdgkmcmgagkgaa
