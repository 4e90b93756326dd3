/- The reference's Fitting: the walk. -/
import Derived.Test.YtphdalgaemefoaaGreatFindLaw
import Derived.Test.YtphdalgaemefoaaGreatRdFitsW
namespace Go.Proofs.YtphdalgaemefoaaGreat
set_option maxRecDepth 100000
open Go.RowKit
set_option linter.unusedVariables false
set_option linter.unusedSimpArgs false
end Go.Proofs.YtphdalgaemefoaaGreat
