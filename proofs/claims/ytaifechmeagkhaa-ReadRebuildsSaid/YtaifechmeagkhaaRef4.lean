/- The reference of layer 4: lift, Period, Great, Phase. -/
import Derived.Test.YtaifechmeagkhaaRefLift2
import Derived.Test.YtaifechmeagkhaaPhase
namespace Go.Proofs.Ytaifechmeagkhaa
open Go.RowKit
set_option linter.unusedVariables false
set_option linter.unusedSimpArgs false
end Go.Proofs.Ytaifechmeagkhaa
