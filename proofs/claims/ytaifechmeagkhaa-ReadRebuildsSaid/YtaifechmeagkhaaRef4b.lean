/- The reference of layer 4: Phase. -/
import Derived.Test.YtaifechmeagkhaaRef4
namespace Go.Proofs.Ytaifechmeagkhaa
open Go.RowKit
set_option linter.unusedVariables false
set_option linter.unusedSimpArgs false
end Go.Proofs.Ytaifechmeagkhaa
