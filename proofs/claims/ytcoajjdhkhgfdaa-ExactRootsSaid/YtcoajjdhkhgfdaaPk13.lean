/- exact: out; slices.Clone over groups. -/
import Derived.Test.YtcoajjdhkhgfdaaPk12
namespace Go.Proofs.Ytcoajjdhkhgfdaa
set_option maxRecDepth 100000
open Go.RowKit Go.Shelf
set_option linter.unusedVariables false
set_option linter.unusedSimpArgs false
end Go.Proofs.Ytcoajjdhkhgfdaa
