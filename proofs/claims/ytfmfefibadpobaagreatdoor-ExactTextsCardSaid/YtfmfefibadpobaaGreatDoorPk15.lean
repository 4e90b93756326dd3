/- exact: fractions: sign, opposite, plus, minus, number. -/
import Derived.Test.YtfmfefibadpobaaGreatDoorPk14
namespace Go.Proofs.YtfmfefibadpobaaGreatDoor
set_option maxRecDepth 100000
open Go.RowKit Go.Shelf
set_option linter.unusedVariables false
set_option linter.unusedSimpArgs false
end Go.Proofs.YtfmfefibadpobaaGreatDoor
