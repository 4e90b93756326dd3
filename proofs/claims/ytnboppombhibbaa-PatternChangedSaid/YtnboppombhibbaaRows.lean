/-
  No cell of these rows narrows 'for every input' (looked for: loops, veiled, ifaces, maps, wideKeys, modest, calm, conditions, laid).
  DERIVED. THE GIVEN ROWS OF THIS SEAT. 11 by the template 'for every input the law returns true; each argument reads behind the call as it read before'; 0 by the template 'total and deterministic' (their statements: YtnboppombhibbaaTotals.lean).
  GIVEN WITH THE SEED: the statements are not yours to turn. If you find one false, say at which input.
  Laid BY PROGRAM, IN A SANDBOX (cutbox-rows.mjs): the forced cells as the released guide's own fill.sh prints them over the translation 854be89e6c1cfad5… (all of the seat's roots in one cut). By AI agents, Wed Nov 11 2026. No macro, syntax, notation, axiom, sorry.
-/
import Derived.Test.YtnboppombhibbaaChecked
import GoSem.Claim
import GoSem.ClaimJoined
import GoSem.ClaimMapViews
import Derived.JoinedTies
import Derived.KernelRfl
namespace Go.Proofs.Ytnboppombhibbaa
/- THE CELL 'sum', in the pinned program and in every row, IS THE sha256 OF THE DUMP (.gsa) THAT YtnboppombhibbaaProg.lean LOADS. Nothing in Lean hashes anything: it is a label: what it is worth is what the hold of that sum in a sandbox is worth. -/
noncomputable def Try.pinned : Pinned := { name := "ytnboppombhibbaa", sum := "854be89e6c1cfad5a88bea57af300a648a3d5da702b4e077c8585472e5f2c3d5", checked := Try.checked }
namespace Rows
def none {H : Type} : Left H := { results := [], args := [] }

/-- 'barleycornlaw04.PatternCuts': WHATEVER THE INPUT: true; the input reads as it did. -/
def patternCutsSpec : ChangeSpec := { name := "patternCuts", fn := fun _ => fun
  | [d1, d2, d3, d4] => { results := [.lit (.bool true)], args := [d1, d2, d3, d4] }
  | _ => none }
def patternCutsRow : OpenClaim := { program := "ytnboppombhibbaa", sum := "854be89e6c1cfad5a88bea57af300a648a3d5da702b4e077c8585472e5f2c3d5", func := "barleycorn/barleycornlaw04.PatternCuts", spec := "patternCuts", unfollowed := true, recurses := true, apart := false }
def PatternCutsSaid : Prop := patternCutsRow.holds Try.pinned (OpenSpec.ofChange patternCutsSpec)

/-- ITS FALSE NEIGHBOUR: 'it returns false'. Refute it at one input. -/
def patternCutsWrong : ChangeSpec := { name := "patternCuts", fn := fun _ => fun
  | [d1, d2, d3, d4] => { results := [.lit (.bool false)], args := [d1, d2, d3, d4] }
  | _ => none }
def PatternCutsWrongFalsely : Prop := patternCutsRow.holds Try.pinned (OpenSpec.ofChange patternCutsWrong)

/-- 'barleycornlaw04.PatternPairs': WHATEVER THE INPUT: true; the input reads as it did. -/
def patternPairsSpec : ChangeSpec := { name := "patternPairs", fn := fun _ => fun
  | [d1, d2] => { results := [.lit (.bool true)], args := [d1, d2] }
  | _ => none }
def patternPairsRow : OpenClaim := { program := "ytnboppombhibbaa", sum := "854be89e6c1cfad5a88bea57af300a648a3d5da702b4e077c8585472e5f2c3d5", func := "barleycorn/barleycornlaw04.PatternPairs", spec := "patternPairs", unfollowed := true, recurses := true, apart := false }
def PatternPairsSaid : Prop := patternPairsRow.holds Try.pinned (OpenSpec.ofChange patternPairsSpec)

/-- ITS FALSE NEIGHBOUR: 'it returns false'. Refute it at one input. -/
def patternPairsWrong : ChangeSpec := { name := "patternPairs", fn := fun _ => fun
  | [d1, d2] => { results := [.lit (.bool false)], args := [d1, d2] }
  | _ => none }
def PatternPairsWrongFalsely : Prop := patternPairsRow.holds Try.pinned (OpenSpec.ofChange patternPairsWrong)

/-- 'barleycornlaw04.PatternTells': WHATEVER THE INPUT: true; the input reads as it did. -/
def patternTellsSpec : ChangeSpec := { name := "patternTells", fn := fun _ => fun
  | [d] => { results := [.lit (.bool true)], args := [d] }
  | _ => none }
def patternTellsRow : OpenClaim := { program := "ytnboppombhibbaa", sum := "854be89e6c1cfad5a88bea57af300a648a3d5da702b4e077c8585472e5f2c3d5", func := "barleycorn/barleycornlaw04.PatternTells", spec := "patternTells", unfollowed := true, recurses := true, apart := false }
def PatternTellsSaid : Prop := patternTellsRow.holds Try.pinned (OpenSpec.ofChange patternTellsSpec)

/-- ITS FALSE NEIGHBOUR: 'it returns false'. Refute it at one input. -/
def patternTellsWrong : ChangeSpec := { name := "patternTells", fn := fun _ => fun
  | [d] => { results := [.lit (.bool false)], args := [d] }
  | _ => none }
def PatternTellsWrongFalsely : Prop := patternTellsRow.holds Try.pinned (OpenSpec.ofChange patternTellsWrong)

/-- 'barleycornlaw04.PatternCloses': WHATEVER THE INPUT: true; the input reads as it did. -/
def patternClosesSpec : ChangeSpec := { name := "patternCloses", fn := fun _ => fun
  | [d1, d2] => { results := [.lit (.bool true)], args := [d1, d2] }
  | _ => none }
def patternClosesRow : OpenClaim := { program := "ytnboppombhibbaa", sum := "854be89e6c1cfad5a88bea57af300a648a3d5da702b4e077c8585472e5f2c3d5", func := "barleycorn/barleycornlaw04.PatternCloses", spec := "patternCloses", unfollowed := true, recurses := true, apart := false }
def PatternClosesSaid : Prop := patternClosesRow.holds Try.pinned (OpenSpec.ofChange patternClosesSpec)

/-- ITS FALSE NEIGHBOUR: 'it returns false'. Refute it at one input. -/
def patternClosesWrong : ChangeSpec := { name := "patternCloses", fn := fun _ => fun
  | [d1, d2] => { results := [.lit (.bool false)], args := [d1, d2] }
  | _ => none }
def PatternClosesWrongFalsely : Prop := patternClosesRow.holds Try.pinned (OpenSpec.ofChange patternClosesWrong)

/-- 'barleycornlaw04.PatternGap': WHATEVER THE INPUT: true; the input reads as it did. -/
def patternGapSpec : ChangeSpec := { name := "patternGap", fn := fun _ => fun
  | [d1, d2, d3] => { results := [.lit (.bool true)], args := [d1, d2, d3] }
  | _ => none }
def patternGapRow : OpenClaim := { program := "ytnboppombhibbaa", sum := "854be89e6c1cfad5a88bea57af300a648a3d5da702b4e077c8585472e5f2c3d5", func := "barleycorn/barleycornlaw04.PatternGap", spec := "patternGap", unfollowed := true, recurses := true, apart := false }
def PatternGapSaid : Prop := patternGapRow.holds Try.pinned (OpenSpec.ofChange patternGapSpec)

/-- ITS FALSE NEIGHBOUR: 'it returns false'. Refute it at one input. -/
def patternGapWrong : ChangeSpec := { name := "patternGap", fn := fun _ => fun
  | [d1, d2, d3] => { results := [.lit (.bool false)], args := [d1, d2, d3] }
  | _ => none }
def PatternGapWrongFalsely : Prop := patternGapRow.holds Try.pinned (OpenSpec.ofChange patternGapWrong)

/-- 'barleycornlaw04.PatternTaken': WHATEVER THE INPUT: true; the input reads as it did. -/
def patternTakenSpec : ChangeSpec := { name := "patternTaken", fn := fun _ => fun
  | [d1, d2, d3, d4, d5] => { results := [.lit (.bool true)], args := [d1, d2, d3, d4, d5] }
  | _ => none }
def patternTakenRow : OpenClaim := { program := "ytnboppombhibbaa", sum := "854be89e6c1cfad5a88bea57af300a648a3d5da702b4e077c8585472e5f2c3d5", func := "barleycorn/barleycornlaw04.PatternTaken", spec := "patternTaken", unfollowed := true, recurses := true, apart := false }
def PatternTakenSaid : Prop := patternTakenRow.holds Try.pinned (OpenSpec.ofChange patternTakenSpec)

/-- ITS FALSE NEIGHBOUR: 'it returns false'. Refute it at one input. -/
def patternTakenWrong : ChangeSpec := { name := "patternTaken", fn := fun _ => fun
  | [d1, d2, d3, d4, d5] => { results := [.lit (.bool false)], args := [d1, d2, d3, d4, d5] }
  | _ => none }
def PatternTakenWrongFalsely : Prop := patternTakenRow.holds Try.pinned (OpenSpec.ofChange patternTakenWrong)

/-- 'barleycornlaw04.PatternGroup': WHATEVER THE INPUT: true; the input reads as it did. -/
def patternGroupSpec : ChangeSpec := { name := "patternGroup", fn := fun _ => fun
  | [d1, d2, d3] => { results := [.lit (.bool true)], args := [d1, d2, d3] }
  | _ => none }
def patternGroupRow : OpenClaim := { program := "ytnboppombhibbaa", sum := "854be89e6c1cfad5a88bea57af300a648a3d5da702b4e077c8585472e5f2c3d5", func := "barleycorn/barleycornlaw04.PatternGroup", spec := "patternGroup", unfollowed := true, recurses := true, apart := false }
def PatternGroupSaid : Prop := patternGroupRow.holds Try.pinned (OpenSpec.ofChange patternGroupSpec)

/-- ITS FALSE NEIGHBOUR: 'it returns false'. Refute it at one input. -/
def patternGroupWrong : ChangeSpec := { name := "patternGroup", fn := fun _ => fun
  | [d1, d2, d3] => { results := [.lit (.bool false)], args := [d1, d2, d3] }
  | _ => none }
def PatternGroupWrongFalsely : Prop := patternGroupRow.holds Try.pinned (OpenSpec.ofChange patternGroupWrong)

/-- 'barleycornlaw04.PatternCarries': WHATEVER THE INPUT: true; the input reads as it did. -/
def patternCarriesSpec : ChangeSpec := { name := "patternCarries", fn := fun _ => fun
  | [d1, d2, d3, d4, d5] => { results := [.lit (.bool true)], args := [d1, d2, d3, d4, d5] }
  | _ => none }
def patternCarriesRow : OpenClaim := { program := "ytnboppombhibbaa", sum := "854be89e6c1cfad5a88bea57af300a648a3d5da702b4e077c8585472e5f2c3d5", func := "barleycorn/barleycornlaw04.PatternCarries", spec := "patternCarries", unfollowed := true, recurses := true, apart := false }
def PatternCarriesSaid : Prop := patternCarriesRow.holds Try.pinned (OpenSpec.ofChange patternCarriesSpec)

/-- ITS FALSE NEIGHBOUR: 'it returns false'. Refute it at one input. -/
def patternCarriesWrong : ChangeSpec := { name := "patternCarries", fn := fun _ => fun
  | [d1, d2, d3, d4, d5] => { results := [.lit (.bool false)], args := [d1, d2, d3, d4, d5] }
  | _ => none }
def PatternCarriesWrongFalsely : Prop := patternCarriesRow.holds Try.pinned (OpenSpec.ofChange patternCarriesWrong)

/-- 'barleycornlaw04.PatternMoire': WHATEVER THE INPUT: true; the input reads as it did. -/
def patternMoireSpec : ChangeSpec := { name := "patternMoire", fn := fun _ => fun
  | [d1, d2] => { results := [.lit (.bool true)], args := [d1, d2] }
  | _ => none }
def patternMoireRow : OpenClaim := { program := "ytnboppombhibbaa", sum := "854be89e6c1cfad5a88bea57af300a648a3d5da702b4e077c8585472e5f2c3d5", func := "barleycorn/barleycornlaw04.PatternMoire", spec := "patternMoire", unfollowed := true, recurses := true, apart := false }
def PatternMoireSaid : Prop := patternMoireRow.holds Try.pinned (OpenSpec.ofChange patternMoireSpec)

/-- ITS FALSE NEIGHBOUR: 'it returns false'. Refute it at one input. -/
def patternMoireWrong : ChangeSpec := { name := "patternMoire", fn := fun _ => fun
  | [d1, d2] => { results := [.lit (.bool false)], args := [d1, d2] }
  | _ => none }
def PatternMoireWrongFalsely : Prop := patternMoireRow.holds Try.pinned (OpenSpec.ofChange patternMoireWrong)

/-- 'barleycornlaw04.PatternPhases': WHATEVER THE INPUT: true; the input reads as it did. -/
def patternPhasesSpec : ChangeSpec := { name := "patternPhases", fn := fun _ => fun
  | [d1, d2, d3] => { results := [.lit (.bool true)], args := [d1, d2, d3] }
  | _ => none }
def patternPhasesRow : OpenClaim := { program := "ytnboppombhibbaa", sum := "854be89e6c1cfad5a88bea57af300a648a3d5da702b4e077c8585472e5f2c3d5", func := "barleycorn/barleycornlaw04.PatternPhases", spec := "patternPhases", unfollowed := true, recurses := true, apart := false }
def PatternPhasesSaid : Prop := patternPhasesRow.holds Try.pinned (OpenSpec.ofChange patternPhasesSpec)

/-- ITS FALSE NEIGHBOUR: 'it returns false'. Refute it at one input. -/
def patternPhasesWrong : ChangeSpec := { name := "patternPhases", fn := fun _ => fun
  | [d1, d2, d3] => { results := [.lit (.bool false)], args := [d1, d2, d3] }
  | _ => none }
def PatternPhasesWrongFalsely : Prop := patternPhasesRow.holds Try.pinned (OpenSpec.ofChange patternPhasesWrong)

/-- 'barleycornlaw04.PatternChanged': WHATEVER THE INPUT: true; the input reads as it did. -/
def patternChangedSpec : ChangeSpec := { name := "patternChanged", fn := fun _ => fun
  | [d1, d2, d3, d4, d5] => { results := [.lit (.bool true)], args := [d1, d2, d3, d4, d5] }
  | _ => none }
def patternChangedRow : OpenClaim := { program := "ytnboppombhibbaa", sum := "854be89e6c1cfad5a88bea57af300a648a3d5da702b4e077c8585472e5f2c3d5", func := "barleycorn/barleycornlaw04.PatternChanged", spec := "patternChanged", unfollowed := true, recurses := true, apart := false }
def PatternChangedSaid : Prop := patternChangedRow.holds Try.pinned (OpenSpec.ofChange patternChangedSpec)

/-- ITS FALSE NEIGHBOUR: 'it returns false'. Refute it at one input. -/
def patternChangedWrong : ChangeSpec := { name := "patternChanged", fn := fun _ => fun
  | [d1, d2, d3, d4, d5] => { results := [.lit (.bool false)], args := [d1, d2, d3, d4, d5] }
  | _ => none }
def PatternChangedWrongFalsely : Prop := patternChangedRow.holds Try.pinned (OpenSpec.ofChange patternChangedWrong)

/- THE SECOND FORM. 'bulk': how many values and letters a reading holds, each counted each time it is reached (what is shared counts as often as it is met; a slice's spare places count too). A statement '..UptoSaid' is the law's where the arguments, and the package variables that the reading takes, are together of bulk at most 1048576: NARROWER than '..Said'. Prove '..Said' where nothing that the law and all that it calls make is longer than what came in: it says more and counts as full. Else prove '..UptoSaid'. A law counts once. -/
mutual
def uptoBulk {H : Type} : DataW H → Nat
  | .lit (.string bytes) => bytes.length + 1
  | .lit _ => 1
  | .nil => 1
  | .ptr d => uptoBulk d + 1
  | .slice elems spare => uptoBulkAll elems + uptoBulkAll spare + 1
  | .agg parts => uptoBulkAll parts + 1
  | .iface _ d => uptoBulk d + 1
  | .map entries => uptoBulkEntries entries + 1
  | .held _ => 1
def uptoBulkAll {H : Type} : List (DataW H) → Nat
  | [] => 0
  | d :: r => uptoBulk d + uptoBulkAll r
def uptoBulkEntries {H : Type} : List (Lit × DataW H) → Nat
  | [] => 0
  | x :: r => uptoBulkEntry x + uptoBulkEntries r
def uptoBulkEntry {H : Type} : Lit × DataW H → Nat
  | (.string bytes, d) => bytes.length + uptoBulk d + 1
  | (_, d) => uptoBulk d + 1
 end
def uptoSmall : (H : Type) → List (DataW H) → Bool := fun _ ds => decide (uptoBulkAll ds ≤ 1048576)
def OpenSpec.upto (s : _root_.Go.ChangeSpec) : _root_.Go.OpenSpec := { _root_.Go.OpenSpec.ofChange s with cond := some uptoSmall }

/-- 'barleycornlaw04.PatternCuts', WHERE WHAT IT READS IS OF BULK AT MOST 1048576: true; the input reads as it did. -/
def patternCutsUptoRow : OpenClaim := { program := "ytnboppombhibbaa", sum := "854be89e6c1cfad5a88bea57af300a648a3d5da702b4e077c8585472e5f2c3d5", func := "barleycorn/barleycornlaw04.PatternCuts", spec := "patternCuts", unfollowed := true, recurses := true, apart := false, narrowed := true }
def PatternCutsUptoSaid : Prop := patternCutsUptoRow.holds Try.pinned (OpenSpec.upto patternCutsSpec)

/-- 'barleycornlaw04.PatternPairs', WHERE WHAT IT READS IS OF BULK AT MOST 1048576: true; the input reads as it did. -/
def patternPairsUptoRow : OpenClaim := { program := "ytnboppombhibbaa", sum := "854be89e6c1cfad5a88bea57af300a648a3d5da702b4e077c8585472e5f2c3d5", func := "barleycorn/barleycornlaw04.PatternPairs", spec := "patternPairs", unfollowed := true, recurses := true, apart := false, narrowed := true }
def PatternPairsUptoSaid : Prop := patternPairsUptoRow.holds Try.pinned (OpenSpec.upto patternPairsSpec)

/-- 'barleycornlaw04.PatternTells', WHERE WHAT IT READS IS OF BULK AT MOST 1048576: true; the input reads as it did. -/
def patternTellsUptoRow : OpenClaim := { program := "ytnboppombhibbaa", sum := "854be89e6c1cfad5a88bea57af300a648a3d5da702b4e077c8585472e5f2c3d5", func := "barleycorn/barleycornlaw04.PatternTells", spec := "patternTells", unfollowed := true, recurses := true, apart := false, narrowed := true }
def PatternTellsUptoSaid : Prop := patternTellsUptoRow.holds Try.pinned (OpenSpec.upto patternTellsSpec)

/-- 'barleycornlaw04.PatternCloses', WHERE WHAT IT READS IS OF BULK AT MOST 1048576: true; the input reads as it did. -/
def patternClosesUptoRow : OpenClaim := { program := "ytnboppombhibbaa", sum := "854be89e6c1cfad5a88bea57af300a648a3d5da702b4e077c8585472e5f2c3d5", func := "barleycorn/barleycornlaw04.PatternCloses", spec := "patternCloses", unfollowed := true, recurses := true, apart := false, narrowed := true }
def PatternClosesUptoSaid : Prop := patternClosesUptoRow.holds Try.pinned (OpenSpec.upto patternClosesSpec)

/-- 'barleycornlaw04.PatternGap', WHERE WHAT IT READS IS OF BULK AT MOST 1048576: true; the input reads as it did. -/
def patternGapUptoRow : OpenClaim := { program := "ytnboppombhibbaa", sum := "854be89e6c1cfad5a88bea57af300a648a3d5da702b4e077c8585472e5f2c3d5", func := "barleycorn/barleycornlaw04.PatternGap", spec := "patternGap", unfollowed := true, recurses := true, apart := false, narrowed := true }
def PatternGapUptoSaid : Prop := patternGapUptoRow.holds Try.pinned (OpenSpec.upto patternGapSpec)

/-- 'barleycornlaw04.PatternTaken', WHERE WHAT IT READS IS OF BULK AT MOST 1048576: true; the input reads as it did. -/
def patternTakenUptoRow : OpenClaim := { program := "ytnboppombhibbaa", sum := "854be89e6c1cfad5a88bea57af300a648a3d5da702b4e077c8585472e5f2c3d5", func := "barleycorn/barleycornlaw04.PatternTaken", spec := "patternTaken", unfollowed := true, recurses := true, apart := false, narrowed := true }
def PatternTakenUptoSaid : Prop := patternTakenUptoRow.holds Try.pinned (OpenSpec.upto patternTakenSpec)

/-- 'barleycornlaw04.PatternGroup', WHERE WHAT IT READS IS OF BULK AT MOST 1048576: true; the input reads as it did. -/
def patternGroupUptoRow : OpenClaim := { program := "ytnboppombhibbaa", sum := "854be89e6c1cfad5a88bea57af300a648a3d5da702b4e077c8585472e5f2c3d5", func := "barleycorn/barleycornlaw04.PatternGroup", spec := "patternGroup", unfollowed := true, recurses := true, apart := false, narrowed := true }
def PatternGroupUptoSaid : Prop := patternGroupUptoRow.holds Try.pinned (OpenSpec.upto patternGroupSpec)

/-- 'barleycornlaw04.PatternCarries', WHERE WHAT IT READS IS OF BULK AT MOST 1048576: true; the input reads as it did. -/
def patternCarriesUptoRow : OpenClaim := { program := "ytnboppombhibbaa", sum := "854be89e6c1cfad5a88bea57af300a648a3d5da702b4e077c8585472e5f2c3d5", func := "barleycorn/barleycornlaw04.PatternCarries", spec := "patternCarries", unfollowed := true, recurses := true, apart := false, narrowed := true }
def PatternCarriesUptoSaid : Prop := patternCarriesUptoRow.holds Try.pinned (OpenSpec.upto patternCarriesSpec)

/-- 'barleycornlaw04.PatternMoire', WHERE WHAT IT READS IS OF BULK AT MOST 1048576: true; the input reads as it did. -/
def patternMoireUptoRow : OpenClaim := { program := "ytnboppombhibbaa", sum := "854be89e6c1cfad5a88bea57af300a648a3d5da702b4e077c8585472e5f2c3d5", func := "barleycorn/barleycornlaw04.PatternMoire", spec := "patternMoire", unfollowed := true, recurses := true, apart := false, narrowed := true }
def PatternMoireUptoSaid : Prop := patternMoireUptoRow.holds Try.pinned (OpenSpec.upto patternMoireSpec)

/-- 'barleycornlaw04.PatternPhases', WHERE WHAT IT READS IS OF BULK AT MOST 1048576: true; the input reads as it did. -/
def patternPhasesUptoRow : OpenClaim := { program := "ytnboppombhibbaa", sum := "854be89e6c1cfad5a88bea57af300a648a3d5da702b4e077c8585472e5f2c3d5", func := "barleycorn/barleycornlaw04.PatternPhases", spec := "patternPhases", unfollowed := true, recurses := true, apart := false, narrowed := true }
def PatternPhasesUptoSaid : Prop := patternPhasesUptoRow.holds Try.pinned (OpenSpec.upto patternPhasesSpec)

/-- 'barleycornlaw04.PatternChanged', WHERE WHAT IT READS IS OF BULK AT MOST 1048576: true; the input reads as it did. -/
def patternChangedUptoRow : OpenClaim := { program := "ytnboppombhibbaa", sum := "854be89e6c1cfad5a88bea57af300a648a3d5da702b4e077c8585472e5f2c3d5", func := "barleycorn/barleycornlaw04.PatternChanged", spec := "patternChanged", unfollowed := true, recurses := true, apart := false, narrowed := true }
def PatternChangedUptoSaid : Prop := patternChangedUptoRow.holds Try.pinned (OpenSpec.upto patternChangedSpec)

end Rows
end Go.Proofs.Ytnboppombhibbaa
