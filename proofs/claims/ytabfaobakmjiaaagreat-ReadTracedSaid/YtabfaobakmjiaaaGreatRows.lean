/-
  No cell of these rows narrows 'for every input' (looked for: loops, veiled, ifaces, maps, wideKeys, modest, calm, conditions, laid).
  DERIVED. THE GIVEN ROWS OF THIS SEAT. 3 by the template 'for every input the law returns true; each argument reads behind the call as it read before'; 0 by the template 'total and deterministic' (their statements: YtabfaobakmjiaaaGreatTotals.lean).
  GIVEN WITH THE SEED: the statements are not yours to turn. If you find one false, say at which input.
  Laid BY PROGRAM, IN A SANDBOX (cutbox-rows.mjs): the forced cells as the released guide's own fill.sh prints them over the translation de95fe237da2be51… (all of the seat's roots in one cut). By AI agents, Wed Nov 11 2026. No macro, syntax, notation, axiom, sorry.
-/
import Derived.Test.YtabfaobakmjiaaaGreatChecked
import GoSem.Claim
import GoSem.ClaimJoined
import GoSem.ClaimMapViews
import Derived.JoinedTies
import Derived.KernelRfl
namespace Go.Proofs.YtabfaobakmjiaaaGreat
/- THE CELL 'sum', in the pinned program and in every row, IS THE sha256 OF THE DUMP (.gsa) THAT YtabfaobakmjiaaaGreatProg.lean LOADS. Nothing in Lean hashes anything: it is a label: what it is worth is what the hold of that sum in a sandbox is worth. -/
noncomputable def Tryz.pinned : Pinned := { name := "ytabfaobakmjiaaagreat", sum := "de95fe237da2be5170ff60bf1fe9ec58ec091c7c3ad39485773297dc55118f90", checked := Tryz.checked }
namespace Rows
def none {H : Type} : Left H := { results := [], args := [] }

/-- 'barleycornlaw09.ReadTraces': WHATEVER THE INPUT: true; the input reads as it did. -/
def readTracesSpec : ChangeSpec := { name := "readTraces", fn := fun _ => fun
  | [d1, d2, d3, d4] => { results := [.lit (.bool true)], args := [d1, d2, d3, d4] }
  | _ => none }
def readTracesRow : OpenClaim := { program := "ytabfaobakmjiaaagreat", sum := "de95fe237da2be5170ff60bf1fe9ec58ec091c7c3ad39485773297dc55118f90", func := "barleycorn/barleycornlaw09.ReadTraces", spec := "readTraces", unfollowed := true, recurses := true, apart := false }
def ReadTracesSaid : Prop := readTracesRow.holds Tryz.pinned (OpenSpec.ofChange readTracesSpec)

/-- ITS FALSE NEIGHBOUR: 'it returns false'. Refute it at one input. -/
def readTracesWrong : ChangeSpec := { name := "readTraces", fn := fun _ => fun
  | [d1, d2, d3, d4] => { results := [.lit (.bool false)], args := [d1, d2, d3, d4] }
  | _ => none }
def ReadTracesWrongFalsely : Prop := readTracesRow.holds Tryz.pinned (OpenSpec.ofChange readTracesWrong)

/-- 'barleycornlaw09.ReadTraced': WHATEVER THE INPUT: true; the input reads as it did. -/
def readTracedSpec : ChangeSpec := { name := "readTraced", fn := fun _ => fun
  | [d1, d2, d3, d4, d5, d6, d7, d8] => { results := [.lit (.bool true)], args := [d1, d2, d3, d4, d5, d6, d7, d8] }
  | _ => none }
def readTracedRow : OpenClaim := { program := "ytabfaobakmjiaaagreat", sum := "de95fe237da2be5170ff60bf1fe9ec58ec091c7c3ad39485773297dc55118f90", func := "barleycorn/barleycornlaw09.ReadTraced", spec := "readTraced", unfollowed := true, recurses := true, apart := false }
def ReadTracedSaid : Prop := readTracedRow.holds Tryz.pinned (OpenSpec.ofChange readTracedSpec)

/-- ITS FALSE NEIGHBOUR: 'it returns false'. Refute it at one input. -/
def readTracedWrong : ChangeSpec := { name := "readTraced", fn := fun _ => fun
  | [d1, d2, d3, d4, d5, d6, d7, d8] => { results := [.lit (.bool false)], args := [d1, d2, d3, d4, d5, d6, d7, d8] }
  | _ => none }
def ReadTracedWrongFalsely : Prop := readTracedRow.holds Tryz.pinned (OpenSpec.ofChange readTracedWrong)

/-- 'barleycornlaw09.ReadExamples': WHATEVER THE INPUT: true; the input reads as it did. -/
def readExamplesSpec : ChangeSpec := { name := "readExamples", fn := fun _ => fun
  | [] => { results := [.lit (.bool true)], args := [] }
  | _ => none }
def readExamplesRow : OpenClaim := { program := "ytabfaobakmjiaaagreat", sum := "de95fe237da2be5170ff60bf1fe9ec58ec091c7c3ad39485773297dc55118f90", func := "barleycorn/barleycornlaw09.ReadExamples", spec := "readExamples", unfollowed := true, recurses := true, apart := false }
def ReadExamplesSaid : Prop := readExamplesRow.holds Tryz.pinned (OpenSpec.ofChange readExamplesSpec)

/-- ITS FALSE NEIGHBOUR: 'it returns false'. Refute it at one input. -/
def readExamplesWrong : ChangeSpec := { name := "readExamples", fn := fun _ => fun
  | [] => { results := [.lit (.bool false)], args := [] }
  | _ => none }
def ReadExamplesWrongFalsely : Prop := readExamplesRow.holds Tryz.pinned (OpenSpec.ofChange readExamplesWrong)

/- THE SECOND FORM. 'bulk': how many values and letters a reading holds, each counted each time it is reached (what is shared counts as often as it is met; a slice's spare places count too). A statement '..UptoSaid' is the law's where the arguments, and the package variables that the reading takes, are together of bulk at most 1048576: NARROWER than '..Said'. Prove '..Said' where nothing that the law and all that it calls make is longer than what came in: it says more and counts as full. Else prove '..UptoSaid'. A law counts once. -/
mutual
def uptoBulk {H : Type} : DataW H → Nat
  | .lit (.string bytes) => bytes.length + 1
  | .lit _ => 1
  | .nil => 1
  | .ptr d => uptoBulk d + 1
  | .slice elems spare => uptoBulkAll elems + uptoBulkAll spare + 1
  | .agg parts => uptoBulkAll parts + 1
  | .iface _ d => uptoBulk d + 1
  | .map entries => uptoBulkEntries entries + 1
  | .held _ => 1
def uptoBulkAll {H : Type} : List (DataW H) → Nat
  | [] => 0
  | d :: r => uptoBulk d + uptoBulkAll r
def uptoBulkEntries {H : Type} : List (Lit × DataW H) → Nat
  | [] => 0
  | x :: r => uptoBulkEntry x + uptoBulkEntries r
def uptoBulkEntry {H : Type} : Lit × DataW H → Nat
  | (.string bytes, d) => bytes.length + uptoBulk d + 1
  | (_, d) => uptoBulk d + 1
 end
def uptoSmall : (H : Type) → List (DataW H) → Bool := fun _ ds => decide (uptoBulkAll ds ≤ 1048576)
def OpenSpec.upto (s : _root_.Go.ChangeSpec) : _root_.Go.OpenSpec := { _root_.Go.OpenSpec.ofChange s with cond := some uptoSmall }

/-- 'barleycornlaw09.ReadTraces', WHERE WHAT IT READS IS OF BULK AT MOST 1048576: true; the input reads as it did. -/
def readTracesUptoRow : OpenClaim := { program := "ytabfaobakmjiaaagreat", sum := "de95fe237da2be5170ff60bf1fe9ec58ec091c7c3ad39485773297dc55118f90", func := "barleycorn/barleycornlaw09.ReadTraces", spec := "readTraces", unfollowed := true, recurses := true, apart := false, narrowed := true }
def ReadTracesUptoSaid : Prop := readTracesUptoRow.holds Tryz.pinned (OpenSpec.upto readTracesSpec)

/-- 'barleycornlaw09.ReadTraced', WHERE WHAT IT READS IS OF BULK AT MOST 1048576: true; the input reads as it did. -/
def readTracedUptoRow : OpenClaim := { program := "ytabfaobakmjiaaagreat", sum := "de95fe237da2be5170ff60bf1fe9ec58ec091c7c3ad39485773297dc55118f90", func := "barleycorn/barleycornlaw09.ReadTraced", spec := "readTraced", unfollowed := true, recurses := true, apart := false, narrowed := true }
def ReadTracedUptoSaid : Prop := readTracedUptoRow.holds Tryz.pinned (OpenSpec.upto readTracedSpec)

/-- 'barleycornlaw09.ReadExamples', WHERE WHAT IT READS IS OF BULK AT MOST 1048576: true; the input reads as it did. -/
def readExamplesUptoRow : OpenClaim := { program := "ytabfaobakmjiaaagreat", sum := "de95fe237da2be5170ff60bf1fe9ec58ec091c7c3ad39485773297dc55118f90", func := "barleycorn/barleycornlaw09.ReadExamples", spec := "readExamples", unfollowed := true, recurses := true, apart := false, narrowed := true }
def ReadExamplesUptoSaid : Prop := readExamplesUptoRow.holds Tryz.pinned (OpenSpec.upto readExamplesSpec)

end Rows
end Go.Proofs.YtabfaobakmjiaaaGreat
