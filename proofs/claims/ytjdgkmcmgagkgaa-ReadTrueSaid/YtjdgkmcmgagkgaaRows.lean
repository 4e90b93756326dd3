/-
  No cell of these rows narrows 'for every input' (looked for: loops, veiled, ifaces, maps, wideKeys, modest, calm, conditions, laid).
  DERIVED. THE GIVEN ROWS OF THIS SEAT. 3 by the template 'for every input the law returns true; each argument reads behind the call as it read before'; 0 by the template 'total and deterministic' (their statements: YtjdgkmcmgagkgaaTotals.lean).
  GIVEN WITH THE SEED: the statements are not yours to turn. If you find one false, say at which input.
  Laid BY PROGRAM, IN A SANDBOX (cutbox-rows.mjs): the forced cells as the released guide's own fill.sh prints them over the translation 115ee2e72537e89d… (all of the seat's roots in one cut). By AI agents, Wed Nov 11 2026. No macro, syntax, notation, axiom, sorry.
-/
import Derived.Test.YtjdgkmcmgagkgaaChecked
import GoSem.Claim
import GoSem.ClaimJoined
import GoSem.ClaimMapViews
import Derived.JoinedTies
import Derived.KernelRfl
namespace Go.Proofs.Ytjdgkmcmgagkgaa
/- THE CELL 'sum', in the pinned program and in every row, IS THE sha256 OF THE DUMP (.gsa) THAT YtjdgkmcmgagkgaaProg.lean LOADS. Nothing in Lean hashes anything: it is a label: what it is worth is what the hold of that sum in a sandbox is worth. -/
noncomputable def Try.pinned : Pinned := { name := "ytjdgkmcmgagkgaa", sum := "115ee2e72537e89d22fafb0ecb5d304b3b49acaff153d3e9839c249a4601bc3c", checked := Try.checked }
namespace Rows
def none {H : Type} : Left H := { results := [], args := [] }

/-- 'barleycornlaw09.ReadExact': WHATEVER THE INPUT: true; the input reads as it did. -/
def readExactSpec : ChangeSpec := { name := "readExact", fn := fun _ => fun
  | [d1, d2, d3, d4, d5] => { results := [.lit (.bool true)], args := [d1, d2, d3, d4, d5] }
  | _ => none }
def readExactRow : OpenClaim := { program := "ytjdgkmcmgagkgaa", sum := "115ee2e72537e89d22fafb0ecb5d304b3b49acaff153d3e9839c249a4601bc3c", func := "barleycorn/barleycornlaw09.ReadExact", spec := "readExact", unfollowed := true, recurses := true, apart := false }
def ReadExactSaid : Prop := readExactRow.holds Try.pinned (OpenSpec.ofChange readExactSpec)

/-- ITS FALSE NEIGHBOUR: 'it returns false'. Refute it at one input. -/
def readExactWrong : ChangeSpec := { name := "readExact", fn := fun _ => fun
  | [d1, d2, d3, d4, d5] => { results := [.lit (.bool false)], args := [d1, d2, d3, d4, d5] }
  | _ => none }
def ReadExactWrongFalsely : Prop := readExactRow.holds Try.pinned (OpenSpec.ofChange readExactWrong)

/-- 'barleycornlaw09.ReadFewer': WHATEVER THE INPUT: true; the input reads as it did. -/
def readFewerSpec : ChangeSpec := { name := "readFewer", fn := fun _ => fun
  | [d1, d2, d3, d4] => { results := [.lit (.bool true)], args := [d1, d2, d3, d4] }
  | _ => none }
def readFewerRow : OpenClaim := { program := "ytjdgkmcmgagkgaa", sum := "115ee2e72537e89d22fafb0ecb5d304b3b49acaff153d3e9839c249a4601bc3c", func := "barleycorn/barleycornlaw09.ReadFewer", spec := "readFewer", unfollowed := true, recurses := true, apart := false }
def ReadFewerSaid : Prop := readFewerRow.holds Try.pinned (OpenSpec.ofChange readFewerSpec)

/-- ITS FALSE NEIGHBOUR: 'it returns false'. Refute it at one input. -/
def readFewerWrong : ChangeSpec := { name := "readFewer", fn := fun _ => fun
  | [d1, d2, d3, d4] => { results := [.lit (.bool false)], args := [d1, d2, d3, d4] }
  | _ => none }
def ReadFewerWrongFalsely : Prop := readFewerRow.holds Try.pinned (OpenSpec.ofChange readFewerWrong)

/-- 'barleycornlaw09.ReadTrue': WHATEVER THE INPUT: true; the input reads as it did. -/
def readTrueSpec : ChangeSpec := { name := "readTrue", fn := fun _ => fun
  | [d1, d2, d3, d4, d5] => { results := [.lit (.bool true)], args := [d1, d2, d3, d4, d5] }
  | _ => none }
def readTrueRow : OpenClaim := { program := "ytjdgkmcmgagkgaa", sum := "115ee2e72537e89d22fafb0ecb5d304b3b49acaff153d3e9839c249a4601bc3c", func := "barleycorn/barleycornlaw09.ReadTrue", spec := "readTrue", unfollowed := true, recurses := true, apart := false }
def ReadTrueSaid : Prop := readTrueRow.holds Try.pinned (OpenSpec.ofChange readTrueSpec)

/-- ITS FALSE NEIGHBOUR: 'it returns false'. Refute it at one input. -/
def readTrueWrong : ChangeSpec := { name := "readTrue", fn := fun _ => fun
  | [d1, d2, d3, d4, d5] => { results := [.lit (.bool false)], args := [d1, d2, d3, d4, d5] }
  | _ => none }
def ReadTrueWrongFalsely : Prop := readTrueRow.holds Try.pinned (OpenSpec.ofChange readTrueWrong)

/- THE SECOND FORM. 'bulk': how many values and letters a reading holds, each counted each time it is reached (what is shared counts as often as it is met; a slice's spare places count too). A statement '..UptoSaid' is the law's where the arguments, and the package variables that the reading takes, are together of bulk at most 1048576: NARROWER than '..Said'. Prove '..Said' where nothing that the law and all that it calls make is longer than what came in: it says more and counts as full. Else prove '..UptoSaid'. A law counts once. -/
mutual
def uptoBulk {H : Type} : DataW H → Nat
  | .lit (.string bytes) => bytes.length + 1
  | .lit _ => 1
  | .nil => 1
  | .ptr d => uptoBulk d + 1
  | .slice elems spare => uptoBulkAll elems + uptoBulkAll spare + 1
  | .agg parts => uptoBulkAll parts + 1
  | .iface _ d => uptoBulk d + 1
  | .map entries => uptoBulkEntries entries + 1
  | .held _ => 1
def uptoBulkAll {H : Type} : List (DataW H) → Nat
  | [] => 0
  | d :: r => uptoBulk d + uptoBulkAll r
def uptoBulkEntries {H : Type} : List (Lit × DataW H) → Nat
  | [] => 0
  | x :: r => uptoBulkEntry x + uptoBulkEntries r
def uptoBulkEntry {H : Type} : Lit × DataW H → Nat
  | (.string bytes, d) => bytes.length + uptoBulk d + 1
  | (_, d) => uptoBulk d + 1
 end
def uptoSmall : (H : Type) → List (DataW H) → Bool := fun _ ds => decide (uptoBulkAll ds ≤ 1048576)
def OpenSpec.upto (s : _root_.Go.ChangeSpec) : _root_.Go.OpenSpec := { _root_.Go.OpenSpec.ofChange s with cond := some uptoSmall }

/-- 'barleycornlaw09.ReadExact', WHERE WHAT IT READS IS OF BULK AT MOST 1048576: true; the input reads as it did. -/
def readExactUptoRow : OpenClaim := { program := "ytjdgkmcmgagkgaa", sum := "115ee2e72537e89d22fafb0ecb5d304b3b49acaff153d3e9839c249a4601bc3c", func := "barleycorn/barleycornlaw09.ReadExact", spec := "readExact", unfollowed := true, recurses := true, apart := false, narrowed := true }
def ReadExactUptoSaid : Prop := readExactUptoRow.holds Try.pinned (OpenSpec.upto readExactSpec)

/-- 'barleycornlaw09.ReadFewer', WHERE WHAT IT READS IS OF BULK AT MOST 1048576: true; the input reads as it did. -/
def readFewerUptoRow : OpenClaim := { program := "ytjdgkmcmgagkgaa", sum := "115ee2e72537e89d22fafb0ecb5d304b3b49acaff153d3e9839c249a4601bc3c", func := "barleycorn/barleycornlaw09.ReadFewer", spec := "readFewer", unfollowed := true, recurses := true, apart := false, narrowed := true }
def ReadFewerUptoSaid : Prop := readFewerUptoRow.holds Try.pinned (OpenSpec.upto readFewerSpec)

/-- 'barleycornlaw09.ReadTrue', WHERE WHAT IT READS IS OF BULK AT MOST 1048576: true; the input reads as it did. -/
def readTrueUptoRow : OpenClaim := { program := "ytjdgkmcmgagkgaa", sum := "115ee2e72537e89d22fafb0ecb5d304b3b49acaff153d3e9839c249a4601bc3c", func := "barleycorn/barleycornlaw09.ReadTrue", spec := "readTrue", unfollowed := true, recurses := true, apart := false, narrowed := true }
def ReadTrueUptoSaid : Prop := readTrueUptoRow.holds Try.pinned (OpenSpec.upto readTrueSpec)

end Rows
end Go.Proofs.Ytjdgkmcmgagkgaa
