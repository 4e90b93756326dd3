/-
  No cell of these rows narrows 'for every input' (looked for: loops, veiled, ifaces, maps, wideKeys, modest, calm, conditions, laid).
  DERIVED. THE GIVEN ROWS OF THIS SEAT. 2 by the template 'for every input the law returns true; each argument reads behind the call as it read before'; 0 by the template 'total and deterministic' (their statements: YtemdemfknnkcaaaTotals.lean).
  GIVEN WITH THE SEED: the statements are not yours to turn. If you find one false, say at which input.
  Laid BY PROGRAM, IN A SANDBOX (cutbox-rows.mjs): the forced cells as the released guide's own fill.sh prints them over the translation 7a208af7457b3f9b… (all of the seat's roots in one cut). By AI agents, Wed Nov 11 2026. No macro, syntax, notation, axiom, sorry.
-/
import Derived.Test.YtemdemfknnkcaaaChecked
import GoSem.Claim
import GoSem.ClaimJoined
import GoSem.ClaimMapViews
import Derived.JoinedTies
import Derived.KernelRfl
namespace Go.Proofs.Ytemdemfknnkcaaa
/- THE CELL 'sum', in the pinned program and in every row, IS THE sha256 OF THE DUMP (.gsa) THAT YtemdemfknnkcaaaProg.lean LOADS. Nothing in Lean hashes anything: it is a label: what it is worth is what the hold of that sum in a sandbox is worth. -/
noncomputable def Try.pinned : Pinned := { name := "ytemdemfknnkcaaa", sum := "7a208af7457b3f9bfbb7d67fd1e46907bb62356ff35d09893c94236b90da60e0", checked := Try.checked }
namespace Rows
def none {H : Type} : Left H := { results := [], args := [] }

/-- 'barleycornlaw01.ExactFracs': WHATEVER THE INPUT: true; the input reads as it did. -/
def exactFracsSpec : ChangeSpec := { name := "exactFracs", fn := fun _ => fun
  | [d1, d2, d3, d4] => { results := [.lit (.bool true)], args := [d1, d2, d3, d4] }
  | _ => none }
def exactFracsRow : OpenClaim := { program := "ytemdemfknnkcaaa", sum := "7a208af7457b3f9bfbb7d67fd1e46907bb62356ff35d09893c94236b90da60e0", func := "barleycorn/barleycornlaw01.ExactFracs", spec := "exactFracs", unfollowed := true, recurses := true, apart := false }
def ExactFracsSaid : Prop := exactFracsRow.holds Try.pinned (OpenSpec.ofChange exactFracsSpec)

/-- ITS FALSE NEIGHBOUR: 'it returns false'. Refute it at one input. -/
def exactFracsWrong : ChangeSpec := { name := "exactFracs", fn := fun _ => fun
  | [d1, d2, d3, d4] => { results := [.lit (.bool false)], args := [d1, d2, d3, d4] }
  | _ => none }
def ExactFracsWrongFalsely : Prop := exactFracsRow.holds Try.pinned (OpenSpec.ofChange exactFracsWrong)

/-- 'barleycornlaw01.ExactRoots': WHATEVER THE INPUT: true; the input reads as it did. -/
def exactRootsSpec : ChangeSpec := { name := "exactRoots", fn := fun _ => fun
  | [d1, d2, d3] => { results := [.lit (.bool true)], args := [d1, d2, d3] }
  | _ => none }
def exactRootsRow : OpenClaim := { program := "ytemdemfknnkcaaa", sum := "7a208af7457b3f9bfbb7d67fd1e46907bb62356ff35d09893c94236b90da60e0", func := "barleycorn/barleycornlaw01.ExactRoots", spec := "exactRoots", unfollowed := true, recurses := true, apart := false }
def ExactRootsSaid : Prop := exactRootsRow.holds Try.pinned (OpenSpec.ofChange exactRootsSpec)

/-- ITS FALSE NEIGHBOUR: 'it returns false'. Refute it at one input. -/
def exactRootsWrong : ChangeSpec := { name := "exactRoots", fn := fun _ => fun
  | [d1, d2, d3] => { results := [.lit (.bool false)], args := [d1, d2, d3] }
  | _ => none }
def ExactRootsWrongFalsely : Prop := exactRootsRow.holds Try.pinned (OpenSpec.ofChange exactRootsWrong)

/- THE SECOND FORM. 'bulk': how many values and letters a reading holds, each counted each time it is reached (what is shared counts as often as it is met; a slice's spare places count too). A statement '..UptoSaid' is the law's where the arguments, and the package variables that the reading takes, are together of bulk at most 1048576: NARROWER than '..Said'. Prove '..Said' where nothing that the law and all that it calls make is longer than what came in: it says more and counts as full. Else prove '..UptoSaid'. A law counts once. -/
mutual
def uptoBulk {H : Type} : DataW H → Nat
  | .lit (.string bytes) => bytes.length + 1
  | .lit _ => 1
  | .nil => 1
  | .ptr d => uptoBulk d + 1
  | .slice elems spare => uptoBulkAll elems + uptoBulkAll spare + 1
  | .agg parts => uptoBulkAll parts + 1
  | .iface _ d => uptoBulk d + 1
  | .map entries => uptoBulkEntries entries + 1
  | .held _ => 1
def uptoBulkAll {H : Type} : List (DataW H) → Nat
  | [] => 0
  | d :: r => uptoBulk d + uptoBulkAll r
def uptoBulkEntries {H : Type} : List (Lit × DataW H) → Nat
  | [] => 0
  | x :: r => uptoBulkEntry x + uptoBulkEntries r
def uptoBulkEntry {H : Type} : Lit × DataW H → Nat
  | (.string bytes, d) => bytes.length + uptoBulk d + 1
  | (_, d) => uptoBulk d + 1
 end
def uptoSmall : (H : Type) → List (DataW H) → Bool := fun _ ds => decide (uptoBulkAll ds ≤ 1048576)
def OpenSpec.upto (s : _root_.Go.ChangeSpec) : _root_.Go.OpenSpec := { _root_.Go.OpenSpec.ofChange s with cond := some uptoSmall }

/-- 'barleycornlaw01.ExactFracs', WHERE WHAT IT READS IS OF BULK AT MOST 1048576: true; the input reads as it did. -/
def exactFracsUptoRow : OpenClaim := { program := "ytemdemfknnkcaaa", sum := "7a208af7457b3f9bfbb7d67fd1e46907bb62356ff35d09893c94236b90da60e0", func := "barleycorn/barleycornlaw01.ExactFracs", spec := "exactFracs", unfollowed := true, recurses := true, apart := false, narrowed := true }
def ExactFracsUptoSaid : Prop := exactFracsUptoRow.holds Try.pinned (OpenSpec.upto exactFracsSpec)

/-- 'barleycornlaw01.ExactRoots', WHERE WHAT IT READS IS OF BULK AT MOST 1048576: true; the input reads as it did. -/
def exactRootsUptoRow : OpenClaim := { program := "ytemdemfknnkcaaa", sum := "7a208af7457b3f9bfbb7d67fd1e46907bb62356ff35d09893c94236b90da60e0", func := "barleycorn/barleycornlaw01.ExactRoots", spec := "exactRoots", unfollowed := true, recurses := true, apart := false, narrowed := true }
def ExactRootsUptoSaid : Prop := exactRootsUptoRow.holds Try.pinned (OpenSpec.upto exactRootsSpec)

end Rows
end Go.Proofs.Ytemdemfknnkcaaa
