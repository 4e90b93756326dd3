/-
  DERIVED. GIVEN WITH THE SEED: THE CARDS: each row of YtfmfefibadpobaaGreatDoorRows.lean that lists a variable, with what it lists TIED to the program's text (the seventh form; the later family's looks); each row that meets fmt, with fmt's text TOLD by the authors' own Lean function (tested against real Go, not proved from fmt's source: count such statements apart). THE CARD IS WHAT COUNTS. Prove the row's statement (the work); the ties are given (YtfmfefibadpobaaGreatDoorTie.lean); close each card by the builder's one call (the guide's Derived/Test/ToyasCard.lean, 'card_holds'). Laid BY PROGRAM, IN A SANDBOX (cutbox-door.mjs). By AI agents, Wed Nov 11 2026. No macro, syntax, notation, axiom, sorry.
-/
import Derived.Test.YtfmfefibadpobaaGreatDoorRows
import GoSem.ClaimSeven
namespace Go.Proofs.YtfmfefibadpobaaGreatDoor
namespace Rows

/-- THE TIED CARD OF 'barleycornlaw01.ExactTexts'. -/
def exactTextsCard : Claim7 := { stood := { row := exactTextsRow, standIns := [], harness := (true, "5c138bf24803ed70f05c392208b4ff2b90c8d0b0b1b45e4a9379ae634fd7baf2"), looks := true }, kinds := [], alts := [], laidByText := true, laidKinds := [.data, .data, .data, .data, .sentinel, .sentinel, .pinned], laidTests := true, laidLooks := .later }
def ExactTextsCardSaid : Prop := Claim7.holds Tryz.pinned (.plain (OpenSpec.ofChange exactTextsSpec)) exactTextsCard

/-- THE SECOND FORM's CARD OF 'barleycornlaw01.ExactTexts'. -/
def exactTextsUptoCard : Claim7 := { stood := { row := exactTextsUptoRow, standIns := [], harness := (true, "5c138bf24803ed70f05c392208b4ff2b90c8d0b0b1b45e4a9379ae634fd7baf2"), looks := true }, kinds := [], alts := [], laidByText := true, laidKinds := [.data, .data, .data, .data, .sentinel, .sentinel, .pinned], laidTests := true, laidLooks := .later }
def ExactTextsUptoCardSaid : Prop := Claim7.holds Tryz.pinned (.plain (OpenSpec.upto exactTextsSpec)) exactTextsUptoCard
end Rows
end Go.Proofs.YtfmfefibadpobaaGreatDoor
