/-
  DERIVED. GIVEN WITH THE SEED: THE CARDS: each row of YtenjpccpldajoaaGreatDoorRows.lean that lists a variable, with what it lists TIED to the program's text (the seventh form; the later family's looks); each row that meets fmt, with fmt's text TOLD by the authors' own Lean function (tested against real Go, not proved from fmt's source: count such statements apart). THE CARD IS WHAT COUNTS. Prove the row's statement (the work); the ties are given (YtenjpccpldajoaaGreatDoorTie.lean); close each card by the builder's one call (the guide's Derived/Test/ToyasCard.lean, 'card_holds'). Laid BY PROGRAM, IN A SANDBOX (cutbox-door.mjs). By AI agents, Wed Nov 11 2026. No macro, syntax, notation, axiom, sorry.
-/
import Derived.Test.YtenjpccpldajoaaGreatDoorRows
import GoSem.ClaimSeven
namespace Go.Proofs.YtenjpccpldajoaaGreatDoor
namespace Rows

/-- THE TIED CARD OF 'barleycornlaw01.ExactText'. -/
def exactTextCard : Claim7 := { stood := { row := exactTextRow, standIns := [], harness := (true, "e29941341359a685ec34a96dad5951d634a74d5289087fdd95c54b41e8a2b048"), looks := true }, kinds := [], alts := [], laidByText := true, laidKinds := [.data, .data, .data, .data, .sentinel, .sentinel, .pinned], laidTests := true, laidLooks := .later }
def ExactTextCardSaid : Prop := Claim7.holds Tryz.pinned (.plain (OpenSpec.ofChange exactTextSpec)) exactTextCard

/-- THE TIED CARD OF 'barleycornlaw01.ExactRing'. -/
def exactRingCard : Claim7 := { stood := { row := exactRingRow, standIns := [], harness := (true, "e29941341359a685ec34a96dad5951d634a74d5289087fdd95c54b41e8a2b048"), looks := true }, kinds := [], alts := [], laidByText := true, laidKinds := [.data, .data, .data, .data, .sentinel, .sentinel, .pinned], laidTests := true, laidLooks := .later }
def ExactRingCardSaid : Prop := Claim7.holds Tryz.pinned (.plain (OpenSpec.ofChange exactRingSpec)) exactRingCard

/-- THE TIED CARD OF 'barleycornlaw01.ExactOrder'. -/
def exactOrderCard : Claim7 := { stood := { row := exactOrderRow, standIns := [], harness := (true, "e29941341359a685ec34a96dad5951d634a74d5289087fdd95c54b41e8a2b048"), looks := true }, kinds := [], alts := [], laidByText := true, laidKinds := [.data, .data, .data, .data, .sentinel, .sentinel, .pinned], laidTests := true, laidLooks := .later }
def ExactOrderCardSaid : Prop := Claim7.holds Tryz.pinned (.plain (OpenSpec.ofChange exactOrderSpec)) exactOrderCard

/-- THE TIED CARD OF 'barleycornlaw01.ExactNearest'. -/
def exactNearestCard : Claim7 := { stood := { row := exactNearestRow, standIns := [], harness := (true, "e29941341359a685ec34a96dad5951d634a74d5289087fdd95c54b41e8a2b048"), looks := true }, kinds := [], alts := [], laidByText := true, laidKinds := [.data, .data, .data, .data, .sentinel, .sentinel, .pinned], laidTests := true, laidLooks := .later }
def ExactNearestCardSaid : Prop := Claim7.holds Tryz.pinned (.plain (OpenSpec.ofChange exactNearestSpec)) exactNearestCard

/-- THE TIED CARD OF 'barleycornlaw01.ExactDivides'. -/
def exactDividesCard : Claim7 := { stood := { row := exactDividesRow, standIns := [], harness := (true, "e29941341359a685ec34a96dad5951d634a74d5289087fdd95c54b41e8a2b048"), looks := true }, kinds := [], alts := [], laidByText := true, laidKinds := [.data, .data, .data, .data, .sentinel, .sentinel, .pinned], laidTests := true, laidLooks := .later }
def ExactDividesCardSaid : Prop := Claim7.holds Tryz.pinned (.plain (OpenSpec.ofChange exactDividesSpec)) exactDividesCard

/-- THE SECOND FORM's CARD OF 'barleycornlaw01.ExactText'. -/
def exactTextUptoCard : Claim7 := { stood := { row := exactTextUptoRow, standIns := [], harness := (true, "e29941341359a685ec34a96dad5951d634a74d5289087fdd95c54b41e8a2b048"), looks := true }, kinds := [], alts := [], laidByText := true, laidKinds := [.data, .data, .data, .data, .sentinel, .sentinel, .pinned], laidTests := true, laidLooks := .later }
def ExactTextUptoCardSaid : Prop := Claim7.holds Tryz.pinned (.plain (OpenSpec.upto exactTextSpec)) exactTextUptoCard

/-- THE SECOND FORM's CARD OF 'barleycornlaw01.ExactRing'. -/
def exactRingUptoCard : Claim7 := { stood := { row := exactRingUptoRow, standIns := [], harness := (true, "e29941341359a685ec34a96dad5951d634a74d5289087fdd95c54b41e8a2b048"), looks := true }, kinds := [], alts := [], laidByText := true, laidKinds := [.data, .data, .data, .data, .sentinel, .sentinel, .pinned], laidTests := true, laidLooks := .later }
def ExactRingUptoCardSaid : Prop := Claim7.holds Tryz.pinned (.plain (OpenSpec.upto exactRingSpec)) exactRingUptoCard

/-- THE SECOND FORM's CARD OF 'barleycornlaw01.ExactOrder'. -/
def exactOrderUptoCard : Claim7 := { stood := { row := exactOrderUptoRow, standIns := [], harness := (true, "e29941341359a685ec34a96dad5951d634a74d5289087fdd95c54b41e8a2b048"), looks := true }, kinds := [], alts := [], laidByText := true, laidKinds := [.data, .data, .data, .data, .sentinel, .sentinel, .pinned], laidTests := true, laidLooks := .later }
def ExactOrderUptoCardSaid : Prop := Claim7.holds Tryz.pinned (.plain (OpenSpec.upto exactOrderSpec)) exactOrderUptoCard

/-- THE SECOND FORM's CARD OF 'barleycornlaw01.ExactNearest'. -/
def exactNearestUptoCard : Claim7 := { stood := { row := exactNearestUptoRow, standIns := [], harness := (true, "e29941341359a685ec34a96dad5951d634a74d5289087fdd95c54b41e8a2b048"), looks := true }, kinds := [], alts := [], laidByText := true, laidKinds := [.data, .data, .data, .data, .sentinel, .sentinel, .pinned], laidTests := true, laidLooks := .later }
def ExactNearestUptoCardSaid : Prop := Claim7.holds Tryz.pinned (.plain (OpenSpec.upto exactNearestSpec)) exactNearestUptoCard

/-- THE SECOND FORM's CARD OF 'barleycornlaw01.ExactDivides'. -/
def exactDividesUptoCard : Claim7 := { stood := { row := exactDividesUptoRow, standIns := [], harness := (true, "e29941341359a685ec34a96dad5951d634a74d5289087fdd95c54b41e8a2b048"), looks := true }, kinds := [], alts := [], laidByText := true, laidKinds := [.data, .data, .data, .data, .sentinel, .sentinel, .pinned], laidTests := true, laidLooks := .later }
def ExactDividesUptoCardSaid : Prop := Claim7.holds Tryz.pinned (.plain (OpenSpec.upto exactDividesSpec)) exactDividesUptoCard
end Rows
end Go.Proofs.YtenjpccpldajoaaGreatDoor
