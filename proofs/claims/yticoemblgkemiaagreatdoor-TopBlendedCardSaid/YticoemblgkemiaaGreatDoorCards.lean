/-
  DERIVED. GIVEN WITH THE SEED: THE CARDS: each row of YticoemblgkemiaaGreatDoorRows.lean that lists a variable, with what it lists TIED to the program's text (the seventh form; the later family's looks); each row that meets fmt, with fmt's text TOLD by the authors' own Lean function (tested against real Go, not proved from fmt's source: count such statements apart). THE CARD IS WHAT COUNTS. Prove the row's statement (the work); the ties are given (YticoemblgkemiaaGreatDoorTie.lean); close each card by the builder's one call (the guide's Derived/Test/ToyasCard.lean, 'card_holds'). Laid BY PROGRAM, IN A SANDBOX (cutbox-door.mjs). By AI agents, Wed Nov 11 2026. No macro, syntax, notation, axiom, sorry.
-/
import Derived.Test.YticoemblgkemiaaGreatDoorRows
import GoSem.ClaimSeven
namespace Go.Proofs.YticoemblgkemiaaGreatDoor
namespace Rows

/-- THE TIED CARD OF 'stearintop.TopMade'. -/
def topMadeCard : Claim7 := { stood := { row := topMadeRow, standIns := [], harness := (true, "d47ee03d9ef91d9f66b4b1e518b95febb2d04a0d872826bc4a6c0f91e9fa35fc"), looks := true }, kinds := [], alts := [], laidByText := true, laidKinds := [.data, .data, .data, .data, .sentinel, .sentinel, .pinned], laidTests := true, laidLooks := .later }
def TopMadeCardSaid : Prop := Claim7.holds Tryz.pinned (.plain (OpenSpec.ofChange topMadeSpec)) topMadeCard

/-- THE TIED CARD OF 'stearintop.TopSorted'. -/
def topSortedCard : Claim7 := { stood := { row := topSortedRow, standIns := [], harness := (true, "d47ee03d9ef91d9f66b4b1e518b95febb2d04a0d872826bc4a6c0f91e9fa35fc"), looks := true }, kinds := [], alts := [], laidByText := true, laidKinds := [.data, .data, .data, .data, .sentinel, .sentinel, .pinned], laidTests := true, laidLooks := .later }
def TopSortedCardSaid : Prop := Claim7.holds Tryz.pinned (.plain (OpenSpec.ofChange topSortedSpec)) topSortedCard

/-- THE TIED CARD OF 'stearintop.TopBlended'. -/
def topBlendedCard : Claim7 := { stood := { row := topBlendedRow, standIns := [], harness := (true, "d47ee03d9ef91d9f66b4b1e518b95febb2d04a0d872826bc4a6c0f91e9fa35fc"), looks := true }, kinds := [], alts := [], laidByText := true, laidKinds := [.data, .data, .data, .data, .sentinel, .sentinel, .pinned], laidTests := true, laidLooks := .later }
def TopBlendedCardSaid : Prop := Claim7.holds Tryz.pinned (.plain (OpenSpec.ofChange topBlendedSpec)) topBlendedCard

/-- THE SECOND FORM's CARD OF 'stearintop.TopMade'. -/
def topMadeUptoCard : Claim7 := { stood := { row := topMadeUptoRow, standIns := [], harness := (true, "d47ee03d9ef91d9f66b4b1e518b95febb2d04a0d872826bc4a6c0f91e9fa35fc"), looks := true }, kinds := [], alts := [], laidByText := true, laidKinds := [.data, .data, .data, .data, .sentinel, .sentinel, .pinned], laidTests := true, laidLooks := .later }
def TopMadeUptoCardSaid : Prop := Claim7.holds Tryz.pinned (.plain (OpenSpec.upto topMadeSpec)) topMadeUptoCard

/-- THE SECOND FORM's CARD OF 'stearintop.TopSorted'. -/
def topSortedUptoCard : Claim7 := { stood := { row := topSortedUptoRow, standIns := [], harness := (true, "d47ee03d9ef91d9f66b4b1e518b95febb2d04a0d872826bc4a6c0f91e9fa35fc"), looks := true }, kinds := [], alts := [], laidByText := true, laidKinds := [.data, .data, .data, .data, .sentinel, .sentinel, .pinned], laidTests := true, laidLooks := .later }
def TopSortedUptoCardSaid : Prop := Claim7.holds Tryz.pinned (.plain (OpenSpec.upto topSortedSpec)) topSortedUptoCard

/-- THE SECOND FORM's CARD OF 'stearintop.TopBlended'. -/
def topBlendedUptoCard : Claim7 := { stood := { row := topBlendedUptoRow, standIns := [], harness := (true, "d47ee03d9ef91d9f66b4b1e518b95febb2d04a0d872826bc4a6c0f91e9fa35fc"), looks := true }, kinds := [], alts := [], laidByText := true, laidKinds := [.data, .data, .data, .data, .sentinel, .sentinel, .pinned], laidTests := true, laidLooks := .later }
def TopBlendedUptoCardSaid : Prop := Claim7.holds Tryz.pinned (.plain (OpenSpec.upto topBlendedSpec)) topBlendedUptoCard
end Rows
end Go.Proofs.YticoemblgkemiaaGreatDoor
