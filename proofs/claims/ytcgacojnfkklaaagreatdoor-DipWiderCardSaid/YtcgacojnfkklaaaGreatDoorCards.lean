/-
  DERIVED. GIVEN WITH THE SEED: THE CARDS: each row of YtcgacojnfkklaaaGreatDoorRows.lean that lists a variable, with what it lists TIED to the program's text (the seventh form; the later family's looks); each row that meets fmt, with fmt's text TOLD by the authors' own Lean function (tested against real Go, not proved from fmt's source: count such statements apart). THE CARD IS WHAT COUNTS. Prove the row's statement (the work); the ties are given (YtcgacojnfkklaaaGreatDoorTie.lean); close each card by the builder's one call (the guide's Derived/Test/ToyasCard.lean, 'card_holds'). Laid BY PROGRAM, IN A SANDBOX (cutbox-door.mjs). By AI agents, Wed Nov 11 2026. No macro, syntax, notation, axiom, sorry.
-/
import Derived.Test.YtcgacojnfkklaaaGreatDoorRows
import GoSem.ClaimSeven
namespace Go.Proofs.YtcgacojnfkklaaaGreatDoor
namespace Rows

/-- THE TIED CARD OF 'stearinlaw04.DipFollows'. -/
def dipFollowsCard : Claim7 := { stood := { row := dipFollowsRow, standIns := [], harness := (true, "d206f1a52cdbf89d060a8931e8322de1affd7cdc18b6f202485a04c111fa1824"), looks := true }, kinds := [], alts := [], laidByText := true, laidKinds := [.data, .data, .data, .data, .sentinel, .sentinel, .pinned], laidTests := true, laidLooks := .later }
def DipFollowsCardSaid : Prop := Claim7.holds Tryz.pinned (.plain (OpenSpec.ofChange dipFollowsSpec)) dipFollowsCard

/-- THE TIED CARD OF 'stearinlaw04.DipAfters'. -/
def dipAftersCard : Claim7 := { stood := { row := dipAftersRow, standIns := [], harness := (true, "d206f1a52cdbf89d060a8931e8322de1affd7cdc18b6f202485a04c111fa1824"), looks := true }, kinds := [], alts := [], laidByText := true, laidKinds := [.data, .data, .data, .data, .sentinel, .sentinel, .pinned], laidTests := true, laidLooks := .later }
def DipAftersCardSaid : Prop := Claim7.holds Tryz.pinned (.plain (OpenSpec.ofChange dipAftersSpec)) dipAftersCard

/-- THE TIED CARD OF 'stearinlaw04.DipFewests'. -/
def dipFewestsCard : Claim7 := { stood := { row := dipFewestsRow, standIns := [], harness := (true, "d206f1a52cdbf89d060a8931e8322de1affd7cdc18b6f202485a04c111fa1824"), looks := true }, kinds := [], alts := [], laidByText := true, laidKinds := [.data, .data, .data, .data, .sentinel, .sentinel, .pinned], laidTests := true, laidLooks := .later }
def DipFewestsCardSaid : Prop := Claim7.holds Tryz.pinned (.plain (OpenSpec.ofChange dipFewestsSpec)) dipFewestsCard

/-- THE TIED CARD OF 'stearinlaw04.DipTexts'. -/
def dipTextsCard : Claim7 := { stood := { row := dipTextsRow, standIns := [], harness := (true, "d206f1a52cdbf89d060a8931e8322de1affd7cdc18b6f202485a04c111fa1824"), looks := true }, kinds := [], alts := [], laidByText := true, laidKinds := [.data, .data, .data, .data, .sentinel, .sentinel, .pinned], laidTests := true, laidLooks := .later }
def DipTextsCardSaid : Prop := Claim7.holds Tryz.pinned (.plain (OpenSpec.ofChange dipTextsSpec)) dipTextsCard

/-- THE TIED CARD OF 'stearinlaw04.DipKnown'. -/
def dipKnownCard : Claim7 := { stood := { row := dipKnownRow, standIns := [], harness := (true, "d206f1a52cdbf89d060a8931e8322de1affd7cdc18b6f202485a04c111fa1824"), looks := true }, kinds := [], alts := [], laidByText := true, laidKinds := [.data, .data, .data, .data, .sentinel, .sentinel, .pinned], laidTests := true, laidLooks := .later }
def DipKnownCardSaid : Prop := Claim7.holds Tryz.pinned (.plain (OpenSpec.ofChange dipKnownSpec)) dipKnownCard

/-- THE TIED CARD OF 'stearinlaw04.DipTrue'. -/
def dipTrueCard : Claim7 := { stood := { row := dipTrueRow, standIns := [], harness := (true, "d206f1a52cdbf89d060a8931e8322de1affd7cdc18b6f202485a04c111fa1824"), looks := true }, kinds := [], alts := [], laidByText := true, laidKinds := [.data, .data, .data, .data, .sentinel, .sentinel, .pinned], laidTests := true, laidLooks := .later }
def DipTrueCardSaid : Prop := Claim7.holds Tryz.pinned (.plain (OpenSpec.ofChange dipTrueSpec)) dipTrueCard

/-- THE TIED CARD OF 'stearinlaw04.DipReached'. -/
def dipReachedCard : Claim7 := { stood := { row := dipReachedRow, standIns := [], harness := (true, "d206f1a52cdbf89d060a8931e8322de1affd7cdc18b6f202485a04c111fa1824"), looks := true }, kinds := [], alts := [], laidByText := true, laidKinds := [.data, .data, .data, .data, .sentinel, .sentinel, .pinned], laidTests := true, laidLooks := .later }
def DipReachedCardSaid : Prop := Claim7.holds Tryz.pinned (.plain (OpenSpec.ofChange dipReachedSpec)) dipReachedCard

/-- THE TIED CARD OF 'stearinlaw04.DipStraight'. -/
def dipStraightCard : Claim7 := { stood := { row := dipStraightRow, standIns := [], harness := (true, "d206f1a52cdbf89d060a8931e8322de1affd7cdc18b6f202485a04c111fa1824"), looks := true }, kinds := [], alts := [], laidByText := true, laidKinds := [.data, .data, .data, .data, .sentinel, .sentinel, .pinned], laidTests := true, laidLooks := .later }
def DipStraightCardSaid : Prop := Claim7.holds Tryz.pinned (.plain (OpenSpec.ofChange dipStraightSpec)) dipStraightCard

/-- THE TIED CARD OF 'stearinlaw04.DipFewest'. -/
def dipFewestCard : Claim7 := { stood := { row := dipFewestRow, standIns := [], harness := (true, "d206f1a52cdbf89d060a8931e8322de1affd7cdc18b6f202485a04c111fa1824"), looks := true }, kinds := [], alts := [], laidByText := true, laidKinds := [.data, .data, .data, .data, .sentinel, .sentinel, .pinned], laidTests := true, laidLooks := .later }
def DipFewestCardSaid : Prop := Claim7.holds Tryz.pinned (.plain (OpenSpec.ofChange dipFewestSpec)) dipFewestCard

/-- THE TIED CARD OF 'stearinlaw04.DipOrder'. -/
def dipOrderCard : Claim7 := { stood := { row := dipOrderRow, standIns := [], harness := (true, "d206f1a52cdbf89d060a8931e8322de1affd7cdc18b6f202485a04c111fa1824"), looks := true }, kinds := [], alts := [], laidByText := true, laidKinds := [.data, .data, .data, .data, .sentinel, .sentinel, .pinned], laidTests := true, laidLooks := .later }
def DipOrderCardSaid : Prop := Claim7.holds Tryz.pinned (.plain (OpenSpec.ofChange dipOrderSpec)) dipOrderCard

/-- THE TIED CARD OF 'stearinlaw04.DipWarmer'. -/
def dipWarmerCard : Claim7 := { stood := { row := dipWarmerRow, standIns := [], harness := (true, "d206f1a52cdbf89d060a8931e8322de1affd7cdc18b6f202485a04c111fa1824"), looks := true }, kinds := [], alts := [], laidByText := true, laidKinds := [.data, .data, .data, .data, .sentinel, .sentinel, .pinned], laidTests := true, laidLooks := .later }
def DipWarmerCardSaid : Prop := Claim7.holds Tryz.pinned (.plain (OpenSpec.ofChange dipWarmerSpec)) dipWarmerCard

/-- THE TIED CARD OF 'stearinlaw04.DipTurned'. -/
def dipTurnedCard : Claim7 := { stood := { row := dipTurnedRow, standIns := [], harness := (true, "d206f1a52cdbf89d060a8931e8322de1affd7cdc18b6f202485a04c111fa1824"), looks := true }, kinds := [], alts := [], laidByText := true, laidKinds := [.data, .data, .data, .data, .sentinel, .sentinel, .pinned], laidTests := true, laidLooks := .later }
def DipTurnedCardSaid : Prop := Claim7.holds Tryz.pinned (.plain (OpenSpec.ofChange dipTurnedSpec)) dipTurnedCard

/-- THE TIED CARD OF 'stearinlaw04.DipOn'. -/
def dipOnCard : Claim7 := { stood := { row := dipOnRow, standIns := [], harness := (true, "d206f1a52cdbf89d060a8931e8322de1affd7cdc18b6f202485a04c111fa1824"), looks := true }, kinds := [], alts := [], laidByText := true, laidKinds := [.data, .data, .data, .data, .sentinel, .sentinel, .pinned], laidTests := true, laidLooks := .later }
def DipOnCardSaid : Prop := Claim7.holds Tryz.pinned (.plain (OpenSpec.ofChange dipOnSpec)) dipOnCard

/-- THE TIED CARD OF 'stearinlaw04.DipWider'. -/
def dipWiderCard : Claim7 := { stood := { row := dipWiderRow, standIns := [], harness := (true, "d206f1a52cdbf89d060a8931e8322de1affd7cdc18b6f202485a04c111fa1824"), looks := true }, kinds := [], alts := [], laidByText := true, laidKinds := [.data, .data, .data, .data, .sentinel, .sentinel, .pinned], laidTests := true, laidLooks := .later }
def DipWiderCardSaid : Prop := Claim7.holds Tryz.pinned (.plain (OpenSpec.ofChange dipWiderSpec)) dipWiderCard

/-- THE TIED CARD OF 'stearinlaw04.DipRound'. -/
def dipRoundCard : Claim7 := { stood := { row := dipRoundRow, standIns := [], harness := (true, "d206f1a52cdbf89d060a8931e8322de1affd7cdc18b6f202485a04c111fa1824"), looks := true }, kinds := [], alts := [], laidByText := true, laidKinds := [.data, .data, .data, .data, .sentinel, .sentinel, .pinned], laidTests := true, laidLooks := .later }
def DipRoundCardSaid : Prop := Claim7.holds Tryz.pinned (.plain (OpenSpec.ofChange dipRoundSpec)) dipRoundCard

/-- THE SECOND FORM's CARD OF 'stearinlaw04.DipFollows'. -/
def dipFollowsUptoCard : Claim7 := { stood := { row := dipFollowsUptoRow, standIns := [], harness := (true, "d206f1a52cdbf89d060a8931e8322de1affd7cdc18b6f202485a04c111fa1824"), looks := true }, kinds := [], alts := [], laidByText := true, laidKinds := [.data, .data, .data, .data, .sentinel, .sentinel, .pinned], laidTests := true, laidLooks := .later }
def DipFollowsUptoCardSaid : Prop := Claim7.holds Tryz.pinned (.plain (OpenSpec.upto dipFollowsSpec)) dipFollowsUptoCard

/-- THE SECOND FORM's CARD OF 'stearinlaw04.DipAfters'. -/
def dipAftersUptoCard : Claim7 := { stood := { row := dipAftersUptoRow, standIns := [], harness := (true, "d206f1a52cdbf89d060a8931e8322de1affd7cdc18b6f202485a04c111fa1824"), looks := true }, kinds := [], alts := [], laidByText := true, laidKinds := [.data, .data, .data, .data, .sentinel, .sentinel, .pinned], laidTests := true, laidLooks := .later }
def DipAftersUptoCardSaid : Prop := Claim7.holds Tryz.pinned (.plain (OpenSpec.upto dipAftersSpec)) dipAftersUptoCard

/-- THE SECOND FORM's CARD OF 'stearinlaw04.DipFewests'. -/
def dipFewestsUptoCard : Claim7 := { stood := { row := dipFewestsUptoRow, standIns := [], harness := (true, "d206f1a52cdbf89d060a8931e8322de1affd7cdc18b6f202485a04c111fa1824"), looks := true }, kinds := [], alts := [], laidByText := true, laidKinds := [.data, .data, .data, .data, .sentinel, .sentinel, .pinned], laidTests := true, laidLooks := .later }
def DipFewestsUptoCardSaid : Prop := Claim7.holds Tryz.pinned (.plain (OpenSpec.upto dipFewestsSpec)) dipFewestsUptoCard

/-- THE SECOND FORM's CARD OF 'stearinlaw04.DipTexts'. -/
def dipTextsUptoCard : Claim7 := { stood := { row := dipTextsUptoRow, standIns := [], harness := (true, "d206f1a52cdbf89d060a8931e8322de1affd7cdc18b6f202485a04c111fa1824"), looks := true }, kinds := [], alts := [], laidByText := true, laidKinds := [.data, .data, .data, .data, .sentinel, .sentinel, .pinned], laidTests := true, laidLooks := .later }
def DipTextsUptoCardSaid : Prop := Claim7.holds Tryz.pinned (.plain (OpenSpec.upto dipTextsSpec)) dipTextsUptoCard

/-- THE SECOND FORM's CARD OF 'stearinlaw04.DipKnown'. -/
def dipKnownUptoCard : Claim7 := { stood := { row := dipKnownUptoRow, standIns := [], harness := (true, "d206f1a52cdbf89d060a8931e8322de1affd7cdc18b6f202485a04c111fa1824"), looks := true }, kinds := [], alts := [], laidByText := true, laidKinds := [.data, .data, .data, .data, .sentinel, .sentinel, .pinned], laidTests := true, laidLooks := .later }
def DipKnownUptoCardSaid : Prop := Claim7.holds Tryz.pinned (.plain (OpenSpec.upto dipKnownSpec)) dipKnownUptoCard

/-- THE SECOND FORM's CARD OF 'stearinlaw04.DipTrue'. -/
def dipTrueUptoCard : Claim7 := { stood := { row := dipTrueUptoRow, standIns := [], harness := (true, "d206f1a52cdbf89d060a8931e8322de1affd7cdc18b6f202485a04c111fa1824"), looks := true }, kinds := [], alts := [], laidByText := true, laidKinds := [.data, .data, .data, .data, .sentinel, .sentinel, .pinned], laidTests := true, laidLooks := .later }
def DipTrueUptoCardSaid : Prop := Claim7.holds Tryz.pinned (.plain (OpenSpec.upto dipTrueSpec)) dipTrueUptoCard

/-- THE SECOND FORM's CARD OF 'stearinlaw04.DipReached'. -/
def dipReachedUptoCard : Claim7 := { stood := { row := dipReachedUptoRow, standIns := [], harness := (true, "d206f1a52cdbf89d060a8931e8322de1affd7cdc18b6f202485a04c111fa1824"), looks := true }, kinds := [], alts := [], laidByText := true, laidKinds := [.data, .data, .data, .data, .sentinel, .sentinel, .pinned], laidTests := true, laidLooks := .later }
def DipReachedUptoCardSaid : Prop := Claim7.holds Tryz.pinned (.plain (OpenSpec.upto dipReachedSpec)) dipReachedUptoCard

/-- THE SECOND FORM's CARD OF 'stearinlaw04.DipStraight'. -/
def dipStraightUptoCard : Claim7 := { stood := { row := dipStraightUptoRow, standIns := [], harness := (true, "d206f1a52cdbf89d060a8931e8322de1affd7cdc18b6f202485a04c111fa1824"), looks := true }, kinds := [], alts := [], laidByText := true, laidKinds := [.data, .data, .data, .data, .sentinel, .sentinel, .pinned], laidTests := true, laidLooks := .later }
def DipStraightUptoCardSaid : Prop := Claim7.holds Tryz.pinned (.plain (OpenSpec.upto dipStraightSpec)) dipStraightUptoCard

/-- THE SECOND FORM's CARD OF 'stearinlaw04.DipFewest'. -/
def dipFewestUptoCard : Claim7 := { stood := { row := dipFewestUptoRow, standIns := [], harness := (true, "d206f1a52cdbf89d060a8931e8322de1affd7cdc18b6f202485a04c111fa1824"), looks := true }, kinds := [], alts := [], laidByText := true, laidKinds := [.data, .data, .data, .data, .sentinel, .sentinel, .pinned], laidTests := true, laidLooks := .later }
def DipFewestUptoCardSaid : Prop := Claim7.holds Tryz.pinned (.plain (OpenSpec.upto dipFewestSpec)) dipFewestUptoCard

/-- THE SECOND FORM's CARD OF 'stearinlaw04.DipOrder'. -/
def dipOrderUptoCard : Claim7 := { stood := { row := dipOrderUptoRow, standIns := [], harness := (true, "d206f1a52cdbf89d060a8931e8322de1affd7cdc18b6f202485a04c111fa1824"), looks := true }, kinds := [], alts := [], laidByText := true, laidKinds := [.data, .data, .data, .data, .sentinel, .sentinel, .pinned], laidTests := true, laidLooks := .later }
def DipOrderUptoCardSaid : Prop := Claim7.holds Tryz.pinned (.plain (OpenSpec.upto dipOrderSpec)) dipOrderUptoCard

/-- THE SECOND FORM's CARD OF 'stearinlaw04.DipWarmer'. -/
def dipWarmerUptoCard : Claim7 := { stood := { row := dipWarmerUptoRow, standIns := [], harness := (true, "d206f1a52cdbf89d060a8931e8322de1affd7cdc18b6f202485a04c111fa1824"), looks := true }, kinds := [], alts := [], laidByText := true, laidKinds := [.data, .data, .data, .data, .sentinel, .sentinel, .pinned], laidTests := true, laidLooks := .later }
def DipWarmerUptoCardSaid : Prop := Claim7.holds Tryz.pinned (.plain (OpenSpec.upto dipWarmerSpec)) dipWarmerUptoCard

/-- THE SECOND FORM's CARD OF 'stearinlaw04.DipTurned'. -/
def dipTurnedUptoCard : Claim7 := { stood := { row := dipTurnedUptoRow, standIns := [], harness := (true, "d206f1a52cdbf89d060a8931e8322de1affd7cdc18b6f202485a04c111fa1824"), looks := true }, kinds := [], alts := [], laidByText := true, laidKinds := [.data, .data, .data, .data, .sentinel, .sentinel, .pinned], laidTests := true, laidLooks := .later }
def DipTurnedUptoCardSaid : Prop := Claim7.holds Tryz.pinned (.plain (OpenSpec.upto dipTurnedSpec)) dipTurnedUptoCard

/-- THE SECOND FORM's CARD OF 'stearinlaw04.DipOn'. -/
def dipOnUptoCard : Claim7 := { stood := { row := dipOnUptoRow, standIns := [], harness := (true, "d206f1a52cdbf89d060a8931e8322de1affd7cdc18b6f202485a04c111fa1824"), looks := true }, kinds := [], alts := [], laidByText := true, laidKinds := [.data, .data, .data, .data, .sentinel, .sentinel, .pinned], laidTests := true, laidLooks := .later }
def DipOnUptoCardSaid : Prop := Claim7.holds Tryz.pinned (.plain (OpenSpec.upto dipOnSpec)) dipOnUptoCard

/-- THE SECOND FORM's CARD OF 'stearinlaw04.DipWider'. -/
def dipWiderUptoCard : Claim7 := { stood := { row := dipWiderUptoRow, standIns := [], harness := (true, "d206f1a52cdbf89d060a8931e8322de1affd7cdc18b6f202485a04c111fa1824"), looks := true }, kinds := [], alts := [], laidByText := true, laidKinds := [.data, .data, .data, .data, .sentinel, .sentinel, .pinned], laidTests := true, laidLooks := .later }
def DipWiderUptoCardSaid : Prop := Claim7.holds Tryz.pinned (.plain (OpenSpec.upto dipWiderSpec)) dipWiderUptoCard

/-- THE SECOND FORM's CARD OF 'stearinlaw04.DipRound'. -/
def dipRoundUptoCard : Claim7 := { stood := { row := dipRoundUptoRow, standIns := [], harness := (true, "d206f1a52cdbf89d060a8931e8322de1affd7cdc18b6f202485a04c111fa1824"), looks := true }, kinds := [], alts := [], laidByText := true, laidKinds := [.data, .data, .data, .data, .sentinel, .sentinel, .pinned], laidTests := true, laidLooks := .later }
def DipRoundUptoCardSaid : Prop := Claim7.holds Tryz.pinned (.plain (OpenSpec.upto dipRoundSpec)) dipRoundUptoCard
end Rows
end Go.Proofs.YtcgacojnfkklaaaGreatDoor
