/-
  DERIVED. GIVEN WITH THE SEED: THE CARDS: each row of YtkldmnladkcfeaaGreatDoorRows.lean that lists a variable, with what it lists TIED to the program's text (the seventh form; the later family's looks); each row that meets fmt, with fmt's text TOLD by the authors' own Lean function (tested against real Go, not proved from fmt's source: count such statements apart). THE CARD IS WHAT COUNTS. Prove the row's statement (the work); the ties are given (YtkldmnladkcfeaaGreatDoorTie.lean); close each card by the builder's one call (the guide's Derived/Test/ToyasCard.lean, 'card_holds'). Laid BY PROGRAM, IN A SANDBOX (cutbox-door.mjs). By AI agents, Wed Nov 11 2026. No macro, syntax, notation, axiom, sorry.
-/
import Derived.Test.YtkldmnladkcfeaaGreatDoorRows
import GoSem.ClaimSeven
namespace Go.Proofs.YtkldmnladkcfeaaGreatDoor
namespace Rows

/-- THE TIED CARD OF 'stearinlaw01.WaxChecks'. -/
def waxChecksCard : Claim7 := { stood := { row := waxChecksRow, standIns := [], harness := (true, "dcba7f7fecda1b285af31bb7f1c258d976b43d463039ec9ceaab3e7f0df4152c"), looks := true }, kinds := [], alts := [], laidByText := true, laidKinds := [.data, .data, .data, .data, .sentinel, .sentinel, .pinned], laidTests := true, laidLooks := .later }
def WaxChecksCardSaid : Prop := Claim7.holds Tryz.pinned (.plain (OpenSpec.ofChange waxChecksSpec)) waxChecksCard

/-- THE TIED CARD OF 'stearinlaw01.WaxMixed'. -/
def waxMixedCard : Claim7 := { stood := { row := waxMixedRow, standIns := [], harness := (true, "dcba7f7fecda1b285af31bb7f1c258d976b43d463039ec9ceaab3e7f0df4152c"), looks := true }, kinds := [], alts := [], laidByText := true, laidKinds := [.data, .data, .data, .data, .sentinel, .sentinel, .pinned], laidTests := true, laidLooks := .later }
def WaxMixedCardSaid : Prop := Claim7.holds Tryz.pinned (.plain (OpenSpec.ofChange waxMixedSpec)) waxMixedCard

/-- THE TIED CARD OF 'stearinlaw01.WaxSold'. -/
def waxSoldCard : Claim7 := { stood := { row := waxSoldRow, standIns := [], harness := (true, "dcba7f7fecda1b285af31bb7f1c258d976b43d463039ec9ceaab3e7f0df4152c"), looks := true }, kinds := [], alts := [], laidByText := true, laidKinds := [.data, .data, .data, .data, .sentinel, .sentinel, .pinned], laidTests := true, laidLooks := .later }
def WaxSoldCardSaid : Prop := Claim7.holds Tryz.pinned (.plain (OpenSpec.ofChange waxSoldSpec)) waxSoldCard

/-- THE TIED CARD OF 'stearinlaw01.WaxTexts'. -/
def waxTextsCard : Claim7 := { stood := { row := waxTextsRow, standIns := [], harness := (true, "dcba7f7fecda1b285af31bb7f1c258d976b43d463039ec9ceaab3e7f0df4152c"), looks := true }, kinds := [], alts := [], laidByText := true, laidKinds := [.data, .data, .data, .data, .sentinel, .sentinel, .pinned], laidTests := true, laidLooks := .later }
def WaxTextsCardSaid : Prop := Claim7.holds Tryz.pinned (.plain (OpenSpec.ofChange waxTextsSpec)) waxTextsCard

/-- THE TIED CARD OF 'stearinlaw01.WaxKnown'. -/
def waxKnownCard : Claim7 := { stood := { row := waxKnownRow, standIns := [], harness := (true, "dcba7f7fecda1b285af31bb7f1c258d976b43d463039ec9ceaab3e7f0df4152c"), looks := true }, kinds := [], alts := [], laidByText := true, laidKinds := [.data, .data, .data, .data, .sentinel, .sentinel, .pinned], laidTests := true, laidLooks := .later }
def WaxKnownCardSaid : Prop := Claim7.holds Tryz.pinned (.plain (OpenSpec.ofChange waxKnownSpec)) waxKnownCard

/-- THE TIED CARD OF 'stearinlaw01.WaxTruth'. -/
def waxTruthCard : Claim7 := { stood := { row := waxTruthRow, standIns := [], harness := (true, "dcba7f7fecda1b285af31bb7f1c258d976b43d463039ec9ceaab3e7f0df4152c"), looks := true }, kinds := [], alts := [], laidByText := true, laidKinds := [.data, .data, .data, .data, .sentinel, .sentinel, .pinned], laidTests := true, laidLooks := .later }
def WaxTruthCardSaid : Prop := Claim7.holds Tryz.pinned (.plain (OpenSpec.ofChange waxTruthSpec)) waxTruthCard

/-- THE TIED CARD OF 'stearinlaw01.WaxReached'. -/
def waxReachedCard : Claim7 := { stood := { row := waxReachedRow, standIns := [], harness := (true, "dcba7f7fecda1b285af31bb7f1c258d976b43d463039ec9ceaab3e7f0df4152c"), looks := true }, kinds := [], alts := [], laidByText := true, laidKinds := [.data, .data, .data, .data, .sentinel, .sentinel, .pinned], laidTests := true, laidLooks := .later }
def WaxReachedCardSaid : Prop := Claim7.holds Tryz.pinned (.plain (OpenSpec.ofChange waxReachedSpec)) waxReachedCard

/-- THE TIED CARD OF 'stearinlaw01.WaxSets'. -/
def waxSetsCard : Claim7 := { stood := { row := waxSetsRow, standIns := [], harness := (true, "dcba7f7fecda1b285af31bb7f1c258d976b43d463039ec9ceaab3e7f0df4152c"), looks := true }, kinds := [], alts := [], laidByText := true, laidKinds := [.data, .data, .data, .data, .sentinel, .sentinel, .pinned], laidTests := true, laidLooks := .later }
def WaxSetsCardSaid : Prop := Claim7.holds Tryz.pinned (.plain (OpenSpec.ofChange waxSetsSpec)) waxSetsCard

/-- THE TIED CARD OF 'stearinlaw01.WaxFound'. -/
def waxFoundCard : Claim7 := { stood := { row := waxFoundRow, standIns := [], harness := (true, "dcba7f7fecda1b285af31bb7f1c258d976b43d463039ec9ceaab3e7f0df4152c"), looks := true }, kinds := [], alts := [], laidByText := true, laidKinds := [.data, .data, .data, .data, .sentinel, .sentinel, .pinned], laidTests := true, laidLooks := .later }
def WaxFoundCardSaid : Prop := Claim7.holds Tryz.pinned (.plain (OpenSpec.ofChange waxFoundSpec)) waxFoundCard

/-- THE TIED CARD OF 'stearinlaw01.WaxMore'. -/
def waxMoreCard : Claim7 := { stood := { row := waxMoreRow, standIns := [], harness := (true, "dcba7f7fecda1b285af31bb7f1c258d976b43d463039ec9ceaab3e7f0df4152c"), looks := true }, kinds := [], alts := [], laidByText := true, laidKinds := [.data, .data, .data, .data, .sentinel, .sentinel, .pinned], laidTests := true, laidLooks := .later }
def WaxMoreCardSaid : Prop := Claim7.holds Tryz.pinned (.plain (OpenSpec.ofChange waxMoreSpec)) waxMoreCard

/-- THE TIED CARD OF 'stearinlaw01.WaxTurned'. -/
def waxTurnedCard : Claim7 := { stood := { row := waxTurnedRow, standIns := [], harness := (true, "dcba7f7fecda1b285af31bb7f1c258d976b43d463039ec9ceaab3e7f0df4152c"), looks := true }, kinds := [], alts := [], laidByText := true, laidKinds := [.data, .data, .data, .data, .sentinel, .sentinel, .pinned], laidTests := true, laidLooks := .later }
def WaxTurnedCardSaid : Prop := Claim7.holds Tryz.pinned (.plain (OpenSpec.ofChange waxTurnedSpec)) waxTurnedCard

/-- THE TIED CARD OF 'stearinlaw01.WaxAlone'. -/
def waxAloneCard : Claim7 := { stood := { row := waxAloneRow, standIns := [], harness := (true, "dcba7f7fecda1b285af31bb7f1c258d976b43d463039ec9ceaab3e7f0df4152c"), looks := true }, kinds := [], alts := [], laidByText := true, laidKinds := [.data, .data, .data, .data, .sentinel, .sentinel, .pinned], laidTests := true, laidLooks := .later }
def WaxAloneCardSaid : Prop := Claim7.holds Tryz.pinned (.plain (OpenSpec.ofChange waxAloneSpec)) waxAloneCard

/-- THE TIED CARD OF 'stearinlaw01.WaxRound'. -/
def waxRoundCard : Claim7 := { stood := { row := waxRoundRow, standIns := [], harness := (true, "dcba7f7fecda1b285af31bb7f1c258d976b43d463039ec9ceaab3e7f0df4152c"), looks := true }, kinds := [], alts := [], laidByText := true, laidKinds := [.data, .data, .data, .data, .sentinel, .sentinel, .pinned], laidTests := true, laidLooks := .later }
def WaxRoundCardSaid : Prop := Claim7.holds Tryz.pinned (.plain (OpenSpec.ofChange waxRoundSpec)) waxRoundCard

/-- THE SECOND FORM's CARD OF 'stearinlaw01.WaxChecks'. -/
def waxChecksUptoCard : Claim7 := { stood := { row := waxChecksUptoRow, standIns := [], harness := (true, "dcba7f7fecda1b285af31bb7f1c258d976b43d463039ec9ceaab3e7f0df4152c"), looks := true }, kinds := [], alts := [], laidByText := true, laidKinds := [.data, .data, .data, .data, .sentinel, .sentinel, .pinned], laidTests := true, laidLooks := .later }
def WaxChecksUptoCardSaid : Prop := Claim7.holds Tryz.pinned (.plain (OpenSpec.upto waxChecksSpec)) waxChecksUptoCard

/-- THE SECOND FORM's CARD OF 'stearinlaw01.WaxMixed'. -/
def waxMixedUptoCard : Claim7 := { stood := { row := waxMixedUptoRow, standIns := [], harness := (true, "dcba7f7fecda1b285af31bb7f1c258d976b43d463039ec9ceaab3e7f0df4152c"), looks := true }, kinds := [], alts := [], laidByText := true, laidKinds := [.data, .data, .data, .data, .sentinel, .sentinel, .pinned], laidTests := true, laidLooks := .later }
def WaxMixedUptoCardSaid : Prop := Claim7.holds Tryz.pinned (.plain (OpenSpec.upto waxMixedSpec)) waxMixedUptoCard

/-- THE SECOND FORM's CARD OF 'stearinlaw01.WaxSold'. -/
def waxSoldUptoCard : Claim7 := { stood := { row := waxSoldUptoRow, standIns := [], harness := (true, "dcba7f7fecda1b285af31bb7f1c258d976b43d463039ec9ceaab3e7f0df4152c"), looks := true }, kinds := [], alts := [], laidByText := true, laidKinds := [.data, .data, .data, .data, .sentinel, .sentinel, .pinned], laidTests := true, laidLooks := .later }
def WaxSoldUptoCardSaid : Prop := Claim7.holds Tryz.pinned (.plain (OpenSpec.upto waxSoldSpec)) waxSoldUptoCard

/-- THE SECOND FORM's CARD OF 'stearinlaw01.WaxTexts'. -/
def waxTextsUptoCard : Claim7 := { stood := { row := waxTextsUptoRow, standIns := [], harness := (true, "dcba7f7fecda1b285af31bb7f1c258d976b43d463039ec9ceaab3e7f0df4152c"), looks := true }, kinds := [], alts := [], laidByText := true, laidKinds := [.data, .data, .data, .data, .sentinel, .sentinel, .pinned], laidTests := true, laidLooks := .later }
def WaxTextsUptoCardSaid : Prop := Claim7.holds Tryz.pinned (.plain (OpenSpec.upto waxTextsSpec)) waxTextsUptoCard

/-- THE SECOND FORM's CARD OF 'stearinlaw01.WaxKnown'. -/
def waxKnownUptoCard : Claim7 := { stood := { row := waxKnownUptoRow, standIns := [], harness := (true, "dcba7f7fecda1b285af31bb7f1c258d976b43d463039ec9ceaab3e7f0df4152c"), looks := true }, kinds := [], alts := [], laidByText := true, laidKinds := [.data, .data, .data, .data, .sentinel, .sentinel, .pinned], laidTests := true, laidLooks := .later }
def WaxKnownUptoCardSaid : Prop := Claim7.holds Tryz.pinned (.plain (OpenSpec.upto waxKnownSpec)) waxKnownUptoCard

/-- THE SECOND FORM's CARD OF 'stearinlaw01.WaxTruth'. -/
def waxTruthUptoCard : Claim7 := { stood := { row := waxTruthUptoRow, standIns := [], harness := (true, "dcba7f7fecda1b285af31bb7f1c258d976b43d463039ec9ceaab3e7f0df4152c"), looks := true }, kinds := [], alts := [], laidByText := true, laidKinds := [.data, .data, .data, .data, .sentinel, .sentinel, .pinned], laidTests := true, laidLooks := .later }
def WaxTruthUptoCardSaid : Prop := Claim7.holds Tryz.pinned (.plain (OpenSpec.upto waxTruthSpec)) waxTruthUptoCard

/-- THE SECOND FORM's CARD OF 'stearinlaw01.WaxReached'. -/
def waxReachedUptoCard : Claim7 := { stood := { row := waxReachedUptoRow, standIns := [], harness := (true, "dcba7f7fecda1b285af31bb7f1c258d976b43d463039ec9ceaab3e7f0df4152c"), looks := true }, kinds := [], alts := [], laidByText := true, laidKinds := [.data, .data, .data, .data, .sentinel, .sentinel, .pinned], laidTests := true, laidLooks := .later }
def WaxReachedUptoCardSaid : Prop := Claim7.holds Tryz.pinned (.plain (OpenSpec.upto waxReachedSpec)) waxReachedUptoCard

/-- THE SECOND FORM's CARD OF 'stearinlaw01.WaxSets'. -/
def waxSetsUptoCard : Claim7 := { stood := { row := waxSetsUptoRow, standIns := [], harness := (true, "dcba7f7fecda1b285af31bb7f1c258d976b43d463039ec9ceaab3e7f0df4152c"), looks := true }, kinds := [], alts := [], laidByText := true, laidKinds := [.data, .data, .data, .data, .sentinel, .sentinel, .pinned], laidTests := true, laidLooks := .later }
def WaxSetsUptoCardSaid : Prop := Claim7.holds Tryz.pinned (.plain (OpenSpec.upto waxSetsSpec)) waxSetsUptoCard

/-- THE SECOND FORM's CARD OF 'stearinlaw01.WaxFound'. -/
def waxFoundUptoCard : Claim7 := { stood := { row := waxFoundUptoRow, standIns := [], harness := (true, "dcba7f7fecda1b285af31bb7f1c258d976b43d463039ec9ceaab3e7f0df4152c"), looks := true }, kinds := [], alts := [], laidByText := true, laidKinds := [.data, .data, .data, .data, .sentinel, .sentinel, .pinned], laidTests := true, laidLooks := .later }
def WaxFoundUptoCardSaid : Prop := Claim7.holds Tryz.pinned (.plain (OpenSpec.upto waxFoundSpec)) waxFoundUptoCard

/-- THE SECOND FORM's CARD OF 'stearinlaw01.WaxMore'. -/
def waxMoreUptoCard : Claim7 := { stood := { row := waxMoreUptoRow, standIns := [], harness := (true, "dcba7f7fecda1b285af31bb7f1c258d976b43d463039ec9ceaab3e7f0df4152c"), looks := true }, kinds := [], alts := [], laidByText := true, laidKinds := [.data, .data, .data, .data, .sentinel, .sentinel, .pinned], laidTests := true, laidLooks := .later }
def WaxMoreUptoCardSaid : Prop := Claim7.holds Tryz.pinned (.plain (OpenSpec.upto waxMoreSpec)) waxMoreUptoCard

/-- THE SECOND FORM's CARD OF 'stearinlaw01.WaxTurned'. -/
def waxTurnedUptoCard : Claim7 := { stood := { row := waxTurnedUptoRow, standIns := [], harness := (true, "dcba7f7fecda1b285af31bb7f1c258d976b43d463039ec9ceaab3e7f0df4152c"), looks := true }, kinds := [], alts := [], laidByText := true, laidKinds := [.data, .data, .data, .data, .sentinel, .sentinel, .pinned], laidTests := true, laidLooks := .later }
def WaxTurnedUptoCardSaid : Prop := Claim7.holds Tryz.pinned (.plain (OpenSpec.upto waxTurnedSpec)) waxTurnedUptoCard

/-- THE SECOND FORM's CARD OF 'stearinlaw01.WaxAlone'. -/
def waxAloneUptoCard : Claim7 := { stood := { row := waxAloneUptoRow, standIns := [], harness := (true, "dcba7f7fecda1b285af31bb7f1c258d976b43d463039ec9ceaab3e7f0df4152c"), looks := true }, kinds := [], alts := [], laidByText := true, laidKinds := [.data, .data, .data, .data, .sentinel, .sentinel, .pinned], laidTests := true, laidLooks := .later }
def WaxAloneUptoCardSaid : Prop := Claim7.holds Tryz.pinned (.plain (OpenSpec.upto waxAloneSpec)) waxAloneUptoCard

/-- THE SECOND FORM's CARD OF 'stearinlaw01.WaxRound'. -/
def waxRoundUptoCard : Claim7 := { stood := { row := waxRoundUptoRow, standIns := [], harness := (true, "dcba7f7fecda1b285af31bb7f1c258d976b43d463039ec9ceaab3e7f0df4152c"), looks := true }, kinds := [], alts := [], laidByText := true, laidKinds := [.data, .data, .data, .data, .sentinel, .sentinel, .pinned], laidTests := true, laidLooks := .later }
def WaxRoundUptoCardSaid : Prop := Claim7.holds Tryz.pinned (.plain (OpenSpec.upto waxRoundSpec)) waxRoundUptoCard
end Rows
end Go.Proofs.YtkldmnladkcfeaaGreatDoor
