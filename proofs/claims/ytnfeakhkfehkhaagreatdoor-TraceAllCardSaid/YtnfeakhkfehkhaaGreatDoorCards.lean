/-
  DERIVED. GIVEN WITH THE SEED: THE CARDS: each row of YtnfeakhkfehkhaaGreatDoorRows.lean that lists a variable, with what it lists TIED to the program's text (the seventh form; the later family's looks); each row that meets fmt, with fmt's text TOLD by the authors' own Lean function (tested against real Go, not proved from fmt's source: count such statements apart). THE CARD IS WHAT COUNTS. Prove the row's statement (the work); the ties are given (YtnfeakhkfehkhaaGreatDoorTie.lean); close each card by the builder's one call (the guide's Derived/Test/ToyasCard.lean, 'card_holds'). Laid BY PROGRAM, IN A SANDBOX (cutbox-door.mjs). By AI agents, Wed Nov 11 2026. No macro, syntax, notation, axiom, sorry.
-/
import Derived.Test.YtnfeakhkfehkhaaGreatDoorRows
import GoSem.ClaimSeven
namespace Go.Proofs.YtnfeakhkfehkhaaGreatDoor
namespace Rows

/-- THE TIED CARD OF 'stearinlaw12.TraceComes'. -/
def traceComesCard : Claim7 := { stood := { row := traceComesRow, standIns := [], harness := (true, "e895634384156d47f9b259d7b5c512773a1f38cb49a0a56832fa40143062f964"), looks := true }, kinds := [], alts := [], laidByText := true, laidKinds := [.data, .data, .data, .data, .sentinel, .sentinel, .pinned], laidTests := true, laidLooks := .later }
def TraceComesCardSaid : Prop := Claim7.holds Tryz.pinned (.plain (OpenSpec.ofChange traceComesSpec)) traceComesCard

/-- THE TIED CARD OF 'stearinlaw12.TraceLefts'. -/
def traceLeftsCard : Claim7 := { stood := { row := traceLeftsRow, standIns := [], harness := (true, "e895634384156d47f9b259d7b5c512773a1f38cb49a0a56832fa40143062f964"), looks := true }, kinds := [], alts := [], laidByText := true, laidKinds := [.data, .data, .data, .data, .sentinel, .sentinel, .pinned], laidTests := true, laidLooks := .later }
def TraceLeftsCardSaid : Prop := Claim7.holds Tryz.pinned (.plain (OpenSpec.ofChange traceLeftsSpec)) traceLeftsCard

/-- THE TIED CARD OF 'stearinlaw12.TraceComplaints'. -/
def traceComplaintsCard : Claim7 := { stood := { row := traceComplaintsRow, standIns := [], harness := (true, "e895634384156d47f9b259d7b5c512773a1f38cb49a0a56832fa40143062f964"), looks := true }, kinds := [], alts := [], laidByText := true, laidKinds := [.data, .data, .data, .data, .sentinel, .sentinel, .pinned], laidTests := true, laidLooks := .later }
def TraceComplaintsCardSaid : Prop := Claim7.holds Tryz.pinned (.plain (OpenSpec.ofChange traceComplaintsSpec)) traceComplaintsCard

/-- THE TIED CARD OF 'stearinlaw12.TraceTexts'. -/
def traceTextsCard : Claim7 := { stood := { row := traceTextsRow, standIns := [], harness := (true, "e895634384156d47f9b259d7b5c512773a1f38cb49a0a56832fa40143062f964"), looks := true }, kinds := [], alts := [], laidByText := true, laidKinds := [.data, .data, .data, .data, .sentinel, .sentinel, .pinned], laidTests := true, laidLooks := .later }
def TraceTextsCardSaid : Prop := Claim7.holds Tryz.pinned (.plain (OpenSpec.ofChange traceTextsSpec)) traceTextsCard

/-- THE TIED CARD OF 'stearinlaw12.TraceKnown'. -/
def traceKnownCard : Claim7 := { stood := { row := traceKnownRow, standIns := [], harness := (true, "e895634384156d47f9b259d7b5c512773a1f38cb49a0a56832fa40143062f964"), looks := true }, kinds := [], alts := [], laidByText := true, laidKinds := [.data, .data, .data, .data, .sentinel, .sentinel, .pinned], laidTests := true, laidLooks := .later }
def TraceKnownCardSaid : Prop := Claim7.holds Tryz.pinned (.plain (OpenSpec.ofChange traceKnownSpec)) traceKnownCard

/-- THE TIED CARD OF 'stearinlaw12.TraceTrue'. -/
def traceTrueCard : Claim7 := { stood := { row := traceTrueRow, standIns := [], harness := (true, "e895634384156d47f9b259d7b5c512773a1f38cb49a0a56832fa40143062f964"), looks := true }, kinds := [], alts := [], laidByText := true, laidKinds := [.data, .data, .data, .data, .sentinel, .sentinel, .pinned], laidTests := true, laidLooks := .later }
def TraceTrueCardSaid : Prop := Claim7.holds Tryz.pinned (.plain (OpenSpec.ofChange traceTrueSpec)) traceTrueCard

/-- THE TIED CARD OF 'stearinlaw12.TraceAll'. -/
def traceAllCard : Claim7 := { stood := { row := traceAllRow, standIns := [], harness := (true, "e895634384156d47f9b259d7b5c512773a1f38cb49a0a56832fa40143062f964"), looks := true }, kinds := [], alts := [], laidByText := true, laidKinds := [.data, .data, .data, .data, .sentinel, .sentinel, .pinned], laidTests := true, laidLooks := .later }
def TraceAllCardSaid : Prop := Claim7.holds Tryz.pinned (.plain (OpenSpec.ofChange traceAllSpec)) traceAllCard

/-- THE TIED CARD OF 'stearinlaw12.TraceBoth'. -/
def traceBothCard : Claim7 := { stood := { row := traceBothRow, standIns := [], harness := (true, "e895634384156d47f9b259d7b5c512773a1f38cb49a0a56832fa40143062f964"), looks := true }, kinds := [], alts := [], laidByText := true, laidKinds := [.data, .data, .data, .data, .sentinel, .sentinel, .pinned], laidTests := true, laidLooks := .later }
def TraceBothCardSaid : Prop := Claim7.holds Tryz.pinned (.plain (OpenSpec.ofChange traceBothSpec)) traceBothCard

/-- THE TIED CARD OF 'stearinlaw12.TraceFewest'. -/
def traceFewestCard : Claim7 := { stood := { row := traceFewestRow, standIns := [], harness := (true, "e895634384156d47f9b259d7b5c512773a1f38cb49a0a56832fa40143062f964"), looks := true }, kinds := [], alts := [], laidByText := true, laidKinds := [.data, .data, .data, .data, .sentinel, .sentinel, .pinned], laidTests := true, laidLooks := .later }
def TraceFewestCardSaid : Prop := Claim7.holds Tryz.pinned (.plain (OpenSpec.ofChange traceFewestSpec)) traceFewestCard

/-- THE TIED CARD OF 'stearinlaw12.TraceMore'. -/
def traceMoreCard : Claim7 := { stood := { row := traceMoreRow, standIns := [], harness := (true, "e895634384156d47f9b259d7b5c512773a1f38cb49a0a56832fa40143062f964"), looks := true }, kinds := [], alts := [], laidByText := true, laidKinds := [.data, .data, .data, .data, .sentinel, .sentinel, .pinned], laidTests := true, laidLooks := .later }
def TraceMoreCardSaid : Prop := Claim7.holds Tryz.pinned (.plain (OpenSpec.ofChange traceMoreSpec)) traceMoreCard

/-- THE TIED CARD OF 'stearinlaw12.TraceFound'. -/
def traceFoundCard : Claim7 := { stood := { row := traceFoundRow, standIns := [], harness := (true, "e895634384156d47f9b259d7b5c512773a1f38cb49a0a56832fa40143062f964"), looks := true }, kinds := [], alts := [], laidByText := true, laidKinds := [.data, .data, .data, .data, .sentinel, .sentinel, .pinned], laidTests := true, laidLooks := .later }
def TraceFoundCardSaid : Prop := Claim7.holds Tryz.pinned (.plain (OpenSpec.ofChange traceFoundSpec)) traceFoundCard

/-- THE TIED CARD OF 'stearinlaw12.TraceOn'. -/
def traceOnCard : Claim7 := { stood := { row := traceOnRow, standIns := [], harness := (true, "e895634384156d47f9b259d7b5c512773a1f38cb49a0a56832fa40143062f964"), looks := true }, kinds := [], alts := [], laidByText := true, laidKinds := [.data, .data, .data, .data, .sentinel, .sentinel, .pinned], laidTests := true, laidLooks := .later }
def TraceOnCardSaid : Prop := Claim7.holds Tryz.pinned (.plain (OpenSpec.ofChange traceOnSpec)) traceOnCard

/-- THE TIED CARD OF 'stearinlaw12.TraceOrder'. -/
def traceOrderCard : Claim7 := { stood := { row := traceOrderRow, standIns := [], harness := (true, "e895634384156d47f9b259d7b5c512773a1f38cb49a0a56832fa40143062f964"), looks := true }, kinds := [], alts := [], laidByText := true, laidKinds := [.data, .data, .data, .data, .sentinel, .sentinel, .pinned], laidTests := true, laidLooks := .later }
def TraceOrderCardSaid : Prop := Claim7.holds Tryz.pinned (.plain (OpenSpec.ofChange traceOrderSpec)) traceOrderCard

/-- THE TIED CARD OF 'stearinlaw12.TraceRound'. -/
def traceRoundCard : Claim7 := { stood := { row := traceRoundRow, standIns := [], harness := (true, "e895634384156d47f9b259d7b5c512773a1f38cb49a0a56832fa40143062f964"), looks := true }, kinds := [], alts := [], laidByText := true, laidKinds := [.data, .data, .data, .data, .sentinel, .sentinel, .pinned], laidTests := true, laidLooks := .later }
def TraceRoundCardSaid : Prop := Claim7.holds Tryz.pinned (.plain (OpenSpec.ofChange traceRoundSpec)) traceRoundCard

/-- THE SECOND FORM's CARD OF 'stearinlaw12.TraceComes'. -/
def traceComesUptoCard : Claim7 := { stood := { row := traceComesUptoRow, standIns := [], harness := (true, "e895634384156d47f9b259d7b5c512773a1f38cb49a0a56832fa40143062f964"), looks := true }, kinds := [], alts := [], laidByText := true, laidKinds := [.data, .data, .data, .data, .sentinel, .sentinel, .pinned], laidTests := true, laidLooks := .later }
def TraceComesUptoCardSaid : Prop := Claim7.holds Tryz.pinned (.plain (OpenSpec.upto traceComesSpec)) traceComesUptoCard

/-- THE SECOND FORM's CARD OF 'stearinlaw12.TraceLefts'. -/
def traceLeftsUptoCard : Claim7 := { stood := { row := traceLeftsUptoRow, standIns := [], harness := (true, "e895634384156d47f9b259d7b5c512773a1f38cb49a0a56832fa40143062f964"), looks := true }, kinds := [], alts := [], laidByText := true, laidKinds := [.data, .data, .data, .data, .sentinel, .sentinel, .pinned], laidTests := true, laidLooks := .later }
def TraceLeftsUptoCardSaid : Prop := Claim7.holds Tryz.pinned (.plain (OpenSpec.upto traceLeftsSpec)) traceLeftsUptoCard

/-- THE SECOND FORM's CARD OF 'stearinlaw12.TraceComplaints'. -/
def traceComplaintsUptoCard : Claim7 := { stood := { row := traceComplaintsUptoRow, standIns := [], harness := (true, "e895634384156d47f9b259d7b5c512773a1f38cb49a0a56832fa40143062f964"), looks := true }, kinds := [], alts := [], laidByText := true, laidKinds := [.data, .data, .data, .data, .sentinel, .sentinel, .pinned], laidTests := true, laidLooks := .later }
def TraceComplaintsUptoCardSaid : Prop := Claim7.holds Tryz.pinned (.plain (OpenSpec.upto traceComplaintsSpec)) traceComplaintsUptoCard

/-- THE SECOND FORM's CARD OF 'stearinlaw12.TraceTexts'. -/
def traceTextsUptoCard : Claim7 := { stood := { row := traceTextsUptoRow, standIns := [], harness := (true, "e895634384156d47f9b259d7b5c512773a1f38cb49a0a56832fa40143062f964"), looks := true }, kinds := [], alts := [], laidByText := true, laidKinds := [.data, .data, .data, .data, .sentinel, .sentinel, .pinned], laidTests := true, laidLooks := .later }
def TraceTextsUptoCardSaid : Prop := Claim7.holds Tryz.pinned (.plain (OpenSpec.upto traceTextsSpec)) traceTextsUptoCard

/-- THE SECOND FORM's CARD OF 'stearinlaw12.TraceKnown'. -/
def traceKnownUptoCard : Claim7 := { stood := { row := traceKnownUptoRow, standIns := [], harness := (true, "e895634384156d47f9b259d7b5c512773a1f38cb49a0a56832fa40143062f964"), looks := true }, kinds := [], alts := [], laidByText := true, laidKinds := [.data, .data, .data, .data, .sentinel, .sentinel, .pinned], laidTests := true, laidLooks := .later }
def TraceKnownUptoCardSaid : Prop := Claim7.holds Tryz.pinned (.plain (OpenSpec.upto traceKnownSpec)) traceKnownUptoCard

/-- THE SECOND FORM's CARD OF 'stearinlaw12.TraceTrue'. -/
def traceTrueUptoCard : Claim7 := { stood := { row := traceTrueUptoRow, standIns := [], harness := (true, "e895634384156d47f9b259d7b5c512773a1f38cb49a0a56832fa40143062f964"), looks := true }, kinds := [], alts := [], laidByText := true, laidKinds := [.data, .data, .data, .data, .sentinel, .sentinel, .pinned], laidTests := true, laidLooks := .later }
def TraceTrueUptoCardSaid : Prop := Claim7.holds Tryz.pinned (.plain (OpenSpec.upto traceTrueSpec)) traceTrueUptoCard

/-- THE SECOND FORM's CARD OF 'stearinlaw12.TraceAll'. -/
def traceAllUptoCard : Claim7 := { stood := { row := traceAllUptoRow, standIns := [], harness := (true, "e895634384156d47f9b259d7b5c512773a1f38cb49a0a56832fa40143062f964"), looks := true }, kinds := [], alts := [], laidByText := true, laidKinds := [.data, .data, .data, .data, .sentinel, .sentinel, .pinned], laidTests := true, laidLooks := .later }
def TraceAllUptoCardSaid : Prop := Claim7.holds Tryz.pinned (.plain (OpenSpec.upto traceAllSpec)) traceAllUptoCard

/-- THE SECOND FORM's CARD OF 'stearinlaw12.TraceBoth'. -/
def traceBothUptoCard : Claim7 := { stood := { row := traceBothUptoRow, standIns := [], harness := (true, "e895634384156d47f9b259d7b5c512773a1f38cb49a0a56832fa40143062f964"), looks := true }, kinds := [], alts := [], laidByText := true, laidKinds := [.data, .data, .data, .data, .sentinel, .sentinel, .pinned], laidTests := true, laidLooks := .later }
def TraceBothUptoCardSaid : Prop := Claim7.holds Tryz.pinned (.plain (OpenSpec.upto traceBothSpec)) traceBothUptoCard

/-- THE SECOND FORM's CARD OF 'stearinlaw12.TraceFewest'. -/
def traceFewestUptoCard : Claim7 := { stood := { row := traceFewestUptoRow, standIns := [], harness := (true, "e895634384156d47f9b259d7b5c512773a1f38cb49a0a56832fa40143062f964"), looks := true }, kinds := [], alts := [], laidByText := true, laidKinds := [.data, .data, .data, .data, .sentinel, .sentinel, .pinned], laidTests := true, laidLooks := .later }
def TraceFewestUptoCardSaid : Prop := Claim7.holds Tryz.pinned (.plain (OpenSpec.upto traceFewestSpec)) traceFewestUptoCard

/-- THE SECOND FORM's CARD OF 'stearinlaw12.TraceMore'. -/
def traceMoreUptoCard : Claim7 := { stood := { row := traceMoreUptoRow, standIns := [], harness := (true, "e895634384156d47f9b259d7b5c512773a1f38cb49a0a56832fa40143062f964"), looks := true }, kinds := [], alts := [], laidByText := true, laidKinds := [.data, .data, .data, .data, .sentinel, .sentinel, .pinned], laidTests := true, laidLooks := .later }
def TraceMoreUptoCardSaid : Prop := Claim7.holds Tryz.pinned (.plain (OpenSpec.upto traceMoreSpec)) traceMoreUptoCard

/-- THE SECOND FORM's CARD OF 'stearinlaw12.TraceFound'. -/
def traceFoundUptoCard : Claim7 := { stood := { row := traceFoundUptoRow, standIns := [], harness := (true, "e895634384156d47f9b259d7b5c512773a1f38cb49a0a56832fa40143062f964"), looks := true }, kinds := [], alts := [], laidByText := true, laidKinds := [.data, .data, .data, .data, .sentinel, .sentinel, .pinned], laidTests := true, laidLooks := .later }
def TraceFoundUptoCardSaid : Prop := Claim7.holds Tryz.pinned (.plain (OpenSpec.upto traceFoundSpec)) traceFoundUptoCard

/-- THE SECOND FORM's CARD OF 'stearinlaw12.TraceOn'. -/
def traceOnUptoCard : Claim7 := { stood := { row := traceOnUptoRow, standIns := [], harness := (true, "e895634384156d47f9b259d7b5c512773a1f38cb49a0a56832fa40143062f964"), looks := true }, kinds := [], alts := [], laidByText := true, laidKinds := [.data, .data, .data, .data, .sentinel, .sentinel, .pinned], laidTests := true, laidLooks := .later }
def TraceOnUptoCardSaid : Prop := Claim7.holds Tryz.pinned (.plain (OpenSpec.upto traceOnSpec)) traceOnUptoCard

/-- THE SECOND FORM's CARD OF 'stearinlaw12.TraceOrder'. -/
def traceOrderUptoCard : Claim7 := { stood := { row := traceOrderUptoRow, standIns := [], harness := (true, "e895634384156d47f9b259d7b5c512773a1f38cb49a0a56832fa40143062f964"), looks := true }, kinds := [], alts := [], laidByText := true, laidKinds := [.data, .data, .data, .data, .sentinel, .sentinel, .pinned], laidTests := true, laidLooks := .later }
def TraceOrderUptoCardSaid : Prop := Claim7.holds Tryz.pinned (.plain (OpenSpec.upto traceOrderSpec)) traceOrderUptoCard

/-- THE SECOND FORM's CARD OF 'stearinlaw12.TraceRound'. -/
def traceRoundUptoCard : Claim7 := { stood := { row := traceRoundUptoRow, standIns := [], harness := (true, "e895634384156d47f9b259d7b5c512773a1f38cb49a0a56832fa40143062f964"), looks := true }, kinds := [], alts := [], laidByText := true, laidKinds := [.data, .data, .data, .data, .sentinel, .sentinel, .pinned], laidTests := true, laidLooks := .later }
def TraceRoundUptoCardSaid : Prop := Claim7.holds Tryz.pinned (.plain (OpenSpec.upto traceRoundSpec)) traceRoundUptoCard
end Rows
end Go.Proofs.YtnfeakhkfehkhaaGreatDoor
