/-
  What the laws of the dip chapter are handed, as plain data. Conditions: none.
-/
import Derived.Test.YtcgacojnfkklaaaGreatDoorZLawA
namespace Go.Proofs.YtcgacojnfkklaaaGreatDoor
open Go.RowKit
set_option linter.unusedSimpArgs false
set_option linter.unusedVariables false
theorem cDips_de (l : List Dip) : (cList rDip).dec (.sl 4 (l.map rDip.enc)) = some l := cList_dec rDip l 4 rfl
end Go.Proofs.YtcgacojnfkklaaaGreatDoor
