/-
  What the program of the wax chapter comes to is what the reference comes to: parts, Mixed, Detect, Sets, Within, Sold. Plain. Conditions: none.
-/
import Derived.Test.YtkldmnladkcfeaaGreatDoorZPrI
namespace Go.Proofs.YtkldmnladkcfeaaGreatDoor
open Go.RowKit
set_option linter.unusedSimpArgs false
set_option linter.unusedVariables false
end Go.Proofs.YtkldmnladkcfeaaGreatDoor
namespace Go.Proofs.YtkldmnladkcfeaaGreatDoor
open Go.RowKit
set_option linter.unusedSimpArgs false
set_option linter.unusedVariables false
end Go.Proofs.YtkldmnladkcfeaaGreatDoor
