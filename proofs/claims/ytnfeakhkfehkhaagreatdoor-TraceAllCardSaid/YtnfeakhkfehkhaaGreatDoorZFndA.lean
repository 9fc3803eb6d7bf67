/-
  How the law draws a truth: never, turn, bounds. Conditions: none.
-/
import Derived.Test.YtnfeakhkfehkhaaGreatDoorZLawC
set_option linter.unusedSimpArgs false
set_option linter.unusedVariables false
namespace Go.Proofs.YtnfeakhkfehkhaaGreatDoor
open Go.RowKit
def QLS (y:List Int):Prop:=∀z∈y,0<=z/\z < 4294967296
noncomputable instance (y:List Int):Decidable (QLS y):=Classical.propDecidable _
end Go.Proofs.YtnfeakhkfehkhaaGreatDoor
