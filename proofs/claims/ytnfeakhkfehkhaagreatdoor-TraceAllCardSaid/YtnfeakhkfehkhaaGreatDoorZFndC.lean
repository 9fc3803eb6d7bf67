/-
  ANY truth of a book, as the law draws it. Conditions: none.
-/
import Derived.Test.YtnfeakhkfehkhaaGreatDoorZFndB
import Derived.Test.YtnfeakhkfehkhaaGreatDoorZCellB
set_option linter.unusedSimpArgs false
set_option linter.unusedVariables false
namespace Go.Proofs.YtnfeakhkfehkhaaGreatDoor
open Go.RowKit
theorem QMP (b:List Bat) (y:List Int):QLn b y 0=⟨⟨QI b,QV b,[]⟩,[],0⟩:=rfl
theorem QMY (y:List Int) (t:Nat) (p:Pro) (u:Nat):QLo y t p u 0=⟨p,[],u⟩:=rfl
attribute [local simp] QMP QMY
end Go.Proofs.YtnfeakhkfehkhaaGreatDoor
