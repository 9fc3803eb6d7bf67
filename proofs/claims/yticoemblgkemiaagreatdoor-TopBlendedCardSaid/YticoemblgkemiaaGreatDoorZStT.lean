/-
  Stubs: the functions of its examples that the kernel runs (their code, what is kept behind each region). Conditions: none.
-/
import Derived.Test.YticoemblgkemiaaGreatDoorZStC
set_option linter.unusedSimpArgs false
set_option linter.unusedVariables false
namespace Go.Proofs.YticoemblgkemiaaGreatDoor
open Go.RowKit
end Go.Proofs.YticoemblgkemiaaGreatDoor
namespace Go.Proofs.YticoemblgkemiaaGreatDoor
open Go.RowKit
end Go.Proofs.YticoemblgkemiaaGreatDoor
