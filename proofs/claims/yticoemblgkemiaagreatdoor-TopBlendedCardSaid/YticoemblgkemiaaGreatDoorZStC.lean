/-
  Stubs: by how much each weight can be above each other one (close). Conditions: the sums are small (looked at by the plain function).
-/
import Derived.Test.YticoemblgkemiaaGreatDoorZStP
import Derived.Test.YticoemblgkemiaaGreatDoorZAmF
set_option linter.unusedSimpArgs false
set_option linter.unusedVariables false
namespace Go.Proofs.YticoemblgkemiaaGreatDoor
open Go.RowKit
end Go.Proofs.YticoemblgkemiaaGreatDoor
namespace Go.Proofs.YticoemblgkemiaaGreatDoor
open Go.RowKit
end Go.Proofs.YticoemblgkemiaaGreatDoor
namespace Go.Proofs.YticoemblgkemiaaGreatDoor
open Go.RowKit
end Go.Proofs.YticoemblgkemiaaGreatDoor
