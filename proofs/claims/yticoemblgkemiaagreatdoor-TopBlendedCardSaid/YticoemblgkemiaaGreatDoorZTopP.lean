/-
  Sums over bags, some of which may be foreign; kinds by bits. Plain; no program here. Conditions: none.
-/
import Derived.Test.YticoemblgkemiaaGreatDoorZTrB
import Derived.Test.YticoemblgkemiaaGreatDoorZStJ
set_option linter.unusedSimpArgs false
set_option linter.unusedVariables false
namespace Go.Proofs.YticoemblgkemiaaGreatDoor
end Go.Proofs.YticoemblgkemiaaGreatDoor
namespace Go.Proofs.YticoemblgkemiaaGreatDoor
open Go.RowKit
end Go.Proofs.YticoemblgkemiaaGreatDoor
