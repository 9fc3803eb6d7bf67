/-
  What the outright laws of the dip chapter call. Conditions: none.
-/
import Derived.Test.YtcgacojnfkklaaaGreatDoorZAwake
import Derived.Test.YtcgacojnfkklaaaGreatDoorZLawR
import Derived.Test.YtcgacojnfkklaaaGreatDoorZMon
namespace Go.Proofs.YtcgacojnfkklaaaGreatDoor
open Go.RowKit
set_option linter.unusedSimpArgs false
set_option linter.unusedVariables false
def tb : List (Nat × (List D → Option D)) := (22, s22) :: (20, s20) :: (23, s23) :: (26, s26) :: (40, s40) :: (41, s41) :: (42, s42) :: (43, s43) :: (44, s44) :: (39, s39) :: []
theorem dtb : DelOk Tryz.prog (delOf tb) := del_cons (del_cons (del_cons (del_cons (del_cons (del_cons (del_cons (del_cons (del_cons (del_cons del_nil call39 ok39) call44 ok44) call43 ok43) call42 ok42) call41 ok41) call40 ok40) call26 ok26) call23 ok23) call20 ok20) call22 ok22
end Go.Proofs.YtcgacojnfkklaaaGreatDoor
