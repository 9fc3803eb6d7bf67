/-
  Stubs: lines of scales, the points of a line. Conditions: short lines.
-/
import Derived.Test.YticoemblgkemiaaGreatDoorZStJ
import Derived.Test.YticoemblgkemiaaGreatDoorZAmE
import Derived.Test.YticoemblgkemiaaGreatDoorZAmF
import Derived.Test.YticoemblgkemiaaGreatDoorZTrB
import Derived.RangeFuncNested
import Derived.RangeFuncBound
import Derived.RangeFuncCalls
import Derived.RangeFuncLeaves
import Derived.RangeFuncBox
import Derived.Shelf.Abstract
import Derived.Shelf.RegionOpen
import Derived.OwnWalkIn
import Derived.TacticsInMore
import Derived.LoopNIn
import Derived.LoopIn
set_option linter.unusedSimpArgs false
set_option linter.unusedVariables false
namespace Go.Proofs.YticoemblgkemiaaGreatDoor
open Go.RowKit Go.Shelf
attribute [local go_sem] Oper.semAt_some
end Go.Proofs.YticoemblgkemiaaGreatDoor
namespace Go.Proofs.YticoemblgkemiaaGreatDoor
open Go.RowKit
abbrev Sq:= {L:List Int // L.length=64}
def Sq.put (L:Sq) (p:Nat) (v:Int):Sq:=⟨L.1.set p v,by simp[L.2]⟩
end Go.Proofs.YticoemblgkemiaaGreatDoor
