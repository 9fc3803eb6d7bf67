/-
  TraceTrue: what holds in ANY truth. Conditions: none.
-/
import Derived.Test.YtnfeakhkfehkhaaGreatDoorZLawD
set_option linter.unusedSimpArgs false
set_option linter.unusedVariables false
namespace Go.Proofs.YtnfeakhkfehkhaaGreatDoor
open Go.RowKit
theorem QMn {b:List Bat} {i k:Nat} (h:¬k=i):comesM b i k=Qgj b i k/\comesY b i k=QoL b i k:=by
 unfold comesM comesY;have:(k != i)=true:=by simpa using h
 rw[this,Bool.true_and,Bool.true_and];exact⟨rfl,rfl⟩
end Go.Proofs.YtnfeakhkfehkhaaGreatDoor
