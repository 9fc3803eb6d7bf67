/-
  What the laws that do not compare are handed reads as plain data: bytes. Conditions: none.
-/
import Derived.Test.YtnfeakhkfehkhaaGreatDoorZRows
import Derived.Test.YtnfeakhkfehkhaaGreatDoorZLawC
set_option linter.unusedSimpArgs false
set_option linter.unusedVariables false
namespace Go.Proofs.YtnfeakhkfehkhaaGreatDoor
open Go Go.ChangeShapes Go.WideShapes Go.ChangeAt Go.RowKit
theorem QN2:Reads Tryz.prog 5 (rK .u8) (λn=>(Lit.int .u8 n).wf=true):=QAZ Tryz.underlying5 (by kernel_rfl)
theorem wf8 {n:Int} (h:(Lit.int .u8 n).wf=true):QLK n:=by
 have e:IntKind.u8.min=0:=by decide
 have e2:IntKind.u8.max=255:=by decide
 unfold QLK;simpa only[Lit.wf,e,e2,Za,decide_eq_true_eq]using h
theorem QNF (n:Int):(cK .u8).dec ((cK .u8).enc n)=some n:=rfl
end Go.Proofs.YtnfeakhkfehkhaaGreatDoor
