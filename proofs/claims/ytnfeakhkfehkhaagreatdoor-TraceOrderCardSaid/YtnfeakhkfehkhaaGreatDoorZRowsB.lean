/-
  What the laws that do not compare are handed reads as plain data: bytes. Conditions: none.
-/
import Derived.Test.YtnfeakhkfehkhaaGreatDoorZRows
import Derived.Test.YtnfeakhkfehkhaaGreatDoorZLawC
set_option linter.unusedSimpArgs false
set_option linter.unusedVariables false
namespace Go.Proofs.YtnfeakhkfehkhaaGreatDoor
open Go Go.ChangeShapes Go.WideShapes Go.ChangeAt Go.RowKit
theorem QN2:Reads Tryz.prog 5 (rK .u8) (λn=>(Lit.int .u8 n).wf=true):=QAZ Tryz.underlying5 (by kernel_rfl)
theorem wf8 {n:Int} (h:(Lit.int .u8 n).wf=true):QLK n:=by
 have e:IntKind.u8.min=0:=by decide
 have e2:IntKind.u8.max=255:=by decide
 unfold QLK;simpa only[Lit.wf,e,e2,Za,decide_eq_true_eq]using h
def QOk (l:List Int):Two:=⟨l.getD 0 0,l.getD 1 0⟩
theorem QOg:Reads Tryz.prog 66 QOi (λx=>QLK x.a/\QLK x.b):=(QOc (P:=Tryz.prog) (t:=66) QOi QOk Tryz.underlying66 QN2 (by kernel_rfl) rfl (λl h=>by
 match l,h with
 | [a,b],_=>rfl)).mono (by
 rintro _ ⟨l,rfl,hl,hk⟩
 match l,hl,hk with
 | [a,b],_,hk=>exact⟨wf8 (hk a (by simp)),wf8 (hk b (by simp))⟩)
end Go.Proofs.YtnfeakhkfehkhaaGreatDoor
