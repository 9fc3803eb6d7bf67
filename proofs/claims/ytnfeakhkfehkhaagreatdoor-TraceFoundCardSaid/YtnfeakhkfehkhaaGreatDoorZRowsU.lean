/-
  What the laws that draw a truth are handed reads as plain data. Conditions: none.
-/
import Derived.Test.YtnfeakhkfehkhaaGreatDoorZRowsB
import Derived.Test.YtnfeakhkfehkhaaGreatDoorZFndA
set_option linter.unusedSimpArgs false
set_option linter.unusedVariables false
namespace Go.Proofs.YtnfeakhkfehkhaaGreatDoor
open Go Go.ChangeShapes Go.WideShapes Go.ChangeAt Go.RowKit
theorem QNQ:Reads Tryz.prog 158 (rK .u32) (λn=>(Lit.int .u32 n).wf=true):=QAZ Tryz.underlying158 (by kernel_rfl)
theorem wf32 {n:Int} (h:(Lit.int .u32 n).wf=true):0<=n/\n<=4294967295:=by
 have e:IntKind.u32.min=0:=by decide
 have e2:IntKind.u32.max=4294967295:=by decide
 simpa only[Lit.wf,e,e2,Za,decide_eq_true_eq]using h
theorem QNv:Reads Tryz.prog 48 (Qwq (rK .u32)) QLS:=
 (QiZ (P:=Tryz.prog) (t:=48) 140737488355328 (by omega) Tryz.underlying48 (by kernel_rfl) QNQ (by decide) (λn hn=>by
  have hb:1<=Tryz.prog.bytesOf 158:=Zb (by kernel_rfl)
  have:n*1<=reachBytes:=Nat.le_trans (Nat.mul_le_mul_left _ hb) hn;unfold reachBytes at this; omega)).mono λl h=>λx hx=>by have:=wf32 (h.1 x hx); omega
theorem QNx (l:List Int):(Qy (rK .u32)).dec ((Qy (rK .u32)).enc l)=some l:=QaY (rK .u32) l _ rfl
end Go.Proofs.YtnfeakhkfehkhaaGreatDoor
