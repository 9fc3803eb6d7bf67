/-
  A law of the trace chapter that compares. Conditions: none.
-/
import Derived.Test.YtnfeakhkfehkhaaGreatDoorZLawA
set_option linter.unusedSimpArgs false
set_option linter.unusedVariables false
namespace Go.Proofs.YtnfeakhkfehkhaaGreatDoor
open Go.RowKit
theorem QLa {b:List Bat} (h:QcC b) (i:Int):s26 [.sl 5 (b.map QO.enc),DI i]=some (.tup [.agg (QGL.enc (Qo4 b i).1),DI (Qo4 b i).2]):=by
 simp only[s26,sp2,QR,Qam];rw[if_pos h.1]; rfl
def kp4 (r:Nat):List (Nat×Option Nat):=match r with
 | 0=>kpn [0,1]
 | 1=>kpn [0,1,5,6]
 | 2=>kpn [5,6,7,8]
 | 3=>[(4,none)]
 | _=>[]
noncomputable def QLb:List (Nat×(List D->Option D)):=(26,s26)::QHV
theorem QLc:Qay Tryz.prog (Qas QLb):=Ql QHu QLd ok26
noncomputable def s4:List D->Option D:=sp2 (Qy QO) Qbh QaI λb i=>if QcC b then some true else none
theorem ok4:∀ds d,s4 ds=some d->PureC Tryz.prog 4 ds d:=QaR λb i r hr=>by
 split at hr
 .rename_i hs;cases hr;refine Qm (QE QLc 32 kp4 []) Tryz.func4 rfl rfl (Zb rfl) (by kernel_rfl) ?_
  rw[Tryz.results4];have xZ:=QCO hs i;have e26:=QLa hs i;simp[kp4,QLb,QHV,QGa,s24,Qe,Qii,xZ,e26]
 .cases hr
end Go.Proofs.YtnfeakhkfehkhaaGreatDoor
