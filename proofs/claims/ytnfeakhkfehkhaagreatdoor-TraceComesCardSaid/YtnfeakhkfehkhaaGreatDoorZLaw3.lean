/-
  A law of the trace chapter that compares. Conditions: none.
-/
import Derived.Test.YtnfeakhkfehkhaaGreatDoorZLawA
set_option linter.unusedSimpArgs false
set_option linter.unusedVariables false
namespace Go.Proofs.YtnfeakhkfehkhaaGreatDoor
open Go.RowKit
theorem QKO {b:List Bat} (h:QcC b) (i:Int):s20 [.sl 5 (b.map QO.enc),DI i]=some (.tup [.sl 1 ((QeU b i).1.map Qt.enc),.sl 1 ((QeU b i).2.1.map Qt.enc),DI (QeU b i).2.2]):=by
 simp only[s20,sp2,QR,Qam];rw[if_pos h.1]; rfl
theorem QKJ {b:List Bat} (h:QcC b) (i:Int):s23 [.sl 5 (b.map QO.enc),DI i]=some (.tup [.sl 1 ((QgQ b i).1.map Qt.enc),.sl 1 ((QgQ b i).2.1.map Qt.enc),DI (QgQ b i).2.2]):=by
 simp only[s23,sp2,QR,Qam];rw[if_pos h.1]; rfl
def kp3 (r:Nat):List (Nat×Option Nat):=match r with
 | 0=>kpn [0,1]
 | 1=>kpn [0,1,5,6,7]
 | 2=>kpn [0,1,5,6,7,8,9,10]
 | 3=>kpn [0,1,39]
 | 4=>[(4,none)]
 | 5=>kpn [0,1,7,11,12]
 | 6=>kpn [0,1,7,10,11,12,13,14]
 | 7=>kpn [0,1,68]
 | 8=>[(4,none)]
 | 9=>kpn [0,1,7,11,12]
 | 10=>kpn [7,10,11,12,13,14]
 | 11=>[(4,none)]
 | _=>[]
noncomputable def QKG:List (Nat×(List D->Option D)):=(20,s20)::(23,s23)::QHV
theorem QKK:Qay Tryz.prog (Qas QKG):=Ql (Ql QHu QKN ok23) QKI ok20
noncomputable def s3:List D->Option D:=sp2 (Qy QO) Qbh QaI λb i=>if QcC b then some true else none
set_option maxHeartbeats 2000000 in
theorem ok3:∀ds d,s3 ds=some d->PureC Tryz.prog 3 ds d:=QaR λb i r hr=>by
 split at hr
 .rename_i hs;cases hr;refine Qm (QE QKK 99 kp3 []) Tryz.func3 rfl rfl (Zb rfl) (by kernel_rfl) ?_
  rw[Tryz.results3];have e17:=QKM hs;have e18:=QJ5 hs.1;have e19:=QyR hs i;have e20:=QKO hs i;have e22:=QDx hs i;have e23:=QKJ hs i;have f1:=QFK _ (QKB b i).1;have f2:=QFK _ (QKB b i).2;have f3:=QFK _ (QKC b i).1;have f4:=QFK _ (QKC b i).2;simp[kp3,QKG,QHV,QGa,s24,Qe,e17,e18,e19,e20,e22,e23,f1,f2,f3,f4]
 .cases hr
end Go.Proofs.YtnfeakhkfehkhaaGreatDoor
