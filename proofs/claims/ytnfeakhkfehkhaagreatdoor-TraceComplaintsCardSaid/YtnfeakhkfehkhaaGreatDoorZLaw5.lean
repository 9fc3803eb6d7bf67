/-
  A law of the trace chapter that compares. Conditions: none.
-/
import Derived.Test.YtnfeakhkfehkhaaGreatDoorZLawA
set_option linter.unusedSimpArgs false
set_option linter.unusedVariables false
namespace Go.Proofs.YtnfeakhkfehkhaaGreatDoor
open Go.RowKit
theorem QC3 {b:List Bat} (h:QcC b) {c g:List Int} (hc:c.length<=17592186044416) (hg:g.length<=17592186044416):s28 [.sl 5 (b.map QO.enc),.sl 1 (c.map Qt.enc),.sl 1 (g.map Qt.enc)]=some (.tup [.sl 1 ((QjZ b c g).1.map Qt.enc),DI (QjZ b c g).2]):=by
 simp only[s28,sp3,QR,QQ];rw[if_pos ⟨h.1,hc,hg⟩]; rfl
def kp5 (r:Nat):List (Nat×Option Nat):=match r with
 | 0=>kpn [0,1,2]
 | 1=>kpn [0,1,2,7,8]
 | 2=>kpn [7,8,9,10]
 | 3=>[(6,none)]
 | _=>[]
noncomputable def QFC:List (Nat×(List D->Option D)):=(28,s28)::QHV
theorem QC1:Qay Tryz.prog (Qas QFC):=Ql QHu QDg ok28
noncomputable def s5:List D->Option D:=sp3 (Qy QO) (Qy Qt) (Qy Qt) QaI λb c g=>if QcC b/\c.length<=17592186044416/\g.length<=17592186044416 then some true else none
theorem ok5:∀ds d,s5 ds=some d->PureC Tryz.prog 5 ds d:=QcG λb c g r hr=>by
 split at hr
 .rename_i hs;cases hr;refine Qm (QE QC1 36 kp5 []) Tryz.func5 rfl rfl (Zb rfl) (by kernel_rfl) ?_
  rw[Tryz.results5];have e27:=QyK hs.1 hs.2.1 hs.2.2;have e28:=QC3 hs.1 hs.2.1 hs.2.2;have f1:=QFK _ (QBT b c g);simp[kp5,QFC,QHV,QGa,s24,Qe,Qg,e27,e28,f1]
 .cases hr
end Go.Proofs.YtnfeakhkfehkhaaGreatDoor
