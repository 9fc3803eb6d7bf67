/-
  A law of the trace chapter that compares. Conditions: none.
-/
import Derived.Test.YtnfeakhkfehkhaaGreatDoorZLawA
set_option linter.unusedSimpArgs false
set_option linter.unusedVariables false
namespace Go.Proofs.YtnfeakhkfehkhaaGreatDoor
open Go.RowKit
theorem QKg {b:List Bat} (h:QcC b):s30 [.sl 5 (b.map QO.enc)]=some (.tup [DS (QhL b).1,DI (QhL b).2]):=by
 simp only[s30,sp1,QR];rw[if_pos h.1]; rfl
theorem QKl (t:ByteArray):s32 [DS t]=some (.tup [.sl 5 ((QII t).1.map QO.enc),DI (QII t).2]):=rfl
theorem QJS (s:ByteArray):QGY (QII s).1:=by
 have h0:QGY ([]:List Bat):=⟨by decide,λk hk=>(by cases hk)⟩
 unfold QII;split
 .exact h0
 .split
  .rename_i h;have aQ:=((Qbl _).1 h.1).ok;refine⟨by have:=aQ.le; show(QIi s).length < 1000000; omega,λx hx=>?_⟩
   obtain⟨k,hk,rfl⟩:=List.getElem_of_mem hx;have cZ:k < (QIi s).length:=hk;have hb:=aQ.at cZ;have h1:=Qdy hb.asc hb.fr;have h2:=aQ.le;show((QIi s)[k]'cZ).takes.length < 1000000;omega
  .exact h0
def kp6 (r:Nat):List (Nat×Option Nat):=match r with
 | 0=>kpn [0,1]
 | 1=>kpn [0,1,5,6]
 | 2=>kpn [1,5,6,7,8]
 | 3=>kpn [1,28]
 | 4=>[(4,none)]
 | 5=>kpn [1,6,9]
 | 6=>kpn [6,8,9,10]
 | 7=>[(4,none)]
 | _=>[]
noncomputable def QKo:List (Nat×(List D->Option D)):=(31,QKs)::(30,s30)::(32,s32)::QHV
theorem QKq:Qay Tryz.prog (Qas QKo):=Ql (Ql (Ql QHu QKn ok32) QKm ok30) QDN QKy
noncomputable def s6:List D->Option D:=sp2 (Qy QO) QmM QaI λb s=>if QcC b then some true else none
theorem ok6:∀ds d,s6 ds=some d->PureC Tryz.prog 6 ds d:=QaR λb s r hr=>by
 split at hr
 .rename_i hs;cases hr;refine Qm (QE QKq 50 kp6 []) Tryz.func6 rfl rfl (Zb rfl) (by kernel_rfl) ?_
  rw[Tryz.results6];have e29:=QFS ⟨hs.1,hs.2.1⟩;have e30:=QKg hs;have e31:QKs [DS s]=some (.tup [.sl 5 ((QII s).1.map QO.enc),DI (QII s).2]):=rfl;have e32:=QKl s;have f1:=QKp _ (QJS s);simp[kp6,QKo,QHV,QGa,s24,Qe,e29,e30,e31,e32,f1]
 .cases hr
end Go.Proofs.YtnfeakhkfehkhaaGreatDoor
