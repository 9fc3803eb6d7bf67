/-
  The examples of the document. Conditions: none.
-/
import Derived.Test.YtnfeakhkfehkhaaGreatDoorZLawA
set_option linter.unusedSimpArgs false
set_option linter.unusedVariables false
namespace Go.Proofs.YtnfeakhkfehkhaaGreatDoor
open Go.RowKit
def kp7 (r:Nat):List (Nat×Option Nat):=match r with
 | 0=>[]
 | 1=>kpn [1,2,3]
 | 2=>kpn [1,2,3,4,5,6]
 | 3=>[(58,none)]
 | 4=>[(0,none)]
 | 5=>kpn [1,2,3]
 | 6=>kpn [1,2,3,4,5,6]
 | 7=>[(100,none)]
 | 8=>[(0,none)]
 | 9=>kpn [7,8]
 | 10=>kpn [7,8,9]
 | 11=>kpn [7,8,9,111]
 | 12=>kpn [7,8,9]
 | 13=>kpn [7,8,9,10,11]
 | 14=>kpn [7,8,9,10,11,12,13]
 | 15=>kpn [7,8,9,151]
 | 16=>[(0,none)]
 | 17=>kpn [14,15]
 | 18=>kpn [14,15,17]
 | 19=>[(0,none)]
 | _=>[]
theorem k1:QeU (Qb6 50) 1=([],[3,4],0):=by
 have:=Qtt Qyk (i:=1) (by decide)
 rw[show((1:Nat):Int)=1 from rfl]at this;rw[this]; decide+kernel
theorem k2:QeU (Qb6 50) 2=([4],[3,4],0):=by
 have:=Qtt Qyk (i:=2) (by decide)
 rw[show((2:Nat):Int)=2 from rfl]at this;rw[this]; decide+kernel
theorem k3:QeU (Qb6 140) 0=([2,3,4],[2,3,4],0):=by
 have:=Qtt QEa (i:=0) (by decide)
 rw[show((0:Nat):Int)=0 from rfl]at this;rw[this]; decide+kernel
theorem k4:QeU (Qb6 140) 1=([3,4],[3,4],0):=by
 have:=Qtt QEa (i:=1) (by decide)
 rw[show((1:Nat):Int)=1 from rfl]at this;rw[this]; decide+kernel
theorem lf0:Qo4 (Qb6 50) 0=(⟨20,60⟩,0):=by
 have:=Qxd Qyk (i:=0) (by decide)
 rw[lv (Qb6 50) 0 20 60 (by decide+kernel) (by decide+kernel)]at this
 exact this
theorem lf1:Qo4 (Qb6 50) 1=(⟨40,80⟩,0):=by
 have:=Qxd Qyk (i:=1) (by decide)
 rw[lv (Qb6 50) 1 40 80 (by decide+kernel) (by decide+kernel)]at this
 exact this
theorem lf2:Qo4 (Qb6 50) 2=(⟨0,30⟩,0):=by
 have:=Qxd Qyk (i:=2) (by decide)
 rw[lv (Qb6 50) 2 0 30 (by decide+kernel) (by decide+kernel)]at this
 exact this
theorem lf3:Qo4 (Qb6 50) 3=(⟨40,40⟩,0):=by
 have:=Qxd Qyk (i:=3) (by decide)
 rw[lv (Qb6 50) 3 40 40 (by decide+kernel) (by decide+kernel)]at this
 exact this
theorem lg0:Qo4 (Qb6 140) 0=(⟨0,40⟩,0):=by
 have:=Qxd QEa (i:=0) (by decide)
 rw[lv (Qb6 140) 0 0 40 (by decide+kernel) (by decide+kernel)]at this
 exact this
theorem lg1:Qo4 (Qb6 140) 1=(⟨0,40⟩,0):=by
 have:=Qxd QEa (i:=1) (by decide)
 rw[lv (Qb6 140) 1 0 40 (by decide+kernel) (by decide+kernel)]at this
 exact this
theorem lg2:Qo4 (Qb6 140) 2=(⟨0,30⟩,0):=by
 have:=Qxd QEa (i:=2) (by decide)
 rw[lv (Qb6 140) 2 0 30 (by decide+kernel) (by decide+kernel)]at this
 exact this
theorem lg3:∃a b,Qo4 (Qb6 140) 3=(⟨a,b⟩,0):=⟨_,_,Qxd QEa (i:=3) (by decide)⟩
theorem n1:QjZ (Qb6 50) [2,3] []=([0],0):=by
 rw[QBY Qyk (by decide+kernel) (by decide+kernel)]; decide+kernel
theorem n2:QjZ (Qb6 50) [2] [4]=([],9):=by
 rw[QBY Qyk (by decide+kernel) (by decide+kernel)]; decide+kernel
def s7:List D→Option D:=sp0 QaI (some true)
set_option maxRecDepth 100000 in
set_option maxHeartbeats 8000000 in
theorem ok7:∀ds d,s7 ds=some d→PureC Tryz.prog 7 ds d:=QyH fun r hr=>by
 cases hr;refine Qm (QE QHu 179 kp7 []) Tryz.func7 rfl rfl (Nat.le_of_ble_eq_true rfl) (by kernel_rfl) ?_
 rw[Tryz.results7];have c1:=QyR QER 1;have c2:=QyR QER 2;have c3:=QyR QHA 0;have c4:=QyR QHA 1;have f1:=QyK QER (c:=[2,3]) (g:=[]) (by decide) (by decide)
 have f2:=QyK QER (c:=[2]) (g:=[4]) (by decide) (by decide)
 rw[k1]at c1;rw[k2]at c2;rw[k3]at c3;rw[k4]at c4;rw[n1]at f1;rw[n2]at f2;have f1':s27 [.sl 5 ((Qb6 50).map QO.enc),.sl 1 [[DI 2],[DI 3]],.sl 0 []]=some (.tup [.sl 1 [[DI 0]],DI 0]):=f1;simp only[List.map_cons,List.map_nil,Qc]at c1 c2 c3 c4 f2;have q1:eqI QsM 0 [3,4] [3,4]=true:=by decide
 have q2:eqI QsM 0 [4] [4]=true:=by decide
 have q3:eqI QsM 0 [2,3,4] [2,3,4]=true:=by decide
 have q4:eqI QsM 0 [0] [0]=true:=by decide
 simp[kp7,QHV,QGa,s24,s34,s35,s21,Qe,Qii,c1,c2,c3,c4,QCI,QAH,QDn,QBx,QDE,Qzs,q1,q2,q3,q4];have z2:=Qa 2 (by omega) (by omega)
 have z3:=Qa 3 (by omega) (by omega)
 have z4:=Qa 4 (by omega) (by omega)
 (generalize hLoopQ:Cx.loop _ _ _=rLoopQ; apply Qi hLoopQ (fun k=>⟨[(7,.d (.sl 2 [[DI 20,DI 60],[DI 40,DI 80],[DI 0,DI 30],[DI 40,DI 40]])),(8,.d (.sl 2 [[DI 0,DI 40],[DI 0,DI 40],[DI 0,DI 30]])),(9,.d (DI k))],[],[],[]⟩) 4 rfl; rotate_left; (show _ < 281474976710656; omega); rfl; rotate_left; all_goals clear hLoopQ)
 ·intro j hj;rcases(show j=0∨j=1∨j=2∨j=3 by omega)with rfl | rfl | rfl | rfl
  ·have e1:=QCO QER 0;have e2:=QCO QHA 0;rw[lf0]at e1;rw[lg0]at e2;simp[kp7,QHV,QGa,s34,Qe,Qii,e1,e2,z2,z3,z4]
  ·have e1:=QCO QER 1;have e2:=QCO QHA 1;rw[lf1]at e1;rw[lg1]at e2;simp[kp7,QHV,QGa,s34,Qe,Qii,e1,e2,z2,z3,z4]
  ·have e1:=QCO QER 2;have e2:=QCO QHA 2;rw[lf2]at e1;rw[lg2]at e2;simp[kp7,QHV,QGa,s34,Qe,Qii,e1,e2,z2,z3,z4]
  ·have e1:=QCO QER 3;have e2:=QCO QHA 3;obtain⟨a,b,hab⟩:=lg3;rw[lf3]at e1;rw[hab]at e2;simp[kp7,QHV,QGa,s34,Qe,Qii,e1,e2,z2,z3,z4]
 ·simp[kp7,QHV,QGa,s24,s34,s21,Qe,Qii,f1',f2,QCI,QAH,q4]
end Go.Proofs.YtnfeakhkfehkhaaGreatDoor
