/-
  Helpers of the laws of the trace chapter. Conditions: none.
-/
import Derived.Test.YticoemblgkemiaaGreatDoorZWr
import Derived.Test.YticoemblgkemiaaGreatDoorZFwr
set_option linter.unusedSimpArgs false
set_option linter.unusedVariables false
namespace Go.Proofs.YticoemblgkemiaaGreatDoor
open Go.RowKit
def kp34 (r:Nat):List (Nat×Option Nat):=match r with
 | 0=>[(0,none)]
 | 1=>[(2,none)]
 | _=>[]
def kp35 (r:Nat):List (Nat×Option Nat):=match r with
 | 0=>kpn [0,1,4]
 | 1=>[(4,none)]
 | _=>[]
def QOr (r:Nat):List (Nat×Option Nat):=match r with
 | 0=>kpn [0,1]
 | 1=>kpn [0,1,7]
 | 2=>[(4,none)]
 | 3=>[(4,none)]
 | _=>[]
def kp64 (r:Nat):List (Nat×Option Nat):=match r with
 | 0=>[]
 | 1=>[(0,none)]
 | _=>[]
def s34:List D->Option D:=sp1 QaY (QJ QQ) λd=>some (Qcs d)
theorem ok34:∀ds d,s34 ds=some d->PureC Tryz.prog 47 ds d:=Qbr λd r hr=>by
 cases hr;refine QdB (QJ QQ) (Qcs d) (Qw Qs 15 kp34 []) Tryz.func47 rfl rfl (Zb rfl) (by kernel_rfl) ?_
 rw[Tryz.results47];simp[kp34,Qcs];rfl
theorem QKB (xs:Array Value) (w:World):(callFunc 47 xs).run Tryz.prog w= .ok (.enter 47 xs) w:=by kernel_rfl
def s35:List D->Option D:=sp2 QaY QaY (Qcf QE6) λa b=>some ⟨a,b⟩
theorem ok35:∀ds d,s35 ds=some d->PureC Tryz.prog 52 ds d:=Qay λa b r hr=>by
 cases hr;refine Qf (Qw Qs 8 kp35 []) Tryz.func52 rfl rfl (Zb rfl) (by kernel_rfl) ?_
 rw[Tryz.results52];simp[kp35,Qar]
theorem QIB (xs:Array Value) (w:World):(callFunc 52 xs).run Tryz.prog w= .ok (.enter 52 xs) w:=by kernel_rfl
def s64:List D->Option D:=sp0 Qoe (some Qrf)
theorem ok64:∀ds d,s64 ds=some d->PureC Tryz.prog 53 ds d:=Qxu λr hr=>by
 cases hr;refine Qf (Qw Qs 1 kp64 []) Tryz.func53 rfl rfl (Zb rfl) (by kernel_rfl) ?_
 rw[Tryz.results53];simp[kp64,Qrf]
theorem QJu (xs:Array Value) (w:World):(callFunc 53 xs).run Tryz.prog w= .ok (.enter 53 xs) w:=by kernel_rfl
def Qpr (b:List Bat):Bool:=(Qaf b).2.2==0
def kp24 (r:Nat):List (Nat×Option Nat):=match r with
 | 0=>[]
 | 1=>kpn [1,2,3]
 | 2=>kpn [1,2,3,4,5,6]
 | 3=>kpn [1,2,3,4,5,6,7,8]
 | 4=>kpn [1,2,3,4,5,6,7,8,9,10]
 | 5=>kpn [1,2,3,4,5,6,7,8,9,10,11,12]
 | 6=>kpn [1,2,3,4,5,6,7,8,9,10,11,12,13,14]
 | 7=>kpn [1,2,3,4,5,6,7,8,9,10,11,12,13,14,17]
 | 8=>[(0,none)]
 | _=>[]
theorem QIM:Qc0 (Qcs 50):=by
 refine⟨by decide+kernel,λx hx=>?_,by decide+kernel⟩
 simp only[Qcs,List.mem_cons,List.not_mem_nil,or_false]at hx;rcases hx with rfl | rfl | rfl | rfl | rfl<;>decide
theorem QPo:Qc0 (Qcs 140):=by
 refine⟨by decide+kernel,λx hx=>?_,by decide+kernel⟩
 simp only[Qcs,List.mem_cons,List.not_mem_nil,or_false]at hx;rcases hx with rfl | rfl | rfl | rfl | rfl<;>decide
theorem in4:bkB ((Qcs 50).take 4)=true/\Qee ((Qcs 50).take 4):=⟨by decide+kernel,λx hx=>QIM.2.1 x (List.mem_of_mem_take hx)⟩
noncomputable def lawD:List (Nat×(List D->Option D)):=(47,s34)::(52,s35)::(53,s64)::(46,QPN)::(10,s22)::(11,s25)::(48,QPP)::(49,s29)::(50,s31)::(51,s21)::(54,s33)::[]
theorem dlaw:QaE Tryz.prog (Qaw lawD):=Qh (Qh (Qh (Qh (Qh (Qh (Qh (Qh (Qh (Qh (Qh Qs QKR ok33) QLv ok21) QMb ok31) QJI ok29) QPI QPV) QDD ok25) QC1 ok22) QPF QPS) QJu ok64) QIB ok35) QKB ok34
theorem QJJ (a:Int):(QJ QH).dec (.sl 1 [[.v (.int .i64 a)]])=some [a]:=rfl
theorem QKv (a b:Int):(QJ QH).dec (.sl 1 [[.v (.int .i64 a)],[.v (.int .i64 b)]])=some [a,b]:=rfl
theorem QKm (a b c:Int):(QJ QH).dec (.sl 1 [[.v (.int .i64 a)],[.v (.int .i64 b)],[.v (.int .i64 c)]])=some [a,b,c]:=rfl
theorem QLT (a b c d:Int):(QJ QH).dec (.sl 1 [[.v (.int .i64 a)],[.v (.int .i64 b)],[.v (.int .i64 c)],[.v (.int .i64 d)]])=some [a,b,c,d]:=rfl
def s24:List D->Option D:=sp0 QaW (some true)
theorem QDI {b:List Bat} (h:Qc0 b) (i:Int):s22 [.sl 5 (b.map QQ.enc),DI i]=some (.tup [.sl 1 ((Qgz b i).1.map QH.enc),.sl 1 ((Qgz b i).2.1.map QH.enc),DI (Qgz b i).2.2]):=by
 simp only[s22,sp2,Q9,Qak];rw[if_pos h]; rfl
theorem QC7 {b:List Bat} (h:Qc0 b) (i:Int):s25 [.sl 5 (b.map QQ.enc),DI i]=some (.tup [.agg (QE6.enc (Qnn b i).1),DI (Qnn b i).2]):=by
 simp only[s25,sp2,Q9,Qak];rw[if_pos h]; rfl
theorem QLY {b:List Bat} (h:bkB b=true/\Qee b):s29 [.sl 5 (b.map QQ.enc)]=some (.tup [DS (QiQ b).1,DI (QiQ b).2]):=by
 simp only[s29,sp1,Q9];rw[if_pos h]; rfl
theorem QJ0 (t:ByteArray):s31 [DS t]=some (.tup [.sl 5 ((QkC t).1.map QQ.enc),DI (QkC t).2]):=rfl
set_option maxRecDepth 100000 in
set_option maxHeartbeats 8000000 in
theorem ok24:∀ds d,s24 ds=some d->PureC Tryz.prog 9 ds d:=Qxu λr hr=>by
 cases hr;refine Qf (Qw dlaw 126 kp24 []) Tryz.func9 rfl rfl (Zb rfl) (by kernel_rfl) ?_
 rw[Tryz.results9];have e1:=QPQ;have e2:=QDI QIM 4;have e3:=QC7 QPo 1;have e4:=QPU;have e5:=QLY in4;have e6:=QJ0 Qrf;have e7:=QPM;rw[a2]at e2;rw[a3]at e3;rw[a5]at e5;rw[a6]at e6;have t4:(List.map QQ.enc (Qcs 50)).take 4=List.map QQ.enc ((Qcs 50).take 4):=rfl;have l5:(Qcs 50).length=5:=rfl;have cL:Qzg ((Qcs 50).take 4) ((Qcs 50).take 4)=true:=by decide+kernel
 have qM:QOR ((Qcs 50).take 4):=by decide+kernel
 have q1:eqI QzU 0 [2,4] [2,4]=true:=by decide
 have q2:eqI QzU 0 [2,3,4] [2,3,4]=true:=by decide
 have q3:eqI QzU 0 [0,2,3] [0,2,3]=true:=by decide
 have q4:eqI QzU 0 [0,1,2,3] [0,1,2,3]=true:=by decide
 have q5:eqI QzU 0 [1] [1]=true:=by decide
 generalize(Qcs 50).take 4=b4 at*;simp only[List.map_cons,List.map_nil,Qd]at e1 e2 e3 e4 e5 e6 e7;simp[kp24,lawD,s34,s35,s64,s21,s33,Qj,Qar,e1,e2,e3,e4,e5,e6,e7,t4,l5,Q9,cL,qM,q1,q2,q3,q4,q5,QJJ,QKv,QKm,QLT];done
theorem QMz (xs:Array Value) (w:World):(callFunc 9 xs).run Tryz.prog w= .ok (.enter 9 xs) w:=by kernel_rfl
end Go.Proofs.YticoemblgkemiaaGreatDoor
namespace Go.Proofs.YticoemblgkemiaaGreatDoor
open Go.RowKit
end Go.Proofs.YticoemblgkemiaaGreatDoor
