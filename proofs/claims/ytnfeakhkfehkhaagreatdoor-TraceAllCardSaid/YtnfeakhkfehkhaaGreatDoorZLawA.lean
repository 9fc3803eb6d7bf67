/-
  Helpers of the laws of the trace chapter. Conditions: none.
-/
import Derived.Test.YtnfeakhkfehkhaaGreatDoorZRdM
import Derived.Test.YtnfeakhkfehkhaaGreatDoorZWr
set_option linter.unusedSimpArgs false
set_option linter.unusedVariables false
namespace Go.Proofs.YtnfeakhkfehkhaaGreatDoor
open Go.RowKit
def kp34 (r:Nat):List (Nat×Option Nat):=match r with
 | 0=>[(0,none)]
 | 1=>[(2,none)]
 | _=>[]
def kp35 (r:Nat):List (Nat×Option Nat):=match r with
 | 0=>kpn [0,1,4]
 | 1=>[(4,none)]
 | _=>[]
def kp36 (r:Nat):List (Nat×Option Nat):=match r with
 | 0=>[(0,none)]
 | 1=>[(5,none)]
 | 2=>[(2,none)]
 | _=>[]
def QNE (r:Nat):List (Nat×Option Nat):=match r with
 | 0=>kpn [0,1]
 | 1=>kpn [0,1,5]
 | 2=>kpn [0,1,5,9]
 | 3=>kpn [0,1,5]
 | 4=>kpn [0,1,5,18]
 | 5=>[(4,none)]
 | 6=>[(4,none)]
 | _=>[]
def kp64 (r:Nat):List (Nat×Option Nat):=match r with
 | 0=>[]
 | 1=>[(0,none)]
 | _=>[]
def s34:List D->Option D:=sp1 Qbh (Qy QO) λd=>some (Qb6 d)
theorem ok34:∀ds d,s34 ds=some d->PureC Tryz.prog 34 ds d:=Qb2 λd r hr=>by
 cases hr;refine Qbz (Qy QO) (Qb6 d) (QE QB 15 kp34 []) Tryz.func34 rfl rfl (Zb rfl) (by kernel_rfl) ?_
 rw[Tryz.results34];simp[kp34,Qb6];rfl
theorem QEE (xs:Array Value) (w:World):(callFunc 34 xs).run Tryz.prog w= .ok (.enter 34 xs) w:=by kernel_rfl
def s35:List D->Option D:=sp2 Qbh Qbh (QeC QGL) λa b=>some ⟨a,b⟩
theorem ok35:∀ds d,s35 ds=some d->PureC Tryz.prog 35 ds d:=QaR λa b r hr=>by
 cases hr;refine Qm (QE QB 8 kp35 []) Tryz.func35 rfl rfl (Zb rfl) (by kernel_rfl) ?_
 rw[Tryz.results35];simp[kp35,Qii]
theorem QCJ (xs:Array Value) (w:World):(callFunc 35 xs).run Tryz.prog w= .ok (.enter 35 xs) w:=by kernel_rfl
def s64:List D->Option D:=sp0 QmM (some QoW)
theorem ok64:∀ds d,s64 ds=some d->PureC Tryz.prog 64 ds d:=QyH λr hr=>by
 cases hr;refine Qm (QE QB 1 kp64 []) Tryz.func64 rfl rfl (Zb rfl) (by kernel_rfl) ?_
 rw[Tryz.results64];simp[kp64,QoW]
theorem QF0 (xs:Array Value) (w:World):(callFunc 64 xs).run Tryz.prog w= .ok (.enter 64 xs) w:=by kernel_rfl
def QLq (b:List Bat):Bool:=(Q5 b).2.2==0
noncomputable def g36:List (Nat×(List D->Option D)):=[(18,s18)]
theorem dg36:Qay Tryz.prog (Qas g36):=Ql QB QyE QKw
noncomputable def s36:List D->Option D:=sp1 (Qy QO) QaI λb=>if bkB b=true then some (QLq b)else none
theorem ok36:∀ds d,s36 ds=some d->PureC Tryz.prog 36 ds d:=Qb2 λb r hr=>by
 split at hr
 .rename_i cO;cases hr;refine Qm (QE dg36 14 kp36 []) Tryz.func36 rfl rfl (Zb rfl) (by kernel_rfl) ?_
  rw[Tryz.results36];have h18:=QJ5 cO;unfold QLq;simp[kp36,g36,Qe,h18]
 .cases hr
theorem QNU (xs:Array Value) (w:World):(callFunc 36 xs).run Tryz.prog w= .ok (.enter 36 xs) w:=by kernel_rfl
def QMc (l of:List Int):Bool:=l.all λn=>QwI of n
def g43:List (Nat×(List D->Option D)):=[(39,s39)]
theorem dg43:Qay Tryz.prog (Qas g43):=Ql QB QNp ok39
def s43:List D->Option D:=sp2 (Qy Qt) (Qy Qt) QaI λl of=>if l.length < 1000000/\of.length<=17592186044416 then some (QMc l of)else none
theorem ok43:∀ds d,s43 ds=some d->PureC Tryz.prog 43 ds d:=QaR λl of r hr=>by
 split at hr
 .rename_i hc;obtain⟨nU,hom⟩:=hc;cases hr;refine Qm (QE dg43 19 QNE []) Tryz.func43 rfl rfl (Zb rfl) (by kernel_rfl) ?_
  rw[Tryz.results43];have hb:QMc l of=!(l.any λn=>!QwI of n):=by unfold QMc; exact List.all_eq_not_any_not
  rw[hb];rcases Qfq (λn=>!QwI of n) l with⟨e1,hall⟩ | ⟨k,hk,e1,aL,aM⟩
  .rw[e1];simp[QNE]
   (generalize aC:Cx.loop _ _ _=aE; apply Qi aC (λk=>⟨[(0,.d (.sl 1 (l.map Qt.enc))),(1,.d (.sl 1 (of.map Qt.enc))),(5,.d (DI k))],[],[],[]⟩) l.length rfl; rotate_left; (show _ < 281474976710656; omega); rfl; rotate_left; all_goals clear aC)
   .intro j hj;have w1:=Qa ((j:Int)+1) (by omega) (by omega)
    have aO:(j:Int) < l.length:=by omega
    have hn:QwI of l[j]=true:=by have:=hall j hj; simpa using this
    simp[QNE,g43,s39,hom,Qc,QQ,hj,aO,hn,w1]
   .simp[QNE]
  .rw[e1];simp[QNE]
   (generalize aC:Cx.loop _ _ _=aE; apply Qi aC (λk=>⟨[(0,.d (.sl 1 (l.map Qt.enc))),(1,.d (.sl 1 (of.map Qt.enc))),(5,.d (DI k))],[],[],[]⟩) k rfl; rotate_left; (show _ < 281474976710656; omega); rfl; rotate_left; all_goals clear aC)
   .intro j cM;have hj:j < l.length:=by omega
    have w1:=Qa ((j:Int)+1) (by omega) (by omega)
    have aO:(j:Int) < l.length:=by omega
    have hn:QwI of l[j]=true:=by have:=aM j hj cM; simpa using this
    simp[QNE,g43,s39,hom,Qc,QQ,hj,aO,hn,w1]
   .have bB:(k:Int) < l.length:=by omega
    have hn:QwI of l[k]=false:=by simpa using aL
    simp[QNE,g43,s39,hom,Qc,QQ,hk,bB,hn]
 .cases hr
theorem QNS (xs:Array Value) (w:World):(callFunc 43 xs).run Tryz.prog w= .ok (.enter 43 xs) w:=by kernel_rfl
def kp24 (r:Nat):List (Nat×Option Nat):=match r with
 | 0=>[]
 | 1=>kpn [1,2,3]
 | 2=>kpn [1,2,3,4,5,6]
 | 3=>kpn [1,2,3,4,5,6,7,8]
 | 4=>kpn [1,2,3,4,5,6,7,8,9,10]
 | 5=>kpn [1,2,3,4,5,6,7,8,9,10,11,12]
 | 6=>kpn [1,2,3,4,5,6,7,8,9,10,11,12,13,14]
 | 7=>kpn [1,2,3,4,5,6,7,8,9,10,11,12,13,14,17]
 | 8=>[(0,none)]
 | _=>[]
theorem QER:QcC (Qb6 50):=by
 refine⟨by decide+kernel,λx hx=>?_,by decide+kernel⟩
 simp only[Qb6,List.mem_cons,List.not_mem_nil,or_false]at hx;rcases hx with rfl | rfl | rfl | rfl | rfl<;>decide
theorem QHA:QcC (Qb6 140):=by
 refine⟨by decide+kernel,λx hx=>?_,by decide+kernel⟩
 simp only[Qb6,List.mem_cons,List.not_mem_nil,or_false]at hx;rcases hx with rfl | rfl | rfl | rfl | rfl<;>decide
theorem in4:bkB ((Qb6 50).take 4)=true/\Qdx ((Qb6 50).take 4):=⟨by decide+kernel,λx hx=>QER.2.1 x (List.mem_of_mem_take hx)⟩
noncomputable def QGa:List (Nat×(List D->Option D)):=(34,s34)::(35,s35)::(64,s64)::(19,s19)::(22,s22)::(25,s25)::(27,s27)::(29,s29)::(31,s31)::(21,s21)::(33,s33)::[]
theorem QRJ:Qay Tryz.prog (Qas QGa):=Ql (Ql (Ql (Ql (Ql (Ql (Ql (Ql (Ql (Ql (Ql QB QD6 ok33) QDv ok21) QDN ok31) QCV ok29) QDK ok27) QDp ok25) QCN ok22) QEX ok19) QF0 ok64) QCJ ok35) QEE ok34
theorem QCI (a:Int):(Qy Qt).dec (.sl 1 [[.v (.int .i64 a)]])=some [a]:=rfl
theorem QDn (a b:Int):(Qy Qt).dec (.sl 1 [[.v (.int .i64 a)],[.v (.int .i64 b)]])=some [a,b]:=rfl
theorem QDE (a b c:Int):(Qy Qt).dec (.sl 1 [[.v (.int .i64 a)],[.v (.int .i64 b)],[.v (.int .i64 c)]])=some [a,b,c]:=rfl
theorem QCT (a b c d:Int):(Qy Qt).dec (.sl 1 [[.v (.int .i64 a)],[.v (.int .i64 b)],[.v (.int .i64 c)],[.v (.int .i64 d)]])=some [a,b,c,d]:=rfl
def s24:List D->Option D:=sp0 QaI (some true)
theorem QyR {b:List Bat} (h:QcC b) (i:Int):s19 [.sl 5 (b.map QO.enc),DI i]=some (.tup [.sl 1 ((QeU b i).1.map Qt.enc),.sl 1 ((QeU b i).2.1.map Qt.enc),DI (QeU b i).2.2]):=by
 simp only[s19,sp2,QR,Qam];rw[if_pos h]; rfl
theorem QDx {b:List Bat} (h:QcC b) (i:Int):s22 [.sl 5 (b.map QO.enc),DI i]=some (.tup [.sl 1 ((QgQ b i).1.map Qt.enc),.sl 1 ((QgQ b i).2.1.map Qt.enc),DI (QgQ b i).2.2]):=by
 simp only[s22,sp2,QR,Qam];rw[if_pos h]; rfl
theorem QCO {b:List Bat} (h:QcC b) (i:Int):s25 [.sl 5 (b.map QO.enc),DI i]=some (.tup [.agg (QGL.enc (Qo4 b i).1),DI (Qo4 b i).2]):=by
 simp only[s25,sp2,QR,Qam];rw[if_pos h]; rfl
theorem QyK {b:List Bat} (h:QcC b) {c g:List Int} (hc:c.length<=17592186044416) (hg:g.length<=17592186044416):s27 [.sl 5 (b.map QO.enc),.sl 1 (c.map Qt.enc),.sl 1 (g.map Qt.enc)]=some (.tup [.sl 1 ((QjZ b c g).1.map Qt.enc),DI (QjZ b c g).2]):=by
 simp only[s27,sp3,QR,QQ];rw[if_pos ⟨h,hc,hg⟩]; rfl
theorem QFS {b:List Bat} (h:bkB b=true/\Qdx b):s29 [.sl 5 (b.map QO.enc)]=some (.tup [DS (QhL b).1,DI (QhL b).2]):=by
 simp only[s29,sp1,QR];rw[if_pos h]; rfl
theorem QEy (t:ByteArray):s31 [DS t]=some (.tup [.sl 5 ((Qir t).1.map QO.enc),DI (Qir t).2]):=rfl
set_option maxRecDepth 100000 in
set_option maxHeartbeats 8000000 in
theorem ok24:∀ds d,s24 ds=some d->PureC Tryz.prog 24 ds d:=QyH λr hr=>by
 cases hr;refine Qm (QE QRJ 126 kp24 []) Tryz.func24 rfl rfl (Zb rfl) (by kernel_rfl) ?_
 rw[Tryz.results24];have e1:=QyR QER 0;have e2:=QDx QER 4;have e3:=QCO QHA 1;have e4:=QyK QER (c:=[3]) (g:=[4]) (by decide) (by decide)
 have e5:=QFS in4;have e6:=QEy QoW;have e7:=QyR QER 5;rw[a1]at e1;rw[a2]at e2;rw[a3]at e3;rw[a4]at e4;rw[a5]at e5;rw[a6]at e6;rw[a7]at e7;have t4:(List.map QO.enc (Qb6 50)).take 4=List.map QO.enc ((Qb6 50).take 4):=rfl;have l5:(Qb6 50).length=5:=rfl;have cO:Qup ((Qb6 50).take 4) ((Qb6 50).take 4)=true:=by decide+kernel
 have pS:QGY ((Qb6 50).take 4):=by decide+kernel
 have q1:eqI QsM 0 [2,4] [2,4]=true:=by decide
 have q2:eqI QsM 0 [2,3,4] [2,3,4]=true:=by decide
 have q3:eqI QsM 0 [0,2,3] [0,2,3]=true:=by decide
 have q4:eqI QsM 0 [0,1,2,3] [0,1,2,3]=true:=by decide
 have q5:eqI QsM 0 [1] [1]=true:=by decide
 generalize(Qb6 50).take 4=b4 at*;simp only[List.map_cons,List.map_nil,Qc]at e1 e2 e3 e4 e5 e6 e7;simp[kp24,QGa,s34,s35,s64,s21,s33,Qe,Qii,e1,e2,e3,e4,e5,e6,e7,t4,l5,QR,cO,pS,q1,q2,q3,q4,q5,QCI,QDn,QDE,QCT];done
theorem QEl (xs:Array Value) (w:World):(callFunc 24 xs).run Tryz.prog w= .ok (.enter 24 xs) w:=by kernel_rfl
end Go.Proofs.YtnfeakhkfehkhaaGreatDoor
namespace Go.Proofs.YtnfeakhkfehkhaaGreatDoor
open Go.RowKit
end Go.Proofs.YtnfeakhkfehkhaaGreatDoor
