/-
  Melted: a mixture of a table, and what is read of it. Conditions: none.
-/
import Derived.Test.YticoemblgkemiaaGreatDoorZWxLawT
set_option linter.unusedSimpArgs false
set_option linter.unusedVariables false
namespace Go.Proofs.YticoemblgkemiaaGreatDoor
open Go.RowKit
def QQl (r:Nat):List (Nat×Option Nat):=match r with
 | 0=>kpn [2,3]
 | 1=>kpn [2,3,8,9,10]
 | 2=>kpn [2,3,8,9,10,39]
 | 3=>kpn [2,3,8,9,10]
 | 4=>[(2,none),(3,none),(8,none),(9,none),(10,none),(11,some 1)]
 | 5=>[(2,none),(3,none),(8,none),(9,none),(10,none),(11,some 1),(12,none)]
 | 6=>[(2,none),(3,none),(8,none),(9,none),(10,none),(11,some 1),(12,none),(44,none)]
 | 7=>[(2,none),(3,none),(8,none),(9,none),(10,none),(11,some 1),(12,none)]
 | 8=>[(2,none),(3,none),(8,none),(9,none),(10,none),(11,some 1),(12,none),(13,none)]
 | 9=>[(2,none),(3,none),(8,none),(9,none),(10,none),(11,some 1),(12,none),(13,none),(14,none)]
 | 10=>[(2,none),(3,none),(8,none),(9,none),(10,none),(11,some 1),(12,none),(13,none),(14,none),(15,none)]
 | 11=>[(2,none),(3,none),(8,none),(9,none),(10,none),(11,some 1),(12,none),(13,none),(14,none),(15,none),(98,none)]
 | 12=>[(2,none),(3,none),(8,none),(9,none),(10,none),(11,some 1),(12,none),(15,none)]
 | 13=>[(2,none),(3,none),(8,none),(9,none),(10,none),(11,some 1),(12,none),(13,none),(14,none),(15,none),(100,none)]
 | 14=>[(2,none),(3,none),(8,none),(9,none),(10,none),(11,some 1),(12,none),(13,none),(14,none),(16,none)]
 | 15=>[(2,none),(3,none),(8,none),(9,none),(10,none),(11,some 1),(12,none),(13,none),(14,none),(16,none),(110,none)]
 | 16=>[(2,none),(3,none),(8,none),(9,none),(10,none),(11,some 1),(12,none),(13,none),(14,none),(16,none)]
 | 17=>[(2,none),(3,none),(8,none),(9,none),(10,none),(11,some 1),(12,none),(16,none),(17,none)]
 | 18=>[(2,none),(3,none),(8,none),(9,none),(10,none),(11,some 1),(12,none),(15,none)]
 | 19=>[(2,none),(3,none),(8,none),(9,none),(10,none),(11,some 1),(12,none),(15,none),(130,none)]
 | 20=>[(2,none),(3,none),(8,none),(9,none),(10,none),(11,some 1),(12,none),(15,none)]
 | 21=>[(2,none),(3,none),(8,none),(9,none),(10,none),(11,some 1),(12,none)]
 | 22=>[(4,none),(5,none),(6,none),(7,some 1)]
 | _=>[]
def QY6 {α β γ δ:Type} (A:Cod α) (B:Cod β) (C:Cod γ) (E:Cod δ):Cod (α×β×γ×δ):=⟨fun x=> .tup [A.enc x.1,B.enc x.2.1,C.enc x.2.2.1,E.enc x.2.2.2],fun d=>match d with | .tup [a,b,c,e]=>(match A.dec a,B.dec b,C.dec c,E.dec e with | some x,some y,some z,some u=>some (x,y,z,u) | _,_,_,_=>none) | _=>none,fun d x h=>by
 split at h
 ·split at h
  ·rename_i p q r u h1 h2 h3 h4; cases h; exact LImp.tup ⟨_,_,rfl,A.ed _ _ h1,_,_,rfl,B.ed _ _ h2,_,_,rfl,C.ed _ _ h3,_,_,rfl,E.ed _ _ h4,rfl⟩
  ·cases h
 ·cases h⟩
theorem QWx {α β γ δ:Type} (A:Cod α) (B:Cod β) (C:Cod γ) (E:Cod δ) (x:α×β×γ×δ):(QY6 A B C E).enc x= .tup [A.enc x.1,B.enc x.2.1,C.enc x.2.2.1,E.enc x.2.2.2]:=rfl
theorem QWz {α β γ δ:Type} (A:Cod α) (B:Cod β) (C:Cod γ) (E:Cod δ) (a b c e:D):(QY6 A B C E).dec (.tup [a,b,c,e])=(match A.dec a,B.dec b,C.dec c,E.dec e with | some x,some y,some z,some u=>some (x,y,z,u) | _,_,_,_=>none):=rfl
attribute [simp] QWx QWz
def g40:List (Nat×(List D→Option D)):=(83,QQS)::(82,s45)::[]
theorem dg40:QaE Tryz.prog (Qaw g40):=Qh (Qh Qs Q08 ok45) QXN Q1F
def QYY:List D→Option D:=sp2 (Qcf QRf) (Qcf QTF) (QY6 QaY QaY QaY (QJ QH)) fun x m=>if okT x∧QRx m then some ((QQ6 x m:Int),(QQ7 x m:Int),QQB x m,QRN x m x.props.length)else none
set_option maxHeartbeats 8000000 in
theorem Q1X:∀ds d,QYY ds=some d→PureC Tryz.prog 20 ds d:=Qay fun x m r hr=>by
 split at hr
 ·rename_i hc;cases hr;obtain⟨hT,hm⟩:=hc;have f:=QQv hT;have ha:=QVR f m;have hb:=QWp f m;obtain⟨n1,n2⟩:=QVb x hm;have hk1:=f.k1;have hk8:=f.k8;have hp5:=f.p5;obtain⟨⟨a0,a1⟩,⟨b0,b1⟩,⟨q0,q1⟩,hnu,her,r0,r1⟩:=id hm;have hKI:¬(x.kinds.length:Int)=0:=by omega
  have hK0:¬x.kinds=[]:=fun h=>by rw[h]at hk1; simp at hk1
  have w1:=Qa m.a (by omega) (by omega)
  have w2:=Qa m.b (by omega) (by omega)
  have w3:=Qa m.parts (by omega) (by omega)
  have eA:m.a.tmod x.kinds.length=(QQ6 x m:Int):=QW0 a0;have eB:m.b.tmod x.kinds.length=(QQ7 x m:Int):=QW0 b0;have eQ:m.parts.tmod 1000=m.parts % 1000:=Int.tmod_eq_emod_of_nonneg q0;have w4:=Qa (QQ6 x m:Int) (by omega) (by omega)
  have w5:=Qa (QQ7 x m:Int) (by omega) (by omega)
  have w6:=Qa (m.parts % 1000) (by omega) (by omega)
  have w7:=Qa (1+m.parts % 1000) (by omega) (by omega)
  refine QdB (QY6 QaY QaY QaY (QJ QH)) ((QQ6 x m:Int),(QQ7 x m:Int),QQB x m,QRN x m x.props.length) (QP1 dg40 139 QQl []) Tryz.func20 rfl rfl (Nat.le_of_ble_eq_true rfl) (by kernel_rfl) ?_
  rw[Tryz.results20];have key:∀(σ:St),True:=fun _=>trivial;by_cases e:QQ6 x m=QQ7 x m
  ·have eN:QQB x m=1000:=by unfold QQB; rw[if_pos e]
   have e':((QQ6 x m:Int)==(QQ7 x m:Int))=true:=by rw[e]; exact beq_self_eq_true _
   simp[QQl,QPZ,QQb,QP5,hKI,hK0,w1,w2,w3,w4,w5,w6,w7,eA,eB,eQ,e']
   (generalize hLoopQ:Cx.loop _ _ _=rLoopQ; apply Qi hLoopQ (fun k=>⟨[(2,.loc 2 0),(3,.loc 3 0),(8,.d (DI (QQ6 x m:Int))),(9,.d (DI (QQ7 x m:Int))),(10,.d (DI (QQB x m))),(11,.sl 1 ((QRN x m k).map QH.enc) (.tok 11)),(12,.d (DI k))],[(2,[.d (.sl 2 (x.props.map QQt.enc)),.d (.sl 2 (x.kinds.map QQw.enc)),.d (DI x.purity)]),(3,[.d (.v (.int .u8 m.a)),.d (.v (.int .u8 m.b)),.d (.v (.int .u16 m.parts)),.d (.sl 1 (m.numbers.map (rK .u16).enc)),.d (.sl 1 (m.errors.map (rK .u16).enc)),.d (.v (.int .u8 m.read))])],[11],[]⟩) x.props.length (by first | (simp; done) | (simp; rfl) | (simp; simp[*])); rotate_left; (show _ < 281474976710656; omega); rfl; rotate_left; all_goals clear hLoopQ)
   ·intro j hj;have y1:=Qa ((j:Int)+1) (by omega) (by omega)
    have hjl:(j:Int) < x.props.length:=by omega
    have hAI:(QQ6 x m:Int) < x.kinds.length:=by omega
    have hBI:(QQ7 x m:Int) < x.kinds.length:=by omega
    obtain⟨hpa,ea,p1Wx,QR9,QUb⟩:=f.rng ha hj;obtain⟨hpb,eb,o1,o2,o3⟩:=f.rng hb hj;have hpaI:(j:Int) < x.kinds[QQ6 x m].props.length:=by omega
    have hpbI:(j:Int) < x.kinds[QQ7 x m].props.length:=by omega
    have t1:=QRX hnu (2*(j:Int));have t2:=QRX hnu (2*(j:Int)+1);have t3:=QRX her (j:Int);have y2:=Qa (2*(j:Int)) (by omega) (by omega)
    have y3:=Qa (2*(j:Int)+1) (by omega) (by omega)
    obtain⟨⟨v1,v2⟩,v3,v4⟩:=QZJ f hm hj;have hq1:=QQ8 (n:=QQk m.numbers (2*(j:Int))) QR9;have hq2:=QQ8 (n:=QQk m.numbers (2*(j:Int)+1)) o2;have eV:QWk x m j=(QQB x m)*QQo (QQe x (QQ6 x m) j) (QQk m.numbers (2*(j:Int)))+(1000 - (QQB x m))*QQo (QQe x (QQ7 x m) j) (QQk m.numbers (2*(j:Int)+1)):=by
     rfl
    have eE:=QS5 hj;have hev:=f.errv hj;have eR:QXx x m j=if QTK m.read j=1 then -1 else QS8 (QWk x m j) (QQ5 x j) (QQk m.errors j):=rfl;have m1:=QJB (show 0≤(QQB x m) by omega) (show(QQB x m)≤1000 by omega) (show 0≤QQo (QQe x (QQ6 x m) j) (QQk m.numbers (2*(j:Int))) by omega) (show QQo (QQe x (QQ6 x m) j) (QQk m.numbers (2*(j:Int)))≤100000 by omega)
    have m2:=QJB (show 0≤1000 - (QQB x m) by omega) (show 1000 - (QQB x m)≤1000 by omega) (show 0≤QQo (QQe x (QQ7 x m) j) (QQk m.numbers (2*(j:Int)+1)) by omega) (show QQo (QQe x (QQ7 x m) j) (QQk m.numbers (2*(j:Int)+1))≤100000 by omega)
    have cA:(0≤(QQe x (QQ6 x m) j).lo∧(QQe x (QQ6 x m) j).lo≤(QQe x (QQ6 x m) j).hi∧(QQe x (QQ6 x m) j).hi≤1000000)∧0≤QQk m.numbers (2*(j:Int))∧QQk m.numbers (2*(j:Int))≤1000000:=⟨⟨p1Wx,QR9,by omega⟩,by omega,by omega⟩
    have cB:(0≤(QQe x (QQ7 x m) j).lo∧(QQe x (QQ7 x m) j).lo≤(QQe x (QQ7 x m) j).hi∧(QQe x (QQ7 x m) j).hi≤1000000)∧0≤QQk m.numbers (2*(j:Int)+1)∧QQk m.numbers (2*(j:Int)+1)≤1000000:=⟨⟨o1,o2,by omega⟩,by omega,by omega⟩
    have cN1:QQZ m.numbers∧0≤2*(j:Int)∧2*(j:Int)≤1000000:=⟨hnu,by omega,by omega⟩
    have cN2:QQZ m.numbers∧0≤2*(j:Int)+1∧2*(j:Int)+1≤1000000:=⟨hnu,by omega,by omega⟩
    have cN3:QQZ m.errors∧0≤(j:Int)∧(j:Int)≤1000000:=⟨her,by omega,by omega⟩
    have hlen:=QTY x m j;have hL:(QRN x m j).length+1≤140737488355328:=by omega
    have hL2:((QRN x m j).length+1)*8≤140737488355328:=by omega
    rw[QUk];generalize QRN x m j=L at*;have gA:∀s:Spn,QP7.enc s=[DI s.lo,DI s.hi]:=fun _=>rfl;generalize hQ1:QQo (QQe x (QQ6 x m) j) (QQk m.numbers (2*(j:Int)))=Q1 at*;generalize hQ2:QQo (QQe x (QQ7 x m) j) (QQk m.numbers (2*(j:Int)+1))=Q2 at*;have z1:=Qa ((QQB x m)*Q1) (by omega) (by omega)
    have z2:=Qa (1000 - (QQB x m)) (by omega) (by omega)
    have z3:=Qa ((1000 - (QQB x m))*Q2) (by omega) (by omega)
    have z4:=Qa ((QQB x m)*Q1+(1000 - (QQB x m))*Q2) (by omega) (by omega)
    rw[←eV]at z4;generalize hNN:QQB x m=n at*;have eB1:(m.read / 2 ^ min j IntKind.u8.bits).tmod 2=QTK m.read j:=by
     have e8:min j IntKind.u8.bits=j:=Nat.min_eq_left (show j≤8 by omega)
     have:0≤m.read / 2 ^ j:=Int.ediv_nonneg r0 (Int.pow_nonneg (by omega))
     unfold QTK;rw[e8,Int.tmod_eq_emod_of_nonneg this]
    rw[eR];generalize hv:QWk x m j=v at*;generalize he:QQ5 x j=er at*;generalize hT3:QQk m.errors j=T at*;generalize hbt:QTK m.read j=bt at*;have k1:v.tdiv 1000=v / 1000:=Int.tdiv_eq_ediv_of_nonneg v3;have k2:v.tmod 1000=v % 1000:=Int.tmod_eq_emod_of_nonneg v3;have k3:=Qa (v / 1000) (by omega) (by omega)
    have k4:=Qa (v % 1000) (by omega) (by omega)
    by_cases ce:er=0
    ·subst ce;by_cases cv:0 < v % 1000
     ·have eG:QS8 v 0 T= -1:=by unfold QS8; rw[if_pos rfl,if_pos cv]
      by_cases cb:bt=1
      ·subst cb;simp[QQl,g40,QQS,s45,QPZ,QQb,QP5,QP3,QP6,QP0,QP4,QQg,QQc,QP2,QQf,Qd,hj,hjl,ha,hb,hAI,hBI,hpa,hpb,hpaI,hpbI,ea,eb,eE,y1,y2,y3,cA,cB,cN1,cN2,cN3,hQ1,hQ2,z1,z2,z3,z4,←eV,hL,hL2,k1,k2,k3,k4,eB1,cv,eG]
      ·have cb':(bt==1)=false:=by simpa using cb
       simp[QQl,g40,QQS,s45,QPZ,QQb,QP5,QP3,QP6,QP0,QP4,QQg,QQc,QP2,QQf,Qd,hj,hjl,ha,hb,hAI,hBI,hpa,hpb,hpaI,hpbI,ea,eb,eE,y1,y2,y3,cA,cB,cN1,cN2,cN3,hQ1,hQ2,z1,z2,z3,z4,←eV,hL,hL2,k1,k2,k3,k4,eB1,cv,eG,cb,cb']
     ·have eG:QS8 v 0 T=v / 1000:=by unfold QS8; rw[if_pos rfl,if_neg cv]
      by_cases cb:bt=1
      ·subst cb;simp[QQl,g40,QQS,s45,QPZ,QQb,QP5,QP3,QP6,QP0,QP4,QQg,QQc,QP2,QQf,Qd,hj,hjl,ha,hb,hAI,hBI,hpa,hpb,hpaI,hpbI,ea,eb,eE,y1,y2,y3,cA,cB,cN1,cN2,cN3,hQ1,hQ2,z1,z2,z3,z4,←eV,hL,hL2,k1,k2,k3,k4,eB1,cv,eG]
      ·have cb':(bt==1)=false:=by simpa using cb
       simp[QQl,g40,QQS,s45,QPZ,QQb,QP5,QP3,QP6,QP0,QP4,QQg,QQc,QP2,QQf,Qd,hj,hjl,ha,hb,hAI,hBI,hpa,hpb,hpaI,hpbI,ea,eb,eE,y1,y2,y3,cA,cB,cN1,cN2,cN3,hQ1,hQ2,z1,z2,z3,z4,←eV,hL,hL2,k1,k2,k3,k4,eB1,cv,eG,cb,cb']
    ·have ce':(er==0)=false:=by simpa using ce
     have ce2:0 < er:=by omega
     obtain⟨QQ1,QWC,QWZ,QTL,l5⟩:=QTS v3 v4 (show 1≤er by omega) hev.2
     have eG:QS8 v er T=QQo ⟨QTr v er,QRO v er⟩ T:=by unfold QS8; rw[if_neg ce]
     have u1:=Qa (1000*er) (by omega) (by omega)
     have u2:=Qa (v - 1000*er) (by omega) (by omega)
     have u3:=Qa (v - 1000*er+999) (by omega) (by omega)
     have u4:=Qa (v+1000*er) (by omega) (by omega)
     have u5:(v+1000*er).tdiv 1000=(v+1000*er) / 1000:=Int.tdiv_eq_ediv_of_nonneg (by omega)
     have u6:=Qa ((v+1000*er) / 1000) (by omega) (by omega)
     have eH:(if(v+1000*er) / 1000 < 100000 then(v+1000*er) / 1000 else 100000)=QRO v er:=by unfold QRO; split<;>omega
     have cS:(0≤QTr v er∧QTr v er≤QRO v er∧QRO v er≤1000000)∧0≤T∧T≤1000000:=⟨⟨QQ1,QWC,by omega⟩,by omega,by omega⟩
     by_cases cl:v < 1000*er
     ·have eL:QTr v er=0:=if_pos cl;rw[eL]at cS eG;by_cases cb:bt=1
      ·subst cb;by_cases cv:0 < v % 1000
       ·simp[QQl,g40,QQS,s45,QPZ,QQb,QP5,QP3,QP6,QP0,QP4,QQg,QQc,QP2,QQf,Qd,hj,hjl,ha,hb,hAI,hBI,hpa,hpb,hpaI,hpbI,ea,eb,eE,y1,y2,y3,cA,cB,cN1,cN2,cN3,hQ1,hQ2,z1,z2,z3,z4,←eV,hL,hL2,k1,k2,k3,k4,eB1,ce,ce',ce2,u1,u2,u3,u4,u5,u6,eH,cS,cv,eG,cl,hT3]
       ·simp[QQl,g40,QQS,s45,QPZ,QQb,QP5,QP3,QP6,QP0,QP4,QQg,QQc,QP2,QQf,Qd,hj,hjl,ha,hb,hAI,hBI,hpa,hpb,hpaI,hpbI,ea,eb,eE,y1,y2,y3,cA,cB,cN1,cN2,cN3,hQ1,hQ2,z1,z2,z3,z4,←eV,hL,hL2,k1,k2,k3,k4,eB1,ce,ce',ce2,u1,u2,u3,u4,u5,u6,eH,cS,cv,eG,cl,hT3]
      ·have cb':(bt==1)=false:=by simpa using cb
       by_cases cv:0 < v % 1000
       ·simp[QQl,g40,QQS,s45,QPZ,QQb,QP5,QP3,QP6,QP0,QP4,QQg,QQc,QP2,QQf,Qd,hj,hjl,ha,hb,hAI,hBI,hpa,hpb,hpaI,hpbI,ea,eb,eE,y1,y2,y3,cA,cB,cN1,cN2,cN3,hQ1,hQ2,z1,z2,z3,z4,←eV,hL,hL2,k1,k2,k3,k4,eB1,ce,ce',ce2,u1,u2,u3,u4,u5,u6,eH,cS,cv,eG,cl,hT3,cb,cb']
       ·simp[QQl,g40,QQS,s45,QPZ,QQb,QP5,QP3,QP6,QP0,QP4,QQg,QQc,QP2,QQf,Qd,hj,hjl,ha,hb,hAI,hBI,hpa,hpb,hpaI,hpbI,ea,eb,eE,y1,y2,y3,cA,cB,cN1,cN2,cN3,hQ1,hQ2,z1,z2,z3,z4,←eV,hL,hL2,k1,k2,k3,k4,eB1,ce,ce',ce2,u1,u2,u3,u4,u5,u6,eH,cS,cv,eG,cl,hT3,cb,cb']
     ·have eL:(v - 1000*er+999) / 1000=QTr v er:=(if_neg cl).symm;have u7:(v - 1000*er+999).tdiv 1000=QTr v er:=by rw[Int.tdiv_eq_ediv_of_nonneg (by omega),eL]
      have u8:=Qa (QTr v er) (by omega) (by omega)
      by_cases cb:bt=1
      ·subst cb;by_cases cv:0 < v % 1000
       ·simp[QQl,g40,QQS,s45,QPZ,QQb,QP5,QP3,QP6,QP0,QP4,QQg,QQc,QP2,QQf,Qd,hj,hjl,ha,hb,hAI,hBI,hpa,hpb,hpaI,hpbI,ea,eb,eE,y1,y2,y3,cA,cB,cN1,cN2,cN3,hQ1,hQ2,z1,z2,z3,z4,←eV,hL,hL2,k1,k2,k3,k4,eB1,ce,ce',ce2,u1,u2,u3,u4,u5,u6,u7,u8,eH,cS,cv,eG,cl,hT3]
       ·simp[QQl,g40,QQS,s45,QPZ,QQb,QP5,QP3,QP6,QP0,QP4,QQg,QQc,QP2,QQf,Qd,hj,hjl,ha,hb,hAI,hBI,hpa,hpb,hpaI,hpbI,ea,eb,eE,y1,y2,y3,cA,cB,cN1,cN2,cN3,hQ1,hQ2,z1,z2,z3,z4,←eV,hL,hL2,k1,k2,k3,k4,eB1,ce,ce',ce2,u1,u2,u3,u4,u5,u6,u7,u8,eH,cS,cv,eG,cl,hT3]
      ·have cb':(bt==1)=false:=by simpa using cb
       by_cases cv:0 < v % 1000
       ·simp[QQl,g40,QQS,s45,QPZ,QQb,QP5,QP3,QP6,QP0,QP4,QQg,QQc,QP2,QQf,Qd,hj,hjl,ha,hb,hAI,hBI,hpa,hpb,hpaI,hpbI,ea,eb,eE,y1,y2,y3,cA,cB,cN1,cN2,cN3,hQ1,hQ2,z1,z2,z3,z4,←eV,hL,hL2,k1,k2,k3,k4,eB1,ce,ce',ce2,u1,u2,u3,u4,u5,u6,u7,u8,eH,cS,cv,eG,cl,hT3,cb,cb']
       ·simp[QQl,g40,QQS,s45,QPZ,QQb,QP5,QP3,QP6,QP0,QP4,QQg,QQc,QP2,QQf,Qd,hj,hjl,ha,hb,hAI,hBI,hpa,hpb,hpaI,hpbI,ea,eb,eE,y1,y2,y3,cA,cB,cN1,cN2,cN3,hQ1,hQ2,z1,z2,z3,z4,←eV,hL,hL2,k1,k2,k3,k4,eB1,ce,ce',ce2,u1,u2,u3,u4,u5,u6,u7,u8,eH,cS,cv,eG,cl,hT3,cb,cb']
   ·simp[QQl,eN]
  ·have eN:QQB x m=1+m.parts % 1000:=by unfold QQB; rw[if_neg e]
   have e':((QQ6 x m:Int)==(QQ7 x m:Int))=false:=by rw[beq_eq_false_iff_ne]; omega
   simp[QQl,QPZ,QQb,QP5,hKI,hK0,w1,w2,w3,w4,w5,w6,w7,eA,eB,eQ,e']
   (generalize hLoopQ:Cx.loop _ _ _=rLoopQ; apply Qi hLoopQ (fun k=>⟨[(2,.loc 2 0),(3,.loc 3 0),(8,.d (DI (QQ6 x m:Int))),(9,.d (DI (QQ7 x m:Int))),(10,.d (DI (QQB x m))),(11,.sl 1 ((QRN x m k).map QH.enc) (.tok 11)),(12,.d (DI k))],[(2,[.d (.sl 2 (x.props.map QQt.enc)),.d (.sl 2 (x.kinds.map QQw.enc)),.d (DI x.purity)]),(3,[.d (.v (.int .u8 m.a)),.d (.v (.int .u8 m.b)),.d (.v (.int .u16 m.parts)),.d (.sl 1 (m.numbers.map (rK .u16).enc)),.d (.sl 1 (m.errors.map (rK .u16).enc)),.d (.v (.int .u8 m.read))])],[11],[]⟩) x.props.length (by first | (simp; done) | (simp; rfl) | (simp; simp[*])); rotate_left; (show _ < 281474976710656; omega); rfl; rotate_left; all_goals clear hLoopQ)
   ·intro j hj;have y1:=Qa ((j:Int)+1) (by omega) (by omega)
    have hjl:(j:Int) < x.props.length:=by omega
    have hAI:(QQ6 x m:Int) < x.kinds.length:=by omega
    have hBI:(QQ7 x m:Int) < x.kinds.length:=by omega
    obtain⟨hpa,ea,p1Wx,QR9,QUb⟩:=f.rng ha hj;obtain⟨hpb,eb,o1,o2,o3⟩:=f.rng hb hj;have hpaI:(j:Int) < x.kinds[QQ6 x m].props.length:=by omega
    have hpbI:(j:Int) < x.kinds[QQ7 x m].props.length:=by omega
    have t1:=QRX hnu (2*(j:Int));have t2:=QRX hnu (2*(j:Int)+1);have t3:=QRX her (j:Int);have y2:=Qa (2*(j:Int)) (by omega) (by omega)
    have y3:=Qa (2*(j:Int)+1) (by omega) (by omega)
    obtain⟨⟨v1,v2⟩,v3,v4⟩:=QZJ f hm hj;have hq1:=QQ8 (n:=QQk m.numbers (2*(j:Int))) QR9;have hq2:=QQ8 (n:=QQk m.numbers (2*(j:Int)+1)) o2;have eV:QWk x m j=(QQB x m)*QQo (QQe x (QQ6 x m) j) (QQk m.numbers (2*(j:Int)))+(1000 - (QQB x m))*QQo (QQe x (QQ7 x m) j) (QQk m.numbers (2*(j:Int)+1)):=by
     rfl
    have eE:=QS5 hj;have hev:=f.errv hj;have eR:QXx x m j=if QTK m.read j=1 then -1 else QS8 (QWk x m j) (QQ5 x j) (QQk m.errors j):=rfl;have m1:=QJB (show 0≤(QQB x m) by omega) (show(QQB x m)≤1000 by omega) (show 0≤QQo (QQe x (QQ6 x m) j) (QQk m.numbers (2*(j:Int))) by omega) (show QQo (QQe x (QQ6 x m) j) (QQk m.numbers (2*(j:Int)))≤100000 by omega)
    have m2:=QJB (show 0≤1000 - (QQB x m) by omega) (show 1000 - (QQB x m)≤1000 by omega) (show 0≤QQo (QQe x (QQ7 x m) j) (QQk m.numbers (2*(j:Int)+1)) by omega) (show QQo (QQe x (QQ7 x m) j) (QQk m.numbers (2*(j:Int)+1))≤100000 by omega)
    have cA:(0≤(QQe x (QQ6 x m) j).lo∧(QQe x (QQ6 x m) j).lo≤(QQe x (QQ6 x m) j).hi∧(QQe x (QQ6 x m) j).hi≤1000000)∧0≤QQk m.numbers (2*(j:Int))∧QQk m.numbers (2*(j:Int))≤1000000:=⟨⟨p1Wx,QR9,by omega⟩,by omega,by omega⟩
    have cB:(0≤(QQe x (QQ7 x m) j).lo∧(QQe x (QQ7 x m) j).lo≤(QQe x (QQ7 x m) j).hi∧(QQe x (QQ7 x m) j).hi≤1000000)∧0≤QQk m.numbers (2*(j:Int)+1)∧QQk m.numbers (2*(j:Int)+1)≤1000000:=⟨⟨o1,o2,by omega⟩,by omega,by omega⟩
    have cN1:QQZ m.numbers∧0≤2*(j:Int)∧2*(j:Int)≤1000000:=⟨hnu,by omega,by omega⟩
    have cN2:QQZ m.numbers∧0≤2*(j:Int)+1∧2*(j:Int)+1≤1000000:=⟨hnu,by omega,by omega⟩
    have cN3:QQZ m.errors∧0≤(j:Int)∧(j:Int)≤1000000:=⟨her,by omega,by omega⟩
    have hlen:=QTY x m j;have hL:(QRN x m j).length+1≤140737488355328:=by omega
    have hL2:((QRN x m j).length+1)*8≤140737488355328:=by omega
    rw[QUk];generalize QRN x m j=L at*;have gA:∀s:Spn,QP7.enc s=[DI s.lo,DI s.hi]:=fun _=>rfl;generalize hQ1:QQo (QQe x (QQ6 x m) j) (QQk m.numbers (2*(j:Int)))=Q1 at*;generalize hQ2:QQo (QQe x (QQ7 x m) j) (QQk m.numbers (2*(j:Int)+1))=Q2 at*;have z1:=Qa ((QQB x m)*Q1) (by omega) (by omega)
    have z2:=Qa (1000 - (QQB x m)) (by omega) (by omega)
    have z3:=Qa ((1000 - (QQB x m))*Q2) (by omega) (by omega)
    have z4:=Qa ((QQB x m)*Q1+(1000 - (QQB x m))*Q2) (by omega) (by omega)
    rw[←eV]at z4;generalize hNN:QQB x m=n at*;have eB1:(m.read / 2 ^ min j IntKind.u8.bits).tmod 2=QTK m.read j:=by
     have e8:min j IntKind.u8.bits=j:=Nat.min_eq_left (show j≤8 by omega)
     have:0≤m.read / 2 ^ j:=Int.ediv_nonneg r0 (Int.pow_nonneg (by omega))
     unfold QTK;rw[e8,Int.tmod_eq_emod_of_nonneg this]
    rw[eR];generalize hv:QWk x m j=v at*;generalize he:QQ5 x j=er at*;generalize hT3:QQk m.errors j=T at*;generalize hbt:QTK m.read j=bt at*;have k1:v.tdiv 1000=v / 1000:=Int.tdiv_eq_ediv_of_nonneg v3;have k2:v.tmod 1000=v % 1000:=Int.tmod_eq_emod_of_nonneg v3;have k3:=Qa (v / 1000) (by omega) (by omega)
    have k4:=Qa (v % 1000) (by omega) (by omega)
    by_cases ce:er=0
    ·subst ce;by_cases cv:0 < v % 1000
     ·have eG:QS8 v 0 T= -1:=by unfold QS8; rw[if_pos rfl,if_pos cv]
      by_cases cb:bt=1
      ·subst cb;simp[QQl,g40,QQS,s45,QPZ,QQb,QP5,QP3,QP6,QP0,QP4,QQg,QQc,QP2,QQf,Qd,hj,hjl,ha,hb,hAI,hBI,hpa,hpb,hpaI,hpbI,ea,eb,eE,y1,y2,y3,cA,cB,cN1,cN2,cN3,hQ1,hQ2,z1,z2,z3,z4,←eV,hL,hL2,k1,k2,k3,k4,eB1,cv,eG]
      ·have cb':(bt==1)=false:=by simpa using cb
       simp[QQl,g40,QQS,s45,QPZ,QQb,QP5,QP3,QP6,QP0,QP4,QQg,QQc,QP2,QQf,Qd,hj,hjl,ha,hb,hAI,hBI,hpa,hpb,hpaI,hpbI,ea,eb,eE,y1,y2,y3,cA,cB,cN1,cN2,cN3,hQ1,hQ2,z1,z2,z3,z4,←eV,hL,hL2,k1,k2,k3,k4,eB1,cv,eG,cb,cb']
     ·have eG:QS8 v 0 T=v / 1000:=by unfold QS8; rw[if_pos rfl,if_neg cv]
      by_cases cb:bt=1
      ·subst cb;simp[QQl,g40,QQS,s45,QPZ,QQb,QP5,QP3,QP6,QP0,QP4,QQg,QQc,QP2,QQf,Qd,hj,hjl,ha,hb,hAI,hBI,hpa,hpb,hpaI,hpbI,ea,eb,eE,y1,y2,y3,cA,cB,cN1,cN2,cN3,hQ1,hQ2,z1,z2,z3,z4,←eV,hL,hL2,k1,k2,k3,k4,eB1,cv,eG]
      ·have cb':(bt==1)=false:=by simpa using cb
       simp[QQl,g40,QQS,s45,QPZ,QQb,QP5,QP3,QP6,QP0,QP4,QQg,QQc,QP2,QQf,Qd,hj,hjl,ha,hb,hAI,hBI,hpa,hpb,hpaI,hpbI,ea,eb,eE,y1,y2,y3,cA,cB,cN1,cN2,cN3,hQ1,hQ2,z1,z2,z3,z4,←eV,hL,hL2,k1,k2,k3,k4,eB1,cv,eG,cb,cb']
    ·have ce':(er==0)=false:=by simpa using ce
     have ce2:0 < er:=by omega
     obtain⟨QQ1,QWC,QWZ,QTL,l5⟩:=QTS v3 v4 (show 1≤er by omega) hev.2
     have eG:QS8 v er T=QQo ⟨QTr v er,QRO v er⟩ T:=by unfold QS8; rw[if_neg ce]
     have u1:=Qa (1000*er) (by omega) (by omega)
     have u2:=Qa (v - 1000*er) (by omega) (by omega)
     have u3:=Qa (v - 1000*er+999) (by omega) (by omega)
     have u4:=Qa (v+1000*er) (by omega) (by omega)
     have u5:(v+1000*er).tdiv 1000=(v+1000*er) / 1000:=Int.tdiv_eq_ediv_of_nonneg (by omega)
     have u6:=Qa ((v+1000*er) / 1000) (by omega) (by omega)
     have eH:(if(v+1000*er) / 1000 < 100000 then(v+1000*er) / 1000 else 100000)=QRO v er:=by unfold QRO; split<;>omega
     have cS:(0≤QTr v er∧QTr v er≤QRO v er∧QRO v er≤1000000)∧0≤T∧T≤1000000:=⟨⟨QQ1,QWC,by omega⟩,by omega,by omega⟩
     by_cases cl:v < 1000*er
     ·have eL:QTr v er=0:=if_pos cl;rw[eL]at cS eG;by_cases cb:bt=1
      ·subst cb;by_cases cv:0 < v % 1000
       ·simp[QQl,g40,QQS,s45,QPZ,QQb,QP5,QP3,QP6,QP0,QP4,QQg,QQc,QP2,QQf,Qd,hj,hjl,ha,hb,hAI,hBI,hpa,hpb,hpaI,hpbI,ea,eb,eE,y1,y2,y3,cA,cB,cN1,cN2,cN3,hQ1,hQ2,z1,z2,z3,z4,←eV,hL,hL2,k1,k2,k3,k4,eB1,ce,ce',ce2,u1,u2,u3,u4,u5,u6,eH,cS,cv,eG,cl,hT3]
       ·simp[QQl,g40,QQS,s45,QPZ,QQb,QP5,QP3,QP6,QP0,QP4,QQg,QQc,QP2,QQf,Qd,hj,hjl,ha,hb,hAI,hBI,hpa,hpb,hpaI,hpbI,ea,eb,eE,y1,y2,y3,cA,cB,cN1,cN2,cN3,hQ1,hQ2,z1,z2,z3,z4,←eV,hL,hL2,k1,k2,k3,k4,eB1,ce,ce',ce2,u1,u2,u3,u4,u5,u6,eH,cS,cv,eG,cl,hT3]
      ·have cb':(bt==1)=false:=by simpa using cb
       by_cases cv:0 < v % 1000
       ·simp[QQl,g40,QQS,s45,QPZ,QQb,QP5,QP3,QP6,QP0,QP4,QQg,QQc,QP2,QQf,Qd,hj,hjl,ha,hb,hAI,hBI,hpa,hpb,hpaI,hpbI,ea,eb,eE,y1,y2,y3,cA,cB,cN1,cN2,cN3,hQ1,hQ2,z1,z2,z3,z4,←eV,hL,hL2,k1,k2,k3,k4,eB1,ce,ce',ce2,u1,u2,u3,u4,u5,u6,eH,cS,cv,eG,cl,hT3,cb,cb']
       ·simp[QQl,g40,QQS,s45,QPZ,QQb,QP5,QP3,QP6,QP0,QP4,QQg,QQc,QP2,QQf,Qd,hj,hjl,ha,hb,hAI,hBI,hpa,hpb,hpaI,hpbI,ea,eb,eE,y1,y2,y3,cA,cB,cN1,cN2,cN3,hQ1,hQ2,z1,z2,z3,z4,←eV,hL,hL2,k1,k2,k3,k4,eB1,ce,ce',ce2,u1,u2,u3,u4,u5,u6,eH,cS,cv,eG,cl,hT3,cb,cb']
     ·have eL:(v - 1000*er+999) / 1000=QTr v er:=(if_neg cl).symm;have u7:(v - 1000*er+999).tdiv 1000=QTr v er:=by rw[Int.tdiv_eq_ediv_of_nonneg (by omega),eL]
      have u8:=Qa (QTr v er) (by omega) (by omega)
      by_cases cb:bt=1
      ·subst cb;by_cases cv:0 < v % 1000
       ·simp[QQl,g40,QQS,s45,QPZ,QQb,QP5,QP3,QP6,QP0,QP4,QQg,QQc,QP2,QQf,Qd,hj,hjl,ha,hb,hAI,hBI,hpa,hpb,hpaI,hpbI,ea,eb,eE,y1,y2,y3,cA,cB,cN1,cN2,cN3,hQ1,hQ2,z1,z2,z3,z4,←eV,hL,hL2,k1,k2,k3,k4,eB1,ce,ce',ce2,u1,u2,u3,u4,u5,u6,u7,u8,eH,cS,cv,eG,cl,hT3]
       ·simp[QQl,g40,QQS,s45,QPZ,QQb,QP5,QP3,QP6,QP0,QP4,QQg,QQc,QP2,QQf,Qd,hj,hjl,ha,hb,hAI,hBI,hpa,hpb,hpaI,hpbI,ea,eb,eE,y1,y2,y3,cA,cB,cN1,cN2,cN3,hQ1,hQ2,z1,z2,z3,z4,←eV,hL,hL2,k1,k2,k3,k4,eB1,ce,ce',ce2,u1,u2,u3,u4,u5,u6,u7,u8,eH,cS,cv,eG,cl,hT3]
      ·have cb':(bt==1)=false:=by simpa using cb
       by_cases cv:0 < v % 1000
       ·simp[QQl,g40,QQS,s45,QPZ,QQb,QP5,QP3,QP6,QP0,QP4,QQg,QQc,QP2,QQf,Qd,hj,hjl,ha,hb,hAI,hBI,hpa,hpb,hpaI,hpbI,ea,eb,eE,y1,y2,y3,cA,cB,cN1,cN2,cN3,hQ1,hQ2,z1,z2,z3,z4,←eV,hL,hL2,k1,k2,k3,k4,eB1,ce,ce',ce2,u1,u2,u3,u4,u5,u6,u7,u8,eH,cS,cv,eG,cl,hT3,cb,cb']
       ·simp[QQl,g40,QQS,s45,QPZ,QQb,QP5,QP3,QP6,QP0,QP4,QQg,QQc,QP2,QQf,Qd,hj,hjl,ha,hb,hAI,hBI,hpa,hpb,hpaI,hpbI,ea,eb,eE,y1,y2,y3,cA,cB,cN1,cN2,cN3,hQ1,hQ2,z1,z2,z3,z4,←eV,hL,hL2,k1,k2,k3,k4,eB1,ce,ce',ce2,u1,u2,u3,u4,u5,u6,u7,u8,eH,cS,cv,eG,cl,hT3,cb,cb']
   ·simp[QQl,eN]
 ·cases hr
theorem QY1 (xs:Array Value) (w:World):(callFunc 20 xs).run Tryz.prog w= .ok (.enter 20 xs) w:=by kernel_rfl
end Go.Proofs.YticoemblgkemiaaGreatDoor
