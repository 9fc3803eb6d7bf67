/-
  TraceTrue: what holds in ANY truth. Conditions: none.
-/
import Derived.Test.YtnfeakhkfehkhaaGreatDoorZLawD
set_option linter.unusedSimpArgs false
set_option linter.unusedVariables false
namespace Go.Proofs.YtnfeakhkfehkhaaGreatDoor
open Go.RowKit
def kp8 (r:Nat):List (Nat×Option Nat):=match r with
 | 0=>kpn [0,1,2]
 | 1=>kpn [0,1,2,24]
 | 2=>[(8,none)]
 | 3=>[(6,none)]
 | 4=>kpn [0,1,9]
 | 5=>kpn [0,9,10]
 | 6=>kpn [0,9,10,11,12,13]
 | 7=>kpn [0,9,10,11,12,13,14,15]
 | 8=>kpn [0,9,10,11,12,14,66]
 | 9=>[(6,none)]
 | 10=>kpn [0,9,10,11,12,14,16]
 | 11=>kpn [0,9,10,11,12,14,16,17]
 | 12=>kpn [0,9,10,11,12,14,16,17,73]
 | 13=>kpn [0,9,10,11,12,14,16,17]
 | 14=>kpn [0,9,10,11,12,14,16,17,117]
 | 15=>[(6,none)]
 | 16=>kpn [9,10,14,18,19,20]
 | 17=>kpn [9,10,14,18,19,20,21]
 | 18=>kpn [9,10,14,18,19,20,21,123]
 | 19=>kpn [9,10,14,18,19,20,21]
 | 20=>kpn [9,10,14,18,19,20,21]
 | 21=>[(6,none)]
 | _=>[]
noncomputable def QLM:List (Nat×(List D->Option D)):=(37,s37)::(38,s38)::(40,s40)::QMG
theorem QNZ:Qay Tryz.prog (Qas QLM):=Ql (Ql (Ql QN8 Qzm QRE) QDU QRN) QNX ok37
theorem QMy (b:List Bat) (i:Nat):QnT b i i=false/\Qnl b i i=false:=by
 unfold QnT Qnl;simp
theorem QMn {b:List Bat} {i k:Nat} (h:¬k=i):QnT b i k=Qgj b i k/\Qnl b i k=QoL b i k:=by
 unfold QnT Qnl;have:(k != i)=true:=by simpa using h
 rw[this,Bool.true_and,Bool.true_and];exact⟨rfl,rfl⟩
noncomputable def s8:List D->Option D:=sp3 (Qy QO) (cK .u8) (Qy (rK .u32)) QaI λb w y=>if QcC b/\QLK w/\QLS y then some true else none
set_option maxHeartbeats 4000000 in
theorem ok8:∀ds d,s8 ds=some d->PureC Tryz.prog 8 ds d:=QcG λb w y r hr=>by
 split at hr
 .rename_i hc;obtain⟨hs,hw,hy⟩:=hc;cases hr;refine Qm (QE QNZ 163 kp8 []) Tryz.func8 rfl rfl (Zb rfl) (by kernel_rfl) ?_
  rw[Tryz.results8];have zO:=QNl hs;cases hv:QLq b with
  | false=>
   rw[hv]at zO;have xZ:=QCO hs 0;obtain⟨h0,aS⟩:=QNe hv 0;rw[h0]at xZ;have lV:(QbH b 0 != 0)=true:=bne_iff_ne.2 aS;simp[kp8,QLM,QMG,QGa,s24,Qe,QL3,Qii,zO,xZ,lV]
  | true=>
   rw[hv]at zO;obtain⟨hV,h8,h1,hask⟩:=QLJ hv;obtain⟨i,dC,ti,wa,wi⟩:=QML hw (n:=b.length) (by omega) (by omega)
   have zN:(i:Int) < b.length:=by omega
   have m7:¬(b.length:Int)=0:=by omega
   have hn0':¬b=[]:=λe=>by rw[e]at h1; exact absurd h1 (by decide)
   have e37:=QNO hV hy;obtain⟨g,hg,hT⟩:=QMR hV (QMk hy);rw[hT]at e37;have s7:=QMM b g;have hTV:=QMQ hV hg;have nH:=hTV.ok;have x6:=QNl (QNI nH);rw[QM5 hTV]at x6;have e38:=QNP nH (i:=i) (by omega)
   have e40:=QNV nH;have e19:=QyR hs i;have xZ:=QCO hs i;rw[QM3 hv dC]at e19;rw[QNK hv dC]at xZ;have l1:(Qc6 (QnT b i) b.length).length < 1000000:=Nat.lt_of_le_of_lt (Qlu _ _) (by omega)
   have l2:(Qc6 (Qnl b i) b.length).length < 1000000:=Nat.lt_of_le_of_lt (Qlu _ _) (by omega)
   have f1:∀k,k < b.length->s39 [.sl 1 ((Qc6 (QnT b i) b.length).map Qt.enc),DI k]=some (DB (QnT b i k)):=λk hk=>by
    rw[QNn l1 k,QMw,decide_eq_true hk,Bool.true_and]
   have f2:∀k,k < b.length->s39 [.sl 1 ((Qc6 (Qnl b i) b.length).map Qt.enc),DI k]=some (DB (Qnl b i k)):=λk hk=>by
    rw[QNn l2 k,QMw,decide_eq_true hk,Bool.true_and]
   have hM:∀k,k < b.length->¬k=i->QnT b i k=true->Qao (QLx b g) i [] b.length k=true:=λk hk wB hm=>by
    rw[(QMn wB).1]at hm;exact(QL5 hV hg hk).2 (Qnh.1 hm g hg)
   have hY:∀k,k < b.length->¬k=i->Qao (QLx b g) i [] b.length k=true->Qnl b i k=true:=λk hk wB hm=>by
    rw[(QMn wB).2];exact Qli.2 ⟨g,hg,(QL5 hV hg hk).1 hm⟩
   obtain⟨cs1,yK⟩:=QMy b i;have lG:=QNt hV hg dC;have yW:∀k,k < b.length->QfE (QLx b g) k=Qxl (Qaa b) g k:=λk hk=>QNg hV hg hk;have hfk:=QMz nH (λt=>QM7 t);have oO:∀k,k < b.length->0<=QfE (QLx b g) k/\QfE (QLx b g) k<=100000:=λk hk=>⟨hTV.kept k (by omega),(Qqm nH (by omega)).2⟩
   rw[<-yW i dC]at lG;rw[s7]at e38 hfk;generalize hR:Qao (QLx b g) i [] b.length=R at*;clear hR hT yW hg;generalize QLx b g=T at*;generalize Qc6 (QnT b i) b.length=L1 at*;generalize Qc6 (Qnl b i) b.length=L2 at*;have bB:=QN T;have hke:∀k (h:k < (QI T).length),(QI T)[k]=QfE T k:=λk h=>by simp[QI]
   generalize hlv:Qj7 b i=lv at*;obtain⟨slo,shi⟩:=lv;dsimp only at lG;have tR:((List.range b.length).map R).length=b.length:=by simp
   have hBe:∀k (h:k < ((List.range b.length).map R).length),((List.range b.length).map R)[k]=R k:=λk h=>by simp
   generalize(List.range b.length).map R=BL at*;simp[kp8,QLM,QMG,QGa,s24,Qe,QL3,Qii,zO,e37,x6,e38,e19,xZ,ti,wa,hn0']
   (generalize aC:Cx.loop _ _ _=aE; apply Qi aC (λk=>⟨[(0,.d (.sl 5 (b.map QO.enc))),(9,.d (.sl 5 (T.map QO.enc))),(10,.d (DI i)),(11,.d (.sl 1 (L1.map Qt.enc))),(12,.d (.sl 1 (L2.map Qt.enc))),(14,.loc 14 0),(16,.d (.sl 1 (BL.map rBl.enc))),(17,.d (DI k))],[(14,[.d (DI slo),.d (DI shi)])],[],[]⟩) b.length rfl; rotate_left; (show _ < 281474976710656; omega); rfl; rotate_left; all_goals clear aC)
   .intro k hk;have eQ:(k:Int) < b.length:=by omega
    have w1:=Qa ((k:Int)+1) (by omega) (by omega)
    have g1:=f1 k hk;have g2:=f2 k hk;have hkB:k < BL.length:=by omega
    have sZ:(k:Int) < (BL.length:Int):=by omega
    by_cases e:k=i
    .subst e;rw[cs1]at g1;rw[yK]at g2;simp[kp8,eQ,w1,g1,g2]
    .have ei:((k:Int) != (i:Int))=true:=bne_iff_ne.2 (by omega)
     have ej:((k:Int)==(i:Int))=false:=beq_eq_false_iff_ne.2 (by omega)
     have m1:=hM k hk e;have m2:=hY k hk e;cases c1:QnT b i k with
     | true=>
      have r1:=m1 c1;have c2:=m2 r1;rw[c1]at g1;rw[c2]at g2;simp[kp8,QpG,hBe,hkB,sZ,eQ,w1,g1,g2,r1,ei,ej]
     | false=>
      rw[c1]at g1;cases r1:R k with
      | true=>
       have c2:=m2 r1;rw[c2]at g2;simp[kp8,QpG,hBe,hkB,sZ,eQ,w1,g1,g2,r1,ei,ej]
      | false=>simp[kp8,QpG,hBe,hkB,sZ,eQ,w1,g1,r1,ei,ej]
   .simp[kp8,e40];have dG:∀f:Nat->Int,QY 0 f=0:=λ_=>rfl
    (generalize aC:Cx.loop _ _ _=aE; apply Qi aC (λk=>⟨[(9,.d (.sl 5 (T.map QO.enc))),(10,.d (DI i)),(14,.loc 14 0),(18,.d (.sl 1 ((QI T).map Qt.enc))),(19,.d (DI (QY k λt=>(T.getD t default).fresh))),(20,.d (DI (QY k (QfE T)))),(21,.d (DI k))],[(14,[.d (DI slo),.d (DI shi)])],[],[]⟩) b.length (by first | (simp; done) | (simp; rfl) | (simp; simp[*])); rotate_left; (show _ < 281474976710656; omega); rfl; rotate_left; all_goals clear aC)
    .intro k hk;have hkT:k < T.length:=by omega
     have eQ:(k:Int) < T.length:=by omega
     have hkL:k < (QI T).length:=by omega
     have hkLI:(k:Int) < ((QI T).length:Int):=by omega
     have w1:=Qa ((k:Int)+1) (by omega) (by omega)
     have b1:0<=(QY k λt=>(T.getD t default).fresh)/\(QY k λt=>(T.getD t default).fresh)<=100000*k:=by
      have:∀n,n<=T.length->0<=(QY n λt=>(T.getD t default).fresh)/\(QY n λt=>(T.getD t default).fresh)<=100000*n:=by
       intro n
       induction n with
       | zero=>intro _; exact⟨Int.le_refl _,Int.le_refl _⟩
       | succ n ih=>
        intro hn;have h1:=ih (by omega)
        have h2:=(nH.at (i:=n) (by omega)).fresh
        have h3:=(nH.at (i:=n) (by omega)).grams
        rw[QY,Qbf (by omega:n < T.length)]; omega
      exact this k (by omega)
     have b2:0<=QY k (QfE T)/\QY k (QfE T)<=100000*k:=by
      have:∀n,n<=T.length->0<=QY n (QfE T)/\QY n (QfE T)<=100000*n:=by
       intro n
       induction n with
       | zero=>intro _; exact⟨Int.le_refl _,Int.le_refl _⟩
       | succ n ih=>
        intro hn;have h1:=ih (by omega)
        have h2:=oO n (by omega)
        rw[QY]; omega
      exact this k (by omega)
     have hb:=nH.at hkT;have hf:=hb.fresh;have oQ:=hb.grams;have hkk:=oO k hk;have q1:(QY (k+1) λt=>(T.getD t default).fresh)=(QY k λt=>(T.getD t default).fresh)+T[k].fresh:=by rw[QY,Qbf hkT]
     have q2:QY (k+1) (QfE T)=QY k (QfE T)+QfE T k:=rfl;rw[q1,q2];generalize(QY k λt=>(T.getD t default).fresh)=A at*;generalize QY k (QfE T)=B at*;have w2:=Qa (A+T[k].fresh) (by omega) (by omega)
     have w3:=Qa (B+QfE T k) (by omega) (by omega)
     simp[kp8,Qh,Qc,hkT,eQ,hkL,hkLI,hke,w1,w2,w3]
    .rw[hfk];have yJ:i < (QI T).length:=by omega
     have hiLI:(i:Int) < ((QI T).length:Int):=by omega
     simp[kp8,Qc,s7,yJ,hiLI,hke,lG.1,lG.2]
 .cases hr
end Go.Proofs.YtnfeakhkfehkhaaGreatDoor
