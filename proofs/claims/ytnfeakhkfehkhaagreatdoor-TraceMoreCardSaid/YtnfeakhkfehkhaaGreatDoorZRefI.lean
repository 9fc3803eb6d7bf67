/-
  Reference functions of the trace chapter: where wax must be. Conditions: none.
-/
import Derived.Test.YtnfeakhkfehkhaaGreatDoorZRefH
set_option linter.unusedSimpArgs false
set_option linter.unusedVariables false
namespace Go.Proofs.YtnfeakhkfehkhaaGreatDoor
open Go.RowKit
def QjS (r:Nat):List (Nat×Option Nat):=match r with
 | 0=>kpn [0,1,2]
 | 1=>kpn [0,1,2,7]
 | 2=>kpn [0,1,2,7,8]
 | 3=>kpn [0,1,2,7,8,21]
 | 4=>kpn [0,1,2,7,8]
 | 5=>kpn [0,1,2,7,8,9]
 | 6=>kpn [0,1,2,7,8,9,10]
 | 7=>kpn [0,1,2,7,8,9,10,11]
 | 8=>kpn [0,1,2,7,8,9,10,11,32]
 | 9=>kpn [0,1,2,7,8,9,10,11]
 | 10=>kpn [0,1,2,7,8,9,10,11]
 | 11=>kpn [0,1,2,7,8,9,10,11,12]
 | 12=>kpn [0,1,2,7,8,9,10,11,12,48]
 | 13=>kpn [0,1,2,7,8,9,10,11,12]
 | 14=>kpn [0,1,2,7,8,9,10,11,12]
 | 15=>kpn [0,1,2,7,8,9,10,11,13]
 | 16=>kpn [0,1,2,7,8,9,10,11,13,75]
 | 17=>kpn [0,1,2,7,8,9,10,11,13]
 | 18=>kpn [0,1,2,7,8,9,10,11,13,91]
 | 19=>kpn [0,1,2,7,8,9,10,11,13]
 | 20=>kpn [0,1,2,7,8,9,10,11,14]
 | 21=>kpn [0,1,2,7,8,9,10,11,14,104]
 | 22=>kpn [0,1,2,7,8,9,10,11,14]
 | 23=>kpn [0,1,2,7,8,9,10,11,14,110]
 | 24=>kpn [0,1,2,7,8,9,10,11,14]
 | 25=>kpn [0,1,2,7,8,127]
 | 26=>[(6,none)]
 | 27=>[(6,none)]
 | _=>[]
theorem Qyd {b:List Bat} {s t:Nat} :(Qfv b t=true/\QcI b s t=false)↔((List.range (Qq b).length).any λq=>(Qq b).getD q 0==t&&!QeB s q)=true:=by
 rw[Zy];constructor
 .rintro⟨h1,h2⟩;have nG:t∈Qq b:=Qb8.2 ⟨Qix h1,h1⟩;obtain⟨q,hq,mG⟩:=List.getElem_of_mem nG;refine⟨q,Zm.2 hq,?_⟩;have hg:(Qq b).getD q 0=t:=by rw[Qj _ _ _ hq]; exact mG
  unfold QcI at h2;have:=List.any_eq_false.1 h2 q (Zm.2 hq);rw[hg]at this|-;simpa using this
 .rintro⟨q,h1,h2⟩;rw[Zm]at h1;simp only[Za,beq_iff_eq,Bool.not_eq_true']at h2;obtain⟨h2,h3⟩:=h2;have hg:=h2;rw[Qj _ _ _ h1]at hg;have hm:=Qb8.1 (Ze h1);rw[hg]at hm;refine⟨hm.2,?_⟩;cases hc:QcI b s t with
  | false=>rfl
  | true=>
   unfold QcI at hc;obtain⟨r,h4,h5⟩:=Zy.1 hc;rw[Zm]at h4;simp only[Za,beq_iff_eq]at h5;obtain⟨h5,h6⟩:=h5;rw[Qj _ _ _ h4]at h6;have:q=r:=(List.getElem_inj (Qef b)).1 (hg.trans h6.symm);subst this;rw[h3]at h5; cases h5
theorem QBC {b:List Bat} (h:BookOk b) {i s t:Nat} (ht:t < b.length):Qcy b i s t=(decide (t=i)||b[t].takes.any (λq=>Qcy b i s q.fr.toNat)||(List.range (Qq b).length).any λq=>(Qq b).getD q 0==t&&!QeB s q):=by
 have aX:=h.le;unfold Qcy QcV;rw[Bool.eq_iff_iff,QgF (Qaa b) i (QcI b s) (by omega:t < 8)]
 simp only[Bool.or_eq_true,decide_eq_true_eq,or_assoc];refine or_congr_right ?_;rw[or_comm];refine or_congr ?_ Qyd;rw[Zy];constructor
 .rintro⟨x,h1,h2,h3⟩;have h2':QnV b x t=true:=h2;unfold QnV at h2';rw[Qbf ht]at h2';obtain⟨k,h4,h5⟩:=Zy.1 h2';have h5':k.fr=(x:Int):=by simpa using h5
  exact⟨k,h4,by rw[h5']; exact h3⟩
 .rintro⟨k,h4,h5⟩;have:=(h.at ht).fr k h4;refine⟨k.fr.toNat,by omega,?_,h5⟩
  show QnV b k.fr.toNat t=true;unfold QnV;rw[Qbf ht];exact Zy.2 ⟨k,h4,by simp; omega⟩
theorem hr0 (s a:Nat):((dv s a).tmod 2==0)=!QeB s a:=by
 unfold dv QeB;rw[show((2:Int))=((2:Nat):Int)from rfl,<-Int.ofNat_tmod];rcases Nat.mod_two_eq_zero_or_one (s / 2 ^ a)with h | h<;>simp[h]
noncomputable def l62:List (Nat×(List D->Option D)):=[(46,s46),(97,s97),(41,QGQ),(56,s56)]
theorem QHO:Qay Tryz.prog (Qas l62):=Ql (Ql (Ql (Ql QB Qud QG3) QtI QH0) Qzc ok97) QtU QHU
noncomputable instance (b:List Bat):Decidable (ValidB b):=Classical.propDecidable _
noncomputable def Qgj (b:List Bat) (i k:Nat):Bool:= @decide (Qs9 (Qaa b) i k) (Classical.propDecidable _)
theorem Qnh {b:List Bat} {i k:Nat} :Qgj b i k=true↔Qs9 (Qaa b) i k:=by unfold Qgj; simp
theorem Qi6 {b:List Bat} (h:ValidB b) {i k:Nat} (hi:i < b.length) (hk:k < b.length):Qgj b i k=Qjz b i k:=by
 rw[Bool.eq_iff_iff,Qnh,Qxk h hi hk]
theorem Qya (R:Nat->Bool):mid R 0 false=λ_=>DB false:=by
 funext t; unfold mid; simp
theorem QpE (d:Nat->Bool):QaE d 0=[]:=rfl
attribute [local simp] Qya QpE
def Qdi (d:Nat->Bool) (t x:Nat):List Edg:=QaE d t++((List.range x).filter d).map λ(y:Nat)=>⟨(y:Int),(t:Int)⟩
theorem Qo5 (d:Nat->Bool) (t:Nat):Qdi d t 0=QaE d t:=by simp[Qdi]
theorem QrI {d:Nat->Bool} {t x:Nat} (h:d x=true):Qdi d t (x+1)=Qdi d t x++[⟨(x:Int),(t:Int)⟩]:=by
 simp[Qdi,List.range_succ,List.filter_append,h]
theorem QtA {d:Nat->Bool} {t x:Nat} (h:d x=false):Qdi d t (x+1)=Qdi d t x:=by
 simp[Qdi,List.range_succ,List.filter_append,h]
theorem Qsj {d:Nat->Bool} {t:Nat} (h:d t=false):Qdi d t t=QaE d (t+1):=by
 rw[QfW,if_neg (by rw[h]; simp)]; rfl
theorem QrK (d:Nat->Bool) (t x:Nat):(Qdi d t x).length<=t*t+x:=by
 have h1:=Qe4 d t;have h2:((List.range x).filter d).length<=x:=Nat.le_trans (List.length_filter_le _ _) (by simp)
 unfold Qdi;rw[List.length_append,List.length_map]; omega
attribute [local simp] Qo5
def Qj1:List (Nat×Nat×Nat):=[(10,2,2)]
theorem QaQ (n:Nat) (g:Nat->D) (b i:Nat) (hb:(b==10)=false) (av nw:List Nat):Qaw [(10,2,2)] b i (QPw n g) av nw=(QPw n g,av,nw):=Qbv Qj1 b _ i av nw (Qeh hb (Qeb b)) Qbr
noncomputable def s62:List D->Option D:=sp3 (Qy QO) Qbh Qbh QaI λb i k=>if ValidB b/\0<=i/\i < b.length/\0<=k/\k < b.length then some (Qgj b i.toNat k.toNat)else none
set_option maxHeartbeats 4000000 in
theorem ok62:∀ds d,s62 ds=some d->PureC Tryz.prog 62 ds d:=QcG λb ii kk r hr=>by
 split at hr
 .rename_i hc;obtain⟨hv,lN,pY,hk0,rF⟩:=hc;obtain⟨i,rfl⟩:∃i:Nat,ii=i:=⟨ii.toNat,by omega⟩
  obtain⟨k,rfl⟩:∃k:Nat,kk=k:=⟨kk.toNat,by omega⟩
  cases hr;have hi:i < b.length:=by omega
  have hk:k < b.length:=by omega
  rw[Int.toNat_natCast,Int.toNat_natCast,Qi6 hv hi hk];have aQ:=hv.ok;have aX:=aQ.le;have hm3:(Qq b).length<=3:=by have:=hv.lost; simpa[QU]using this
  have hLl:(QU b).length=(Qq b).length:=by simp[QU]
  have hn:b.length<=140737488355328:=by omega
  have hnI:(b.length:Int)<=140737488355328:=by omega
  have iW:=h97 (Qq b).length (by omega)
  have yU:2 ^ (Qq b).length<=8:=Nat.le_trans (Nat.pow_le_pow_right (by omega) hm3) (by decide)
  refine Qm (QE QHO 128 QjS Qj1) Tryz.func62 rfl rfl (Zb rfl) (by kernel_rfl) ?_
  rw[Tryz.results62];have mP:b.length<=8:=aX;simp[QjS,l62,Qj1,s46,QR,Qe,Qg,mP];generalize aC:Cx.loop _ _ _=aE;have oW:aE=some (if(List.range (2 ^ (Qq b).length)).all (λs=>!(!Qcy b i s k&&QaT ⟨QI b,QV b,QaE (Qcy b i s) b.length⟩))=true then(.exit 0,⟨[(0,.d (.sl 5 (b.map QO.enc))),(1,.d (DI i)),(2,.d (DI k)),(7,.d (.sl 1 ((QU b).map Qt.enc))),(8,.d (DI ((2 ^ (Qq b).length:Nat):Int))),(21,.d (DB false))],[],[],[]⟩)else(.ret,⟨[(6,.d (DB false))],[],[],[]⟩)):=by
   refine Qa7 aC (λs=>⟨[(0,.d (.sl 5 (b.map QO.enc))),(1,.d (DI i)),(2,.d (DI k)),(7,.d (.sl 1 ((QU b).map Qt.enc))),(8,.d (DI s))],[],[],[]⟩) _ _ _ _ (by simp) (by show _ < 281474976710656; omega) (by simp) (by simp) ?_ ?_
   .intro s hs;have sD:(s:Int) < pw (Qq b).length:=by unfold pw; omega
    have ws:=Qa ((s:Int)+1) (by omega) (by omega)
    have iV:s < 9223372036854775808:=by omega
    have hDe:∀t (ht:t < b.length),Qcy b i s t=(decide (t=i)||b[t].takes.any (λq=>Qcy b i s q.fr.toNat)||(List.range (Qq b).length).any λq=>(Qq b).getD q 0==t&&!QeB s q):=λt ht=>QBC aQ ht
    have hpr:=Qrr aQ (Qcy b i s);have y6:s56 [.agg [.sl 1 ((QI b).map Qt.enc),.sl 1 ((QV b).map Qt.enc),.sl 2 ((QaE (Qcy b i s) b.length).map Qcg.enc)]]=some (DB (QaT ⟨QI b,QV b,QaE (Qcy b i s) b.length⟩)):=by
     simp[s56,sp1,Qbq,Qtd,hpr]
    have hnl:=Qe4 (Qcy b i s);generalize hsv:QaT ⟨QI b,QV b,QaE (Qcy b i s) b.length⟩=sv at*;generalize hD:Qcy b i s=Dr at*;simp[QjS,Qaf,QaQ,hLl,QGQ,QR,aQ,iW,sD,QHN,hnI]
    (generalize aC:Cx.loop _ _ _=aE; apply Qi aC (λt=>⟨[(0,.d (.sl 5 (b.map QO.enc))),(1,.d (DI i)),(2,.d (DI k)),(7,.d (.sl 1 ((QU b).map Qt.enc))),(8,.d (DI s)),(9,.bs 26 0 b.length 1),(10,.loc 10 0),(11,.d (DI t))],[(26,QPw b.length (mid Dr t false)),(10,[.d (.sl 1 ((QI b).map Qt.enc)),.d (.sl 1 ((QV b).map Qt.enc)),.sl 2 ((QaE Dr t).map Qcg.enc) (.tok 101002)])],[101002],[]⟩) b.length (by first | (simp; done) | (simp; rfl) | (simp; simp[*])); rotate_left; (show _ < 281474976710656; omega); rfl; rotate_left; all_goals clear aC)
    .intro t ht;have dJ:(t:Int) < b.length:=by omega
     have nO:t+1<=b.length:=ht;have w1:=Qa ((t:Int)+1) (by omega) (by omega)
     have hbt:=aQ.at ht;have htk:∀q∈b[t].takes,0<=q.fr/\q.fr < t:=λq hq=>hbt.fr q hq;have htl8:b[t].takes.length<=8:=by have:=Qdy hbt.asc htk; omega
     have hDt:=hDe t ht;have n6:=hnl t;have hnt2:t*t<=8*8:=Nat.mul_le_mul (by omega) (by omega)
     have hv0:((t:Int)==(i:Int))=decide (t=i):=by
      rw[Bool.eq_iff_iff,beq_iff_eq,decide_eq_true_eq]; omega
     simp[QjS,Qaf,QaQ,Qb,Qp,QaJ,ht,dJ,nO,hv0]
     (generalize aC:Cx.loop _ _ _=aE; apply Qi aC (λj=>⟨[(0,.d (.sl 5 (b.map QO.enc))),(1,.d (DI i)),(2,.d (DI k)),(7,.d (.sl 1 ((QU b).map Qt.enc))),(8,.d (DI s)),(9,.bs 26 0 b.length 1),(10,.loc 10 0),(11,.d (DI t)),(12,.d (DI j))],[(26,QPw b.length (mid Dr t (decide (t=i)||(b[t].takes.take j).any λq=>Dr q.fr.toNat))),(10,[.d (.sl 1 ((QI b).map Qt.enc)),.d (.sl 1 ((QV b).map Qt.enc)),.sl 2 ((QaE Dr t).map Qcg.enc) (.tok 101002)])],[101002],[]⟩) b[t].takes.length (by first | (simp; done) | (simp; rfl) | (simp; simp[*])); rotate_left; (show _ < 281474976710656; omega); rfl; rotate_left; all_goals clear aC)
     .intro j hj;have aO:(j:Int) < b[t].takes.length:=by omega
      have w3:=Qa ((j:Int)+1) (by omega) (by omega)
      have hf:=htk b[t].takes[j] (Ze hj);have hf1:b[t].takes[j].fr.toNat < b.length:=by omega
      have lD:b[t].takes[j].fr < b.length:=by omega
      have kE:=Qkp (R:=Dr) (v:=false) (show b[t].takes[j].fr.toNat < t by omega)
      rw[List.take_succ_eq_append_getElem hj,List.any_append,<-Bool.or_assoc];generalize hV:(decide (t=i)||(b[t].takes.take j).any λq=>Dr q.fr.toNat)=V at*
      cases V with
      | true=>simp[QjS,Qh,Qaf,QaQ,Qb,Qf,Qp,QbB,QaJ,ht,dJ,nO,aO,w3]
      | false=>simp[QjS,Qh,Qo,Qaf,QaQ,Qb,Qf,Qp,QbB,QaJ,ht,dJ,nO,hj,aO,w3,hf.1,hf1,lD,kE]
     .simp[QjS,Qh,Qaf,QaQ,ht,dJ];generalize hA:(decide (t=i)||b[t].takes.any λq=>Dr q.fr.toNat)=A at*
      (generalize aC:Cx.loop _ _ _=aE; apply Qi aC (λj=>⟨[(0,.d (.sl 5 (b.map QO.enc))),(1,.d (DI i)),(2,.d (DI k)),(7,.d (.sl 1 ((QU b).map Qt.enc))),(8,.d (DI s)),(9,.bs 26 0 b.length 1),(10,.loc 10 0),(11,.d (DI t)),(13,.d (DI j))],[(26,QPw b.length (mid Dr t (A||(List.range j).any λq=>(Qq b).getD q 0==t&&!QeB s q))),(10,[.d (.sl 1 ((QI b).map Qt.enc)),.d (.sl 1 ((QV b).map Qt.enc)),.sl 2 ((QaE Dr t).map Qcg.enc) (.tok 101002)])],[101002],[]⟩) (Qq b).length (by first | (simp; done) | (simp; rfl) | (simp; simp[*])); rotate_left; (show _ < 281474976710656; omega); rfl; rotate_left; all_goals clear aC)
      .intro j hj;have aO:(j:Int) < (Qq b).length:=by omega
       have u9:j < (QU b).length:=by omega
       have w3:=Qa ((j:Int)+1) (by omega) (by omega)
       have g97j:=h97 j (by omega)
       have q1:=hq s j iV (by omega)
       have q2:=hr0 s j;have q3:=QoE j;have hLj:(QU b)[j]=(((Qq b)[j]:Nat):Int):=by simp[QU]
       have hg:(Qq b).getD j 0=(Qq b)[j]:=Qj _ _ _ hj;rw[List.range_succ,List.any_append,List.any_cons,List.any_nil,Bool.or_false,<-Bool.or_assoc,hg];generalize hV:(A||(List.range j).any λq=>(Qq b).getD q 0==t&&!QeB s q)=V at*
       by_cases e:(Qq b)[j]=t
       .have e1:((((Qq b)[j]:Nat):Int)==(t:Int))=true:=by rw[e]; simp
        have e2:((Qq b)[j]==t)=true:=by rw[e]; simp
        rw[e2];cases hbit:QeB s j with
        | true=>
         rw[hbit]at q2;simp[QjS,Qc,Qaf,QaQ,hLl,hj,aO,w3,hLj,e1,g97j,q1,q2,q3]
        | false=>
         rw[hbit]at q2;simp[QjS,Qc,Qaf,QaQ,Qb,Qp,QaJ,hLl,ht,dJ,nO,hj,aO,w3,hLj,e1,g97j,q1,q2,q3]
       .have e1:((((Qq b)[j]:Nat):Int)==(t:Int))=false:=by simp; omega
        have e2:((Qq b)[j]==t)=false:=by simpa using e
        rw[e2];simp[QjS,Qc,Qaf,QaQ,hLl,hj,aO,w3,hLj,e1]
      .rw[<-hDt];simp[QjS,Qaf,QaQ,hLl];cases zK:Dr t with
       | true=>
        have e1:QaE Dr (t+1)=QaE Dr t:=by rw[QfW,if_pos zK,List.append_nil]
        have e2:mid Dr (t+1) false=mid Dr t true:=by rw[<-zK,Qlg]
        rw[e1,e2]
        (generalize aC:Cx.loop _ _ _=aE; apply Qi aC (λx=>⟨[(0,.d (.sl 5 (b.map QO.enc))),(1,.d (DI i)),(2,.d (DI k)),(7,.d (.sl 1 ((QU b).map Qt.enc))),(8,.d (DI s)),(9,.bs 26 0 b.length 1),(10,.loc 10 0),(11,.d (DI t)),(14,.d (DI x))],[(26,QPw b.length (mid Dr t true)),(10,[.d (.sl 1 ((QI b).map Qt.enc)),.d (.sl 1 ((QV b).map Qt.enc)),.sl 2 ((QaE Dr t).map Qcg.enc) (.tok 101002)])],[101002],[]⟩) 0 (by first | (simp; done) | (simp; rfl) | (simp; simp[*])); rotate_left; (show _ < 281474976710656; omega); rfl; rotate_left; all_goals clear aC)
        .intro x hx; omega
        .by_cases h0:0 < t
         .simp[QjS,Qaf,QaQ,Qb,Qf,QbB,ht,dJ,h0,w1]
         .simp[QjS,Qaf,QaQ,h0,w1]
       | false=>
        have e1:QaE Dr (t+1)=Qdi Dr t t:=(Qsj zK).symm;have e2:mid Dr (t+1) false=mid Dr t false:=by rw[<-Qlg,zK]
        rw[e1,e2]
        (generalize aC:Cx.loop _ _ _=aE; apply Qi aC (λx=>⟨[(0,.d (.sl 5 (b.map QO.enc))),(1,.d (DI i)),(2,.d (DI k)),(7,.d (.sl 1 ((QU b).map Qt.enc))),(8,.d (DI s)),(9,.bs 26 0 b.length 1),(10,.loc 10 0),(11,.d (DI t)),(14,.d (DI x))],[(26,QPw b.length (mid Dr t false)),(10,[.d (.sl 1 ((QI b).map Qt.enc)),.d (.sl 1 ((QV b).map Qt.enc)),.sl 2 ((Qdi Dr t x).map Qcg.enc) (.tok 101002)])],[101002],[]⟩) t (by first | (simp; done) | (simp; rfl) | (simp; simp[*])); rotate_left; (show _ < 281474976710656; omega); rfl; rotate_left; all_goals clear aC)
        .intro x hx;have lT:(x:Int) < t:=by omega
         have hxb:x < b.length:=by omega
         have hxi:(x:Int) < b.length:=by omega
         have w4:=Qa ((x:Int)+1) (by omega) (by omega)
         have kE:=Qkp (R:=Dr) (v:=false) hx;have hxn:=QrK Dr t x;have pE:(Qdi Dr t x).length+1<=140737488355328:=by omega
         have uH:((Qdi Dr t x).length+1)*16<=140737488355328:=by omega
         cases hdx:Dr x with
         | true=>
          rw[hdx]at kE;rw[QrI hdx];simp[QjS,QJ,Qaf,QaQ,Qb,Qf,QbB,ht,dJ,lT,hxb,hxi,kE,w4,pE,uH]
         | false=>
          rw[hdx]at kE;rw[QtA hdx];simp[QjS,Qaf,QaQ,Qb,Qf,QbB,ht,dJ,lT,hxb,hxi,kE,w4]
        .simp[QjS,Qaf,QaQ,w1]
    .have bB:(k:Int) < b.length:=rF;have hmk:=Qkp (R:=Dr) (v:=false) hk;cases hdk:Dr k with
     | true=>
      rw[hdk]at hmk;simp[QjS,Qaf,QaQ,Qb,Qf,hk,bB,hmk,ws]
     | false=>
      rw[hdk]at hmk;cases sv with
      | true=>simp[QjS,Qaf,QaQ,Qb,Qf,hk,bB,hmk,y6]
      | false=>simp[QjS,Qaf,QaQ,Qb,Qf,hk,bB,hmk,ws,y6]
   .have e:pw (Qq b).length=((2 ^ (Qq b).length:Nat):Int):=rfl;simp[QjS,hLl,iW,e]
  rw[oW];unfold Qjz;cases hall:(List.range (2 ^ (Qq b).length)).all (λs=>!(!Qcy b i s k&&QaT ⟨QI b,QV b,QaE (Qcy b i s) b.length⟩))with
  | true=>simp[QjS]
  | false=>simp
 .cases hr
theorem QFz (xs:Array Value) (w:World):(callFunc 62 xs).run Tryz.prog w= .ok (.enter 62 xs) w:=by kernel_rfl
end Go.Proofs.YtnfeakhkfehkhaaGreatDoor
namespace Go.Proofs.YtnfeakhkfehkhaaGreatDoor
open Go.RowKit
def Qlk (r:Nat):List (Nat×Option Nat):=match r with
 | 0=>kpn [0,1,2]
 | 1=>kpn [0,1,2,7,8]
 | 2=>kpn [0,1,2,7,8,9]
 | 3=>kpn [0,1,2,7,8,9,10,26,30]
 | 4=>[(0,none),(1,none),(2,none),(7,none),(8,none),(9,none),(10,none),(11,some 2),(26,none),(30,none)]
 | 5=>[(0,none),(1,none),(2,none),(7,none),(8,none),(9,none),(10,none),(11,some 2),(12,none),(26,none),(30,none)]
 | 6=>[(0,none),(1,none),(2,none),(7,none),(8,none),(9,none),(10,none),(11,some 2),(12,none),(13,none),(26,none),(30,none)]
 | 7=>[(0,none),(1,none),(2,none),(7,none),(8,none),(9,none),(10,none),(11,some 2),(12,none),(13,none),(35,none),(26,none),(30,none)]
 | 8=>[(0,none),(1,none),(2,none),(7,none),(8,none),(9,none),(10,none),(11,some 2),(12,none),(13,none),(26,none),(30,none)]
 | 9=>[(0,none),(1,none),(2,none),(7,none),(8,none),(9,none),(10,none),(11,some 2),(12,none),(13,none),(44,none),(26,none),(30,none)]
 | 10=>[(0,none),(1,none),(2,none),(7,none),(8,none),(9,none),(10,none),(11,some 2),(12,none),(13,none),(14,none),(26,none),(30,none)]
 | 11=>[(0,none),(1,none),(2,none),(7,none),(8,none),(9,none),(10,none),(11,some 2),(12,none),(13,none),(14,none),(26,none),(30,none)]
 | 12=>[(0,none),(1,none),(2,none),(7,none),(8,none),(9,none),(10,none),(11,some 2),(12,none),(13,none),(14,none),(26,none),(30,none)]
 | 13=>[(0,none),(1,none),(2,none),(7,none),(8,none),(9,none),(10,none),(11,some 2),(12,none),(13,none),(26,none),(30,none)]
 | 14=>kpn [0,1,2,7,8,9,106]
 | 15=>[(6,none)]
 | 16=>kpn [0,1,2,7,8,9,15]
 | 17=>kpn [0,1,2,7,8,9,15,119]
 | 18=>kpn [0,1,2,7,8,9,15]
 | 19=>kpn [0,1,2,7,8,9,15]
 | 20=>kpn [0,1,2,7,8,9,15,128]
 | 21=>[(6,none)]
 | 22=>kpn [0,1,2,7,8,9]
 | _=>[]
theorem Qwp {N:Nat} {v:List Nat} (h:QaF N v < v.length) (j:Nat):(QrY N v).getD j 0=if j < QaF N v then 0 else if j=QaF N v then v.getD (QaF N v) 0+1 else v.getD j 0:=by
 unfold QrY;generalize QaF N v=r at*;simp only[Zd];by_cases h1:j < r
 .rw[if_pos h1,List.getElem?_append_left (by simpa using h1)]
  simp[h1]
 .rw[if_neg h1,List.getElem?_append_right (by simpa using h1),List.length_replicate]
  by_cases h2:j=r
  .subst h2; simp
  .rw[if_neg h2];obtain⟨d,rfl⟩:∃d,j=r+(d+1):=⟨j - r - 1,by omega⟩
   have e:r+(d+1) - r=d+1:=by omega
   rw[e,List.getElem?_cons_succ,List.getElem?_drop];have e2:r+1+d=r+(d+1):=by omega
   rw[e2]
theorem QqJ (N:Nat):∀(m j:Nat),(dgs N m 0).getD j 0=0
 | 0,j=>by simp[dgs]
 | m+1,0=>by simp[dgs]
 | m+1,j+1=>by
  have:=QqJ N m j;simpa[dgs]using this
theorem QHg {b:List Bat} (h:BookOk b):bkB b=true:=by
 unfold bkB;rw[Zl];intro x hx;obtain⟨i,hi,rfl⟩:=List.getElem_of_mem hx;have h1:=h.at hi;have:=Qdy h1.asc h1.fr;have:=h.le;simp; omega
noncomputable def l63:List (Nat×(List D->Option D)):=[(46,s46),(41,s41),(56,s56),(38,s38)]
theorem QHx:Qay Tryz.prog (Qas l63):=Ql (Ql (Ql (Ql QB QDU QRN) Qud QG3) QtI QRK) QtU QHU
noncomputable def QoL (b:List Bat) (i k:Nat):Bool:= @decide (QCw (Qaa b) i k) (Classical.propDecidable _)
theorem Qli {b:List Bat} {i k:Nat} :QoL b i k=true↔QCw (Qaa b) i k:=by unfold QoL; simp
theorem Qq9 {b:List Bat} (h:ValidB b) {i k:Nat} (hi:i < b.length) (hk:k < b.length):QoL b i k=QvJ b i k:=by
 rw[Bool.eq_iff_iff,Qli,Qxw h hi hk]
theorem QlO (V:List Nat) (r:Nat):Q2 (λj=>DI (if j < r then 0 else((V.getD j 0:Nat):Int))) r (DI 0)=λj=>DI (if j < r+1 then 0 else((V.getD j 0:Nat):Int)):=by
 funext j;unfold Q2;by_cases h1:j=r
 .subst h1; simp
 .rw[if_neg h1];by_cases h2:j < r
  .simp[h2,show j < r+1 by omega]
  .simp[h2,show ¬j < r+1 by omega]
theorem QlP {N:Nat} {V:List Nat} (h:QaF N V < V.length):Q2 (λj=>DI (if j < QaF N V then 0 else((V.getD j 0:Nat):Int))) (QaF N V) (DI (((V.getD (QaF N V) 0:Nat):Int)+1))=λj=>DI (((QrY N V).getD j 0:Nat):Int):=by
 funext j;rw[Qwp h j];unfold Q2;by_cases h1:j=QaF N V
 .rw[if_pos h1,if_neg (by omega),if_pos h1]; simp
 .rw[if_neg h1];by_cases h2:j < QaF N V
  .simp[h2]
  .simp[h1,h2]
theorem Qyb (n:Nat) (l v:List Nat) (has needs:List Int):chK n l v has needs 0=⟨has,needs,[],true⟩:=rfl
attribute [local simp] Qyb
def Qld (r:Nat):List (Nat×Nat):=if r=13 then [(4,25),(16,25)]else []
noncomputable def s63:List D->Option D:=sp3 (Qy QO) Qbh Qbh QaI λb i k=>if ValidB b/\0<=i/\i < b.length/\0<=k/\k < b.length then some (QoL b i.toNat k.toNat)else none
set_option maxHeartbeats 4000000 in
theorem QRO:∀ds d,s63 ds=some d->PureC Tryz.prog 63 ds d:=QcG λb ii kk r hr=>by
 split at hr
 .rename_i hc;obtain⟨hv,lN,pY,hk0,rF⟩:=hc;obtain⟨i,rfl⟩:∃i:Nat,ii=i:=⟨ii.toNat,by omega⟩
  obtain⟨k,rfl⟩:∃k:Nat,kk=k:=⟨kk.toNat,by omega⟩
  cases hr;have hi:i < b.length:=by omega
  have hk:k < b.length:=by omega
  rw[Int.toNat_natCast,Int.toNat_natCast,Qq9 hv hi hk];have aQ:=hv.ok;have aX:=aQ.le;have gW:=aQ.pos;have cO:=QHg aQ;have hm3:(Qq b).length<=3:=by have:=hv.lost; simpa[QU]using this
  have hLl:(QU b).length=(Qq b).length:=by simp[QU]
  have hn:b.length<=140737488355328:=by omega
  have mP:b.length<=8:=aX;have hmI:((Qq b).length:Int)<=140737488355328:=by omega
  have hmI8:8*((Qq b).length:Int)<=140737488355328:=by omega
  have yU:(b.length+1) ^ (Qq b).length<=729:=by
   refine Nat.le_trans (Nat.pow_le_pow_left (by omega:b.length+1<=9) _) (Nat.le_trans (Nat.pow_le_pow_right (by omega) hm3) (by decide))
  have hk1':(k:Int) < b.length:=rF;have hpw1:1<=(b.length+1) ^ (Qq b).length:=Nat.pow_pos (by omega)
  refine Qm (QbT QHx Qct QbC QcU 135 Qlk [] Qld (λ_=>0)) Tryz.func63 rfl rfl (Zb rfl) (by kernel_rfl) ?_
  rw[Tryz.results63];simp[Qlk,l63,s46,s41,QR,Qe,Qg,QK,Qac,mP,aQ,hLl,hmI,hmI8,QHN,Qz];generalize aC:Cx.loop _ _ _=aE;have oW:aE=some (if(List.range ((b.length+1) ^ (Qq b).length - 1+1)).all (λs=>!QB6 b i k (dgs (b.length+1) (Qq b).length s))=true then(.ret,⟨[(6,.d (DB false))],[],[],[]⟩)else(.ret,⟨[(6,.d (DB true))],[],[],[]⟩)):=by
   refine Qtr aC (λs=>⟨[(0,.d (.sl 5 (b.map QO.enc))),(1,.d (DI i)),(2,.d (DI k)),(7,.d (.sl 1 ((QU b).map Qt.enc))),(8,.loc 8 0),(9,.bs 22 0 (Qq b).length 1)],[(8,[.d (.sl 1 ((QI b).map Qt.enc)),.d (.sl 1 ((QV b).map Qt.enc)),.d (.sl 2 [])]),(22,QPw (Qq b).length (λj=>DI (((dgs (b.length+1) (Qq b).length s).getD j 0:Nat):Int)))],[],[]⟩) _ _ _ _ ?_ (by show _ < 281474976710656; omega) (by simp) (by simp) ?_
   .simp only[QqJ];simp
   .intro s hs;have hVl:=Qpm (b.length+1) (Qq b).length s;have hVlt:∀x∈dgs (b.length+1) (Qq b).length s,x < b.length+1:=λx hx=>QuL (by omega) x hx
    have kC:=Qrj (N:=b.length+1) (by omega) (m:=(Qq b).length) (n:=s) (by omega)
    generalize dgs (b.length+1) (Qq b).length s=V at*;have uF:=Quv (b.length+1) V;have hI:∀k,k<=(Qq b).length->ChInv b.length (Qq b) V (QI b) (QV b) k:=λk hk=>QDj hv hVlt hVl k hk;have hO:∀k,k<=(Qq b).length->PrOk ⟨(chK b.length (Qq b) V (QI b) (QV b) k).has,(chK b.length (Qq b) V (QI b) (QV b) k).needs,[]⟩:=λk hk=>QFM hv (hI k hk);have rF:¬QI b=[]:=λh=>by have:=QN b; rw[h]at this; simp at this; omega
    have hk2:¬QV b=[]:=λh=>by have:=QS b; rw[h]at this; simp at this; omega
    have oY:b.length*8<=140737488355328:=by omega
    simp[Qlk,Qld,QN,QS,Qaf,Qz,rF,hk2,hn,oY,QCl]
    (generalize aC:Cx.loop _ _ _=aE; apply Qi aC (λq=>⟨[(0,.d (.sl 5 (b.map QO.enc))),(1,.d (DI i)),(2,.d (DI k)),(7,.d (.sl 1 ((QU b).map Qt.enc))),(8,.loc 8 0),(9,.bs 22 0 (Qq b).length 1),(10,.loc 10 0),(11,.sl 2 ((chK b.length (Qq b) V (QI b) (QV b) q).more.map Qcg.enc) (.tok 11)),(12,.d (DB (chK b.length (Qq b) V (QI b) (QV b) q).is)),(13,.d (DI q)),(26,.bs 26 0 b.length 1),(30,.bs 30 0 b.length 1)],[(8,[.d (.sl 1 ((QI b).map Qt.enc)),.d (.sl 1 ((QV b).map Qt.enc)),.d (.sl 2 [])]),(22,QPw (Qq b).length (λj=>DI ((V.getD j 0:Nat):Int))),(10,[.bs 26 0 b.length 1,.bs 30 0 b.length 1,.d (.v (.slice none 0 0))]),(26,QPw b.length (λj=>DI ((chK b.length (Qq b) V (QI b) (QV b) q).has.getD j 0))),(30,QPw b.length (λj=>DI ((chK b.length (Qq b) V (QI b) (QV b) q).needs.getD j 0)))],[11],[]⟩) (Qq b).length (by first | (simp; done) | (simp; rfl) | (simp; simp[*])); rotate_left; (show _ < 281474976710656; omega); rfl; rotate_left; all_goals clear aC)
    .intro q hq;have gT:(q:Int) < (Qq b).length:=by omega
     have w3:=Qa ((q:Int)+1) (by omega) (by omega)
     have hqL:q < (QU b).length:=by omega
     have hLj:(QU b)[q]=(((Qq b)[q]:Nat):Int):=by simp[QU]
     have hqV:q < V.length:=by omega
     have hg:(Qq b).getD q 0=(Qq b)[q]:=Qj _ _ _ hq;have hgV:V.getD q 0=V[q]:=Qj _ _ _ hqV;have hVq:=hVlt V[q] (Ze hqV);have sI:=Qec (Ze hq);have I:=hI q (by omega)
     have Ok:=hO q (by omega)
     have rA:=I.ml;have e:chK b.length (Qq b) V (QI b) (QV b) (q+1)=QnU b.length (Qq b) V (chK b.length (Qq b) V (QI b) (QV b) q) q:=rfl;rw[e];unfold QnU;rw[hg,hgV];have h1l:=I.hl;have h2l:=I.nl;have hvx:=Ok.vals V[q];have lF:=Ok.vals (Qq b)[q];generalize(chK b.length (Qq b) V (QI b) (QV b) q)=C at*;obtain⟨Ch,Cn,Cm,Ci⟩:=C;simp only at h1l h2l rA hvx lF;rw[QN]at h1l;rw[QS]at h2l;by_cases hx:V[q]=b.length
     .have dU:(((V[q]:Nat):Int)==(b.length:Int))=true:=by rw[hx]; simp
      rw[if_pos hx];simp[Qlk,hLl,Qaf,Qz,Qb,Qf,hq,gT,hqV,w3,dU]
     .have dU:(((V[q]:Nat):Int)==(b.length:Int))=false:=by simp; omega
      rw[if_neg hx];have hxb:V[q] < b.length:=by omega
      have hxb1:V[q]+1<=b.length:=hxb;have hlb1:(Qq b)[q]+1<=b.length:=sI;have pE:Cm.length+1<=140737488355328:=by omega
      have uH:(Cm.length+1)*16<=140737488355328:=by omega
      have w5:=Qa (Ch.getD V[q] 0 - 1) (by omega) (by omega)
      have w6:=Qa (Cn.getD (Qq b)[q] 0 - 1) (by omega) (by omega)
      have u1:=QpS (L:=Ch) (x:=V[q]) (v:=Ch.getD V[q] 0 - 1) (by omega)
      have u2:=QpS (L:=Cn) (x:=(Qq b)[q]) (v:=Cn.getD (Qq b)[q] 0 - 1) (by omega)
      simp only[Zd]at u1 u2 w5 w6;cases Ci with
      | true=>simp[Qlk,Qld,Qc,QJ,hLl,Qaf,Qz,Qb,Qf,Qp,hq,gT,hqV,w3,dU,hLj,hxb,hxb1,sI,hlb1,pE,uH,w5,w6,u1,u2]
      | false=>simp[Qlk,Qld,Qc,QJ,hLl,Qaf,Qz,Qb,Qf,Qp,hq,gT,hqV,w3,dU,hLj,hxb,hxb1,sI,hlb1,pE,uH,w5,w6,u1,u2]
    .have I:=hI _ (Zr _);have Ok:=hO _ (Zr _);have hck:QB6 b i k V=((chK b.length (Qq b) V (QI b) (QV b) (Qq b).length).is&&QaT ⟨(chK b.length (Qq b) V (QI b) (QV b) (Qq b).length).has,(chK b.length (Qq b) V (QI b) (QV b) (Qq b).length).needs,[]⟩&&Qao b i (chK b.length (Qq b) V (QI b) (QV b) (Qq b).length).more b.length k):=rfl;have hedg:=Qzg hv I;have h1l:=I.hl;have h2l:=I.nl;have rA:=I.ml;rw[QN]at h1l;rw[QS]at h2l;generalize chK b.length (Qq b) V (QI b) (QV b) (Qq b).length=C at*;obtain⟨Ch,Cn,Cm,Ci⟩:=C;simp only at h1l h2l rA hck hedg Ok;rw[hck];have y6:s56 [.agg [.sl 1 (Ch.map Qt.enc),.sl 1 (Cn.map Qt.enc),.sl 0 []]]=some (DB (QaT ⟨Ch,Cn,[]⟩)):=by
      have e:Qqw.dec [.sl 1 (Ch.map Qt.enc),.sl 1 (Cn.map Qt.enc),.sl 0 []]=some ⟨Ch,Cn,[]⟩:=by simp[Qqw,QQ,Qar]
      simp[s56,sp1,Qbq,e,Ok]
     have lU:=QzN Ch;have kB:=QzN Cn;rw[h1l]at lU;rw[h2l]at kB;simp only[Zd]at lU kB;generalize hsv:QaT ⟨Ch,Cn,[]⟩=sv at*;cases Ci with
     | false=>
      simp[Qlk,hLl,Qaf,Qz]
      (generalize aC:Cx.loop _ _ _=aE; apply Qi aC (λr=>⟨[(0,.d (.sl 5 (b.map QO.enc))),(1,.d (DI i)),(2,.d (DI k)),(7,.d (.sl 1 ((QU b).map Qt.enc))),(8,.loc 8 0),(9,.bs 22 0 (Qq b).length 1),(15,.d (DI r))],[(8,[.d (.sl 1 ((QI b).map Qt.enc)),.d (.sl 1 ((QV b).map Qt.enc)),.d (.sl 2 [])]),(22,QPw (Qq b).length (λj=>DI (if j < r then 0 else((V.getD j 0:Nat):Int))))],[],[]⟩) (QaF (b.length+1) V) (by first | (simp; done) | (simp; rfl) | (simp; simp[*])); rotate_left; (show _ < 281474976710656; omega); rfl; rotate_left; all_goals clear aC)
      .intro r hr;have hrm:r < (Qq b).length:=by omega
       have hrm1:r+1<=(Qq b).length:=hrm;have lP:(r:Int) < (Qq b).length:=by omega
       have hrv:r < V.length:=by omega
       have hr3:=QlA hr;rw[Qj _ _ _ hrv]at hr3;have hr4:V[r]=b.length:=by omega
       have w4:=Qa ((r:Int)+1) (by omega) (by omega)
       have hz:=QlO V r;simp only[Zd]at hz;simp[Qlk,hLl,Qaf,Qz,Qb,Qf,Qp,hrm,hrm1,lP,hrv,hr4,w4,hz]
      .by_cases gM:QaF (b.length+1) V=(Qq b).length
       .have sD:¬s < (b.length+1) ^ (Qq b).length - 1:=by have:=kC.2 gM; omega
        simp[Qlk,hLl,Qaf,Qz,gM,sD]
       .have aR:QaF (b.length+1) V < (Qq b).length:=by omega
        obtain⟨n1,n2⟩:=kC.1 aR;have hs1':s < (b.length+1) ^ (Qq b).length - 1:=by omega
        have hod:=QlP (N:=b.length+1) (V:=V) (by omega)
        rw[n2]at hod;have bV:=Qgv (N:=b.length+1) (v:=V) (by omega)
        have hrv:QaF (b.length+1) V < V.length:=by omega
        rw[Qj _ _ _ hrv]at hod bV;have lL:=hVlt V[QaF (b.length+1) V] (Ze hrv);generalize hR:QaF (b.length+1) V=r at*;have hrm1:r+1<=(Qq b).length:=aR;have lP:(r:Int) < (Qq b).length:=by omega
        have hre:((r:Int)==((Qq b).length:Int))=false:=by simp; omega
        have aS:(((V[r]:Nat):Int)==(b.length:Int))=false:=by simp; omega
        have w4:=Qa (((V[r]:Nat):Int)+1) (by omega) (by omega)
        simp only[Zd]at hod;simp[Qlk,hLl,Qaf,Qz,Qb,Qf,Qp,aR,hrm1,lP,hrv,aS,hre,w4,hod,hs1']
     | true=>
      cases sv with
      | false=>
       simp[Qlk,hLl,Qaf,Qz,Qb,Qx,QaG,Function.comp_def,hn,lU,kB,y6]
       (generalize aC:Cx.loop _ _ _=aE; apply Qi aC (λr=>⟨[(0,.d (.sl 5 (b.map QO.enc))),(1,.d (DI i)),(2,.d (DI k)),(7,.d (.sl 1 ((QU b).map Qt.enc))),(8,.loc 8 0),(9,.bs 22 0 (Qq b).length 1),(15,.d (DI r))],[(8,[.d (.sl 1 ((QI b).map Qt.enc)),.d (.sl 1 ((QV b).map Qt.enc)),.d (.sl 2 [])]),(22,QPw (Qq b).length (λj=>DI (if j < r then 0 else((V.getD j 0:Nat):Int))))],[],[]⟩) (QaF (b.length+1) V) (by first | (simp; done) | (simp; rfl) | (simp; simp[*])); rotate_left; (show _ < 281474976710656; omega); rfl; rotate_left; all_goals clear aC)
       .intro r hr;have hrm:r < (Qq b).length:=by omega
        have hrm1:r+1<=(Qq b).length:=hrm;have lP:(r:Int) < (Qq b).length:=by omega
        have hrv:r < V.length:=by omega
        have hr3:=QlA hr;rw[Qj _ _ _ hrv]at hr3;have hr4:V[r]=b.length:=by omega
        have w4:=Qa ((r:Int)+1) (by omega) (by omega)
        have hz:=QlO V r;simp only[Zd]at hz;simp[Qlk,hLl,Qaf,Qz,Qb,Qf,Qp,hrm,hrm1,lP,hrv,hr4,w4,hz]
       .by_cases gM:QaF (b.length+1) V=(Qq b).length
        .have sD:¬s < (b.length+1) ^ (Qq b).length - 1:=by have:=kC.2 gM; omega
         simp[Qlk,hLl,Qaf,Qz,gM,sD]
        .have aR:QaF (b.length+1) V < (Qq b).length:=by omega
         obtain⟨n1,n2⟩:=kC.1 aR;have hs1':s < (b.length+1) ^ (Qq b).length - 1:=by omega
         have hod:=QlP (N:=b.length+1) (V:=V) (by omega)
         rw[n2]at hod;have bV:=Qgv (N:=b.length+1) (v:=V) (by omega)
         have hrv:QaF (b.length+1) V < V.length:=by omega
         rw[Qj _ _ _ hrv]at hod bV;have lL:=hVlt V[QaF (b.length+1) V] (Ze hrv);generalize hR:QaF (b.length+1) V=r at*;have hrm1:r+1<=(Qq b).length:=aR;have lP:(r:Int) < (Qq b).length:=by omega
         have hre:((r:Int)==((Qq b).length:Int))=false:=by simp; omega
         have aS:(((V[r]:Nat):Int)==(b.length:Int))=false:=by simp; omega
         have w4:=Qa (((V[r]:Nat):Int)+1) (by omega) (by omega)
         simp only[Zd]at hod;simp[Qlk,hLl,Qaf,Qz,Qb,Qf,Qp,aR,hrm1,lP,hrv,aS,hre,w4,hod,hs1']
      | true=>
       have hE:=hedg rfl;have h38:s38 [.sl 5 (b.map QO.enc),DI i,.sl 2 (Cm.map Qcg.enc)]=some (.sl 1 (((List.range b.length).map (Qao b i Cm b.length)).map rBl.enc)):=by
        have c:(0:Int)<=(i:Int)/\(i:Int) < b.length/\b.length<=8/\bkB b=true/\Cm.length<=1000/\EdgOk b Cm:=⟨by omega,by omega,mP,cO,by omega,hE⟩
        simp[s38,sp3,QR,Qgb,c,Qxy]
       cases hR:Qao b i Cm b.length k with
       | true=>
        simp[Qlk,hLl,Qaf,Qz,Qb,Qx,QaG,Function.comp_def,hn,lU,kB,y6,h38,QpG,hk,hk1',hR]
       | false=>
        simp[Qlk,hLl,Qaf,Qz,Qb,Qx,QaG,Function.comp_def,hn,lU,kB,y6,h38,QpG,hk,hk1',hR]
        (generalize aC:Cx.loop _ _ _=aE; apply Qi aC (λr=>⟨[(0,.d (.sl 5 (b.map QO.enc))),(1,.d (DI i)),(2,.d (DI k)),(7,.d (.sl 1 ((QU b).map Qt.enc))),(8,.loc 8 0),(9,.bs 22 0 (Qq b).length 1),(15,.d (DI r))],[(8,[.d (.sl 1 ((QI b).map Qt.enc)),.d (.sl 1 ((QV b).map Qt.enc)),.d (.sl 2 [])]),(22,QPw (Qq b).length (λj=>DI (if j < r then 0 else((V.getD j 0:Nat):Int))))],[],[]⟩) (QaF (b.length+1) V) (by first | (simp; done) | (simp; rfl) | (simp; simp[*])); rotate_left; (show _ < 281474976710656; omega); rfl; rotate_left; all_goals clear aC)
        .intro r hr;have hrm:r < (Qq b).length:=by omega
         have hrm1:r+1<=(Qq b).length:=hrm;have lP:(r:Int) < (Qq b).length:=by omega
         have hrv:r < V.length:=by omega
         have hr3:=QlA hr;rw[Qj _ _ _ hrv]at hr3;have hr4:V[r]=b.length:=by omega
         have w4:=Qa ((r:Int)+1) (by omega) (by omega)
         have hz:=QlO V r;simp only[Zd]at hz;simp[Qlk,hLl,Qaf,Qz,Qb,Qf,Qp,hrm,hrm1,lP,hrv,hr4,w4,hz]
        .by_cases gM:QaF (b.length+1) V=(Qq b).length
         .have sD:¬s < (b.length+1) ^ (Qq b).length - 1:=by have:=kC.2 gM; omega
          simp[Qlk,hLl,Qaf,Qz,gM,sD]
         .have aR:QaF (b.length+1) V < (Qq b).length:=by omega
          obtain⟨n1,n2⟩:=kC.1 aR;have hs1':s < (b.length+1) ^ (Qq b).length - 1:=by omega
          have hod:=QlP (N:=b.length+1) (V:=V) (by omega)
          rw[n2]at hod;have bV:=Qgv (N:=b.length+1) (v:=V) (by omega)
          have hrv:QaF (b.length+1) V < V.length:=by omega
          rw[Qj _ _ _ hrv]at hod bV;have lL:=hVlt V[QaF (b.length+1) V] (Ze hrv);generalize hR:QaF (b.length+1) V=r at*;have hrm1:r+1<=(Qq b).length:=aR;have lP:(r:Int) < (Qq b).length:=by omega
          have hre:((r:Int)==((Qq b).length:Int))=false:=by simp; omega
          have aS:(((V[r]:Nat):Int)==(b.length:Int))=false:=by simp; omega
          have w4:=Qa (((V[r]:Nat):Int)+1) (by omega) (by omega)
          simp only[Zd]at hod;simp[Qlk,hLl,Qaf,Qz,Qb,Qf,Qp,aR,hrm1,lP,hrv,aS,hre,w4,hod,hs1']
  have e1:(b.length+1) ^ (Qq b).length - 1+1=(b.length+1) ^ (Qq b).length:=by omega
  rw[oW,e1];have e2:QvJ b i k=!(List.range ((b.length+1) ^ (Qq b).length)).all (λs=>!QB6 b i k (dgs (b.length+1) (Qq b).length s)):=by
   unfold QvJ;rw[List.all_eq_not_any_not]; simp
  rw[e2];cases hall:(List.range ((b.length+1) ^ (Qq b).length)).all (λs=>!QB6 b i k (dgs (b.length+1) (Qq b).length s))with
  | true=>simp
  | false=>simp
 .cases hr
theorem QyY (xs:Array Value) (w:World):(callFunc 63 xs).run Tryz.prog w= .ok (.enter 63 xs) w:=by kernel_rfl
end Go.Proofs.YtnfeakhkfehkhaaGreatDoor
