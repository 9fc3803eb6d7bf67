/-
  The program of the trace chapter: where wax must be. Conditions: none.
-/
import Derived.Test.YtnfeakhkfehkhaaGreatDoorZPrL
set_option linter.unusedSimpArgs false
set_option linter.unusedVariables false
namespace Go.Proofs.YtnfeakhkfehkhaaGreatDoor
open Go.RowKit
def QjR (r:Nat):List (Nat×Option Nat):=match r with
 | 0=>kpn [2,3,4]
 | 1=>kpn [2,3,4,18,19]
 | 2=>kpn [2,3,4,18,19,20]
 | 3=>kpn [2,3,4,5,18,19]
 | 4=>kpn [2,3,4,18,19]
 | 5=>kpn [2,3,4,18,19]
 | 6=>kpn [2,3,4,26]
 | 7=>kpn [2,3,4,6]
 | 8=>kpn [2,3,4,6,7]
 | 9=>kpn [2,3,4,6,7,8]
 | 10=>kpn [2,3,4,6,7,8,31,32,33]
 | 11=>kpn [2,3,4,6,7,8,31,32,33,34]
 | 12=>kpn [2,3,4,6,7,8,9,10,31,32,33]
 | 13=>kpn [2,3,4,6,7,8,9,10,11,31,32,33]
 | 14=>kpn [2,3,4,6,7,8,9,31,32,33]
 | 15=>kpn [2,3,4,6,7,8,9,31,32,33,62]
 | 16=>kpn [2,3,4,6,7,8,9,31,32,33,64,65,66]
 | 17=>kpn [2,3,4,6,7,8,9,31,32,33,64,65,66,67]
 | 18=>kpn [2,3,4,6,7,8,9,12,13,31,32,33,64,65,66]
 | 19=>kpn [2,3,4,6,7,8,9,31,32,33,64,65,66]
 | 20=>kpn [2,3,4,6,7,8,9,31,32,33,64,65,66]
 | 21=>kpn [2,3,4,6,7,8,31,32,33]
 | 22=>kpn [2,3,4,8,86]
 | 23=>kpn [2,3,4,87,88]
 | 24=>kpn [2,3,4,87,88,89]
 | 25=>kpn [2,3,4,14,15,87,88]
 | 26=>kpn [2,3,4,87,88]
 | 27=>kpn [2,3,4,87,88]
 | 28=>[(4,none)]
 | _=>[]
theorem QH:Qb5.desc= .struct #[{ name:= "has",type:=80,offset:=0,embedded:=false,tag:= "",pkgPath:= "stearin/trace",byteOffset:=0},{ name:= "needs",type:=80,offset:=8,embedded:=false,tag:= "",pkgPath:= "stearin/trace",byteOffset:=64},{ name:= "never",type:=83,offset:=16,embedded:=false,tag:= "",pkgPath:= "stearin/trace",byteOffset:=128}]:=rfl
theorem QG:Qb5.size=80:=rfl
theorem QDw (eqs:List (TypeId×Nat)) (Δ:Nat->List D->Option D) (ev:Operand->X) (boxes:List (Nat×List X)) (toks:List Nat):aop tys eqs Δ (.alloc 85) ev boxes toks=some (.new ⟨QPw 80 (Qbi (λ_=>0) (λ_=>0) noN),none⟩):=by
 simp only[aop,show tys 85=some Qb5 from rfl]; rfl
theorem updD {n:Nat} :Q2 (λt=>DB (decide (t < n))) n (DB true)=λt=>DB (decide (t < n+1)):=by
 funext t;unfold Q2;split
 .rename_i h; subst h; simp
 .have:decide (t < n)=decide (t < n+1):=by rw[decide_eq_decide]; omega
  show DB (decide (t < n))=_;rw[this]
theorem Qlw (al:List Nat) (n:Nat) (g:Nat->D):(QPw n g).map (X.keepP al)=QPw n g:=by
 unfold QPw; rw[List.map_map]; rfl
theorem QhM (al:List Nat) {h n:Nat->Int} {v:Nat->Nat->Bool} {d e:D} :(c87 h n v (.d d) (.d e)).map (X.keepP al)=c87 h n v (.d d) (.d e):=by
 unfold c87; rw[List.map_append,Qlw]; rfl
theorem QHW (f:Nat->Bool):(List.range 8).map (X.d ∘ QeP ∘ λt=>Value.bool (f t))=QPw 8 (λt=>DB (f t)):=rfl
theorem Qa6 (h n:Nat->Int) (v:Nat->Nat->Bool):(List.range 80).map (X.d ∘ Qbi h n v)=QPw 80 (Qbi h n v):=rfl
theorem QnB (f:Nat->Bool):(List.range 8).map (X.d ∘ λt=>DB (f t))=QPw 8 (λt=>DB (f t)):=rfl
theorem Qci {n:Nat} {g:Nat->D} :(QPw n g).drop n=[]:=List.drop_of_length_le (by rw[Qb]; exact Zr _)
theorem QFx (b:List Bat) (i s k:Nat):Qf8 b i s 0 k=false:=rfl
attribute [local simp] QFx
attribute [local simp] Qvd
theorem Qpb (f:Nat->Bool):QcR ((List.range 8).map λt=>DB (f t))=some ((List.range 8).map λt=>Value.bool (f t)):=Qjh f _
theorem Qi8 (f:Nat->Bool):Qb7 ((List.range 8).map λt=>Value.bool (f t))=43690:=by
 simp[Qb7,List.range,List.range.loop]
def e8 (f g:Nat->Bool):Bool:=(List.range 8).all λk=>f k==g k
theorem QzB (a b:Bool):((Qfw (.bool a))=(Qfw (.bool b)))=(a=b):=by cases a<;>cases b<;>simp[Qfw]
theorem eq8 (f g:Nat->Bool):eqV ((List.range 8).map λt=>Value.bool (f t)) ((List.range 8).map λt=>Value.bool (g t))=e8 f g:=by
 have h0:((List.range 8).map λt=>Value.bool (f t)).any isS=false:=rfl;unfold eqV e8;rw[h0,if_neg (by simp),Bool.eq_iff_iff,beq_iff_eq,Zl,List.map_map,List.map_map,List.map_inj_left]
 refine forall_congr' λa=>forall_congr' λ_=>?_;simp only[Function.comp,QzB,beq_iff_eq]
theorem QBh (f g:Nat->Bool):((List.range 8).map (Qfw ∘ λt=>Value.bool (f t))==(List.range 8).map (Qfw ∘ λt=>Value.bool (g t)))=e8 f g:=by
 rw[<-eq8 f g];have h0:((List.range 8).map λt=>Value.bool (f t)).any isS=false:=rfl;unfold eqV;rw[h0,if_neg (by simp),List.map_map,List.map_map]
theorem QED {f g:Nat->Bool} (h:e8 f g=true):∀k,k < 8->f k=g k:=λk hk=>by
 unfold e8 at h;have:=Zl.1 h k (Zm.2 hk);simpa using this
theorem h53v (H M:Nat->Int) (v:Nat->Nat->Bool):s53 [.agg (Qdk H M v)]=some (DB (QcJ (Sup.of H M v))):=by
 have hd:(QeC QqI).dec (.agg (Qdk H M v))=some (Sup.of H M v):=Qlp H M v;simp only[s53,sp1,hd]; rfl
theorem QH7 {l:List Tak} {f:Nat->Bool} (hl:l.length<=8) (ht:∀t∈l,0<=t.fr/\t.fr < 8):QlC [.sl 2 (l.map Qb1.enc),.fn 100 [] [.dat 8 [(List.range 8).map λk=>DB (f k)] 0 0]]=some (DB (l.any λt=>f t.fr.toNat)):=by
 have hd:(QbR (Qjy 100)).dec (.fn 100 [] [.dat 8 [(List.range 8).map λk=>DB (f k)] 0 0])=some (Oct.of f):=QaN (Qpr 100) (Oct.of f);simp only[QlC,sp2,QdQ,hd];rw[if_pos ⟨by omega,ht⟩]
 have e:(l.any λt=>(Oct.of f).f t.fr.toNat)=l.any λt=>f t.fr.toNat:=by
  rw[Bool.eq_iff_iff,Zy,Zy];refine exists_congr λt=>and_congr_right λh=>?_;have:=ht t h;rw[Oct.of_f,if_pos (by omega)]
 rw[e]; rfl
def Qwa (A D:Nat->Bool) (q x:Nat):Bool:=if x < q then A x&&D x else A x
theorem QEv (A D:Nat->Bool) (x:Nat):Qwa A D 0 x=A x:=by simp[Qwa]
attribute [local simp] QEv
theorem QAr (A D:Nat->Bool) (q:Nat):Qwa A D q q=A q:=by simp[Qwa]
theorem Qta (A D:Nat->Bool) (q:Nat):Q2 (Qwa A D q) q (A q&&D q)=Qwa A D (q+1):=by
 funext x;unfold Q2 Qwa;by_cases e:x=q
 .subst e; rw[if_pos rfl,if_pos (by omega)]
 .rw[if_neg e];by_cases h:x < q
  .rw[if_pos h,if_pos (by omega)]
  .rw[if_neg h,if_neg (by omega)]
theorem QhO {f g:Nat->Bool} (h:∀t,t < 8->f t=g t):QPw 8 (λt=>DB (f t))=QPw 8 (λt=>DB (g t)):=Qdp λt ht=>by rw[h t ht]
theorem QzV (b:List Bat) (i k:Nat):QdJ b i 0 k=decide (k < b.length):=by simp[QdJ]
attribute [local simp] QzV
noncomputable instance (x:Bx) (b:List Bat):Decidable (x=QdP b):=Classical.propDecidable _
noncomputable def g58:List (Nat×(List D->Option D)):=[(99,s99),(92,QlC),(53,s53)]
theorem dg58:Qay Tryz.prog (Qas g58):=Ql (Ql (Ql QB Qtl QG6) QvB Qxg) QFL ok99
theorem QtN (xs:Array Value) (w:World):(callFunc 58 xs).run Tryz.prog w= .ok (.enter 58 xs) w:=by kernel_rfl
noncomputable def s58:List D->Option D:=sp2 (QeC rBx) Qbh (QeC Qyv) λx i=>if ValidB x.bats/\x=QdP x.bats/\0<=i/\i < x.bats.length then some (Oct.of (Qdl x.bats i.toNat))else none
set_option maxHeartbeats 8000000 in
theorem QH5:∀ds d,s58 ds=some d->PureC Tryz.prog 58 ds d:=QaR λx ii r hr=>by
 split at hr
 .rename_i hc;obtain⟨hv,hx,lN,pY⟩:=hc;cases hr;generalize fE:x.bats=b at*;subst hx;obtain⟨i,rfl⟩:∃i:Nat,ii=i:=⟨ii.toNat,by omega⟩
  have hi:i < b.length:=by omega
  have aQ:=hv.ok;have aX:=aQ.le;refine Qm (Qx9 dg58 Qct QDT 102 QjR [] (λ_=>[]) (λ_=>0)) Tryz.func58 rfl rfl (Zb rfl) (by kernel_rfl) ?_
  rw[Tryz.results58];have hz:=QDw [] (λ_ _=>none) (λ_=> .d .top) [] [];simp[-Qb5]at hz;have h99:s99 [.agg (rBx.enc (QdP b))]=some (.fn 119 [] [.dat 82 [rBx.enc (QdP b)] 0 0]):=by
   simp only[s99,sp1,Qbq,rBx.de]; rfl
  have fU:QvF (QU b):=by
   refine⟨hv.lost,λx hx=>?_⟩;unfold QU at hx;obtain⟨k,hk,rfl⟩:=List.mem_map.1 hx;have:=Qec hk;omega
  have xI:QEg [.dat 82 [rBx.enc (QdP b)] 0 0]=some (QhT (QU b)):=by
   simp only[QEg,rBx.de];exact if_pos fU
  simp only[QdP,Qgz]at h99 xI|-;generalize hH:(λj=>(QI b).getD j 0)=H at*;generalize hM:(λj=>(QV b).getD j 0)=M at*;simp[-Qb5,-Qa8,Qr,QjR,Qgz,Qax,QC,QL,Qah,QF]
  (generalize aC:Cx.loop _ _ _=aE; apply Qi aC (λq=>⟨[(2,.loc 2 0),(3,.loc 3 0),(4,.loc 4 0),(18,.d (DI b.length)),(19,.d (DI q))],[(2,c87 H M noN (.d (.sl 5 (b.map QO.enc))) (.d (.sl 1 ((QU b).map Qt.enc)))),(3,[.d (DI i)]),(4,QPw 8 (λt=>DB (decide (t < q))))],[],[]⟩) b.length (by first | (simp; done) | (simp; rfl) | (simp; simp[*])); rotate_left; (show _ < 281474976710656; omega); rfl; rotate_left; all_goals clear aC)
  .intro q hq;have gT:(q:Int) < b.length:=by omega
   have kO:(q:Int) < 8:=by omega
   have hq8n:q < 8:=by omega
   have iA:q+1<=8:=by omega
   have w1:=Qa ((q:Int)+1) (by omega) (by omega)
   simp[-Qa8,QjR,Qah,QF,Qaf,Qz,Qb,Qp,updD,gT,kO,hq8n,iA,w1];done
  .simp[-Qb5,-Qa8,Qr,Qs,QjR,g58,QC,Qah,QF,Qaf,Qz,Qak,Q8,h99,xI,Qlw,QhM];have hLN:=fU.1;have lF:(QhT (QU b)).length=2 ^ (QU b).length:=by simp[QhT]
   have hva:∀j v,(QhT (QU b))[j]?=some v->j < 2 ^ (QU b).length/\v=QEL (QU b) j:=λj v h=>by
    have hj:j < 2 ^ (QU b).length:=by
     have:=(Zi.1 h).1
     rwa [lF]at this
    rw[Qmn hj]at h;exact⟨hj,(Option.some.inj h).symm⟩
   have nJ:(QU b).length<=3:=hLN
   (generalize aC:Cx.rounds _ _ _ _ _ _ _ _=aE; have qK:=QiG aC (λj=>⟨[(2,.loc 2 0),(3,.loc 3 0),(4,.loc 4 0),(26,.d (.fn 119 [] [.dat 82 [Qdk H M noN++[.sl 5 (b.map QO.enc),.sl 1 ((QU b).map Qt.enc)]] 0 0]))],[(2,c87 H M noN (.d (.sl 5 (b.map QO.enc))) (.d (.sl 1 ((QU b).map Qt.enc)))),(3,[.d (DI i)]),(4,QPw 8 (λt=>DB (QdJ b i j t)))],[],[]⟩) (by first | rfl | (simp; done) | (simp; rfl)) ?_; rotate_left; all_goals clear aC)
   .intro j v hvj;obtain⟨hj,rfl⟩:=hva j v hvj;simp only[QEL];simp[-Qb5,-Qa8,Qr,QH,QG,hz,QjR,QC,QL,Qah,QF,Qaf,Qz,QHW,Qcn,Qx,Qb,Qa6,Qci]
    (generalize aC:Cx.loop _ _ _=aE; apply Qi aC (λt=>⟨[(2,.loc 2 0),(3,.loc 3 0),(4,.loc 4 0),(6,.loc 6 0),(7,.loc 7 0),(8,.loc 8 0),(31,.d (.sl 5 (b.map QO.enc))),(32,.d (DI b.length)),(33,.d (DI t))],[(2,c87 H M noN (.d (.sl 5 (b.map QO.enc))) (.d (.sl 1 ((QU b).map Qt.enc)))),(3,[.d (DI i)]),(4,QPw 8 (λt=>DB (QdJ b i j t))),(6,QPw 8 (λt=>DB (Qoi (QU b) j (QU b).length t))),(7,QPw 80 (Qbi H M (QhQ (Qf8 b i j t) t))),(8,QPw 8 (λx=>DB (Qf8 b i j t x)))],[],[]⟩) b.length (by first | (simp; done) | (simp; rfl) | (simp; simp[*])); rotate_left; (show _ < 281474976710656; omega); rfl; rotate_left; all_goals clear aC)
    .intro t ht;have dJ:(t:Int) < b.length:=by omega
     have jD:(t:Int) < 8:=by omega
     have fC:t < 8:=by omega
     have lB:t+1<=8:=by omega
     have ht8k:t<=8:=by omega
     have xL:(t:Int)<=8:=by omega
     have w1:=Qa ((t:Int)+1) (by omega) (by omega)
     have hb:=aQ.at ht;have htk:=Qdy (l:=b[t].takes) hb.asc hb.fr;have cE:=Qun (i:=i) (s:=j) aQ ht;have hSF:Qv2 b j=Qoi (QU b) j (QU b).length:=rfl;rw[hSF]at cE;have sV:=QH7 (l:=b[t].takes) (f:=Qf8 b i j t) (by omega) λx hx=>by have:=hb.fr x hx; omega
     have hcg:QhQ (Qf8 b i j (t+1)) t=QhQ (Qf8 b i j t) t:=QrG λx hx=>by rw[cE,Q3 _ _ (by omega)]
     have zK:Qf8 b i j (t+1) t=(decide (t=i)||(b[t].lost&&!Qoi (QU b) j (QU b).length t)||b[t].takes.any λq=>Qf8 b i j t q.fr.toNat):=by rw[cE,Qae]
     have fA:Q2 (λx=>DB (Qf8 b i j t x)) t (DB (Qf8 b i j (t+1) t))=λx=>DB (Qf8 b i j (t+1) x):=by rw[QeY,cE,Qae]
     clear cE;generalize yP:Qf8 b i j (t+1)=R' at*;generalize Qf8 b i j t=R at*;generalize QdJ b i j=A at*;generalize Qoi (QU b) j (QU b).length=SF at*;generalize nY:(b[t].takes.any λq=>R q.fr.toNat)=c2 at*;have tL:R' t=true->QhQ R' (t+1)=QhQ R t:=λh=>by rw[QrN h,hcg]
     have jL:((t:Int)==(i:Int))=decide (t=i):=by
      rw[Bool.eq_iff_iff,beq_iff_eq,decide_eq_true_eq]; omega
     cases h0:decide (t=i)with
     | true=>
      have jG:R' t=true:=by rw[zK,h0]; rfl
      rw[jG]at fA;rw[h0]at jL;rw[tL jG];simp[-Qb5,-Qa8,QjR,Qh,Qah,Qaf,QF,Qz,Qb,Qf,Qp,ht,dJ,jD,fC,lB,fA,w1,jG,jL];done
     | false=>
      rw[h0]at jL;cases h1:(b[t].lost&&!SF t)with
      | true=>
       have jG:R' t=true:=by rw[zK,h0,h1]; rfl
       rw[jG]at fA;rw[tL jG];rw[Za,Bool.not_eq_true']at h1;simp[-Qb5,-Qa8,QjR,Qh,Qah,Qaf,QF,Qz,Qb,Qf,Qp,ht,dJ,jD,fC,lB,fA,w1,jG,jL,h1.1,h1.2];done
      | false=>
       cases c2 with
       | true=>
        have jG:R' t=true:=by rw[zK,h0,h1]; rfl
        rw[jG]at fA;rw[tL jG];cases h2:b[t].lost with
        | false=>
         simp[-Qb5,-Qa8,QjR,Qh,Qah,Qaf,QF,Qz,Qx,Qb,Qf,Qp,ht,dJ,jD,fC,lB,sV,fA,w1,jG,jL,h2];done
        | true=>
         have h3:SF t=true:=by rw[h2]at h1; simpa using h1
         simp[-Qb5,-Qa8,QjR,Qh,Qah,Qaf,QF,Qz,Qx,Qb,Qf,Qp,ht,dJ,jD,fC,lB,sV,fA,w1,jG,jL,h2,h3];done
       | false=>
        have jG:R' t=false:=by rw[zK,h0,h1]; rfl
        rw[jG]at fA;rw[<-QxU jG];have nC:QhQ R t=QsO R' t 0:=by rw[Quq,hcg]
        rw[nC];have qL:∀q,q < t->(q:Int) < t/\(q:Int) < 8/\q < 8/\q+1<=8/\q < 80/\(16+q*8+t < 80):=λq hq=>by omega
        cases h2:b[t].lost with
        | false=>
         simp[-Qb5,-Qa8,QjR,Qh,Qah,Qaf,QF,Qz,Qx,Qb,Qf,Qp,ht,dJ,jD,fC,lB,sV,fA,jG,xL,jL,h2]
         (generalize aC:Cx.loop _ _ _=aE; apply Qi aC (λq=>⟨[(2,.loc 2 0),(3,.loc 3 0),(4,.loc 4 0),(6,.loc 6 0),(7,.loc 7 0),(8,.loc 8 0),(9,.d (DI t)),(31,.d (.sl 5 (b.map QO.enc))),(32,.d (DI b.length)),(33,.d (DI t)),(64,.bs 8 0 t 1),(65,.d (DI t)),(66,.d (DI q))],[(2,c87 H M noN (.d (.sl 5 (b.map QO.enc))) (.d (.sl 1 ((QU b).map Qt.enc)))),(3,[.d (DI i)]),(4,QPw 8 (λt=>DB (A t))),(6,QPw 8 (λt=>DB (SF t))),(7,QPw 80 (Qbi H M (QsO R' t q))),(8,QPw 8 (λx=>DB (R' x)))],[],[]⟩) t (by first | (simp; done) | (simp; rfl) | (simp; simp[*])); rotate_left; (show _ < 281474976710656; omega); rfl; rotate_left; all_goals clear aC)
         .intro q hq;obtain⟨q1,q2,q3,q4,q5,q6⟩:=qL q hq;have q7:16+q*8+t+1<=80:=by omega
          have q8:(q:Int)+1=((q+1:Nat):Int):=by omega
          have w2:=Qa ((q:Int)+1) (by omega) (by omega)
          have hsv:=Qy5 (h:=H) (n:=M) (v:=QsO R' t q) (z:=R' q) q3 fC;have gJ:¬t < q:=by omega
          rw[QmW];simp[-Qb5,-Qa8,QH,QjR,Qah,Qaf,QF,Qz,Qb,Qf,Qp,jD,q1,q2,q3,q6,q7,w2,hsv];done
         .simp[-Qb5,-Qa8,QjR,Qah,Qaf,QF,Qz,w1];done
        | true=>
         have h3:SF t=true:=by rw[h2]at h1; simpa using h1
         simp[-Qb5,-Qa8,QjR,Qh,Qah,Qaf,QF,Qz,Qx,Qb,Qf,Qp,ht,dJ,jD,fC,lB,sV,fA,jG,xL,jL,h2,h3]
         (generalize aC:Cx.loop _ _ _=aE; apply Qi aC (λq=>⟨[(2,.loc 2 0),(3,.loc 3 0),(4,.loc 4 0),(6,.loc 6 0),(7,.loc 7 0),(8,.loc 8 0),(9,.d (DI t)),(31,.d (.sl 5 (b.map QO.enc))),(32,.d (DI b.length)),(33,.d (DI t)),(64,.bs 8 0 t 1),(65,.d (DI t)),(66,.d (DI q))],[(2,c87 H M noN (.d (.sl 5 (b.map QO.enc))) (.d (.sl 1 ((QU b).map Qt.enc)))),(3,[.d (DI i)]),(4,QPw 8 (λt=>DB (A t))),(6,QPw 8 (λt=>DB (SF t))),(7,QPw 80 (Qbi H M (QsO R' t q))),(8,QPw 8 (λx=>DB (R' x)))],[],[]⟩) t (by first | (simp; done) | (simp; rfl) | (simp; simp[*])); rotate_left; (show _ < 281474976710656; omega); rfl; rotate_left; all_goals clear aC)
         .intro q hq;obtain⟨q1,q2,q3,q4,q5,q6⟩:=qL q hq;have q7:16+q*8+t+1<=80:=by omega
          have q8:(q:Int)+1=((q+1:Nat):Int):=by omega
          have w2:=Qa ((q:Int)+1) (by omega) (by omega)
          have hsv:=Qy5 (h:=H) (n:=M) (v:=QsO R' t q) (z:=R' q) q3 fC;have gJ:¬t < q:=by omega
          rw[QmW];simp[-Qb5,-Qa8,QH,QjR,Qah,Qaf,QF,Qz,Qb,Qf,Qp,jD,q1,q2,q3,q6,q7,w2,hsv];done
         .simp[-Qb5,-Qa8,QjR,Qah,Qaf,QF,Qz,w1];done
    .have hme:mwB b i j=QcJ (Sup.of H M (QhQ (Qf8 b i j b.length) b.length)):=by unfold mwB; rw[<-hH,<-hM]
     have cV:= @Qr8 b i j;have bA:= @Qq3 b i j;have hsu:=λk=> @QkT b i j k;have hSF:Qv2 b j=Qoi (QU b) j (QU b).length:=rfl;generalize Qoi (QU b) j (QU b).length=SF at*;generalize Qf8 b i j b.length=DD at*;generalize QhQ DD b.length=V at*;generalize QdJ b i j=A at*;have jE:=h53v H M V;change s53 [.agg ((List.range 80).map (Qbi H M V))]=_ at jE;cases he:e8 DD A with
     | true=>
      rw[cV (QED he) aQ hi];simp[-Qb5,-Qa8,QjR,Qah,Qaf,QF,Qz,Qx,Qb,QaG,Qpb,Qi8,QBh,Qlw,QhM,he];done
     | false=>
      cases hwk:QcJ (Sup.of H M V)with
      | false=>
       rw[bA (hme.trans hwk)];rw[hwk]at jE;simp[-Qb5,-Qa8,QH,QG,QjR,Qah,Qaf,QF,Qz,Qx,Qb,QaG,Qpb,Qi8,QBh,Qlw,QhM,he,jE];done
      | true=>
       rw[hwk]at jE;rw[QhO (f:=QdJ b i (j+1)) (g:=Qwa A DD 8) λt ht=>by rw[hsu t (hme.trans hwk),Qwa,if_pos ht]]
       simp[-Qb5,-Qa8,QH,QG,QjR,Qah,Qaf,QF,Qz,Qx,Qb,QaG,Qpb,Qi8,QBh,he,jE]
       (generalize aC:Cx.loop _ _ _=aE; apply Qi aC (λq=>⟨[(2,.loc 2 0),(3,.loc 3 0),(4,.loc 4 0),(87,.d (.agg ((List.range 8).map λt=>DB (DD t)))),(88,.d (DI q))],[(2,c87 H M noN (.d (.sl 5 (b.map QO.enc))) (.d (.sl 1 ((QU b).map Qt.enc)))),(3,[.d (DI i)]),(4,QPw 8 (λt=>DB (Qwa A DD q t)))],[],[]⟩) 8 (by first | (simp; done) | (simp; rfl) | (simp; simp[*])); rotate_left; (show _ < 281474976710656; omega); rfl; rotate_left; all_goals clear aC)
       .intro q hq;have kO:(q:Int) < 8:=by omega
        have iA:q+1<=8:=by omega
        have w2:=Qa ((q:Int)+1) (by omega) (by omega)
        have bW:=QAr A DD q;have eM:=Qta A DD q;cases h1:A q with
        | false=>
         rw[h1]at bW eM;rw[Bool.false_and]at eM;simp[-Qb5,-Qa8,QjR,Qah,Qaf,QF,Qz,Qb,Qf,Qp,QeY,hq,kO,iA,w2,bW,eM];done
        | true=>
         rw[h1]at bW eM;rw[Bool.true_and]at eM;simp[-Qb5,-Qa8,QjR,Qah,Qaf,QF,Qz,Qb,Qf,Qp,QeY,hq,kO,iA,w2,bW,eM];done
       .simp[-Qb5,-Qa8,QjR,Qah,Qaf,QF,Qz,Qlw,QhM];done
   .rw[lF,QuT hv hi]at qK;rw[qK];simp[-Qb5,-Qa8,QjR,Qah,Qaf,Qz,Qx,Qb,QaG,QpU,QnB,Qci];done
 .cases hr
end Go.Proofs.YtnfeakhkfehkhaaGreatDoor
