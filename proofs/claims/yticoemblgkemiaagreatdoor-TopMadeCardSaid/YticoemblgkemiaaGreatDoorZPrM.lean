/-
  The program of the trace chapter: where wax must be. Conditions: none.
-/
import Derived.Test.YticoemblgkemiaaGreatDoorZPrL
set_option linter.unusedSimpArgs false
set_option linter.unusedVariables false
namespace Go.Proofs.YticoemblgkemiaaGreatDoor
open Go.RowKit
def Qk5 (r:Nat):List (Nat×Option Nat):=match r with
 | 0=>kpn [2,3,4]
 | 1=>kpn [2,3,4,18,19]
 | 2=>kpn [2,3,4,18,19,20]
 | 3=>kpn [2,3,4,5,18,19]
 | 4=>kpn [2,3,4,18,19]
 | 5=>kpn [2,3,4,18,19]
 | 6=>kpn [2,3,4,26]
 | 7=>kpn [2,3,4,6]
 | 8=>kpn [2,3,4,6,7]
 | 9=>kpn [2,3,4,6,7,8]
 | 10=>kpn [2,3,4,6,7,8,31,32,33]
 | 11=>kpn [2,3,4,6,7,8,31,32,33,34]
 | 12=>kpn [2,3,4,6,7,8,9,10,31,32,33]
 | 13=>kpn [2,3,4,6,7,8,9,10,11,31,32,33]
 | 14=>kpn [2,3,4,6,7,8,9,31,32,33]
 | 15=>kpn [2,3,4,6,7,8,9,31,32,33,62]
 | 16=>kpn [2,3,4,6,7,8,9,31,32,33,64,65,66]
 | 17=>kpn [2,3,4,6,7,8,9,31,32,33,64,65,66,67]
 | 18=>kpn [2,3,4,6,7,8,9,12,13,31,32,33,64,65,66]
 | 19=>kpn [2,3,4,6,7,8,9,31,32,33,64,65,66]
 | 20=>kpn [2,3,4,6,7,8,9,31,32,33,64,65,66]
 | 21=>kpn [2,3,4,6,7,8,31,32,33]
 | 22=>kpn [2,3,4,8,86]
 | 23=>kpn [2,3,4,87,88]
 | 24=>kpn [2,3,4,87,88,89]
 | 25=>kpn [2,3,4,14,15,87,88]
 | 26=>kpn [2,3,4,87,88]
 | 27=>kpn [2,3,4,87,88]
 | 28=>[(4,none)]
 | _=>[]
theorem QD:QaB.desc= .struct #[{ name:= "has",type:=121,offset:=0,embedded:=false,tag:= "",pkgPath:= "stearin/trace",byteOffset:=0},{ name:= "needs",type:=121,offset:=8,embedded:=false,tag:= "",pkgPath:= "stearin/trace",byteOffset:=64},{ name:= "never",type:=124,offset:=16,embedded:=false,tag:= "",pkgPath:= "stearin/trace",byteOffset:=128}]:=rfl
theorem QC:QaB.size=80:=rfl
theorem QMJ (eqs:List (TypeId×Nat)) (Δ:Nat->List D->Option D) (ev:Operand->X) (boxes:List (Nat×List X)) (toks:List Nat):aop tys eqs Δ (.alloc 126) ev boxes toks=some (.new ⟨Qk 80 (QbA (λ_=>0) (λ_=>0) noN),none⟩):=by
 simp only[aop,show tys 126=some QaB from rfl]; rfl
theorem updD {n:Nat} :QZ (λt=>DB (decide (t < n))) n (DB true)=λt=>DB (decide (t < n+1)):=by
 funext t;unfold QZ;split
 .rename_i h; subst h; simp
 .have:decide (t < n)=decide (t < n+1):=by rw[decide_eq_decide]; omega
  show DB (decide (t < n))=_;rw[this]
theorem QmB (al:List Nat) (n:Nat) (g:Nat->D):(Qk n g).map (X.keepP al)=Qk n g:=by
 unfold Qk; rw[List.map_map]; rfl
theorem QiI (al:List Nat) {h n:Nat->Int} {v:Nat->Nat->Bool} {d e:D} :(c87 h n v (.d d) (.d e)).map (X.keepP al)=c87 h n v (.d d) (.d e):=by
 unfold c87; rw[List.map_append,QmB]; rfl
theorem QO5 (f:Nat->Bool):(List.range 8).map (X.d ∘ Qfq ∘ λt=>Value.bool (f t))=Qk 8 (λt=>DB (f t)):=rfl
theorem Qbo (h n:Nat->Int) (v:Nat->Nat->Bool):(List.range 80).map (X.d ∘ QbA h n v)=Qk 80 (QbA h n v):=rfl
theorem Qpx (f:Nat->Bool):(List.range 8).map (X.d ∘ λt=>DB (f t))=Qk 8 (λt=>DB (f t)):=rfl
theorem QcF {n:Nat} {g:Nat->D} :(Qk n g).drop n=[]:=List.drop_of_length_le (by rw[Qb]; exact Zr _)
theorem QKx (b:List Bat) (i s k:Nat):Qg2 b i s 0 k=false:=rfl
attribute [local simp] QKx
attribute [local simp] QvC
theorem Qrp (f:Nat->Bool):Qc8 ((List.range 8).map λt=>DB (f t))=some ((List.range 8).map λt=>Value.bool (f t)):=Qks f _
theorem Qj1 (f:Nat->Bool):Qcw ((List.range 8).map λt=>Value.bool (f t))=43690:=by
 simp[Qcw,List.range,List.range.loop]
def e8 (f g:Nat->Bool):Bool:=(List.range 8).all λk=>f k==g k
theorem QFO (a b:Bool):((Qfs (.bool a))=(Qfs (.bool b)))=(a=b):=by cases a<;>cases b<;>simp[Qfs]
theorem eq8 (f g:Nat->Bool):eqV ((List.range 8).map λt=>Value.bool (f t)) ((List.range 8).map λt=>Value.bool (g t))=e8 f g:=by
 have h0:((List.range 8).map λt=>Value.bool (f t)).any isS=false:=rfl;unfold eqV e8;rw[h0,if_neg (by simp),Bool.eq_iff_iff,beq_iff_eq,Zl,List.map_map,List.map_map,List.map_inj_left]
 refine forall_congr' λa=>forall_congr' λ_=>?_;simp only[Function.comp,QFO,beq_iff_eq]
theorem QED (f g:Nat->Bool):((List.range 8).map (Qfs ∘ λt=>Value.bool (f t))==(List.range 8).map (Qfs ∘ λt=>Value.bool (g t)))=e8 f g:=by
 rw[<-eq8 f g];have h0:((List.range 8).map λt=>Value.bool (f t)).any isS=false:=rfl;unfold eqV;rw[h0,if_neg (by simp),List.map_map,List.map_map]
theorem QJA {f g:Nat->Bool} (h:e8 f g=true):∀k,k < 8->f k=g k:=λk hk=>by
 unfold e8 at h;have:=Zl.1 h k (Zm.2 hk);simpa using this
theorem h53v (H M:Nat->Int) (v:Nat->Nat->Bool):s53 [.agg (QdW H M v)]=some (DB (Qc2 (Sup.of H M v))):=by
 have hd:(Qcf Qtl).dec (.agg (QdW H M v))=some (Sup.of H M v):=QmA H M v;simp only[s53,sp1,hd]; rfl
theorem QOn {l:List Tak} {f:Nat->Bool} (hl:l.length<=8) (ht:∀t∈l,0<=t.fr/\t.fr < 8):Qmt [.sl 2 (l.map Qce.enc),.fn 136 [] [.dat 8 [(List.range 8).map λk=>DB (f k)] 0 0]]=some (DB (l.any λt=>f t.fr.toNat)):=by
 have hd:(Qcd (QjP 136)).dec (.fn 136 [] [.dat 8 [(List.range 8).map λk=>DB (f k)] 0 0])=some (Oct.of f):=Qa4 (QqR 136) (Oct.of f);simp only[Qmt,sp2,QeF,hd];rw[if_pos ⟨by omega,ht⟩]
 have e:(l.any λt=>(Oct.of f).f t.fr.toNat)=l.any λt=>f t.fr.toNat:=by
  rw[Bool.eq_iff_iff,Zy,Zy];refine exists_congr λt=>and_congr_right λh=>?_;have:=ht t h;rw[Oct.of_f,if_pos (by omega)]
 rw[e]; rfl
def QzV (A D:Nat->Bool) (q x:Nat):Bool:=if x < q then A x&&D x else A x
theorem QKW (A D:Nat->Bool) (x:Nat):QzV A D 0 x=A x:=by simp[QzV]
attribute [local simp] QKW
theorem QEA (A D:Nat->Bool) (q:Nat):QzV A D q q=A q:=by simp[QzV]
theorem Qyn (A D:Nat->Bool) (q:Nat):QZ (QzV A D q) q (A q&&D q)=QzV A D (q+1):=by
 funext x;unfold QZ QzV;by_cases e:x=q
 .subst e; rw[if_pos rfl,if_pos (by omega)]
 .rw[if_neg e];by_cases h:x < q
  .rw[if_pos h,if_pos (by omega)]
  .rw[if_neg h,if_neg (by omega)]
theorem QiK {f g:Nat->Bool} (h:∀t,t < 8->f t=g t):Qk 8 (λt=>DB (f t))=Qk 8 (λt=>DB (g t)):=Qdc λt ht=>by rw[h t ht]
theorem QGW (b:List Bat) (i k:Nat):QeE b i 0 k=decide (k < b.length):=by simp[QeE]
attribute [local simp] QGW
noncomputable instance (x:Bx) (b:List Bat):Decidable (x=Qek b):=Classical.propDecidable _
noncomputable def g58:List (Nat×(List D->Option D)):=[(135,s99),(137,Qmt),(138,s53)]
theorem dg58:QaE Tryz.prog (Qaw g58):=Qh (Qh (Qh Qs QyP QNZ) Qx8 QAE) QMo ok99
theorem Qy4 (xs:Array Value) (w:World):(callFunc 56 xs).run Tryz.prog w= .ok (.enter 56 xs) w:=by kernel_rfl
noncomputable def s58:List D->Option D:=sp2 (Qcf rBx) QaY (Qcf QC0) λx i=>if ValidB x.bats/\x=Qek x.bats/\0<=i/\i < x.bats.length then some (Oct.of (QdZ x.bats i.toNat))else none
set_option maxHeartbeats 8000000 in
theorem QPc:∀ds d,s58 ds=some d->PureC Tryz.prog 56 ds d:=Qay λx ii r hr=>by
 split at hr
 .rename_i hc;obtain⟨hv,hx,m9,o9⟩:=hc;cases hr;generalize fG:x.bats=b at*;subst hx;obtain⟨i,rfl⟩:∃i:Nat,ii=i:=⟨ii.toNat,by omega⟩
  have hi:i < b.length:=by omega
  have aP:=hv.ok;have bE:=aP.le;refine Qf (QBQ dg58 Qb6 QKO 102 Qk5 [] (λ_=>[]) (λ_=>0)) Tryz.func56 rfl rfl (Zb rfl) (by kernel_rfl) ?_
  rw[Tryz.results56];have hz:=QMJ [] (λ_ _=>none) (λ_=> .d .top) [] [];simp[-QaB]at hz;have h99:s99 [.agg (rBx.enc (Qek b))]=some (.fn 202 [] [.dat 82 [rBx.enc (Qek b)] 0 0]):=by
   simp only[s99,sp1,QaQ,rBx.de]; rfl
  have fE:Qv9 (Qae b):=by
   refine⟨hv.lost,λx hx=>?_⟩;unfold Qae at hx;obtain⟨k,hk,rfl⟩:=List.mem_map.1 hx;have:=Qf4 hk;omega
  have yA:QIx [.dat 82 [rBx.enc (Qek b)] 0 0]=some (Qi3 (Qae b)):=by
   simp only[QIx,rBx.de];exact if_pos fE
  simp only[Qek,Qg7]at h99 yA|-;generalize hH:(λj=>(QT b).getD j 0)=H at*;generalize hM:(λj=>(QaD b).getD j 0)=M at*;simp[-QaB,-Q7,Qq,Qk5,Qg7,QaU,QE,QO,Qas,QL]
  (generalize aC:Cx.loop _ _ _=aE; apply Qi aC (λq=>⟨[(2,.loc 2 0),(3,.loc 3 0),(4,.loc 4 0),(18,.d (DI b.length)),(19,.d (DI q))],[(2,c87 H M noN (.d (.sl 5 (b.map QQ.enc))) (.d (.sl 1 ((Qae b).map QH.enc)))),(3,[.d (DI i)]),(4,Qk 8 (λt=>DB (decide (t < q))))],[],[]⟩) b.length (by first | (simp; done) | (simp; rfl) | (simp; simp[*])); rotate_left; (show _ < 281474976710656; omega); rfl; rotate_left; all_goals clear aC)
  .intro q hq;have gZ:(q:Int) < b.length:=by omega
   have kV:(q:Int) < 8:=by omega
   have nI:q < 8:=by omega
   have iJ:q+1<=8:=by omega
   have w1:=Qa ((q:Int)+1) (by omega) (by omega)
   simp[-Q7,Qk5,Qas,QL,Qaj,QA,Qb,Qo,updD,gZ,kV,nI,iJ,w1];done
  .simp[-QaB,-Q7,Qq,Qp,Qk5,g58,QE,Qas,QL,Qaj,QA,QaA,Qag,h99,yA,QmB,QiI];have hLN:=fE.1;have kL:(Qi3 (Qae b)).length=2 ^ (Qae b).length:=by simp[Qi3]
   have v7:∀j v,(Qi3 (Qae b))[j]?=some v->j < 2 ^ (Qae b).length/\v=QJZ (Qae b) j:=λj v h=>by
    have hj:j < 2 ^ (Qae b).length:=by
     have:=(Zi.1 h).1
     rwa [kL]at this
    rw[QnK hj]at h;exact⟨hj,(Option.some.inj h).symm⟩
   have nV:(Qae b).length<=3:=hLN
   (generalize aC:Cx.rounds _ _ _ _ _ _ _ _=aE; have kW:=QfA aC (λj=>⟨[(2,.loc 2 0),(3,.loc 3 0),(4,.loc 4 0),(26,.d (.fn 202 [] [.dat 82 [QdW H M noN++[.sl 5 (b.map QQ.enc),.sl 1 ((Qae b).map QH.enc)]] 0 0]))],[(2,c87 H M noN (.d (.sl 5 (b.map QQ.enc))) (.d (.sl 1 ((Qae b).map QH.enc)))),(3,[.d (DI i)]),(4,Qk 8 (λt=>DB (QeE b i j t)))],[],[]⟩) (by first | rfl | (simp; done) | (simp; rfl)) ?_; rotate_left; all_goals clear aC)
   .intro j v hvj;obtain⟨hj,rfl⟩:=v7 j v hvj;simp only[QJZ];simp[-QaB,-Q7,Qq,QD,QC,hz,Qk5,QE,QO,Qas,QL,Qaj,QA,QO5,QcO,Qv,Qb,Qbo,QcF]
    (generalize aC:Cx.loop _ _ _=aE; apply Qi aC (λt=>⟨[(2,.loc 2 0),(3,.loc 3 0),(4,.loc 4 0),(6,.loc 6 0),(7,.loc 7 0),(8,.loc 8 0),(31,.d (.sl 5 (b.map QQ.enc))),(32,.d (DI b.length)),(33,.d (DI t))],[(2,c87 H M noN (.d (.sl 5 (b.map QQ.enc))) (.d (.sl 1 ((Qae b).map QH.enc)))),(3,[.d (DI i)]),(4,Qk 8 (λt=>DB (QeE b i j t))),(6,Qk 8 (λt=>DB (Qp2 (Qae b) j (Qae b).length t))),(7,Qk 80 (QbA H M (QiM (Qg2 b i j t) t))),(8,Qk 8 (λx=>DB (Qg2 b i j t x)))],[],[]⟩) b.length (by first | (simp; done) | (simp; rfl) | (simp; simp[*])); rotate_left; (show _ < 281474976710656; omega); rfl; rotate_left; all_goals clear aC)
    .intro t ht;have dG:(t:Int) < b.length:=by omega
     have jF:(t:Int) < 8:=by omega
     have fF:t < 8:=by omega
     have lN:t+1<=8:=by omega
     have ht8k:t<=8:=by omega
     have yB:(t:Int)<=8:=by omega
     have w1:=Qa ((t:Int)+1) (by omega) (by omega)
     have hb:=aP.at ht;have gN:=QeX (l:=b[t].takes) hb.asc hb.fr;have cB:=QvQ (i:=i) (s:=j) aP ht;have hSF:QzP b j=Qp2 (Qae b) j (Qae b).length:=rfl;rw[hSF]at cB;have tK:=QOn (l:=b[t].takes) (f:=Qg2 b i j t) (by omega) λx hx=>by have:=hb.fr x hx; omega
     have hcg:QiM (Qg2 b i j (t+1)) t=QiM (Qg2 b i j t) t:=Qt2 λx hx=>by rw[cB,Q2 _ _ (by omega)]
     have hdt:Qg2 b i j (t+1) t=(decide (t=i)||(b[t].lost&&!Qp2 (Qae b) j (Qae b).length t)||b[t].takes.any λq=>Qg2 b i j t q.fr.toNat):=by rw[cB,Qac]
     have fB:QZ (λx=>DB (Qg2 b i j t x)) t (DB (Qg2 b i j (t+1) t))=λx=>DB (Qg2 b i j (t+1) x):=by rw[Qfy,cB,Qac]
     clear cB;generalize zE:Qg2 b i j (t+1)=R' at*;generalize Qg2 b i j t=R at*;generalize QeE b i j=A at*;generalize Qp2 (Qae b) j (Qae b).length=SF at*;generalize oH:(b[t].takes.any λq=>R q.fr.toNat)=c2 at*;have t8:R' t=true->QiM R' (t+1)=QiM R t:=λh=>by rw[QtC h,hcg]
     have jV:((t:Int)==(i:Int))=decide (t=i):=by
      rw[Bool.eq_iff_iff,beq_iff_eq,decide_eq_true_eq]; omega
     cases h0:decide (t=i)with
     | true=>
      have jP:R' t=true:=by rw[hdt,h0]; rfl
      rw[jP]at fB;rw[h0]at jV;rw[t8 jP];simp[-QaB,-Q7,Qk5,Qe,Qas,Qaj,QL,QA,Qb,Qg,Qo,ht,dG,jF,fF,lN,fB,w1,jP,jV];done
     | false=>
      rw[h0]at jV;cases h1:(b[t].lost&&!SF t)with
      | true=>
       have jP:R' t=true:=by rw[hdt,h0,h1]; rfl
       rw[jP]at fB;rw[t8 jP];rw[Za,Bool.not_eq_true']at h1;simp[-QaB,-Q7,Qk5,Qe,Qas,Qaj,QL,QA,Qb,Qg,Qo,ht,dG,jF,fF,lN,fB,w1,jP,jV,h1.1,h1.2];done
      | false=>
       cases c2 with
       | true=>
        have jP:R' t=true:=by rw[hdt,h0,h1]; rfl
        rw[jP]at fB;rw[t8 jP];cases h2:b[t].lost with
        | false=>
         simp[-QaB,-Q7,Qk5,Qe,Qas,Qaj,QL,QA,Qv,Qb,Qg,Qo,ht,dG,jF,fF,lN,tK,fB,w1,jP,jV,h2];done
        | true=>
         have h3:SF t=true:=by rw[h2]at h1; simpa using h1
         simp[-QaB,-Q7,Qk5,Qe,Qas,Qaj,QL,QA,Qv,Qb,Qg,Qo,ht,dG,jF,fF,lN,tK,fB,w1,jP,jV,h2,h3];done
       | false=>
        have jP:R' t=false:=by rw[hdt,h0,h1]; rfl
        rw[jP]at fB;rw[<-QzX jP];have jT:QiM R t=Qvc R' t 0:=by rw[Qx6,hcg]
        rw[jT];have rG:∀q,q < t->(q:Int) < t/\(q:Int) < 8/\q < 8/\q+1<=8/\q < 80/\(16+q*8+t < 80):=λq hq=>by omega
        cases h2:b[t].lost with
        | false=>
         simp[-QaB,-Q7,Qk5,Qe,Qas,Qaj,QL,QA,Qv,Qb,Qg,Qo,ht,dG,jF,fF,lN,tK,fB,jP,yB,jV,h2]
         (generalize aC:Cx.loop _ _ _=aE; apply Qi aC (λq=>⟨[(2,.loc 2 0),(3,.loc 3 0),(4,.loc 4 0),(6,.loc 6 0),(7,.loc 7 0),(8,.loc 8 0),(9,.d (DI t)),(31,.d (.sl 5 (b.map QQ.enc))),(32,.d (DI b.length)),(33,.d (DI t)),(64,.bs 8 0 t 1),(65,.d (DI t)),(66,.d (DI q))],[(2,c87 H M noN (.d (.sl 5 (b.map QQ.enc))) (.d (.sl 1 ((Qae b).map QH.enc)))),(3,[.d (DI i)]),(4,Qk 8 (λt=>DB (A t))),(6,Qk 8 (λt=>DB (SF t))),(7,Qk 80 (QbA H M (Qvc R' t q))),(8,Qk 8 (λx=>DB (R' x)))],[],[]⟩) t (by first | (simp; done) | (simp; rfl) | (simp; simp[*])); rotate_left; (show _ < 281474976710656; omega); rfl; rotate_left; all_goals clear aC)
         .intro q hq;obtain⟨q1,q2,q3,q4,q5,q6⟩:=rG q hq;have q7:16+q*8+t+1<=80:=by omega
          have q8:(q:Int)+1=((q+1:Nat):Int):=by omega
          have w2:=Qa ((q:Int)+1) (by omega) (by omega)
          have hsv:=QCR (h:=H) (n:=M) (v:=Qvc R' t q) (z:=R' q) q3 fF;have iM:¬t < q:=by omega
          rw[Qoj];simp[-QaB,-Q7,QD,Qk5,Qas,Qaj,QL,QA,Qb,Qg,Qo,jF,q1,q2,q3,q6,q7,w2,hsv];done
         .simp[-QaB,-Q7,Qk5,Qas,Qaj,QL,QA,w1];done
        | true=>
         have h3:SF t=true:=by rw[h2]at h1; simpa using h1
         simp[-QaB,-Q7,Qk5,Qe,Qas,Qaj,QL,QA,Qv,Qb,Qg,Qo,ht,dG,jF,fF,lN,tK,fB,jP,yB,jV,h2,h3]
         (generalize aC:Cx.loop _ _ _=aE; apply Qi aC (λq=>⟨[(2,.loc 2 0),(3,.loc 3 0),(4,.loc 4 0),(6,.loc 6 0),(7,.loc 7 0),(8,.loc 8 0),(9,.d (DI t)),(31,.d (.sl 5 (b.map QQ.enc))),(32,.d (DI b.length)),(33,.d (DI t)),(64,.bs 8 0 t 1),(65,.d (DI t)),(66,.d (DI q))],[(2,c87 H M noN (.d (.sl 5 (b.map QQ.enc))) (.d (.sl 1 ((Qae b).map QH.enc)))),(3,[.d (DI i)]),(4,Qk 8 (λt=>DB (A t))),(6,Qk 8 (λt=>DB (SF t))),(7,Qk 80 (QbA H M (Qvc R' t q))),(8,Qk 8 (λx=>DB (R' x)))],[],[]⟩) t (by first | (simp; done) | (simp; rfl) | (simp; simp[*])); rotate_left; (show _ < 281474976710656; omega); rfl; rotate_left; all_goals clear aC)
         .intro q hq;obtain⟨q1,q2,q3,q4,q5,q6⟩:=rG q hq;have q7:16+q*8+t+1<=80:=by omega
          have q8:(q:Int)+1=((q+1:Nat):Int):=by omega
          have w2:=Qa ((q:Int)+1) (by omega) (by omega)
          have hsv:=QCR (h:=H) (n:=M) (v:=Qvc R' t q) (z:=R' q) q3 fF;have iM:¬t < q:=by omega
          rw[Qoj];simp[-QaB,-Q7,QD,Qk5,Qas,Qaj,QL,QA,Qb,Qg,Qo,jF,q1,q2,q3,q6,q7,w2,hsv];done
         .simp[-QaB,-Q7,Qk5,Qas,Qaj,QL,QA,w1];done
    .have hme:mwB b i j=Qc2 (Sup.of H M (QiM (Qg2 b i j b.length) b.length)):=by unfold mwB; rw[<-hH,<-hM]
     have cU:= @Qu3 b i j;have bC:= @QsD b i j;have hsu:=λk=> @Qmp b i j k;have hSF:QzP b j=Qp2 (Qae b) j (Qae b).length:=rfl;generalize Qp2 (Qae b) j (Qae b).length=SF at*;generalize Qg2 b i j b.length=DD at*;generalize QiM DD b.length=V at*;generalize QeE b i j=A at*;have jG:=h53v H M V;change s53 [.agg ((List.range 80).map (QbA H M V))]=_ at jG;cases he:e8 DD A with
     | true=>
      rw[cU (QJA he) aP hi];simp[-QaB,-Q7,Qk5,Qas,Qaj,QL,QA,Qv,Qb,QaG,Qrp,Qj1,QED,QmB,QiI,he];done
     | false=>
      cases hwk:Qc2 (Sup.of H M V)with
      | false=>
       rw[bC (hme.trans hwk)];rw[hwk]at jG;simp[-QaB,-Q7,QD,QC,Qk5,Qas,Qaj,QL,QA,Qv,Qb,QaG,Qrp,Qj1,QED,QmB,QiI,he,jG];done
      | true=>
       rw[hwk]at jG;rw[QiK (f:=QeE b i (j+1)) (g:=QzV A DD 8) λt ht=>by rw[hsu t (hme.trans hwk),QzV,if_pos ht]]
       simp[-QaB,-Q7,QD,QC,Qk5,Qas,Qaj,QL,QA,Qv,Qb,QaG,Qrp,Qj1,QED,he,jG]
       (generalize aC:Cx.loop _ _ _=aE; apply Qi aC (λq=>⟨[(2,.loc 2 0),(3,.loc 3 0),(4,.loc 4 0),(87,.d (.agg ((List.range 8).map λt=>DB (DD t)))),(88,.d (DI q))],[(2,c87 H M noN (.d (.sl 5 (b.map QQ.enc))) (.d (.sl 1 ((Qae b).map QH.enc)))),(3,[.d (DI i)]),(4,Qk 8 (λt=>DB (QzV A DD q t)))],[],[]⟩) 8 (by first | (simp; done) | (simp; rfl) | (simp; simp[*])); rotate_left; (show _ < 281474976710656; omega); rfl; rotate_left; all_goals clear aC)
       .intro q hq;have kV:(q:Int) < 8:=by omega
        have iJ:q+1<=8:=by omega
        have w2:=Qa ((q:Int)+1) (by omega) (by omega)
        have bV:=QEA A DD q;have eR:=Qyn A DD q;cases h1:A q with
        | false=>
         rw[h1]at bV eR;rw[Bool.false_and]at eR;simp[-QaB,-Q7,Qk5,Qas,Qaj,QL,QA,Qb,Qg,Qo,Qfy,hq,kV,iJ,w2,bV,eR];done
        | true=>
         rw[h1]at bV eR;rw[Bool.true_and]at eR;simp[-QaB,-Q7,Qk5,Qas,Qaj,QL,QA,Qb,Qg,Qo,Qfy,hq,kV,iJ,w2,bV,eR];done
       .simp[-QaB,-Q7,Qk5,Qas,Qaj,QL,QA,QmB,QiI];done
   .rw[kL,Qv7 hv hi]at kW;rw[kW];simp[-QaB,-Q7,Qk5,Qas,Qaj,QA,Qv,Qb,QaG,Qtm,Qpx,QcF];done
 .cases hr
end Go.Proofs.YticoemblgkemiaaGreatDoor
