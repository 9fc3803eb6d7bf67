/-
  Reference functions of the trace chapter: Comes, Holds. Conditions: none.
-/
import Derived.Test.YtnfeakhkfehkhaaGreatDoorZRefI
set_option linter.unusedSimpArgs false
set_option linter.unusedVariables false
namespace Go.Proofs.YtnfeakhkfehkhaaGreatDoor
open Go.RowKit
def Qc6 (f:Nat->Bool) (k:Nat):List Int:=((List.range k).filter f).map λ(x:Nat)=>(x:Int)
theorem Qvi (f:Nat->Bool):Qc6 f 0=[]:=rfl
attribute [simp] Qvi
theorem Qe5 {f:Nat->Bool} {k:Nat} (h:f k=true):Qc6 f (k+1)=Qc6 f k++[(k:Int)]:=by
 simp[Qc6,List.range_succ,List.filter_append,h]
theorem QeL {f:Nat->Bool} {k:Nat} (h:f k=false):Qc6 f (k+1)=Qc6 f k:=by
 simp[Qc6,List.range_succ,List.filter_append,h]
theorem Qlu (f:Nat->Bool) (k:Nat):(Qc6 f k).length<=k:=by
 unfold Qc6;rw[List.length_map];exact Nat.le_trans (List.length_filter_le _ _) (by simp)
theorem QMv {f:Nat->Bool} {k:Nat} {x:Int} :x∈Qc6 f k↔∃a:Nat,x=a/\a < k/\f a=true:=by
 simp only[Qc6,List.mem_map,List.mem_filter,Zm];constructor
 .rintro⟨a,⟨h1,h2⟩,rfl⟩; exact⟨a,rfl,h1,h2⟩
 .rintro⟨a,rfl,h1,h2⟩; exact⟨a,⟨h1,h2⟩,rfl⟩
theorem QjN (b:List Bat) (i:Int):QbH b i=0↔ValidB b/\0<=i/\i < b.length:=by
 unfold QbH;by_cases h:(Q5 b).2.2=0
 .rw[if_pos h];have hv:=(Qbl b).1 h;cases h2:inR i 0 ((b.length:Int) - 1)with
  | true=>
   have:=Qau.1 h2;simp[hv]; omega
  | false=>
   have:=QBw.1 h2;simp[hv]; omega
 .rw[if_neg h];have hv:¬ValidB b:=λhv=>h ((Qbl b).2 hv);simp[h,hv]
noncomputable def comesM (b:List Bat) (i k:Nat):Bool:=k != i&&Qgj b i k
noncomputable def comesY (b:List Bat) (i k:Nat):Bool:=k != i&&QoL b i k
noncomputable def Qek (b:List Bat) (i k:Nat):Bool:=k != i&&Qgj b k i
noncomputable def Qep (b:List Bat) (i k:Nat):Bool:=k != i&&QoL b k i
noncomputable def QeU (b:List Bat) (i:Int):List Int×List Int×Int:=if QbH b i=0 then(Qc6 (comesM b i.toNat) b.length,Qc6 (comesY b i.toNat) b.length,0)else([],[],QbH b i)
noncomputable def QgQ (b:List Bat) (i:Int):List Int×List Int×Int:=if QbH b i=0 then(Qc6 (Qek b i.toNat) b.length,Qc6 (Qep b i.toNat) b.length,0)else([],[],QbH b i)
def QlF (r:Nat):List (Nat×Option Nat):=match r with
 | 0=>kpn [0,1,2,3]
 | 1=>kpn [0,1,2,3,9]
 | 2=>kpn [0,1,2,3,9,17]
 | 3=>kpn [0,1,2,3,9]
 | 4=>kpn [0,1,2,3,9,10]
 | 5=>kpn [0,1,2,3,9,10,23]
 | 6=>kpn [0,1,2,3,9,10]
 | 7=>kpn [0,1,2,3,9,10,35]
 | 8=>[(8,none)]
 | 9=>kpn [0,1,3,11]
 | 10=>kpn [0,1,3,11,39]
 | 11=>kpn [0,1,3,11]
 | 12=>kpn [0,1,3,11,12]
 | 13=>kpn [0,1,3,11,12,13]
 | 14=>kpn [0,1,3,11,12,13,45]
 | 15=>kpn [0,1,3,11,12,13]
 | 16=>kpn [0,1,3,11,12,13]
 | 17=>kpn [0,1,3,11,62]
 | 18=>[(8,none)]
 | 19=>[(8,none)]
 | _=>[]
theorem QGx {α:Type} (l:List α) (d:α) (p:α->Bool):(List.range l.length).all (λj=>p (l.getD j d))=l.all p:=by
 rw[Bool.eq_iff_iff,Zl,Zl];constructor
 .intro h x hx;obtain⟨i,hi,rfl⟩:=List.getElem_of_mem hx;have:=h i (Zm.2 hi)
  rwa [Qj l i d hi]at this
 .intro h i hi;rw[Zm]at hi;rw[Qj l i d hi];exact h _ (Ze hi)
noncomputable def QcW (b:List Bat) (g:List Int) (i:Int):Bool:=g.all λk=>!Qgj b i.toNat k.toNat
noncomputable def QuZ (b:List Bat) (l:List Int) (k:Int):Bool:=l.any λi=>QoL b i.toNat k.toNat
noncomputable def QAy (b:List Bat) (c g l:List Int):Bool:=l.all (QcW b g)&&c.all (QuZ b l)
def QhC (b:List Bat) (l:List Int):Prop:=l.length<=17592186044416/\∀n∈l,0<=n/\n < b.length
noncomputable instance (b:List Bat) (l:List Int):Decidable (QhC b l):=Classical.propDecidable _
noncomputable def l45:List (Nat×(List D->Option D)):=[(62,s62),(63,s63)]
theorem QHX:Qay Tryz.prog (Qas l45):=Ql (Ql QB QyY QRO) QFz ok62
theorem QEs {b:List Bat} (hv:ValidB b) {i k:Int} (hi:0<=i/\i < b.length) (hk:0<=k/\k < b.length):s62 [.sl 5 (b.map QO.enc),DI i,DI k]=some (DB (Qgj b i.toNat k.toNat)):=by
 have c:ValidB b/\0<=i/\i < b.length/\0<=k/\k < b.length:=⟨hv,hi.1,hi.2,hk.1,hk.2⟩;simp[s62,sp3,QR,c]
theorem QyT {b:List Bat} (hv:ValidB b) {i k:Int} (hi:0<=i/\i < b.length) (hk:0<=k/\k < b.length):s63 [.sl 5 (b.map QO.enc),DI i,DI k]=some (DB (QoL b i.toNat k.toNat)):=by
 have c:ValidB b/\0<=i/\i < b.length/\0<=k/\k < b.length:=⟨hv,hi.1,hi.2,hk.1,hk.2⟩;simp[s63,sp3,QR,c]
noncomputable def s45:List D->Option D:=sp4 (Qy QO) (Qy Qt) (Qy Qt) (Qy Qt) QaI λb c g l=>if ValidB b/\QhC b c/\QhC b g/\QhC b l then some (QAy b c g l)else none
set_option maxHeartbeats 2000000 in
theorem ok45:∀ds d,s45 ds=some d->PureC Tryz.prog 45 ds d:=Qjb λb c g l r hr=>by
 split at hr
 .rename_i hc;obtain⟨hv,⟨hc1,hc2⟩,⟨d9,lH⟩,⟨pE,uH⟩⟩:=hc;cases hr;refine Qm (QE QHX 63 QlF []) Tryz.func45 rfl rfl (Zb rfl) (by kernel_rfl) ?_
  rw[Tryz.results45];simp[QlF,l45,Qg,Qe];generalize aC:Cx.loop _ _ (St.mk ((0,_)::(1,_)::(2,_)::_) _ _ _)=aE;have oW:aE=some (if(List.range l.length).all (λj=>QcW b g (l.getD j 0))=true then(.exit 0,⟨[(0,.d (.sl 5 (b.map QO.enc))),(1,.d (.sl 1 (c.map Qt.enc))),(2,.d (.sl 1 (g.map Qt.enc))),(3,.d (.sl 1 (l.map Qt.enc))),(9,.d (DI l.length)),(17,.d (DB false))],[],[],[]⟩)else(.ret,⟨[(8,.d (DB false))],[],[],[]⟩)):=by
   refine Qa7 aC (λj=>⟨[(0,.d (.sl 5 (b.map QO.enc))),(1,.d (.sl 1 (c.map Qt.enc))),(2,.d (.sl 1 (g.map Qt.enc))),(3,.d (.sl 1 (l.map Qt.enc))),(9,.d (DI j))],[],[],[]⟩) _ _ _ _ (by simp) (by show _ < 281474976710656; omega) (by simp) (by simp) ?_ ?_
   .intro j hj;have aO:(j:Int) < l.length:=by omega
    have w1:=Qa ((j:Int)+1) (by omega) (by omega)
    rw[Qj l j 0 hj];have u6:=uH l[j] (Ze hj);simp[QlF,aO];generalize j6:Cx.loop _ _ _=sO;have hrI:sO=some (if(List.range g.length).all (λq=>!Qgj b l[j].toNat (g.getD q 0).toNat)=true then(.exit 2,⟨[(0,.d (.sl 5 (b.map QO.enc))),(1,.d (.sl 1 (c.map Qt.enc))),(2,.d (.sl 1 (g.map Qt.enc))),(3,.d (.sl 1 (l.map Qt.enc))),(9,.d (DI j)),(10,.d (DI g.length)),(23,.d (DB false))],[],[],[]⟩)else(.ret,⟨[(8,.d (DB false))],[],[],[]⟩)):=by
     refine Qa7 j6 (λq=>⟨[(0,.d (.sl 5 (b.map QO.enc))),(1,.d (.sl 1 (c.map Qt.enc))),(2,.d (.sl 1 (g.map Qt.enc))),(3,.d (.sl 1 (l.map Qt.enc))),(9,.d (DI j)),(10,.d (DI q))],[],[],[]⟩) _ _ _ _ (by simp) (by show _ < 281474976710656; omega) (by simp) (by simp) ?_ ?_
     .intro q hq;have gT:(q:Int) < g.length:=by omega
      have w2:=Qa ((q:Int)+1) (by omega) (by omega)
      rw[Qj g q 0 hq];have h62:=QEs hv u6 (lH g[q] (Ze hq));cases hm:Qgj b l[j].toNat g[q].toNat with
      | true=>
       rw[hm]at h62;simp[QlF,Qc,hj,aO,hq,gT,h62]
      | false=>
       rw[hm]at h62;simp[QlF,Qc,hj,aO,hq,gT,h62,w2]
     .simp[QlF]
    have eB:QcW b g l[j]=(List.range g.length).all (λq=>!Qgj b l[j].toNat (g.getD q 0).toNat):=(QGx g 0 λk=>!Qgj b l[j].toNat k.toNat).symm;rw[hrI,eB];cases(List.range g.length).all (λq=>!Qgj b l[j].toNat (g.getD q 0).toNat)with
    | true=>simp[QlF,w1]
    | false=>simp
   .simp[QlF]
  rw[oW,QGx];unfold QAy;cases hall:l.all (QcW b g)with
  | false=>simp
  | true=>
   simp[QlF];generalize hLoopR:Cx.loop _ _ _=rLoopR;have hrR:rLoopR=some (if(List.range c.length).all (λj=>QuZ b l (c.getD j 0))=true then(.exit 4,⟨[(0,.d (.sl 5 (b.map QO.enc))),(1,.d (.sl 1 (c.map Qt.enc))),(3,.d (.sl 1 (l.map Qt.enc))),(11,.d (DI c.length)),(39,.d (DB false))],[],[],[]⟩)else(.ret,⟨[(8,.d (DB false))],[],[],[]⟩)):=by
    refine Qa7 hLoopR (λj=>⟨[(0,.d (.sl 5 (b.map QO.enc))),(1,.d (.sl 1 (c.map Qt.enc))),(3,.d (.sl 1 (l.map Qt.enc))),(11,.d (DI j))],[],[],[]⟩) _ _ _ _ (by simp) (by show _ < 281474976710656; omega) (by simp) (by simp) ?_ ?_
    .intro j hj;have aO:(j:Int) < c.length:=by omega
     have w1:=Qa ((j:Int)+1) (by omega) (by omega)
     rw[Qj c j 0 hj];have hcj:=hc2 c[j] (Ze hj);simp[QlF,aO]
     (generalize aC:Cx.loop _ _ _=aE; apply Qi aC (λq=>⟨[(0,.d (.sl 5 (b.map QO.enc))),(1,.d (.sl 1 (c.map Qt.enc))),(3,.d (.sl 1 (l.map Qt.enc))),(11,.d (DI j)),(12,.d (DB ((l.take q).any λi=>QoL b i.toNat c[j].toNat))),(13,.d (DI q))],[],[],[]⟩) l.length (by first | (simp; done) | (simp; rfl) | (simp; simp[*])); rotate_left; (show _ < 281474976710656; omega); rfl; rotate_left; all_goals clear aC)
     .intro q hq;have gT:(q:Int) < l.length:=by omega
      have w2:=Qa ((q:Int)+1) (by omega) (by omega)
      have h63:=QyT hv (uH l[q] (Ze hq)) hcj;rw[List.take_succ_eq_append_getElem hq,List.any_append];generalize(l.take q).any (λi=>QoL b i.toNat c[j].toNat)=V;cases V with
      | true=>simp[QlF,gT,w2]
      | false=>simp[QlF,Qc,hj,aO,hq,gT,w2,h63]
     .rw[List.take_length];have e:(l.any λi=>QoL b i.toNat c[j].toNat)=QuZ b l c[j]:=rfl;rw[e];cases QuZ b l c[j]with
      | true=>simp[QlF,w1]
      | false=>simp[QlF]
    .simp[QlF]
   rw[hrR,QGx];cases hall2:c.all (QuZ b l)with
   | false=>simp
   | true=>simp[QlF]
 .cases hr
theorem QFd (xs:Array Value) (w:World):(callFunc 45 xs).run Tryz.prog w= .ok (.enter 45 xs) w:=by kernel_rfl
end Go.Proofs.YtnfeakhkfehkhaaGreatDoor
namespace Go.Proofs.YtnfeakhkfehkhaaGreatDoor
open Go.RowKit
def QjJ (r:Nat):List (Nat×Option Nat):=match r with
 | 0=>kpn [0,1,2,3]
 | 1=>kpn [0,1,2,3,18]
 | 2=>kpn [0,1,2,10]
 | 3=>kpn [0,1,2,10,22]
 | 4=>kpn [0,1,2,10]
 | 5=>kpn [0,1,2,10,11]
 | 6=>kpn [0,1,2,10,11,12]
 | 7=>kpn [0,1,2,10,11,12,28]
 | 8=>kpn [0,1,2,10,11,12]
 | 9=>kpn [0,1,2,10,11,12]
 | 10=>kpn [0,1,2,10,47]
 | 11=>kpn [8,9]
 | 12=>kpn [8,9]
 | 13=>kpn [0,1,2,3,13]
 | 14=>kpn [0,1,2,3,13,51]
 | 15=>kpn [0,1,2,3,13]
 | 16=>kpn [0,1,2,3,14]
 | 17=>kpn [0,1,2,3,14,63]
 | 18=>kpn [0,1,2,3,14]
 | 19=>kpn [0,1,2,3,14,15,16]
 | 20=>kpn [0,1,2,3,14,15,80]
 | 21=>kpn [8,9]
 | 22=>kpn [8,9]
 | _=>[]
def rLi:Row (List Int):=⟨1,λx=>[.sl 1 (x.map Qt.enc)],λd=>match d with | [y]=>(Qy Qt).dec y | _=>none,λx=>by simp[QQ],λd x h=>by
 split at h
 .exact QbQ ((Qy Qt).ed _ _ h) (LImp.refl _)
 .cases h⟩
theorem Qad (x:List Int):rLi.enc x=[.sl 1 (x.map Qt.enc)]:=rfl
theorem Qba:rLi.k=1:=rfl
theorem Qle (l:List (List Int)):(Qy rLi).dec (.sl 1 (l.map rLi.enc))=some l:=QaY rLi l 1 rfl
def Qyx (S:List (List Int)) (g:List Int) (k:Int):Bool:=g.any λi=>QwI (S.getD i.toNat []) k
def QbA (S:List (List Int)) (c g:List Int):Bool:=c.all (Qyx S g)
def QkD (f:Nat->List Int×Bool):Nat->Nat->List Int×Bool
 | 0,_=>([],false)
 | k+1,i=>if(f i).2=true then f i else QkD f k (i+1)
theorem QeD {f:Nat->List Int×Bool} :∀{k i:Nat},(∀j,j < k->(f (i+j)).2=false)->QkD f k i=([],false)
 | 0,_,_=>rfl
 | k+1,i,h=>by
  have h0:=h 0 (by omega)
  rw[Nat.add_zero]at h0;rw[QkD,if_neg (by rw[h0]; simp)]
  exact QeD λj hj=>by
   have:=h (j+1) (by omega)
   rwa [show i+(j+1)=i+1+j by omega]at this
theorem QeO {f:Nat->List Int×Bool} :∀{k i j:Nat},j < k->(f (i+j)).2=true->(∀q,q < j->(f (i+q)).2=false)->QkD f k i=f (i+j)
 | k+1,i,0,_,h1,_=>by
  rw[Nat.add_zero]at h1;rw[QkD,if_pos h1,Nat.add_zero]
 | k+1,i,j+1,h,h1,h2=>by
  have h0:=h2 0 (by omega)
  rw[Nat.add_zero]at h0;rw[QkD,if_neg (by rw[h0]; simp),QeO (j:=j) (by omega) (by rwa [show i+1+j=i+(j+1) by omega]) λq hq=>by
   have:=h2 (q+1) (by omega)
   rwa [show i+(q+1)=i+1+q by omega]at this]
  rw[show i+1+j=i+(j+1) by omega]
 | 0,i,j,h,_,_=>by omega
def Qcf (g:List Int):Nat:=if 0 < g.length then(g.getD (g.length - 1) 0).toNat+1 else 0
def QaV (ok:List Int->Bool) (n:Nat):Nat->List Int->List Int×Bool
 | 0,g=>if ok g=true then(g,true)else([],false)
 | m+1,g=>QkD (λi=>QaV ok n m (g++[(i:Int)])) (n - Qcf g) (Qcf g)
theorem QiU:Qcf []=0:=rfl
attribute [local simp] QiU
def QrR (S:List (List Int)) (c g:List Int):Prop:=S.length<=8/\(∀x∈S,x.length<=17592186044416)/\c.length<=17592186044416/\g.length<=100/\∀i∈g,0<=i/\i < S.length
noncomputable instance (S:List (List Int)) (c g:List Int):Decidable (QrR S c g):=Classical.propDecidable _
noncomputable def s72 (n:Nat):List D->Option D:=sp4 (Qy rLi) (Qy Qt) (Qy Qt) Qbh (Qex (Qy Qt) QaI) λS c g many=>if many=(n:Int)/\n+g.length<=100/\QrR S c g then some (QaV (QbA S c) S.length n g)else none
theorem Qyw (xs:Array Value) (w:World):(callFunc 72 xs).run Tryz.prog w= .ok (.enter 72 xs) w:=by kernel_rfl
theorem QBE {l:List Int} (h:l.length<=17592186044416) (n:Int):QEI [.sl 1 (l.map Qt.enc),DI n]=some (DB (QwI l n)):=by
 simp[QEI,sp2,QQ,h]
noncomputable def l72:List (Nat×(List D->Option D)):=[(106,QEI)]
theorem QHJ:Qay Tryz.prog (Qas l72):=Ql QB QtL QFs
set_option maxHeartbeats 2000000 in
theorem QEb:∀ds d,s72 0 ds=some d->PureC Tryz.prog 72 ds d:=Qjb λS c g many r hr=>by
 split at hr
 .rename_i hc;obtain⟨rfl,hng,hS1,hS2,hc1,d9,lH⟩:=hc;cases hr;refine Qbz (Qex (Qy Qt) QaI) (QaV (QbA S c) S.length 0 g) (QE QHJ 82 QjJ []) Tryz.func72 rfl rfl (Zb rfl) (by kernel_rfl) ?_
  rw[Tryz.results72];simp[QjJ,l72,Qg,Qba];generalize hLoopR:Cx.loop _ _ _=rLoopR;have hrR:rLoopR=some (if(List.range c.length).all (λj=>Qyx S g (c.getD j 0))=true then(.exit 0,⟨[(0,.d (.sl 1 (S.map rLi.enc))),(1,.d (.sl 1 (c.map Qt.enc))),(2,.d (.sl 1 (g.map Qt.enc))),(10,.d (DI c.length)),(22,.d (DB false))],[],[],[]⟩)else(.ret,⟨[(8,.d (.sl 0 [])),(9,.d (DB false))],[],[],[]⟩)):=by
   refine Qa7 hLoopR (λj=>⟨[(0,.d (.sl 1 (S.map rLi.enc))),(1,.d (.sl 1 (c.map Qt.enc))),(2,.d (.sl 1 (g.map Qt.enc))),(10,.d (DI j))],[],[],[]⟩) _ _ _ _ (by simp) (by show _ < 281474976710656; omega) (by simp) (by simp) ?_ ?_
   .intro j hj;have aO:(j:Int) < c.length:=by omega
    have w1:=Qa ((j:Int)+1) (by omega) (by omega)
    rw[Qj c j 0 hj];simp[QjJ,aO]
    (generalize aC:Cx.loop _ _ _=aE; apply Qi aC (λq=>⟨[(0,.d (.sl 1 (S.map rLi.enc))),(1,.d (.sl 1 (c.map Qt.enc))),(2,.d (.sl 1 (g.map Qt.enc))),(10,.d (DI j)),(11,.d (DB ((g.take q).any λi=>QwI (S.getD i.toNat []) c[j]))),(12,.d (DI q))],[],[],[]⟩) g.length (by first | (simp; done) | (simp; rfl) | (simp; simp[*])); rotate_left; (show _ < 281474976710656; omega); rfl; rotate_left; all_goals clear aC)
    .intro q hq;have gT:(q:Int) < g.length:=by omega
     have w2:=Qa ((q:Int)+1) (by omega) (by omega)
     have jM:=lH g[q] (Ze hq);have hgn:g[q].toNat < S.length:=by omega
     have h106:=QBE (hS2 _ (Ze hgn)) c[j];rw[List.take_succ_eq_append_getElem hq,List.any_append];generalize(g.take q).any (λi=>QwI (S.getD i.toNat []) c[j])=V;cases V with
     | true=>simp[QjJ,gT,w2]
     | false=>simp[QjJ,Qc,Qad,hj,aO,hq,gT,w2,jM.1,jM.2,hgn,h106]
    .rw[List.take_length];have e:(g.any λi=>QwI (S.getD i.toNat []) c[j])=Qyx S g c[j]:=rfl;rw[e];cases Qyx S g c[j]with
     | true=>simp[QjJ,w1]
     | false=>simp[QjJ]
   .simp[QjJ]
  rw[hrR];have e:QaV (QbA S c) S.length 0 g=if(List.range c.length).all (λj=>Qyx S g (c.getD j 0))=true then(g,true)else([],false):=by
   rw[QGx c 0 (Qyx S g)]; rfl
  rw[e];cases hall:(List.range c.length).all (λj=>Qyx S g (c.getD j 0))with
  | false=>simp[Qar]
  | true=>simp[QjJ,QQ]
 .cases hr
noncomputable def QsI (n:Nat):List (Nat×(List D->Option D)):=[(106,QEI),(72,s72 n)]
set_option maxHeartbeats 4000000 in
theorem QFP (n:Nat) (ih:∀ds d,s72 n ds=some d->PureC Tryz.prog 72 ds d):∀ds d,s72 (n+1) ds=some d->PureC Tryz.prog 72 ds d:=Qjb λS c g many r hr=>by
 split at hr
 .rename_i hc;obtain⟨rfl,hng,hS1,hS2,hc1,d9,lH⟩:=hc;cases hr;have iO:Qay Tryz.prog (Qas (QsI n)):=Ql (Ql QB Qyw ih) QtL QFs;refine Qbz (Qex (Qy Qt) QaI) (QaV (QbA S c) S.length (n+1) g) (QE iO 82 QjJ []) Tryz.func72 rfl rfl (Zb rfl) (by kernel_rfl) ?_
  rw[Tryz.results72];have m7:((n:Int)+1==0)=false:=by simp; omega
  have wn:=Qa ((n:Int)+1 - 1) (by omega) (by omega)
  have ea:(n:Int)+1 - 1=n:=by omega
  rw[ea]at wn;have hga:g.length+1<=140737488355328:=by omega
  have tC:(g.length+1)*8<=140737488355328:=by omega
  have hgc:g.length<=140737488355328:=by omega
  have hgd8:g.length*8<=140737488355328:=by omega
  have h72n:∀i,i < S.length->s72 n [.sl 1 (S.map rLi.enc),.sl 1 (c.map Qt.enc),.sl 1 (g.map Qt.enc++[[DI (i:Nat)]]),DI n]=some (.tup [.sl 1 ((QaV (QbA S c) S.length n (g++[((i:Nat):Int)])).1.map Qt.enc),DB (QaV (QbA S c) S.length n (g++[((i:Nat):Int)])).2]):=λi hi=>by
   have e:g.map Qt.enc++[[DI ((i:Nat):Int)]]=(g++[((i:Nat):Int)]).map Qt.enc:=by simp[Qc]
   have cd:(n:Int)=(n:Int)/\n+(g++[((i:Nat):Int)]).length<=100/\QrR S c (g++[((i:Nat):Int)]):=by
    refine⟨rfl,by simp; omega,hS1,hS2,hc1,by simp; omega,λx hx=>?_⟩
    rcases Zp.1 hx with hx | hx
    .exact lH x hx
    .rw[List.mem_singleton.1 hx]; omega
   rw[e];simp only[s72,sp4,Qle,QQ,Qam];rw[if_pos ⟨trivial,cd.2⟩];simp only[Option.map_some,Qiu,Qbk,QeF,Qg]
  have hF0:∃F0,F0=Qcf g:=⟨_,rfl⟩;obtain⟨F0,hF0⟩:=hF0;have hlist:QaV (QbA S c) S.length (n+1) g=QkD (λi=>QaV (QbA S c) S.length n (g++[(i:Int)])) (S.length - F0) F0:=by rw[hF0]; rfl
  rw[hlist];have hF8:F0<=S.length:=by
   rw[hF0];unfold Qcf;split
   .rename_i h0;have:=lH _ (Ze (by omega:g.length - 1 < g.length))
    rw[Qj g _ _ (by omega)]; omega
   .omega
  have hbeg:∀x:Option D,x=x:=λ_=>rfl;rcases QaK (λj=>!(QaV (QbA S c) S.length n (g++[((F0+j:Nat):Int)])).2) (S.length - F0)with hall | ⟨q,hq,aL,hgd0⟩
  .have nD:∀j,j < S.length - F0->(QaV (QbA S c) S.length n (g++[((F0+j:Nat):Int)])).2=false:=λj hj=>by
    have:=hall j hj;simpa using this
   rw[QeD (λj hj=>nD j hj)];by_cases y7:0 < g.length
   .have pE:g.length - 1 < g.length:=by omega
    have xD:IntKind.i64.wrap ((g.length:Int) - 1)=((g.length - 1:Nat):Int):=by rw[Qa _ (by omega) (by omega)]; omega
    have vX:=lH _ (Ze pE);have hFe:F0=g[g.length - 1].toNat+1:=by rw[hF0,Qcf,if_pos y7,Qj g _ _ pE]
    have hw:IntKind.i64.wrap (g[g.length - 1]+1)=(F0:Int):=by rw[Qa _ (by omega) (by omega)]; omega
    have uH:((g.length - 1:Nat):Int) < g.length:=by omega
    simp[QjJ,QsI,Qg,Qc,Qba,m7,y7,xD,pE,uH,hw]
    (generalize aC:Cx.loop _ _ _=aE; apply Qi aC (λj=>⟨[(0,.d (.sl 1 (S.map rLi.enc))),(1,.d (.sl 1 (c.map Qt.enc))),(2,.d (.sl 1 (g.map Qt.enc))),(3,.d (DI ((n:Int)+1))),(14,.d (DI ((F0+j:Nat):Int)))],[],[],[]⟩) (S.length - F0) (by first | (simp; done) | (simp; rfl) | (simp; simp[*])); rotate_left; (show _ < 281474976710656; omega); rfl; rotate_left; all_goals clear aC)
    .intro j hj;have cM:F0+j < S.length:=by omega
     have aO:(F0:Int)+j < S.length:=by omega
     have w3:=Qa ((F0:Int)+((j:Int)+1)) (by omega) (by omega)
     have aM:=nD j hj;have h72:=h72n (F0+j) cM;generalize QaV (QbA S c) S.length n (g++[((F0+j:Nat):Int)])=r at*;obtain⟨r1,r2⟩:=r;simp only at aM;subst aM;simp only[Int.natCast_add]at h72;simp[QjJ,aO,hga,tC,hgc,hgd8,wn,h72,w3,Int.add_assoc]
    .have e:F0+(S.length - F0)=S.length:=by omega
     rw[e];simp[QjJ,Qar]
   .have hFe:F0=0:=by rw[hF0,Qcf,if_neg y7]
    have hge:g=[]:=List.length_eq_zero_iff.1 (by omega)
    simp[QjJ,QsI,Qg,Qba,m7,y7]
    (generalize aC:Cx.loop _ _ _=aE; apply Qi aC (λj=>⟨[(0,.d (.sl 1 (S.map rLi.enc))),(1,.d (.sl 1 (c.map Qt.enc))),(2,.d (.sl 1 (g.map Qt.enc))),(3,.d (DI ((n:Int)+1))),(14,.d (DI ((F0+j:Nat):Int)))],[],[],[]⟩) (S.length - F0) (by first | (simp; done) | (simp; rfl) | (simp; simp[*])); rotate_left; (show _ < 281474976710656; omega); rfl; rotate_left; all_goals clear aC)
    .intro j hj;have cM:F0+j < S.length:=by omega
     have aO:(F0:Int)+j < S.length:=by omega
     have w3:=Qa ((F0:Int)+((j:Int)+1)) (by omega) (by omega)
     have aM:=nD j hj;have h72:=h72n (F0+j) cM;generalize QaV (QbA S c) S.length n (g++[((F0+j:Nat):Int)])=r at*;obtain⟨r1,r2⟩:=r;simp only at aM;subst aM;simp only[Int.natCast_add]at h72;simp[QjJ,aO,hga,tC,hgc,hgd8,wn,h72,w3,Int.add_assoc]
    .have e:F0+(S.length - F0)=S.length:=by omega
     rw[e];simp[QjJ,Qar]
  .have nD:∀j,j < q->(QaV (QbA S c) S.length n (g++[((F0+j:Nat):Int)])).2=false:=λj hj=>by
    have:=hgd0 j hj;simpa using this
   have aL:(QaV (QbA S c) S.length n (g++[((F0+q:Nat):Int)])).2=true:=by simpa using aL
   rw[QeO hq aL (λj hj=>nD j hj)];have hjq:F0+q < S.length:=by omega
   have hjql:(F0:Int)+q < S.length:=by omega
   have h72q:=h72n (F0+q) hjq;generalize QaV (QbA S c) S.length n (g++[((F0+q:Nat):Int)])=rq at*;obtain⟨rq1,rq2⟩:=rq;simp only at aL;subst aL;simp only[Int.natCast_add]at h72q;by_cases y7:0 < g.length
   .have pE:g.length - 1 < g.length:=by omega
    have xD:IntKind.i64.wrap ((g.length:Int) - 1)=((g.length - 1:Nat):Int):=by rw[Qa _ (by omega) (by omega)]; omega
    have vX:=lH _ (Ze pE);have hFe:F0=g[g.length - 1].toNat+1:=by rw[hF0,Qcf,if_pos y7,Qj g _ _ pE]
    have hw:IntKind.i64.wrap (g[g.length - 1]+1)=(F0:Int):=by rw[Qa _ (by omega) (by omega)]; omega
    have uH:((g.length - 1:Nat):Int) < g.length:=by omega
    simp[QjJ,QsI,Qg,Qc,Qba,m7,y7,xD,pE,uH,hw]
    (generalize aC:Cx.loop _ _ _=aE; apply Qi aC (λj=>⟨[(0,.d (.sl 1 (S.map rLi.enc))),(1,.d (.sl 1 (c.map Qt.enc))),(2,.d (.sl 1 (g.map Qt.enc))),(3,.d (DI ((n:Int)+1))),(14,.d (DI ((F0+j:Nat):Int)))],[],[],[]⟩) q (by first | (simp; done) | (simp; rfl) | (simp; simp[*])); rotate_left; (show _ < 281474976710656; omega); rfl; rotate_left; all_goals clear aC)
    .intro j hj;have cM:F0+j < S.length:=by omega
     have aO:(F0:Int)+j < S.length:=by omega
     have w3:=Qa ((F0:Int)+((j:Int)+1)) (by omega) (by omega)
     have aM:=nD j hj;have h72:=h72n (F0+j) cM;generalize QaV (QbA S c) S.length n (g++[((F0+j:Nat):Int)])=r at*;obtain⟨r1,r2⟩:=r;simp only at aM;subst aM;simp only[Int.natCast_add]at h72;simp[QjJ,aO,hga,tC,hgc,hgd8,wn,h72,w3,Int.add_assoc]
    .simp[QjJ,hjql,hga,tC,hgc,hgd8,wn,h72q,QQ]
   .have hFe:F0=0:=by rw[hF0,Qcf,if_neg y7]
    have hge:g=[]:=List.length_eq_zero_iff.1 (by omega)
    simp[QjJ,QsI,Qg,Qba,m7,y7]
    (generalize aC:Cx.loop _ _ _=aE; apply Qi aC (λj=>⟨[(0,.d (.sl 1 (S.map rLi.enc))),(1,.d (.sl 1 (c.map Qt.enc))),(2,.d (.sl 1 (g.map Qt.enc))),(3,.d (DI ((n:Int)+1))),(14,.d (DI ((F0+j:Nat):Int)))],[],[],[]⟩) q (by first | (simp; done) | (simp; rfl) | (simp; simp[*])); rotate_left; (show _ < 281474976710656; omega); rfl; rotate_left; all_goals clear aC)
    .intro j hj;have cM:F0+j < S.length:=by omega
     have aO:(F0:Int)+j < S.length:=by omega
     have w3:=Qa ((F0:Int)+((j:Int)+1)) (by omega) (by omega)
     have aM:=nD j hj;have h72:=h72n (F0+j) cM;generalize QaV (QbA S c) S.length n (g++[((F0+j:Nat):Int)])=r at*;obtain⟨r1,r2⟩:=r;simp only at aM;subst aM;simp only[Int.natCast_add]at h72;simp[QjJ,aO,hga,tC,hgc,hgd8,wn,h72,w3,Int.add_assoc]
    .simp[QjJ,hjql,hga,tC,hgc,hgd8,wn,h72q,QQ]
 .cases hr
end Go.Proofs.YtnfeakhkfehkhaaGreatDoor
namespace Go.Proofs.YtnfeakhkfehkhaaGreatDoor
open Go.RowKit
def Qo4 (b:List Bat) (i:Int):Spn×Int:=if QbH b i=0 then(Qj7 b i.toNat,0)else(⟨0,0⟩,QbH b i)
def xK (c h:Int):Nat->Int
 | 0=>h
 | k+1=>((bsK c 0 h k).1+(bsK c 0 h k).2) / 2
theorem Qxo (c l h:Int):bsK c l h 0=(l,h):=rfl
theorem QBG (c h:Int):xK c h 0=h:=rfl
attribute [local simp] Qxo QBG
end Go.Proofs.YtnfeakhkfehkhaaGreatDoor
namespace Go.Proofs.YtnfeakhkfehkhaaGreatDoor
open Go.RowKit
def QpF (r:Nat):List (Nat×Option Nat):=match r with
 | 0=>kpn [0,1,2]
 | 1=>kpn [0,1,2,10]
 | 2=>kpn [0,1,2,10,37]
 | 3=>kpn [0,1,2,10]
 | 4=>kpn [0,1,2,10,39]
 | 5=>kpn [6,7]
 | 6=>[(0,none),(1,none),(2,none),(11,some 1)]
 | 7=>[(0,none),(1,none),(2,none),(11,some 1),(12,none)]
 | 8=>[(0,none),(1,none),(2,none),(11,some 1),(12,none),(44,none)]
 | 9=>[(0,none),(1,none),(2,none),(11,some 1),(12,none)]
 | 10=>[(0,none),(1,none),(2,none),(11,some 1),(12,none),(13,some 1)]
 | 11=>[(0,none),(1,none),(2,none),(11,some 1),(12,none),(13,some 1),(51,none)]
 | 12=>[(0,none),(1,none),(2,none),(11,some 1),(12,none),(13,some 1),(14,none)]
 | 13=>[(0,none),(1,none),(2,none),(11,some 1),(12,none),(13,some 1),(14,none),(55,none)]
 | 14=>[(0,none),(1,none),(2,none),(11,some 1),(12,none),(13,some 1),(14,none)]
 | 15=>[(0,none),(1,none),(2,none),(11,some 1),(12,none),(13,some 1),(14,none),(64,none)]
 | 16=>[(0,none),(1,none),(2,none),(11,some 1),(12,none),(13,some 1),(14,none)]
 | 17=>[(0,none),(1,none),(2,none),(11,some 1),(12,none)]
 | 18=>[(0,none),(1,none),(11,some 1),(15,none)]
 | 19=>[(0,none),(1,none),(11,some 1),(15,none),(79,none)]
 | 20=>[(0,none),(1,none),(11,some 1),(15,none)]
 | 21=>[(0,none),(1,none),(11,some 1),(15,none),(16,none),(17,none)]
 | 22=>[(0,none),(1,none),(11,some 1),(15,none),(16,none),(89,none)]
 | 23=>kpn [6,7]
 | 24=>kpn [6,7]
 | _=>[]
theorem ok72:∀(n:Nat) ds d,s72 n ds=some d->PureC Tryz.prog 72 ds d
 | 0=>QEb
 | n+1=>QFP n (ok72 n)
noncomputable def QGC:List D->Option D:=sp4 (Qy rLi) (Qy Qt) (Qy Qt) Qbh (Qex (Qy Qt) QaI) λS c g many=>if 0<=many/\many.toNat+g.length<=100/\QrR S c g then some (QaV (QbA S c) S.length many.toNat g)else none
theorem QGZ:∀ds d,QGC ds=some d->PureC Tryz.prog 72 ds d:=Qjb λS c g many r hr=>by
 split at hr
 .rename_i hc;cases hr;obtain⟨n,rfl⟩:∃n:Nat,many=n:=⟨many.toNat,by omega⟩
  refine ok72 n _ _ ?_;have c2:(n:Int)=(n:Int)/\n+g.length<=100/\QrR S c g:=⟨rfl,by simpa using hc.2.1,hc.2.2⟩
  show s72 n [.sl 1 (S.map rLi.enc),.sl 1 (c.map Qt.enc),.sl 1 (g.map Qt.enc),DI n]=_;simp only[s72,sp4,Qle,QQ,Qam];rw[if_pos ⟨trivial,c2.2⟩];rfl
 .cases hr
noncomputable def QsN (b:List Bat) (i:Nat) (k:Int):Bool:=QoL b i k.toNat
noncomputable def QsT (b:List Bat) (c g:List Int) (i:Nat):List Int:=if QcW b g (i:Int)=true then c.filter (QsN b i)else []
noncomputable def Qur (b:List Bat) (c g:List Int) (k:Nat):List (List Int):=(List.range k).map (QsT b c g)
noncomputable def QhN (b:List Bat) (c g:List Int):List (List Int):=Qur b c g b.length
theorem Qq1 (b:List Bat) (c g:List Int) (k:Nat):(Qur b c g k).length=k:=by simp[Qur]
theorem QvE (b:List Bat) (c g:List Int) (k:Nat):Qur b c g (k+1)=Qur b c g k++[QsT b c g k]:=by simp[Qur,List.range_succ]
theorem Qwz (b:List Bat) (c g:List Int) (i:Nat):(QsT b c g i).length<=c.length:=by
 unfold QsT;split
 .exact List.length_filter_le _ _
 .simp
noncomputable def Qqq (b:List Bat) (c g:List Int):List Int×Bool:=QkD (λm=>QaV (QbA (QhN b c g) c) b.length m []) (b.length+1) 0
def QmO (b:List Bat) (c g:List Int):Int:=if(Q5 b).2.2=0 then(if(Qnc b c&&Qnc b g)=true then 0 else 4)else(Q5 b).2.2
noncomputable def QjZ (b:List Bat) (c g:List Int):List Int×Int:=if QmO b c g=0 then(if(Qqq b c g).2=true then((Qqq b c g).1,0)else([],9))else([],QmO b c g)
theorem Qe8 {b:List Bat} {l:List Int} :Qnc b l=true↔∀n∈l,0<=n/\n < b.length:=by
 unfold Qnc;rw[Bool.not_eq_true',List.any_eq_false];constructor
 .intro h n hn;have:=h n hn;have h2:inR n 0 ((b.length:Int) - 1)=true:=by simpa using this
  have:=Qau.1 h2;omega
 .intro h n hn;have:=h n hn;have h2:inR n 0 ((b.length:Int) - 1)=true:=Qau.2 (by omega)
  rw[h2]; simp
theorem Qqj (b:List Bat) (c g:List Int):QmO b c g=0↔ValidB b/\Qnc b c=true/\Qnc b g=true:=by
 unfold QmO;by_cases h:(Q5 b).2.2=0
 .rw[if_pos h];have hv:=(Qbl b).1 h;cases h1:Qnc b c<;>cases h2:Qnc b g<;>simp[hv]
 .rw[if_neg h];have hv:¬ValidB b:=λhv=>h ((Qbl b).2 hv);simp[h,hv]
noncomputable def l28:List (Nat×(List D->Option D)):=[(18,s18),(44,s44),(45,s45),(63,s63),(72,QGC)]
theorem QHq:Qay Tryz.prog (Qas l28):=Ql (Ql (Ql (Ql (Ql QB Qyw QGZ) QyY QRO) QFd ok45) QCY ok44) QyE QKw
noncomputable def s28:List D->Option D:=sp3 (Qy QO) (Qy Qt) (Qy Qt) (Qex (Qy Qt) Qbh) λb c g=>if bkB b=true/\c.length<=17592186044416/\g.length<=17592186044416 then some (QjZ b c g)else none
set_option maxHeartbeats 4000000 in
theorem ok28:∀ds d,s28 ds=some d->PureC Tryz.prog 28 ds d:=QcG λb c g r hr=>by
 split at hr
 .rename_i aN;obtain⟨cO,eB,vX⟩:=aN;cases hr;refine Qbz (Qex (Qy Qt) Qbh) (QjZ b c g) (QE QHq 91 QpF []) Tryz.func28 rfl rfl (Zb rfl) (by kernel_rfl) ?_
  rw[Tryz.results28];have h18:s18 [.sl 5 (b.map QO.enc)]=some (.tup [DI (Q5 b).1,DI (Q5 b).2.1,DI (Q5 b).2.2]):=by
   simp only[s18,sp1,QR];rw[if_pos cO]; rfl
  by_cases he:QmO b c g=0
  .obtain⟨hv,hc,hg⟩:=(Qqj b c g).1 he;have aQ:=hv.ok;have aX:=aQ.le;have hcN:QhC b c:=⟨eB,Qe8.1 hc⟩;have hgN:QhC b g:=⟨vX,Qe8.1 hg⟩;have h44c:s44 [.sl 5 (b.map QO.enc),.sl 1 (c.map Qt.enc)]=some (DB true):=by
    simp only[s44,sp2,QR,QQ];rw[if_pos ⟨aX,eB⟩,hc]; rfl
   have h44g:s44 [.sl 5 (b.map QO.enc),.sl 1 (g.map Qt.enc)]=some (DB true):=by
    simp only[s44,sp2,QR,QQ];rw[if_pos ⟨aX,vX⟩,hg]; rfl
   have h45:∀i,i < b.length->s45 [.sl 5 (b.map QO.enc),.sl 0 [],.sl 1 (g.map Qt.enc),.sl 1 [[DI (i:Nat)]]]=some (DB (QcW b g ((i:Nat):Int))):=λi hi=>by
    have e:(.sl 1 [[DI ((i:Nat):Int)]]:D)= .sl 1 ([((i:Nat):Int)].map Qt.enc):=rfl;rw[e];simp only[s45,sp4,QR,QQ,Qar];have hN1:QhC b []:=⟨by simp,by simp⟩
    have hN2:QhC b [((i:Nat):Int)]:=⟨by simp,λn hn=>by rw[List.mem_singleton.1 hn]; omega⟩
    rw[if_pos ⟨hv,hN1,hgN,hN2⟩];simp[QAy]
   rw[QiM hv]at h18;have cH:QjZ b c g=if(Qqq b c g).2=true then((Qqq b c g).1,0)else([],9):=by unfold QjZ; rw[if_pos he]
   rw[cH];simp[QpF,l28,Qg,Qe,h18,h44c,h44g]
   (generalize aC:Cx.loop _ _ _=aE; apply Qi aC (λk=>⟨[(0,.d (.sl 5 (b.map QO.enc))),(1,.d (.sl 1 (c.map Qt.enc))),(2,.d (.sl 1 (g.map Qt.enc))),(11,.sl 1 ((Qur b c g k).map rLi.enc) (.tok 11)),(12,.d (DI k))],[],[11],[]⟩) b.length (by first | (simp; done) | (simp; rfl) | (simp; simp[*])); rotate_left; (show _ < 281474976710656; omega); rfl; rotate_left; all_goals clear aC)
   .intro k hk;have bB:(k:Int) < b.length:=by omega
    have w1:=Qa ((k:Int)+1) (by omega) (by omega)
    have h45k:=h45 k hk;have sD:=Qq1 b c g k;have a1:k+1<=140737488355328:=by omega
    have a2:(k+1)*24<=140737488355328:=by omega
    rw[QvE];cases oH:QcW b g (k:Int)with
    | false=>
     rw[oH]at h45k;have e:QsT b c g k=[]:=by unfold QsT; rw[oH]; simp
     rw[e];simp[QpF,Qad,bB,h45k,sD,a1,a2,w1]
    | true=>
     rw[oH]at h45k;have e:QsT b c g k=c.filter (QsN b k):=by unfold QsT; rw[oH]; simp
     rw[e];simp[QpF,Qad,bB,h45k]
     (generalize aC:Cx.loop _ _ _=aE; apply Qi aC (λj=>⟨[(0,.d (.sl 5 (b.map QO.enc))),(1,.d (.sl 1 (c.map Qt.enc))),(2,.d (.sl 1 (g.map Qt.enc))),(11,.sl 1 ((Qur b c g k).map rLi.enc) (.tok 11)),(12,.d (DI k)),(13,.sl 1 (((c.take j).filter (QsN b k)).map Qt.enc) (.tok 13)),(14,.d (DI j))],[],[13,11],[]⟩) c.length (by first | (simp; done) | (simp; rfl) | (simp; simp[*])); rotate_left; (show _ < 281474976710656; omega); rfl; rotate_left; all_goals clear aC)
     .intro j hj;have aO:(j:Int) < c.length:=by omega
      have w3:=Qa ((j:Int)+1) (by omega) (by omega)
      have h63:=QyT hv (i:=(k:Int)) (by omega) (hcN.2 c[j] (Ze hj))
      rw[Int.toNat_natCast]at h63;have lM:((c.take j).filter (QsN b k)).length<=j:=Nat.le_trans (List.length_filter_le _ _) (by simp; omega)
      have b1:((c.take j).filter (QsN b k)).length+1<=140737488355328:=by omega
      have b2:(((c.take j).filter (QsN b k)).length+1)*8<=140737488355328:=by omega
      rw[List.take_succ_eq_append_getElem hj,List.filter_append];have ef:QsN b k c[j]=QoL b k c[j].toNat:=rfl;cases hm:QoL b k c[j].toNat with
      | true=>
       rw[hm]at h63 ef;generalize(c.take j).filter (QsN b k)=L at*;simp[QpF,Qc,hj,aO,w3,h63,b1,b2,ef]
      | false=>
       rw[hm]at h63 ef;generalize(c.take j).filter (QsN b k)=L at*;simp[QpF,Qc,hj,aO,w3,h63,ef]
     .rw[List.take_length];generalize c.filter (QsN b k)=L;simp[QpF,sD,a1,a2,w1]
   .have hSe:Qur b c g b.length=QhN b c g:=rfl;have hSl:(QhN b c g).length=b.length:=Qq1 b c g b.length;have hSm:∀x∈QhN b c g,x.length<=17592186044416:=λx hx=>by
     obtain⟨i,_,rfl⟩:=List.mem_map.1 hx;exact Nat.le_trans (Qwz b c g i) eB
    have h72:∀m:Nat,m<=8->QGC [.sl 1 ((QhN b c g).map rLi.enc),.sl 1 (c.map Qt.enc),.sl 0 [],DI m]=some (.tup [.sl 1 ((QaV (QbA (QhN b c g) c) b.length m []).1.map Qt.enc),DB (QaV (QbA (QhN b c g) c) b.length m []).2]):=λm hm=>by
     have cd:(0:Int)<=(m:Int)/\((m:Int)).toNat+([]:List Int).length<=100/\QrR (QhN b c g) c []:=⟨by omega,by simp; omega,by omega,hSm,eB,by simp,by simp⟩
     simp only[QGC,sp4,Qle,QQ,Qam,Qar];rw[if_pos cd,hSl];simp only[Option.map_some,Qiu,Qbk,QeF,Qg,Int.toNat_natCast]
    rw[hSe];simp[QpF];unfold Qqq;rcases QaK (λm=>!(QaV (QbA (QhN b c g) c) b.length m []).2) (b.length+1)with hall | ⟨q,hq,aL,nD⟩
    .have hall':∀m,m < b.length+1->(QaV (QbA (QhN b c g) c) b.length m []).2=false:=λm hm=>by simpa using hall m hm
     rw[QeD (λj hj=>by rw[Nat.zero_add]; exact hall' j hj)]
     (generalize aC:Cx.loop _ _ _=aE; apply Qi aC (λm=>⟨[(0,.d (.sl 5 (b.map QO.enc))),(1,.d (.sl 1 (c.map Qt.enc))),(11,.sl 1 ((QhN b c g).map rLi.enc) (.tok 11)),(15,.d (DI m))],[],[11],[]⟩) (b.length+1) (by first | (simp; done) | (simp; rfl) | (simp; simp[*])); rotate_left; (show _ < 281474976710656; omega); rfl; rotate_left; all_goals clear aC)
     .intro m hm;have rA:(m:Int)<=b.length:=by omega
      have w3:=Qa ((m:Int)+1) (by omega) (by omega)
      have h72m:=h72 m (by omega)
      have hr2:=hall' m hm;generalize QaV (QbA (QhN b c g) c) b.length m []=r at*;obtain⟨r1,r2⟩:=r;simp only at hr2;subst hr2;simp[QpF,rA,h72m,w3]
     .have hnl:¬((b.length:Int)+1<=b.length):=by omega
      simp[QpF,hnl,Qar]
    .have hgd':∀m,m < q->(QaV (QbA (QhN b c g) c) b.length m []).2=false:=λm hm=>by simpa using nD m hm
     have wV:(QaV (QbA (QhN b c g) c) b.length q []).2=true:=by simpa using aL
     rw[QeO (j:=q) hq (by rw[Nat.zero_add]; exact wV) (λj hj=>by rw[Nat.zero_add]; exact hgd' j hj),Nat.zero_add]
     have h72q:=h72 q (by omega)
     have gT:(q:Int)<=b.length:=by omega
     generalize hrq:QaV (QbA (QhN b c g) c) b.length q []=rq at*;obtain⟨rq1,rq2⟩:=rq;simp only at wV;subst wV
     (generalize aC:Cx.loop _ _ _=aE; apply Qi aC (λm=>⟨[(0,.d (.sl 5 (b.map QO.enc))),(1,.d (.sl 1 (c.map Qt.enc))),(11,.sl 1 ((QhN b c g).map rLi.enc) (.tok 11)),(15,.d (DI m))],[],[11],[]⟩) q (by first | (simp; done) | (simp; rfl) | (simp; simp[*])); rotate_left; (show _ < 281474976710656; omega); rfl; rotate_left; all_goals clear aC)
     .intro m hm;have rA:(m:Int)<=b.length:=by omega
      have w3:=Qa ((m:Int)+1) (by omega) (by omega)
      have h72m:=h72 m (by omega)
      have hr2:=hgd' m hm;generalize QaV (QbA (QhN b c g) c) b.length m []=r at*;obtain⟨r1,r2⟩:=r;simp only at hr2;subst hr2;simp[QpF,rA,h72m,w3]
     .simp[QpF,gT,h72q,QQ]
  .have cH:QjZ b c g=([],QmO b c g):=by unfold QjZ; rw[if_neg he]
   rw[cH];have aS:(QmO b c g != 0)=true:=bne_iff_ne.2 he;by_cases h0:(Q5 b).2.2=0
   .have hv:=(Qbl b).1 h0;have aX:=hv.ok.le;have h44c:s44 [.sl 5 (b.map QO.enc),.sl 1 (c.map Qt.enc)]=some (DB (Qnc b c)):=by
     simp only[s44,sp2,QR,QQ];rw[if_pos ⟨aX,eB⟩]; rfl
    have h44g:s44 [.sl 5 (b.map QO.enc),.sl 1 (g.map Qt.enc)]=some (DB (Qnc b g)):=by
     simp only[s44,sp2,QR,QQ];rw[if_pos ⟨aX,vX⟩]; rfl
    rw[QiM hv]at h18;unfold QmO at he|-;rw[if_pos h0]at he|-;cases hc:Qnc b c with
    | false=>
     rw[hc]at h44c;simp[QpF,l28,Qg,Qe,h18,h44c,Qar]
    | true=>
     rw[hc]at h44c;cases hg:Qnc b g with
     | false=>
      rw[hg]at h44g;simp[QpF,l28,Qg,Qe,h18,h44c,h44g,Qar]
     | true=>rw[hc,hg]at he; exact absurd rfl he
   .have u0:QmO b c g=(Q5 b).2.2:=by unfold QmO; rw[if_neg h0]
    rw[u0]at aS|-;have h0':((Q5 b).2.2==0)=false:=by simpa using h0
    simp[QpF,l28,Qg,Qe,h18,h0',aS,Qar]
 .cases hr
theorem QDg (xs:Array Value) (w:World):(callFunc 28 xs).run Tryz.prog w= .ok (.enter 28 xs) w:=by kernel_rfl
end Go.Proofs.YtnfeakhkfehkhaaGreatDoor
