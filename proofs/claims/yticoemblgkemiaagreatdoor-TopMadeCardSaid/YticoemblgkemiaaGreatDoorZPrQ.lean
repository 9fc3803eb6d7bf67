/-
  The program of the trace chapter: where wax may be. Conditions: none.
-/
import Derived.Test.YticoemblgkemiaaGreatDoorZPrO
import Derived.Test.YticoemblgkemiaaGreatDoorZPrM
import Derived.Test.YticoemblgkemiaaGreatDoorZTr
set_option linter.unusedSimpArgs false
set_option linter.unusedVariables false
namespace Go.Proofs.YticoemblgkemiaaGreatDoor
open Go.RowKit
def Qlc (r:Nat):List (Nat×Option Nat):=match r with
 | 0=>kpn [0,2,3,4,5,6,8]
 | 1=>kpn [0,2,3,4,5,6,8,19]
 | 2=>kpn [2,3,4,5,21]
 | 3=>kpn [5,25,26]
 | 4=>kpn [5,25,26,27]
 | 5=>kpn [5,10,11,25,26]
 | 6=>kpn [5,25,26]
 | 7=>kpn [5,25,26]
 | 8=>kpn [0,2,6,8,12]
 | 9=>kpn [0,2,6,8,12]
 | 10=>kpn [0,2,6,8,12,50,51]
 | 11=>kpn [0,2,6,8,12,50,51,52]
 | 12=>kpn [0,2,6,8,12,13,50,51]
 | 13=>kpn [0,2,6,8,12,13,14,50,51]
 | 14=>kpn [0,2,6,8,12,13,14,50,51]
 | 15=>kpn [0,2,6,8,12,13,14,50,51]
 | 16=>kpn [0,2,6,8,12,50,51]
 | 17=>kpn [0,2,6,8,12,50,51]
 | _=>[]
def kp60 (r:Nat):List (Nat×Option Nat):=match r with
 | 0=>kpn [2,3,4]
 | 1=>kpn [2,3,4,5]
 | 2=>kpn [2,4,5]
 | 3=>[(4,none)]
 | 4=>[(4,none)]
 | _=>[]
structure MA where
 b:List Bat
 i:Nat
 k:Nat
 sup:Sup
 more:List Edg
 all:Nat->Bool
 hv:sup.v=noN
 ha:∀x,8<=x->all x=false
def Qir (l:List Edg):D:=if l=[]then .sl 0 []else .sl 2 (l.map Qci.enc)
theorem Qx0:Qir []= .sl 0 []:=rfl
theorem QvO (l:List Edg) (e:Edg):Qir (l++[e])= .sl 2 (l.map Qci.enc++[Qci.enc e]):=by
 unfold Qir; rw[if_neg (by simp),List.map_append]; rfl
theorem Qhp (l:List Edg):(QJ Qci).dec (Qir l)=some l:=by
 unfold Qir;split
 .rename_i h; subst h; exact Qb9 Qci 0
 .exact Qkd l
theorem QxR {l l':List Edg} (h:Qir l=Qir l'):l=l':=by
 have h1:=Qhp l;rw[h,Qhp]at h1;exact(Option.some.inj h1).symm
def QxA:List (Sum Nat D):=[.inl 1000,.inl 1001,.inl 1002,.inl 1003]
attribute [local simp] QxA
def hB (b:List Bat):Nat->Int:=λj=>(QT b).getD j 0
def nB (b:List Bat):Nat->Int:=λj=>(QaD b).getD j 0
def bkX (b:List Bat):List X:=c87 (hB b) (nB b) noN (.d (.sl 5 (b.map QQ.enc))) (.d (.sl 1 ((Qae b).map QH.enc)))
def QLr (b:List Bat) (i:Nat) (all:Nat->Bool):List Cont:=
 [.cells (bkX b),.cells [.d (DI i)],.cells (Qk 8 (λk=>DB (all k))),.cells [.fx 139 [] QxA]]
def QjL (a:MA):List X×List Cont×List Nat:=([.d (DI a.k),.d (.agg (QdW a.sup.h a.sup.n noN)),.d (Qir a.more),.loc 1000 0,.loc 1001 0,.loc 1002 0,.loc 1003 0],QLr a.b a.i a.all,[])
structure MayOk (f:Nat) (a:MA):Prop where
 v:ValidB a.b
 i:a.i < a.b.length
 k:a.k+f=(QS a.b).length
 m:a.more.length<=a.k
 ed:∀e∈a.more,0<=e.fr/\e.fr < e.to/\e.to < 8
 h:∀x,-(a.k:Int)<=a.sup.h x/\a.sup.h x<=100000
 n:∀x,-(a.k:Int)<=a.sup.n x/\a.sup.n x<=100000
noncomputable instance (f:Nat) (a:MA):Decidable (MayOk f a):=Classical.propDecidable _
noncomputable def Qma (f:Nat) (a:MA):Option (D×List Cont×List Nat):=
 if MayOk f a then some (.tup [],QLr a.b a.i (QpZ a.b a.i ((QS a.b).drop a.k) a.sup.h a.sup.n a.more a.all),[])else none
theorem QEC {b b':List Bat} (h:bkX b=bkX b'):b=b':=by
 have h1:(bkX b)[80]?=(bkX b')[80]?:=by rw[h]
 rw[bkX,bkX,QW,QW]at h1;simp only[Zs,X.d.injEq,D.sl.injEq,true_and]at h1;exact QgI QQ h1
theorem Qz5 {s s':Sup} (hv:s.v=noN) (gR:s'.v=noN) (h:QdW s.h s.n noN=QdW s'.h s'.n noN):s=s':=by
 refine Subtype.ext ?_;rw[s.eq,s'.eq,hv,gR,h]
theorem QK4 (f:Nat) (a b:MA) (h:QjL a=QjL b):Qma f a=Qma f b:=by
 obtain⟨bb,i,k,sup,more,all,hv,ha⟩:=a;obtain⟨bb',i',k',sup',more',all',gR,yY⟩:=b;simp only[QjL,QLr,Prod.mk.injEq,List.cons.injEq,X.d.injEq,D.v.injEq,D.agg.injEq,Value.int.injEq,Int.natCast_inj,Cont.cells.injEq,and_true,true_and]at h;obtain⟨⟨h1,h2,h3⟩,h4,h5,h6⟩:=h;subst h1; subst h5;have e2:=Qz5 hv gR h2;have e3:=QxR h3;have e4:=QEC h4;subst e2; subst e3; subst e4;have e6:all=all':=by
  funext x;by_cases hx:x < 8
  .have:=Qdw h6 x hx;simpa using this
  .rw[ha x (by omega),yY x (by omega)]
 subst e6;rfl
noncomputable def QIn (f:Nat):QfF:=Qns QjL (Qma f)
theorem QvD (xs:Array Value) (w:World):(callFunc 139 xs).run Tryz.prog w= .ok (.enter 139 xs) w:=by kernel_rfl
theorem Qf6 (b:List Bat):(Qae b).length=(QS b).length:=by simp[Qae]
noncomputable def QCi:List (Nat×(List D->Option D)):=[(138,s53),(140,QNk),(141,QGQ)]
theorem QJb:QaE Tryz.prog (Qaw QCi):=Qh (Qh (Qh Qs QFd QOu (λ_=>QLD)) QEi QPf) QyP QNZ
def Qli (r:Nat):Nat:=if r=16 then 1 else 0
theorem QCz {l:List Nat} {k:Nat} (h:k=l.length):l.drop k=[]:=List.drop_of_length_le (by omega)
theorem QJS (h n:Nat->Int):s53 [.agg (QdW h n noN)]=some (DB (Qc2 (Sup.of h n noN))):=by
 have hd:(Qcf Qtl).dec (.agg (QdW h n noN))=some (Sup.of h n noN):=QmA h n noN;simp only[s53,sp1,hd]; rfl
theorem Qtf (b:List Bat) (i:Nat):∀(l:List Nat) (h n:Nat->Int) (more:List Edg) (all:Nat->Bool),(∀x,8<=x->all x=false)->b.length<=8->∀x,8<=x->QpZ b i l h n more all x=false:=by
 intro l h n more all ha hb x hx;cases q:QpZ b i l h n more all x with
 | false=>rfl
 | true=>
  rcases(Qi8 b i x l h n more all).1 q with q | q
  .rw[ha x hx]at q; cases q
  .exact absurd q (Qjt (by omega) _ _ _ _)
theorem QHL {b:List Bat} (aP:BookOk b) {i:Nat} (hi:i < b.length) {more:List Edg} (hm:more.length<=100) (dM:∀e∈more,0<=e.fr/\e.fr < e.to/\e.to < 8):QNk [.agg (QdW (hB b) (nB b) noN++[.sl 5 (b.map QQ.enc),.sl 1 ((Qae b).map QH.enc)]),DI i,Qir more]=some (.agg ((List.range 8).map λk=>DB (Qam b i more b.length k))):=by
 have hd:(Qcf rBx).dec (.agg (QdW (hB b) (nB b) noN++[.sl 5 (b.map QQ.enc),.sl 1 ((Qae b).map QH.enc)]))=some (Qek b):=rBx.de (Qek b);simp only[QNk,sp3,hd,Qak,Qhp];rw[if_pos ⟨aP,by omega,by show(i:Int) < b.length; omega,hm,dM⟩]
 rfl
theorem QKH {l:List Nat} :∀cs:List X,(∀c∈cs,∃d,c= .d d)->QuO l cs=none
 | [],_=>rfl
 | c::t,h=>by
  obtain⟨d,rfl⟩:=h c (by simp)
  have:=QKH (l:=l) t λc hc=>h c (by simp[hc])
  simp only[QuO,this]; rfl
theorem QDg:∀cs:List X,(∀c∈cs,∃d,c= .d d)->QdL cs=[]
 | [],_=>rfl
 | c::t,h=>by
  obtain⟨d,rfl⟩:=h c (by simp)
  have:=QDg t λc hc=>h c (by simp[hc])
  simp only[QdL,this]; rfl
theorem QHo {f:X->X} (hf:∀d,f (.d d)= .d d):∀cs:List X,(∀c∈cs,∃d,c= .d d)->cs.map f=cs
 | [],_=>rfl
 | c::t,h=>by
  obtain⟨d,rfl⟩:=h c (by simp)
  rw[List.map_cons,hf,QHo hf t λc hc=>h c (by simp[hc])]
theorem QtT {h n:Nat->Int} {v:Nat->Nat->Bool} {d e:D} :∀c∈c87 h n v (.d d) (.d e),∃d,c= .d d:=by
 intro c hc;unfold c87 at hc;rcases Zp.1 hc with hc | hc
 .exact QbJ c hc
 .simp only[List.mem_cons,List.not_mem_nil,or_false]at hc;rcases hc with rfl | rfl
  .exact⟨_,rfl⟩
  .exact⟨_,rfl⟩
theorem QcI (l:List Nat) {h n:Nat->Int} {v:Nat->Nat->Bool} {d e:D} :QuO l (c87 h n v (.d d) (.d e))=none:=QKH _ QtT
theorem QcS {h n:Nat->Int} {v:Nat->Nat->Bool} {d e:D} :QdL (c87 h n v (.d d) (.d e))=[]:=QDg _ QtT
theorem Qeq (ls:List Nat) (t0:Option Nat) {h n:Nat->Int} {v:Nat->Nat->Bool} {d e:D} :(c87 h n v (.d d) (.d e)).map (X.ren ls t0)=c87 h n v (.d d) (.d e):=QHo (λ_=>rfl) _ QtT
theorem QcP (ls:List Nat) (i:Nat) (tl:List Nat) {h n:Nat->Int} {v:Nat->Nat->Bool} {d e:D} :(c87 h n v (.d d) (.d e)).map (X.back ls i tl)=c87 h n v (.d d) (.d e):=QHo (λ_=>rfl) _ QtT
def orK (A D:Nat->Bool) (q x:Nat):Bool:=if x < q then A x||D x else A x
theorem QOc (A D:Nat->Bool) (x:Nat):orK A D 0 x=A x:=by simp[orK]
attribute [local simp] QOc
theorem QKa (A D:Nat->Bool) (q:Nat):orK A D q q=A q:=by simp[orK]
theorem QB2 (A D:Nat->Bool) (q:Nat):QZ (orK A D q) q (A q||D q)=orK A D (q+1):=by
 funext x;unfold QZ orK;by_cases e:x=q
 .subst e; rw[if_pos rfl,if_pos (by omega)]
 .rw[if_neg e];by_cases h:x < q
  .rw[if_pos h,if_pos (by omega)]
  .rw[if_neg h,if_neg (by omega)]
set_option maxHeartbeats 4000000 in
theorem QFl:Qdl Tryz.prog 139 (QIn 0):=Qeb λa r hr=>by
 obtain⟨b,i,k,sup,more,all,hv,ha⟩:=a;unfold Qma at hr;split at hr
 .rename_i hc;cases hr;obtain⟨lY,hi,hk,hm,dM,hh,hn⟩:=hc;dsimp only at lY hi hk hm dM hh hn;have aP:=lY.ok;have bE:=aP.le;have tZ:=lY.lost;rw[Qf6]at tZ;refine QbO (Qby QJb Qb6 Qbn Qcx 82 Qlc [] (λ_=>[]) Qli) Tryz.func139 rfl rfl (Zb rfl) (by kernel_rfl) (by kernel_rfl) ?_
  rw[Tryz.results139];have hd:(QS b).drop k=[]:=QCz (by omega)
  have aX:((k:Int)==(((Qae b).length:Nat):Int))=true:=by rw[Qf6]; simp; omega
  have jG:=QJS sup.h sup.n;have h102:=QHL aP hi (more:=more) (by omega) dM
  simp only[QjL,QLr,hd,QpZ];generalize sup.h=h at*;generalize sup.n=n at*;have hw:Qc2 (Sup.of h n noN)=Qc2 (Sup.of h n noN):=rfl;simp only[bkX];cases hwk:Qc2 (Sup.of h n noN)with
  | false=>
   rw[hwk]at jG;change s53 [.agg ((List.range 80).map (QbA h n noN))]=_ at jG;simp[-QaB,-Q7,Qq,QD,QC,Qlc,QCi,QE,QN,Qas,Qaj,QL,QA,Qv,Qb,QaG,Qab,QbT,QcI,aX,jG];done
  | true=>
   rw[hwk]at jG;change s53 [.agg ((List.range 80).map (QbA h n noN))]=_ at jG;simp[-QaB,-Q7,Qq,Qp,QD,QC,Qlc,QCi,QE,QN,Qas,Qaj,QL,QA,Qv,Qb,QaG,Qab,QaA,Qag,aX,jG,h102];rw[QiK (f:=λk=>all k||Qam b i more b.length k) (g:=orK all (Qam b i more b.length) 8) λt ht=>by rw[orK,if_pos ht]]
   generalize Qam b i more b.length=DD at*
   (generalize aC:Cx.loop _ _ _=aE; apply Qi aC (λq=>⟨[(5,.loc 1002 0),(25,.d (.agg ((List.range 8).map λt=>DB (DD t)))),(26,.d (DI q))],[(1003,[.fx 139 [] [.inl 1000,.inl 1001,.inl 1002,.inl 1003]]),(1000,c87 (hB b) (nB b) noN (.d (.sl 5 (b.map QQ.enc))) (.d (.sl 1 ((Qae b).map QH.enc)))),(1001,[.d (DI i)]),(1002,Qk 8 (λk=>DB (orK all (DD) q k)))],[],[]⟩) 8 (by first | (simp; done) | (simp; rfl) | (simp; simp[*])); rotate_left; (show _ < 281474976710656; omega); rfl; rotate_left; all_goals clear aC)
   .intro q hq;have kV:(q:Int) < 8:=by omega
    have iJ:q+1<=8:=by omega
    have w2:=Qa ((q:Int)+1) (by omega) (by omega)
    have bV:=QKa all DD q;have eR:=QB2 all DD q;cases h1:all q with
    | true=>
     rw[h1]at bV eR;rw[Bool.true_or]at eR;simp[-QaB,-Q7,Qlc,Qas,Qaj,QL,QA,Qb,Qg,Qo,Qfy,hq,kV,iJ,w2,bV,eR];done
    | false=>
     rw[h1]at bV eR;rw[Bool.false_or]at eR;simp[-QaB,-Q7,Qlc,Qas,Qaj,QL,QA,Qb,Qg,Qo,Qfy,hq,kV,iJ,w2,bV,eR];done
   .simp[-QaB,-Q7,Qlc,Qas,Qaj,QL,QA,QbT,QcI];done
 .cases hr
theorem Qp9 {f:Nat} {b:List Bat} {i k:Nat} {h n:Nat->Int} {more:List Edg} {all:Nat->Bool} (hv:ValidB b) (hi:i < b.length) (hk:k+f=(QS b).length) (hm:more.length<=k) (dM:∀e∈more,0<=e.fr/\e.fr < e.to/\e.to < 8) (hh:∀x,-(k:Int)<=h x/\h x<=100000) (hn:∀x,-(k:Int)<=n x/\n x<=100000) (h8:∀x,8<=x->h x=0) (n8:∀x,8<=x->n x=0) (ha:∀x,8<=x->all x=false):
  QIn f [.d (DI k),.d (.agg ((List.range 80).map (QbA h n noN))),.d (Qir more),.loc 1000 0,.loc 1001 0,.loc 1002 0,.loc 1003 0] [.cells (c87 (hB b) (nB b) noN (.d (.sl 5 (b.map QQ.enc))) (.d (.sl 1 ((Qae b).map QH.enc)))),.cells [.d (DI i)],.cells (Qk 8 (λt=>DB (all t))),.cells [.fx 139 [] [.inl 1000,.inl 1001,.inl 1002,.inl 1003]]] []=some (.tup [],[.cells (c87 (hB b) (nB b) noN (.d (.sl 5 (b.map QQ.enc))) (.d (.sl 1 ((Qae b).map QH.enc)))),.cells [.d (DI i)],.cells (Qk 8 (λt=>DB (QpZ b i ((QS b).drop k) h n more all t))),.cells [.fx 139 [] [.inl 1000,.inl 1001,.inl 1002,.inl 1003]]],[]):=by
 have e1:(Sup.of h n noN).h=h:=by
  funext x; rw[QFc]; split
  .rfl
  .rw[h8 x (by omega)]
 have e2:(Sup.of h n noN).n=n:=by
  funext x; rw[QGA]; split
  .rfl
  .rw[n8 x (by omega)]
 have e3:(Sup.of h n noN).v=noN:=by
  funext x t; rw[QHT]; split<;>rfl
 have:=Qgh (QK4 f) (⟨b,i,k,Sup.of h n noN,more,all,e3,ha⟩:MA) (xs:=[.d (DI k),.d (.agg ((List.range 80).map (QbA h n noN))),.d (Qir more),.loc 1000 0,.loc 1001 0,.loc 1002 0,.loc 1003 0]) (cs:=[.cells (c87 (hB b) (nB b) noN (.d (.sl 5 (b.map QQ.enc))) (.d (.sl 1 ((Qae b).map QH.enc)))),.cells [.d (DI i)],.cells (Qk 8 (λt=>DB (all t))),.cells [.fx 139 [] [.inl 1000,.inl 1001,.inl 1002,.inl 1003]]]) (tl:=[]) (by simp only[QjL,e1,e2]; rfl)
 unfold QIn;rw[this];unfold Qma;have hc:MayOk f (⟨b,i,k,Sup.of h n noN,more,all,e3,ha⟩:MA):=by
  refine⟨hv,hi,hk,hm,dM,?_,?_⟩
  .show ∀x,_<=(Sup.of h n noN).h x/\_;rw[e1]; exact hh
  .show ∀x,_<=(Sup.of h n noN).n x/\_;rw[e2]; exact hn
 rw[if_pos hc];simp only[e1,e2];rfl
theorem QDj {h:Nat->Int} (h8:∀x,8<=x->h x=0) {j:Nat} (hj:j < 8):∀x,8<=x->Qch h j x=0:=λx hx=>by
 unfold Qch; rw[Q2 _ _ (by omega),h8 x hx]
theorem QxZ {h:Nat->Int} {k:Nat} (hh:∀x,-(k:Int)<=h x/\h x<=100000) (j:Nat):∀x,-((k+1:Nat):Int)<=Qch h j x/\Qch h j x<=100000:=λx=>by
 unfold Qch;have h1:=hh x;have h2:=hh j;by_cases q:x=j
 .subst q; rw[Qac]; omega
 .rw[Q2 _ _ q]; omega
theorem QJ9 (l:List Edg) (h:l.length<=1000):QGQ [Qir l]=some (.sl 2 (l.map Qci.enc)):=by
 simp only[QGQ,sp1,Qhp];rw[if_pos h]; rfl
theorem Qox (b:List Bat) (i to:Nat) (r:List Nat) (h n:Nat->Int) (more:List Edg) (all:Nat->Bool) (ha:∀x,8<=x->all x=false) (hb:b.length<=8):∀j x,8<=x->Qk1 b i to r h n more all j x=false
 | 0,x,hx=>Qtf b i r h n more all ha hb x hx
 | j+1,x,hx=>by
  rw[Qit];exact Qtf b i r _ _ _ _ (Qox b i to r h n more all ha hb j) hb x hx
attribute [local simp] QlW
set_option maxHeartbeats 8000000 in
theorem QFq (f:Nat) (ih:Qdl Tryz.prog 139 (QIn f)):Qdl Tryz.prog 139 (QIn (f+1)):=Qeb λa r hr=>by
 obtain⟨b,i,k,sup,more,all,hv,ha⟩:=a;unfold Qma at hr;split at hr
 .rename_i hc;cases hr;obtain⟨lY,hi,hk,hm,dM,hh,hn⟩:=hc;dsimp only at lY hi hk hm dM hh hn;have aP:=lY.ok;have bE:=aP.le;have tZ:=lY.lost;rw[Qf6]at tZ;refine QbO (Qby QJb (QeK Qb6 QvD ih) Qbn Qcx 82 Qlc [] (λ_=>[]) Qli) Tryz.func139 rfl rfl (Zb rfl) (by kernel_rfl) (by kernel_rfl) ?_
  rw[Tryz.results139];have hz:=QMJ [] (λ_ _=>none) (λ_=> .d .top) [] [];simp[-QaB]at hz;have j8:k < (QS b).length:=by omega
  have hd:(QS b).drop k=(QS b)[k]::(QS b).drop (k+1):=List.drop_eq_getElem_cons j8;have aX:((k:Int)==(((Qae b).length:Nat):Int))=false:=by rw[Qf6,beq_eq_false_iff_ne]; omega
  have hkL:(k:Int) < (((Qae b).length:Nat):Int):=by rw[Qf6]; omega
  have hkLn:k < (Qae b).length:=by rw[Qf6]; omega
  have rB:(Qae b)[k]=(((QS b)[k]:Nat):Int):=by simp[Qae]
  have nS:=Qf4 (Ze j8);have dG:QbV b (QS b)[k]=true:=(QdF.1 (Ze j8)).2;have h8:∀x,8<=x->sup.h x=0:=λx hx=>if_neg (by omega)
  have n8:∀x,8<=x->sup.n x=0:=λx hx=>if_neg (by omega)
  have w1:=Qa ((k:Int)+1) (by omega) (by omega)
  have nO:=Qp9 (f:=f) (h:=sup.h) (n:=sup.n) (more:=more) lY hi (by omega:k+1+f=_) (by omega) dM (λx=>by have:=hh x; omega) (λx=>by have:=hn x; omega) h8 n8 ha
  have ek:(((k+1:Nat):Nat):Int)=(k:Int)+1:=by omega
  rw[ek]at nO;simp only[QjL,QLr,hd];generalize uG:(QS b).drop (k+1)=r at*;generalize(QS b)[k]=to at*;generalize sup.h=h at*;generalize sup.n=n at*;rw[Qpo];simp only[bkX];simp[-QaB,-Q7,Qq,QD,QC,Qlc,QCi,QE,QN,Qas,Qaj,QL,QA,Qv,Qb,QaG,Qab,Qag,QbT,QaT,QcI,QbC,QcS,Qdg,Qeq,QcP,aX,hkL,rB,w1,nO,hkLn]
  (generalize aC:Cx.loop _ _ _=aE; apply Qi aC (λq=>⟨[(0,.d (DI k)),(2,.d (Qir more)),(6,.loc 1003 0),(8,.loc 8 0),(12,.d (DI to)),(50,.d (DI to)),(51,.d (DI q))],[(1000,c87 (hB b) (nB b) noN (.d (.sl 5 (b.map QQ.enc))) (.d (.sl 1 ((Qae b).map QH.enc)))),(1001,[.d (DI i)]),(1002,Qk 8 (λt=>DB (Qk1 b i to r h n more all q t))),(1003,[.fx 139 [] [.inl 1000,.inl 1001,.inl 1002,.inl 1003]]),(8,Qk 80 (QbA h n noN))],[],[]⟩) to (by first | (simp; done) | (simp; rfl) | (simp; simp[*])); rotate_left; (show _ < 281474976710656; omega); rfl; rotate_left; all_goals clear aC)
  .intro q hq;have mP:(q:Int) < to:=by omega
   have kV:(q:Int) < 8:=by omega
   have nI:q < 8:=by omega
   have iJ:q+1<=80:=by omega
   have hq80:q < 80:=by omega
   have jF:(to:Int) < 8:=by omega
   have fF:to < 8:=by omega
   have sX:8+to < 80:=by omega
   have ht81:8+to+1<=80:=by omega
   have aI:more.length<=1000:=by omega
   have w2:=Qa ((q:Int)+1) (by omega) (by omega)
   have hhq:=hh q;have oL:=hn to;have w3:=Qa (h q - 1) (by omega) (by omega)
   have w4:=Qa (n to - 1) (by omega) (by omega)
   have eA:=Qol (h:=h) (n:=n) (v:=noN) nI;have hu1:=Qst (h:=h) (n:=n) (v:=noN) (z:=h q - 1) nI;have lS:=QpH (h:=Qch h q) (n:=n) (v:=noN) fF;have hu2:=QCP (h:=Qch h q) (n:=n) (v:=noN) (z:=n to - 1) fF;change QZ (QbA h n noN) q (DI (h q - 1))=QbA (Qch h q) n noN at hu1;change QZ (QbA (Qch h q) n noN) (8+to) (DI (n to - 1))=QbA (Qch h q) (Qch n to) noN at hu2;have h103:=QJ9 more aI;have zZ:=Qp9 (f:=f) (h:=Qch h q) (n:=Qch n to) (more:=more++[⟨(q:Nat),(to:Nat)⟩]) (all:=Qk1 b i to r h n more all q) lY hi (by omega:k+1+f=_) (by simp; omega) (λe he=>by
    rcases Zp.1 he with he | he
    .exact dM e he
    .rw[List.mem_singleton]at he; subst he; simp only; omega) (QxZ hh q) (QxZ hn to) (QDj h8 nI) (QDj n8 fF) (Qox b i to r h n more all ha bE q)
   rw[ek,uG,<-Qit,QvO,QI]at zZ;have a1:more.length+1<=140737488355328:=by omega
   have a2:(more.length+1)*16<=140737488355328:=by omega
   generalize Qk1 b i to r h n more all (q+1)=A' at*;generalize Qk1 b i to r h n more all q=A at*;simp[-QaB,-Q7,QD,QC,hz,Qlc,Qli,QE,Qas,Qaj,QL,QA,Qv,Qb,Qg,Qo,QaG,QcF,Qbo,QbT,QaT,QcI,QbC,QcS,Qdg,Qeq,QcP,w1,w2,w3,w4,eA,lS,hu1,hu2,h103,zZ,a1,a2,mP,kV,iJ,hq80,jF,sX,ht81];done
  .simp[-QaB,-Q7,Qlc,Qas,Qaj,QL,QA,QbT,QcI];done
 .cases hr
end Go.Proofs.YticoemblgkemiaaGreatDoor
namespace Go.Proofs.YticoemblgkemiaaGreatDoor
open Go.RowKit
def QIm (r:Nat):List (Nat×Option Nat):=match r with
 | 0=>[(1,none),(2,none),(4,some 1)]
 | 1=>[(1,none),(4,some 1),(7,none),(8,none)]
 | 2=>[(1,none),(4,some 1),(7,none),(8,none),(9,none)]
 | 3=>[(1,none),(4,some 1),(5,none),(6,none),(7,none),(8,none)]
 | 4=>[(1,none),(4,some 1),(5,none),(7,none),(8,none),(17,none)]
 | 5=>[(1,none),(4,some 1),(7,none),(8,none)]
 | 6=>[(1,none),(4,some 1),(7,none),(8,none)]
 | 7=>[(4,some 1)]
 | _=>[]
theorem QKP:∀f,Qdl Tryz.prog 139 (QIn f)
 | 0=>QFl
 | f+1=>QFq f (QKP f)
theorem Qzp (xs:Array Value) (w:World):(callFunc 57 xs).run Tryz.prog w= .ok (.enter 57 xs) w:=by kernel_rfl
noncomputable def s60:List D->Option D:=sp2 (Qcf rBx) QaY (Qcf QC0) λx i=>if ValidB x.bats/\x=Qek x.bats/\0<=i/\i < x.bats.length then some (Oct.of (Qm6 x.bats i.toNat))else none
theorem Qy3 (b:List Bat):Qek b=⟨Sup.of (hB b) (nB b) noN,b,Qae b⟩:=rfl
theorem QGV {b:List Bat} (h:ValidB b):(∀x,0<=hB b x/\hB b x<=100000)/\∀x,0<=nB b x/\nB b x<=100000:=by
 have n9:=(QeA (Qek b).sup).1 (by rw[QeY h.ok]; exact h.sol)
 rw[QMf h.ok.le,QMT h.ok.le]at n9;exact n9.1
theorem hB_8 {b:List Bat} (h:b.length<=8):(∀x,8<=x->hB b x=0)/\∀x,8<=x->nB b x=0:=
 ⟨λx hx=>QfJ (by omega),λx hx=>Qcv (by omega)⟩
theorem QdQ {h n:Nat->Int} {v:Nat->Nat->Bool} {x y:X} :Qk 80 (QbA h n v)++[x,y]=c87 h n v x y:=rfl
set_option maxHeartbeats 4000000 in
theorem QOt:∀ds d,s60 ds=some d->PureC Tryz.prog 57 ds d:=Qay λx ii r hr=>by
 split at hr
 .rename_i hc;obtain⟨hv,hx,m9,o9⟩:=hc;cases hr;generalize fG:x.bats=b at*;subst hx;obtain⟨i,rfl⟩:∃i:Nat,ii=i:=⟨ii.toNat,by omega⟩
  have hi:i < b.length:=by omega
  have aP:=hv.ok;have bE:=aP.le;refine Qf (Qby Qs (QeK Qb6 QvD (QKP (QS b).length)) Qbn Qcx 12 kp60 [(5000,2,0),(5000,3,0)] (λ_=>[]) (λ_=>0)) Tryz.func57 rfl rfl (Zb rfl) (by kernel_rfl) ?_
  rw[Tryz.results57,Qy3];obtain⟨b1,b2⟩:=QGV hv;obtain⟨b3,b4⟩:=hB_8 bE;have nO:=Qp9 (f:=(QS b).length) (k:=0) (h:=hB b) (n:=nB b) (more:=[]) (all:=λ_=>false) hv hi (by omega) (by simp) (by simp) (λx=>by have:=b1 x; omega) (λx=>by have:=b2 x; omega) b3 b4 (λ_ _=>rfl)
  have hmay:QpZ b i (QS b) (hB b) (nB b) [] (λ_=>false)=Qm6 b i:=QD7 hv hi;rw[show((0:Nat):Int)=0 from rfl,Qx0,List.drop_zero,hmay]at nO;have ekb:∀b j,(b==5000)=false->Qeu [(5000,2,0),(5000,3,0)] b j=none:=λb j h=>Qd3 h (Qd3 h (QeM b)) j;have cG:∀(n:Nat) (g:Nat->D) (b i:Nat) (h5:(b==5000)=false) (av nw:List Nat),Qaz [(5000,2,0),(5000,3,0)] b i (Qk n g) av nw=(Qk n g,av,nw):=λn g b i h5 av nw=>QbM _ b _ i av nw (ekb b · h5) QbJ;have c87':∀(b i:Nat) (h5:(b==5000)=false) (h n:Nat->Int) (v:Nat->Nat->Bool) (d e:D) (av nw:List Nat),Qaz [(5000,2,0),(5000,3,0)] b i (c87 h n v (.d d) (.d e)) av nw=(c87 h n v (.d d) (.d e),av,nw):=λb i h5 h n v d e av nw=>QbM _ b _ i av nw (ekb b · h5) QtT;simp[-QaB,-Q7,Qq,QD,QC,QE,Qas,Qaj,Qv,Qb,QaG,QcF,Qab,QdQ,QcO,Qag,QbT,QaT,QcI,QbC,QcS,Qdg,Qeq,QcP,kp60,Qg7,repF,cG,c87',nO,Qtm,Qpx];done
 .cases hr
def QmQ (f:Nat->Bool) (i:Int) (k:Nat):Bool:=f k&&(k:Int) != i
noncomputable def s59:List D->Option D:=sp2 (Qcf QC0) QaY (QJ QH) λs i=>some (QcE (QmQ s.f i) 8)
end Go.Proofs.YticoemblgkemiaaGreatDoor
