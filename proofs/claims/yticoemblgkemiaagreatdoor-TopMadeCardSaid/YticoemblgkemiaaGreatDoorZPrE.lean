/-
  The program of the trace chapter: what may be taken is searched for. Conditions: none.
-/
import Derived.Test.YticoemblgkemiaaGreatDoorZPrD
set_option linter.unusedSimpArgs false
set_option linter.unusedVariables false
namespace Go.Proofs.YticoemblgkemiaaGreatDoor
open Go.RowKit
def Qfk (r:Nat):List (Nat×Option Nat):=match r with
 | 0=>kpn [0,1,2,3,4,5]
 | 1=>kpn [0,1,2,3,4,5,14,15]
 | 2=>kpn [0,1,2,3,4,5,14,15,16]
 | 3=>kpn [0,1,2,3,4,5,10,14,15]
 | 4=>kpn [0,1,2,3,4,5,10,14,15,30]
 | 5=>kpn [0,1,2,3,4,5,10,14,15]
 | 6=>kpn [0,1,2,3,4,5,10,11,14,15]
 | 7=>kpn [0,1,2,3,4,5,10,11,14,15,42]
 | 8=>kpn [0,4,10,11]
 | 9=>[(11,none)]
 | 10=>[(9,none)]
 | 11=>kpn [0,1,2,3,4,5,10,14,15,63,64]
 | 12=>kpn [0,1,2,3,4,5,10,14,15,63,64,65]
 | 13=>kpn [0,1,2,3,4,5,10,12,13,14,15,63,64]
 | 14=>kpn [0,1,2,3,4,5,10,12,13,14,15,63,64,74]
 | 15=>kpn [0,1,2,3,4,5,10,12,13,14,15,63,64]
 | 16=>kpn [0,1,2,3,4,5,10,12,13,14,15,63,64,83]
 | 17=>kpn [0,4,10,13]
 | 18=>[(13,none)]
 | 19=>[(9,none)]
 | 20=>kpn [0,1,2,3,4,5,10,14,15,63,64]
 | 21=>kpn [0,1,2,3,4,5,14,15]
 | 22=>[(9,none)]
 | _=>[]
structure FA where
 t:Nat
 most:Int
 seen:Nat->Bool
 sup:Sup
 g:Nat->Nat->Int
 hs:∀x,8<=x->seen x=false
 hg:∀x y,8<=x\/8<=y->g x y=0
def FA.fl (a:FA):Fl:=⟨a.sup.h,a.g⟩
def QeR:List (Sum Nat D):=[.inl 1001,.inl 1002,.inl 1003]
attribute [local simp] QeR
def QtK (seen:Nat->Bool) (h n:Nat->Int) (v:Nat->Nat->Bool) (g:Nat->Nat->Int):List Cont:=
 [.cells (Qk 8 (λk=>DB (seen k))),.cells (Qk 80 (QbA h n v)),.cells (Qk 64 (gG g)),.cells [.fx 142 [] QeR]]
def QlJ (a:FA):List X×List Cont×List Nat:=([.d (DI a.t),.d (DI a.most),.loc 1000 0,.loc 1001 0,.loc 1002 0,.loc 1003 0],QtK a.seen a.sup.h a.sup.n a.sup.v a.g,[])
structure FindOk (f:Nat) (a:FA):Prop where
 t:a.t < 8
 most:0 < a.most/\a.most<=1000000000
 cnt:Qi6 a.seen<=f
 ok:FlOk a.sup.v a.fl
 bd:∀x,a.sup.h x+QK 8 (a.g x)<=1000000000
noncomputable instance (f:Nat) (a:FA):Decidable (FindOk f a):=Classical.propDecidable _
noncomputable def QlS (f:Nat) (a:FA):Option (D×List Cont×List Nat):=
 if FindOk f a then some (DI (Q1 a.sup.v f a.t a.most a.seen a.fl).1,QtK (Q1 a.sup.v f a.t a.most a.seen a.fl).2.1 (Q1 a.sup.v f a.t a.most a.seen a.fl).2.2.has a.sup.n a.sup.v (Q1 a.sup.v f a.t a.most a.seen a.fl).2.2.g,[])else none
theorem Qdw {n:Nat} {f g:Nat->D} (h:Qk n f=Qk n g):∀t,t < n->f t=g t:=λt ht=>by
 have h1:=Qc (g:=f) ht;rw[h,Qc ht]at h1;simpa using h1.symm
theorem QFQ {s s':Sup} (h:Qk 80 (QbA s.h s.n s.v)=Qk 80 (QbA s'.h s'.n s'.v)):s=s':=by
 refine Subtype.ext ?_;rw[s.eq,s'.eq];exact List.map_congr_left λk hk=>Qdw h k (Zm.1 hk)
theorem QKy (f:Nat) (a b:FA) (h:QlJ a=QlJ b):QlS f a=QlS f b:=by
 obtain⟨t,most,seen,sup,g,hs,hg⟩:=a;obtain⟨t',most',lZ,sup',g',nM,k8⟩:=b;simp only[QlJ,QtK,Prod.mk.injEq,List.cons.injEq,X.d.injEq,D.v.injEq,Value.int.injEq,Int.natCast_inj,Cont.cells.injEq,and_true,true_and]at h;obtain⟨⟨h1,h2⟩,h3,h4,h5⟩:=h;subst h1; subst h2;have e4:=QFQ h4;subst e4;have e3:seen=lZ:=by
  funext x;by_cases hx:x < 8
  .have:=Qdw h3 x hx;simpa using this
  .rw[hs x (by omega),nM x (by omega)]
 subst e3;have e5:g=g':=by
  funext x y;by_cases hx:x < 8/\y < 8
  .have:=Qdw h5 (x*8+y) (by omega)
   rw[QqK hx.2,QqK hx.2]at this;simpa using this
  .rw[hg x y (by omega),k8 x y (by omega)]
 subst e5;rfl
theorem QbT (l:List Nat) (n:Nat) (g:Nat->D):QuO l (Qk n g)=none:=by
 have:∀cs:List X,(∀c∈cs,∃d,c= .d d)->QuO l cs=none:=by
  intro cs
  induction cs with
  | nil=>intro _; rfl
  | cons c t ih=>
   intro h;obtain⟨d,rfl⟩:=h c (by simp)
   have:=ih λc hc=>h c (by simp[hc])
   simp only[QuO,this]; rfl
 exact this _ QbJ
theorem QbC (n:Nat) (g:Nat->D):QdL (Qk n g)=[]:=by
 have:∀cs:List X,(∀c∈cs,∃d,c= .d d)->QdL cs=[]:=by
  intro cs
  induction cs with
  | nil=>intro _; rfl
  | cons c t ih=>
   intro h;obtain⟨d,rfl⟩:=h c (by simp)
   have:=ih λc hc=>h c (by simp[hc])
   simp only[QdL,this]; rfl
 exact this _ QbJ
theorem Qdg (ls:List Nat) (t0:Option Nat) (n:Nat) (g:Nat->D):(Qk n g).map (X.ren ls t0)=Qk n g:=by
 unfold Qk; rw[List.map_map]; rfl
theorem QaT (ls:List Nat) (i:Nat) (tl:List Nat) (n:Nat) (g:Nat->D):(Qk n g).map (X.back ls i tl)=Qk n g:=by
 unfold Qk; rw[List.map_map]; rfl
noncomputable def QBR (f:Nat):QfF:=Qns QlJ (QlS f)
theorem QxG (xs:Array Value) (w:World):(callFunc 142 xs).run Tryz.prog w= .ok (.enter 142 xs) w:=by kernel_rfl
def QkD (t most:Int) (i0:Int) (seen:Nat->Bool) (h n:Nat->Int) (v:Nat->Nat->Bool) (g:Nat->Nat->Int):St:=⟨[(0,.d (DI t)),(1,.d (DI most)),(2,.loc 1000 0),(3,.loc 1001 0),(4,.loc 1002 0),(5,.loc 1003 0),(14,.d (DI t)),(15,.d (DI i0))],[(1000,Qk 8 (λk=>DB (seen k))),(1001,Qk 80 (QbA h n v)),(1002,Qk 64 (gG g)),(1003,[.fx 142 [] QeR])],[],[]⟩
set_option maxHeartbeats 2000000 in
theorem QG5:Qdl Tryz.prog 142 (QBR 0):=Qeb λa r hr=>by
 obtain⟨t,most,seen,sup,g,hs,hg⟩:=a;unfold QlS at hr;split at hr
 .rename_i hc;cases hr;obtain⟨ht,hm,dU,aP,jU⟩:=hc;dsimp only at ht hm dU aP jU;refine QbO (Qby Qs Qb6 Qbn Qcx 105 Qfk [] (λ_=>[]) (λ_=>0)) Tryz.func142 rfl rfl (Zb rfl) (by kernel_rfl) (by kernel_rfl) ?_
  rw[Tryz.results142];simp only[Q1,FA.fl,QlJ,QtK];generalize sup.h=h at*;generalize sup.n=n at*;generalize sup.v=v at*;simp[Qfk,Qaj,QA]
  (generalize aC:Cx.loop _ _ _=aE; apply Qi aC (λj=>QkD t most j seen h n v g) t (by first | (simp; done) | (simp; rfl) | (simp; simp[*])); rotate_left; (show _ < 281474976710656; omega); rfl; rotate_left; all_goals clear aC)
  .intro j hj;have w1:=Qa ((j:Int)+1) (by omega) (by omega)
   have hsj:seen j=true:=Qr1 (by omega) (by omega)
   have j5:(j:Int) < t:=by omega
   have f9:(j:Int) < 8:=by omega
   have lL:j < 8:=by omega
   simp[QkD,Qfk,Qaj,QA,Qb,Qg,j5,f9,lL,hsj,w1];done
  .simp[QkD,Qfk,Qaj,QA,QbT];done
 .cases hr
theorem QxF {f:Nat} {t:Nat} {most:Int} {seen:Nat->Bool} {sup:Sup} {g:Nat->Nat->Int} (hs:∀x,8<=x->seen x=false) (hg:∀x y,8<=x\/8<=y->g x y=0) (h:FindOk f ⟨t,most,seen,sup,g,hs,hg⟩):QBR f [.d (DI t),.d (DI most),.loc 1000 0,.loc 1001 0,.loc 1002 0,.loc 1003 0] [.cells (Qk 8 (λk=>DB (seen k))),.cells (Qk 80 (QbA sup.h sup.n sup.v)),.cells (Qk 64 (gG g)),.cells [.fx 142 [] [.inl 1001,.inl 1002,.inl 1003]]] []=some (DI (Q1 sup.v f t most seen ⟨sup.h,g⟩).1,QtK (Q1 sup.v f t most seen ⟨sup.h,g⟩).2.1 (Q1 sup.v f t most seen ⟨sup.h,g⟩).2.2.has sup.n sup.v (Q1 sup.v f t most seen ⟨sup.h,g⟩).2.2.g,[]):=by
 have:=Qgh (QKy f) ⟨t,most,seen,sup,g,hs,hg⟩ (xs:=[.d (DI t),.d (DI most),.loc 1000 0,.loc 1001 0,.loc 1002 0,.loc 1003 0]) (cs:=[.cells (Qk 8 (λk=>DB (seen k))),.cells (Qk 80 (QbA sup.h sup.n sup.v)),.cells (Qk 64 (gG g)),.cells [.fx 142 [] [.inl 1001,.inl 1002,.inl 1003]]]) (tl:=[]) rfl;unfold QBR;rw[this];unfold QlS;rw[if_pos h]; rfl
theorem Qqp {h n:Nat->Int} {v:Nat->Nat->Bool} {j t:Nat} (hj:j < 8) (ht:t < 8):QbA h n v (16+j*8+t)=DB (v j t):=QDl hj ht
def stR (z:Int) (seen:Nat->Bool) (h n:Nat->Int) (v:Nat->Nat->Bool) (g:Nat->Nat->Int):AEx×St:=(.ret,⟨[(9,.d (DI z))],[(1000,Qk 8 (λk=>DB (seen k))),(1001,Qk 80 (QbA h n v)),(1003,[.fx 142 [] QeR]),(1002,Qk 64 (gG g))],[],[]⟩)
set_option maxHeartbeats 8000000 in
theorem QEB (f:Nat) (ih:Qdl Tryz.prog 142 (QBR f)):Qdl Tryz.prog 142 (QBR (f+1)):=Qeb λa r hr=>by
 obtain⟨t,most,seen,sup,g,hs,hg⟩:=a;unfold QlS at hr;split at hr
 .rename_i hc;cases hr;obtain⟨ht,hm,dU,aP,jU⟩:=hc;dsimp only[FA.fl]at ht hm dU aP jU;refine QbO (Qby Qs (QeK Qb6 QxG ih) Qbn Qcx 105 Qfk [] (λ_=>[]) (λ_=>0)) Tryz.func142 rfl rfl (Zb rfl) (by kernel_rfl) (by kernel_rfl) ?_
  rw[Tryz.results142];have cQ:=Qi4 sup.v f;have kE:=Qj9 sup.v f;have hN:Nrm seen ⟨sup.h,g⟩:=⟨hs,λx hx=>if_neg (by omega),hg⟩
  have xP:Qi6 seen<=(f:Int)+1:=by omega
  have xQ:= @QxF f;simp only[Q1,FA.fl,QlJ,QtK];generalize kK:(⟨sup.h,g⟩:Fl)=s at*;have hh:sup.h=s.has:=by rw[<-kK]
  have jW:g=s.g:=by rw[<-kK]
  simp only[hh,jW];have hbd':∀x,sup.h x+QK 8 (s.g x)<=1000000000:=λx=>by have:=jU x; rw[jW]at this; exact this
  simp[Qfk,Qaj,QA];generalize aC:Cx.loop _ _ _=aE;have hQ:=Qh8 aC (λj=>QkD t most j (xJ (Q1 sup.v f) sup.v t most s seen j) s.has sup.n sup.v s.g) t (Qcb (Q1 sup.v f) sup.v t most s seen) (λj=>if 0 < min most (s.has j)then stR (min most (s.has j)) (QZ (xJ (Q1 sup.v f) sup.v t most s seen j) j true) (s.take j t (min most (s.has j))).has sup.n sup.v (s.take j t (min most (s.has j))).g else stR (QkG (Q1 sup.v f) sup.v t most s seen j).1 (QkG (Q1 sup.v f) sup.v t most s seen j).2.1 (QkG (Q1 sup.v f) sup.v t most s seen j).2.2.has sup.n sup.v (QkG (Q1 sup.v f) sup.v t most s seen j).2.2.g) (.exit 0,⟨[(0,.d (DI t)),(1,.d (DI most)),(2,.loc 1000 0),(3,.loc 1001 0),(4,.loc 1002 0),(5,.loc 1003 0),(14,.d (DI t)),(15,.d (DI t)),(16,.d (DB false))],[(1000,Qk 8 (λk=>DB (xJ (Q1 sup.v f) sup.v t most s seen t k))),(1001,Qk 80 (QbA s.has sup.n sup.v)),(1002,Qk 64 (gG s.g)),(1003,[.fx 142 [] QeR])],[],[]⟩) (by simp[QkD,xJ]) (by show _ < 281474976710656; omega) (λj=>by split<;>simp[stR]) (by simp) ?_ ?_
  .have xR:∀j,j < t->(∀i,i < j->Qcb (Q1 sup.v f) sup.v t most s seen i=true)->¬(xJ (Q1 sup.v f) sup.v t most s seen j j=true\/sup.v j t=true)->¬0 < (QkG (Q1 sup.v f) sup.v t most s seen j).1->(QkG (Q1 sup.v f) sup.v t most s seen j).2.2=s:=λj hj hg eX h=>by
    have F:=(Qzl cQ kE hm.1 ht aP xP hN hj hg eX).2.2;exact(F.no (by have:=F.pos; omega)).1
   rcases hQ with⟨hall,hR⟩ | ⟨k,hk,aM,aT,hR⟩
   .rw[hR,QAx xR hall];simp[Qfk,Qaj,QA,QbT];done
   .obtain⟨eX,hX⟩:=QAj xR hk aT aM;rw[hR,hX];by_cases hmin:0 < min most (s.has k)
    .rw[if_pos hmin,if_pos hmin];simp[stR,QbT];done
    .rw[if_neg hmin,if_neg hmin];simp[stR,QbT];done
  .intro j hj lH;have w1:=Qa ((j:Int)+1) (by omega) (by omega)
   have j5:(j:Int) < t:=by omega
   have f9:(j:Int) < 8:=by omega
   have jF:(t:Int) < 8:=by omega
   have lL:j < 8:=by omega
   have dJ:16+j*8+t+1<=80:=by omega
   have fI:16+j*8+t < 80:=by omega
   by_cases hsk1:xJ (Q1 sup.v f) sup.v t most s seen j j=true
   .have eA:Qcb (Q1 sup.v f) sup.v t most s seen j=true:=by simp[Qcb,hsk1]
    have dJ:xJ (Q1 sup.v f) sup.v t most s seen (j+1)=xJ (Q1 sup.v f) sup.v t most s seen j:=by rw[xJ,if_pos (.inl hsk1)]
    rw[eA,if_pos rfl,dJ];simp[QkD,Qfk,Qaj,QA,Qb,Qg,j5,f9,lL,hsk1,w1];done
   .by_cases hsk2:sup.v j t=true
    .have eA:Qcb (Q1 sup.v f) sup.v t most s seen j=true:=by simp[Qcb,hsk2]
     have dJ:xJ (Q1 sup.v f) sup.v t most s seen (j+1)=xJ (Q1 sup.v f) sup.v t most s seen j:=by rw[xJ,if_pos (.inr hsk2)]
     rw[eA,if_pos rfl,dJ];simp[QkD,Qfk,Qaj,QA,Qb,Qg,j5,f9,lL,ht,jF,fI,hsk1,hsk2,w1,Qqp];done
    .have eX:¬(xJ (Q1 sup.v f) sup.v t most s seen j j=true\/sup.v j t=true):=λh=>h.elim hsk1 hsk2;obtain⟨xS,xT,hFO⟩:=Qzl cQ kE hm.1 ht aP xP hN hj lH eX;have fD:=aP.has j;have hbj:=jU j;rw[hh,jW]at hbj;have m4:0<=QK 8 (s.g j):=QaH λi _=>aP.g j i;have hgt:=Qfr (f:=s.g j) (i:=t) (n:=8) (λi _=>aP.g j i) ht;have hgt0:=aP.g j t;have q1:j<=7:=by omega
     have q2:j<=79:=by omega
     have q3:j*8+t < 64:=by omega
     have q4:j*8+t<=63:=by omega
     have q5:j*8+t+1<=64:=by omega
     have q6:j < 80:=by omega
     have wm:=Qa (s.has j - min most (s.has j)) (by omega) (by omega)
     have wg:=Qa (s.g j t+min most (s.has j)) (by omega) (by omega)
     have gD:(0 < s.has j)=¬s.has j=0:=by simp; omega
     have zY:(if s.has j < most then s.has j else most)=min most (s.has j):=by split<;>omega
     have hgX:Qcb (Q1 sup.v f) sup.v t most s seen j=(!decide (0 < min most (s.has j))&&!decide (0 < (QkG (Q1 sup.v f) sup.v t most s seen j).1)):=by unfold Qcb; rw[decide_eq_false eX,Bool.false_or]
     by_cases hmin:0 < min most (s.has j)
     .have eA:Qcb (Q1 sup.v f) sup.v t most s seen j=false:=by rw[hgX,decide_eq_true hmin]; rfl
      rw[eA,if_neg (by simp),if_pos hmin,show(s.take j t (min most (s.has j))).has=QZ s.has j (s.has j - min most (s.has j))from rfl,show(s.take j t (min most (s.has j))).g=QgC s.g j t (s.g j t+min most (s.has j))from QmR _ _ _ _]
      generalize min most (s.has j)=M at*;simp[zY,hmin,q1,q2,q3,q5,q6,wm,wg,QqK,Qr6,QkD,stR,Qfk,Qaj,QA,Qb,Qg,Qo,Qfy,j5,f9,lL,ht,jF,fI,hsk1,hsk2,Qqp,Qol,Qst];done
     .have hcut:=QjH (n:=64) (m:=8) (p:=j*8) (G:=gG s.g) (by omega)
      have q7:j*8+8<=64:=by omega
      have q8:j*8<=56:=by omega
      have hJ:QkG (Q1 sup.v f) sup.v t most s seen j=QhH (Q1 sup.v f) t j most (s.g j) 8 (QZ (xJ (Q1 sup.v f) sup.v t most s seen j) j true) s:=rfl;have f7:xJ (Q1 sup.v f) sup.v t most s seen (j+1)=(QhH (Q1 sup.v f) t j most (s.g j) 8 (QZ (xJ (Q1 sup.v f) sup.v t most s seen j) j true) s).2.1:=by rw[xJ,if_neg eX]
      rw[decide_eq_false hmin,Bool.not_false,Bool.true_and]at hgX;rw[hgX,hJ,if_neg hmin,f7];rw[hJ]at hFO;have hmk:QZ (xJ (Q1 sup.v f) sup.v t most s seen j) j true j=true:=Qac _ _ _;simp[zY,hmin,q1,q6,q7,hcut,Qv,Qb,QkD,Qfk,Qaj,QA,Qb,Qg,Qo,Qfy,j5,f9,lL,ht,jF,fI,hsk1,hsk2,Qqp,Qol];generalize QZ (xJ (Q1 sup.v f) sup.v t most s seen j) j true=sn at*;generalize kB:Cx.loop _ _ _=sW;have hI:=Qh8 kB (λq=>⟨[(0,.d (DI t)),(1,.d (DI most)),(2,.loc 1000 0),(3,.loc 1001 0),(4,.loc 1002 0),(5,.loc 1003 0),(10,.d (DI j)),(14,.d (DI t)),(15,.d (DI j)),(63,.d (.agg ((List.range 8).map λk=>gG s.g (j*8+k)))),(64,.d (DI q))],[(1000,Qk 8 (λy=>DB (oJ (Q1 sup.v f) t most (s.g j) s sn q y))),(1001,Qk 80 (QbA s.has sup.n sup.v)),(1002,Qk 64 (gG s.g)),(1003,[.fx 142 [] QeR])],[],[]⟩) 8 (Qca (Q1 sup.v f) t most (s.g j) s sn) (λq=>stR (Qgv (Q1 sup.v f) t most (s.g j) s sn q).1 (Qgv (Q1 sup.v f) t most (s.g j) s sn q).2.1 (Qgv (Q1 sup.v f) t most (s.g j) s sn q).2.2.has sup.n sup.v ((Qgv (Q1 sup.v f) t most (s.g j) s sn q).2.2.turn j q t (Qgv (Q1 sup.v f) t most (s.g j) s sn q).1).g) (.exit 2,⟨[(0,.d (DI t)),(1,.d (DI most)),(2,.loc 1000 0),(3,.loc 1001 0),(4,.loc 1002 0),(5,.loc 1003 0),(10,.d (DI j)),(14,.d (DI t)),(15,.d (DI j)),(63,.d (.agg ((List.range 8).map λk=>gG s.g (j*8+k)))),(64,.d (DI 8)),(65,.d (DB false))],[(1000,Qk 8 (λy=>DB (oJ (Q1 sup.v f) t most (s.g j) s sn 8 y))),(1001,Qk 80 (QbA s.has sup.n sup.v)),(1002,Qk 64 (gG s.g)),(1003,[.fx 142 [] QeR])],[],[]⟩) (by simp[oJ]) (by show _ < 281474976710656; omega) (λj=>by simp[stR]) (by simp) ?_ ?_
      .rcases hI with⟨hall,hR⟩ | ⟨q,hq,aM,aT,hR⟩
       .rw[hR,QBb (Qqg cQ kE hm.1 aP xS xT) hall];simp[Qfk,Qaj,QA,w1];done
       .rw[hR,QBP (Qqg cQ kE hm.1 aP xS xT) hq aT aM];have hp:0 < (Qgv (Q1 sup.v f) t most (s.g j) s sn q).1:=by
         unfold Qca at aM; simp at aM; exact aM.2
        simp[stR,hp,show ∀s':Fl,(s'.turn j q t (Qgv (Q1 sup.v f) t most (s.g j) s sn q).1).has=s'.has from λ_=>rfl];done
      .intro q hq jW;have w2:=Qa ((q:Int)+1) (by omega) (by omega)
       have kV:(q:Int) < 8:=by omega
       have hgq0:=aP.g j q;have hgqs:=Qfr (f:=s.g j) (i:=q) (n:=8) (λi _=>aP.g j i) hq;by_cases mP:q=t
       .have eA:Qca (Q1 sup.v f) t most (s.g j) s sn q=true:=by simp[Qca,mP]
        have dJ:oJ (Q1 sup.v f) t most (s.g j) s sn (q+1)=oJ (Q1 sup.v f) t most (s.g j) s sn q:=by rw[oJ,if_pos (.inl mP)]
        rw[eA,if_pos rfl,dJ];subst mP;simp[Qfk,Qaj,QA,hq,kV,w2];done
       .have tB:((q:Int)==(t:Int))=false:=by simp; omega
        by_cases hr0:s.g j q=0
        .have eA:Qca (Q1 sup.v f) t most (s.g j) s sn q=true:=by simp[Qca,hr0]
         have dJ:oJ (Q1 sup.v f) t most (s.g j) s sn (q+1)=oJ (Q1 sup.v f) t most (s.g j) s sn q:=by rw[oJ,if_pos (.inr hr0)]
         rw[eA,if_pos rfl,dJ];simp[Qfk,Qaj,QA,QqK,hq,kV,tB,hr0,w2];done
        .have qZ:¬(q=t\/s.g j q=0):=λh=>h.elim mP hr0;have xU:(s.g j q==0)=false:=by simpa using hr0
         have hmr:(if s.g j q < most then s.g j q else most)=min most (s.g j q):=by split<;>omega
         obtain⟨zZ,hmq,hF⟩:=QyO cQ kE hm.1 aP xS xT hq jW qZ;obtain⟨hmo,hNq⟩:=QD0 cQ kE hm.1 aP xS xT q (by omega) jW
         have rA:=hF.keep j (hmo j hmk);have bC:=Qqg cQ kE hm.1 aP xS xT q hq jW qZ;have cI:=xQ (t:=q) (most:=min most (s.g j q)) (seen:=oJ (Q1 sup.v f) t most (s.g j) s sn q) (sup:=sup) (g:=s.g) hNq.seen hNq.g ⟨hq,⟨hmq,by dsimp only; omega⟩,zZ,by dsimp only[FA.fl]; rw[hh]; exact aP,hbd'⟩
         have eA:Qca (Q1 sup.v f) t most (s.g j) s sn q=!decide (0 < (Qgv (Q1 sup.v f) t most (s.g j) s sn q).1):=by unfold Qca; rw[decide_eq_false qZ,Bool.false_or]
         have dJ:oJ (Q1 sup.v f) t most (s.g j) s sn (q+1)=(Qgv (Q1 sup.v f) t most (s.g j) s sn q).2.1:=by rw[oJ,if_neg qZ]; rfl
         rw[hh]at cI;change QBR f _ _ _=some (DI (Qgv (Q1 sup.v f) t most (s.g j) s sn q).1,QtK (Qgv (Q1 sup.v f) t most (s.g j) s sn q).2.1 (Qgv (Q1 sup.v f) t most (s.g j) s sn q).2.2.has sup.n sup.v (Qgv (Q1 sup.v f) t most (s.g j) s sn q).2.2.g,[])at cI;rw[eA,dJ];generalize Qgv (Q1 sup.v f) t most (s.g j) s sn q=R at*;by_cases hp:0 < R.1
         .have bE:=hF.le;have z1:R.2.2.g j q=s.g j q:=by rw[rA.2]
          have z2:R.2.2.g j t=s.g j t:=by rw[rA.2]
          have v1:=Qa (R.2.2.g j q - R.1) (by omega) (by omega)
          have v2:=Qa (R.2.2.g j t+R.1) (by omega) (by omega)
          have q9:j*8+q < 64:=by omega
          have q10:j*8+q<=63:=by omega
          have q11:j*8+q+1<=64:=by omega
          have q12:(0:Int)<=t:=by omega
          rw[decide_eq_true hp,QKT _ _ mP];simp[Qv,QbT,QbC,Qdg,QaT,stR,QtK,cI,hp,hmr,q3,q5,q9,q11,v1,v2,QEe mP,Qfk,Qaj,QA,Qb,Qg,Qo,QqK,Qr6,hq,kV,tB,xU,f9,ht,jF];done
         .have e:=bC hp;rw[decide_eq_false hp];rw[e]at cI;simp[Qv,QbT,QbC,Qdg,QaT,QtK,cI,hp,hmr,Qfk,Qaj,QA,Qb,QqK,hq,kV,tB,xU,w2];done
      .intro hg8;simp[Qfk,Qaj,QA];done
  .intro hgt;simp[QkD,Qfk,Qaj,QA];done
 .cases hr
end Go.Proofs.YticoemblgkemiaaGreatDoor
