/-
  The program of the trace chapter: what may be taken is searched for. Conditions: none.
-/
import Derived.Test.YtnfeakhkfehkhaaGreatDoorZPrD
set_option linter.unusedSimpArgs false
set_option linter.unusedVariables false
namespace Go.Proofs.YtnfeakhkfehkhaaGreatDoor
open Go.RowKit
def QeA (r:Nat):List (Nat×Option Nat):=match r with
 | 0=>kpn [0,1,2,3,4,5]
 | 1=>kpn [0,1,2,3,4,5,14,15]
 | 2=>kpn [0,1,2,3,4,5,14,15,16]
 | 3=>kpn [0,1,2,3,4,5,10,14,15]
 | 4=>kpn [0,1,2,3,4,5,10,14,15,30]
 | 5=>kpn [0,1,2,3,4,5,10,14,15]
 | 6=>kpn [0,1,2,3,4,5,10,11,14,15]
 | 7=>kpn [0,1,2,3,4,5,10,11,14,15,42]
 | 8=>kpn [0,4,10,11]
 | 9=>[(11,none)]
 | 10=>[(9,none)]
 | 11=>kpn [0,1,2,3,4,5,10,14,15,63,64]
 | 12=>kpn [0,1,2,3,4,5,10,14,15,63,64,65]
 | 13=>kpn [0,1,2,3,4,5,10,12,13,14,15,63,64]
 | 14=>kpn [0,1,2,3,4,5,10,12,13,14,15,63,64,74]
 | 15=>kpn [0,1,2,3,4,5,10,12,13,14,15,63,64]
 | 16=>kpn [0,1,2,3,4,5,10,12,13,14,15,63,64,83]
 | 17=>kpn [0,4,10,13]
 | 18=>[(13,none)]
 | 19=>[(9,none)]
 | 20=>kpn [0,1,2,3,4,5,10,14,15,63,64]
 | 21=>kpn [0,1,2,3,4,5,14,15]
 | 22=>[(9,none)]
 | _=>[]
structure FA where
 t:Nat
 most:Int
 seen:Nat->Bool
 sup:Sup
 g:Nat->Nat->Int
 hs:∀x,8<=x->seen x=false
 hg:∀x y,8<=x\/8<=y->g x y=0
def FA.fl (a:FA):Fl:=⟨a.sup.h,a.g⟩
def Qea:List (Sum Nat D):=[.inl 1001,.inl 1002,.inl 1003]
attribute [local simp] Qea
def Qr3 (seen:Nat->Bool) (h n:Nat->Int) (v:Nat->Nat->Bool) (g:Nat->Nat->Int):List Cont:=
 [.cells (QPw 8 (λk=>DB (seen k))),.cells (QPw 80 (Qbi h n v)),.cells (QPw 64 (gG g)),.cells [.fx 104 [] Qea]]
def Qkl (a:FA):List X×List Cont×List Nat:=([.d (DI a.t),.d (DI a.most),.loc 1000 0,.loc 1001 0,.loc 1002 0,.loc 1003 0],Qr3 a.seen a.sup.h a.sup.n a.sup.v a.g,[])
structure FindOk (f:Nat) (a:FA):Prop where
 t:a.t < 8
 most:0 < a.most/\a.most<=1000000000
 cnt:Qil a.seen<=f
 ok:FlOk a.sup.v a.fl
 bd:∀x,a.sup.h x+QY 8 (a.g x)<=1000000000
noncomputable instance (f:Nat) (a:FA):Decidable (FindOk f a):=Classical.propDecidable _
noncomputable def Qkn (f:Nat) (a:FA):Option (D×List Cont×List Nat):=
 if FindOk f a then some (DI (Q1 a.sup.v f a.t a.most a.seen a.fl).1,Qr3 (Q1 a.sup.v f a.t a.most a.seen a.fl).2.1 (Q1 a.sup.v f a.t a.most a.seen a.fl).2.2.has a.sup.n a.sup.v (Q1 a.sup.v f a.t a.most a.seen a.fl).2.2.g,[])else none
theorem QdO {n:Nat} {f g:Nat->D} (h:QPw n f=QPw n g):∀t,t < n->f t=g t:=λt ht=>by
 have h1:=Qd (g:=f) ht;rw[h,Qd ht]at h1;simpa using h1.symm
theorem QBa {s s':Sup} (h:QPw 80 (Qbi s.h s.n s.v)=QPw 80 (Qbi s'.h s'.n s'.v)):s=s':=by
 refine Subtype.ext ?_;rw[s.eq,s'.eq];exact List.map_congr_left λk hk=>QdO h k (Zm.1 hk)
theorem QCG (f:Nat) (a b:FA) (h:Qkl a=Qkl b):Qkn f a=Qkn f b:=by
 obtain⟨t,most,seen,sup,g,hs,hg⟩:=a;obtain⟨t',most',mO,sup',g',m9,jT⟩:=b;simp only[Qkl,Qr3,Prod.mk.injEq,List.cons.injEq,X.d.injEq,D.v.injEq,Value.int.injEq,Int.natCast_inj,Cont.cells.injEq,and_true,true_and]at h;obtain⟨⟨h1,h2⟩,h3,h4,h5⟩:=h;subst h1; subst h2;have e4:=QBa h4;subst e4;have e3:seen=mO:=by
  funext x;by_cases hx:x < 8
  .have:=QdO h3 x hx;simpa using this
  .rw[hs x (by omega),m9 x (by omega)]
 subst e3;have e5:g=g':=by
  funext x y;by_cases hx:x < 8/\y < 8
  .have:=QdO h5 (x*8+y) (by omega)
   rw[Qpc hx.2,Qpc hx.2]at this;simpa using this
  .rw[hg x y (by omega),jT x y (by omega)]
 subst e5;rfl
theorem QbM (l:List Nat) (n:Nat) (g:Nat->D):QsJ l (QPw n g)=none:=by
 have:∀cs:List X,(∀c∈cs,∃d,c= .d d)->QsJ l cs=none:=by
  intro cs
  induction cs with
  | nil=>intro _; rfl
  | cons c t ih=>
   intro h;obtain⟨d,rfl⟩:=h c (by simp)
   have:=ih λc hc=>h c (by simp[hc])
   simp only[QsJ,this]; rfl
 exact this _ Qbr
theorem Qbp (n:Nat) (g:Nat->D):Qdn (QPw n g)=[]:=by
 have:∀cs:List X,(∀c∈cs,∃d,c= .d d)->Qdn cs=[]:=by
  intro cs
  induction cs with
  | nil=>intro _; rfl
  | cons c t ih=>
   intro h;obtain⟨d,rfl⟩:=h c (by simp)
   have:=ih λc hc=>h c (by simp[hc])
   simp only[Qdn,this]; rfl
 exact this _ Qbr
theorem QcZ (ls:List Nat) (t0:Option Nat) (n:Nat) (g:Nat->D):(QPw n g).map (X.ren ls t0)=QPw n g:=by
 unfold QPw; rw[List.map_map]; rfl
theorem QaD (ls:List Nat) (i:Nat) (tl:List Nat) (n:Nat) (g:Nat->D):(QPw n g).map (X.back ls i tl)=QPw n g:=by
 unfold QPw; rw[List.map_map]; rfl
noncomputable def Qyr (f:Nat):QfU:=QnC Qkl (Qkn f)
theorem Qs3 (xs:Array Value) (w:World):(callFunc 104 xs).run Tryz.prog w= .ok (.enter 104 xs) w:=by kernel_rfl
def QjD (t most:Int) (i0:Int) (seen:Nat->Bool) (h n:Nat->Int) (v:Nat->Nat->Bool) (g:Nat->Nat->Int):St:=⟨[(0,.d (DI t)),(1,.d (DI most)),(2,.loc 1000 0),(3,.loc 1001 0),(4,.loc 1002 0),(5,.loc 1003 0),(14,.d (DI t)),(15,.d (DI i0))],[(1000,QPw 8 (λk=>DB (seen k))),(1001,QPw 80 (Qbi h n v)),(1002,QPw 64 (gG g)),(1003,[.fx 104 [] Qea])],[],[]⟩
set_option maxHeartbeats 2000000 in
theorem Qzt:Qdc Tryz.prog 104 (Qyr 0):=Qd2 λa r hr=>by
 obtain⟨t,most,seen,sup,g,hs,hg⟩:=a;unfold Qkn at hr;split at hr
 .rename_i hc;cases hr;obtain⟨ht,hm,dS,aQ,jU⟩:=hc;dsimp only at ht hm dS aQ jU;refine Qcp (QbT QB Qct QbC QcU 105 QeA [] (λ_=>[]) (λ_=>0)) Tryz.func104 rfl rfl (Zb rfl) (by kernel_rfl) (by kernel_rfl) ?_
  rw[Tryz.results104];simp only[Q1,FA.fl,Qkl,Qr3];generalize sup.h=h at*;generalize sup.n=n at*;generalize sup.v=v at*;simp[QeA,Qaf,Qz]
  (generalize aC:Cx.loop _ _ _=aE; apply Qi aC (λj=>QjD t most j seen h n v g) t (by first | (simp; done) | (simp; rfl) | (simp; simp[*])); rotate_left; (show _ < 281474976710656; omega); rfl; rotate_left; all_goals clear aC)
  .intro j hj;have w1:=Qa ((j:Int)+1) (by omega) (by omega)
   have hsj:seen j=true:=Qre (by omega) (by omega)
   have jX:(j:Int) < t:=by omega
   have kN:(j:Int) < 8:=by omega
   have lA:j < 8:=by omega
   simp[QjD,QeA,Qaf,Qz,Qb,Qf,jX,kN,lA,hsj,w1];done
  .simp[QjD,QeA,Qaf,Qz,QbM];done
 .cases hr
theorem QtD {f:Nat} {t:Nat} {most:Int} {seen:Nat->Bool} {sup:Sup} {g:Nat->Nat->Int} (hs:∀x,8<=x->seen x=false) (hg:∀x y,8<=x\/8<=y->g x y=0) (h:FindOk f ⟨t,most,seen,sup,g,hs,hg⟩):Qyr f [.d (DI t),.d (DI most),.loc 1000 0,.loc 1001 0,.loc 1002 0,.loc 1003 0] [.cells (QPw 8 (λk=>DB (seen k))),.cells (QPw 80 (Qbi sup.h sup.n sup.v)),.cells (QPw 64 (gG g)),.cells [.fx 104 [] [.inl 1001,.inl 1002,.inl 1003]]] []=some (DI (Q1 sup.v f t most seen ⟨sup.h,g⟩).1,Qr3 (Q1 sup.v f t most seen ⟨sup.h,g⟩).2.1 (Q1 sup.v f t most seen ⟨sup.h,g⟩).2.2.has sup.n sup.v (Q1 sup.v f t most seen ⟨sup.h,g⟩).2.2.g,[]):=by
 have:=Qgo (QCG f) ⟨t,most,seen,sup,g,hs,hg⟩ (xs:=[.d (DI t),.d (DI most),.loc 1000 0,.loc 1001 0,.loc 1002 0,.loc 1003 0]) (cs:=[.cells (QPw 8 (λk=>DB (seen k))),.cells (QPw 80 (Qbi sup.h sup.n sup.v)),.cells (QPw 64 (gG g)),.cells [.fx 104 [] [.inl 1001,.inl 1002,.inl 1003]]]) (tl:=[]) rfl;unfold Qyr;rw[this];unfold Qkn;rw[if_pos h]; rfl
theorem Qo8 {h n:Nat->Int} {v:Nat->Nat->Bool} {j t:Nat} (hj:j < 8) (ht:t < 8):Qbi h n v (16+j*8+t)=DB (v j t):=QyM hj ht
def stR (z:Int) (seen:Nat->Bool) (h n:Nat->Int) (v:Nat->Nat->Bool) (g:Nat->Nat->Int):AEx×St:=(.ret,⟨[(9,.d (DI z))],[(1000,QPw 8 (λk=>DB (seen k))),(1001,QPw 80 (Qbi h n v)),(1003,[.fx 104 [] Qea]),(1002,QPw 64 (gG g))],[],[]⟩)
set_option maxHeartbeats 8000000 in
theorem QBi (f:Nat) (ih:Qdc Tryz.prog 104 (Qyr f)):Qdc Tryz.prog 104 (Qyr (f+1)):=Qd2 λa r hr=>by
 obtain⟨t,most,seen,sup,g,hs,hg⟩:=a;unfold Qkn at hr;split at hr
 .rename_i hc;cases hr;obtain⟨ht,hm,dS,aQ,jU⟩:=hc;dsimp only[FA.fl]at ht hm dS aQ jU;refine Qcp (QbT QB (Qfr Qct Qs3 ih) QbC QcU 105 QeA [] (λ_=>[]) (λ_=>0)) Tryz.func104 rfl rfl (Zb rfl) (by kernel_rfl) (by kernel_rfl) ?_
  rw[Tryz.results104];have cR:=Qh2 sup.v f;have j8:=Qjr sup.v f;have hN:Nrm seen ⟨sup.h,g⟩:=⟨hs,λx hx=>if_neg (by omega),hg⟩
  have wX:Qil seen<=(f:Int)+1:=by omega
  have wY:= @QtD f;simp only[Q1,FA.fl,Qkl,Qr3];generalize lM:(⟨sup.h,g⟩:Fl)=s at*;have hh:sup.h=s.has:=by rw[<-lM]
  have jM:g=s.g:=by rw[<-lM]
  simp only[hh,jM];have hbd':∀x,sup.h x+QY 8 (s.g x)<=1000000000:=λx=>by have:=jU x; rw[jM]at this; exact this
  simp[QeA,Qaf,Qz];generalize aC:Cx.loop _ _ _=aE;have hQ:=Qhn aC (λj=>QjD t most j (xJ (Q1 sup.v f) sup.v t most s seen j) s.has sup.n sup.v s.g) t (QbO (Q1 sup.v f) sup.v t most s seen) (λj=>if 0 < min most (s.has j)then stR (min most (s.has j)) (Q2 (xJ (Q1 sup.v f) sup.v t most s seen j) j true) (s.take j t (min most (s.has j))).has sup.n sup.v (s.take j t (min most (s.has j))).g else stR (Qjk (Q1 sup.v f) sup.v t most s seen j).1 (Qjk (Q1 sup.v f) sup.v t most s seen j).2.1 (Qjk (Q1 sup.v f) sup.v t most s seen j).2.2.has sup.n sup.v (Qjk (Q1 sup.v f) sup.v t most s seen j).2.2.g) (.exit 0,⟨[(0,.d (DI t)),(1,.d (DI most)),(2,.loc 1000 0),(3,.loc 1001 0),(4,.loc 1002 0),(5,.loc 1003 0),(14,.d (DI t)),(15,.d (DI t)),(16,.d (DB false))],[(1000,QPw 8 (λk=>DB (xJ (Q1 sup.v f) sup.v t most s seen t k))),(1001,QPw 80 (Qbi s.has sup.n sup.v)),(1002,QPw 64 (gG s.g)),(1003,[.fx 104 [] Qea])],[],[]⟩) (by simp[QjD,xJ]) (by show _ < 281474976710656; omega) (λj=>by split<;>simp[stR]) (by simp) ?_ ?_
  .have wZ:∀j,j < t->(∀i,i < j->QbO (Q1 sup.v f) sup.v t most s seen i=true)->¬(xJ (Q1 sup.v f) sup.v t most s seen j j=true\/sup.v j t=true)->¬0 < (Qjk (Q1 sup.v f) sup.v t most s seen j).1->(Qjk (Q1 sup.v f) sup.v t most s seen j).2.2=s:=λj hj hg eY h=>by
    have F:=(Qu4 cR j8 hm.1 ht aQ wX hN hj hg eY).2.2;exact(F.no (by have:=F.pos; omega)).1
   rcases hQ with⟨hall,hR⟩ | ⟨k,hk,aL,aM,hR⟩
   .rw[hR,Qx8 wZ hall];simp[QeA,Qaf,Qz,QbM];done
   .obtain⟨eY,hX⟩:=QxA wZ hk aM aL;rw[hR,hX];by_cases hmin:0 < min most (s.has k)
    .rw[if_pos hmin,if_pos hmin];simp[stR,QbM];done
    .rw[if_neg hmin,if_neg hmin];simp[stR,QbM];done
  .intro j hj k7;have w1:=Qa ((j:Int)+1) (by omega) (by omega)
   have jX:(j:Int) < t:=by omega
   have kN:(j:Int) < 8:=by omega
   have jD:(t:Int) < 8:=by omega
   have lA:j < 8:=by omega
   have dU:16+j*8+t+1<=80:=by omega
   have fY:16+j*8+t < 80:=by omega
   by_cases hsk1:xJ (Q1 sup.v f) sup.v t most s seen j j=true
   .have d9:QbO (Q1 sup.v f) sup.v t most s seen j=true:=by simp[QbO,hsk1]
    have dU:xJ (Q1 sup.v f) sup.v t most s seen (j+1)=xJ (Q1 sup.v f) sup.v t most s seen j:=by rw[xJ,if_pos (.inl hsk1)]
    rw[d9,if_pos rfl,dU];simp[QjD,QeA,Qaf,Qz,Qb,Qf,jX,kN,lA,hsk1,w1];done
   .by_cases hsk2:sup.v j t=true
    .have d9:QbO (Q1 sup.v f) sup.v t most s seen j=true:=by simp[QbO,hsk2]
     have dU:xJ (Q1 sup.v f) sup.v t most s seen (j+1)=xJ (Q1 sup.v f) sup.v t most s seen j:=by rw[xJ,if_pos (.inr hsk2)]
     rw[d9,if_pos rfl,dU];simp[QjD,QeA,Qaf,Qz,Qb,Qf,jX,kN,lA,ht,jD,fY,hsk1,hsk2,w1,Qo8];done
    .have eY:¬(xJ (Q1 sup.v f) sup.v t most s seen j j=true\/sup.v j t=true):=λh=>h.elim hsk1 hsk2;obtain⟨xA,xB,hFO⟩:=Qu4 cR j8 hm.1 ht aQ wX hN hj k7 eY;have fQ:=aQ.has j;have hbj:=jU j;rw[hh,jM]at hbj;have wA:0<=QY 8 (s.g j):=Qa2 λi _=>aQ.g j i;have hgt:=QfL (f:=s.g j) (i:=t) (n:=8) (λi _=>aQ.g j i) ht;have hgt0:=aQ.g j t;have q1:j<=7:=by omega
     have q2:j<=79:=by omega
     have q3:j*8+t < 64:=by omega
     have q4:j*8+t<=63:=by omega
     have q5:j*8+t+1<=64:=by omega
     have q6:j < 80:=by omega
     have wm:=Qa (s.has j - min most (s.has j)) (by omega) (by omega)
     have wg:=Qa (s.g j t+min most (s.has j)) (by omega) (by omega)
     have gW:(0 < s.has j)=¬s.has j=0:=by simp; omega
     have zE:(if s.has j < most then s.has j else most)=min most (s.has j):=by split<;>omega
     have hgX:QbO (Q1 sup.v f) sup.v t most s seen j=(!decide (0 < min most (s.has j))&&!decide (0 < (Qjk (Q1 sup.v f) sup.v t most s seen j).1)):=by unfold QbO; rw[decide_eq_false eY,Bool.false_or]
     by_cases hmin:0 < min most (s.has j)
     .have d9:QbO (Q1 sup.v f) sup.v t most s seen j=false:=by rw[hgX,decide_eq_true hmin]; rfl
      rw[d9,if_neg (by simp),if_pos hmin,show(s.take j t (min most (s.has j))).has=Q2 s.has j (s.has j - min most (s.has j))from rfl,show(s.take j t (min most (s.has j))).g=QhG s.g j t (s.g j t+min most (s.has j))from Qlf _ _ _ _]
      generalize min most (s.has j)=M at*;simp[zE,hmin,q1,q2,q3,q5,q6,wm,wg,Qpc,Qrs,QjD,stR,QeA,Qaf,Qz,Qb,Qf,Qp,QeY,jX,kN,lA,ht,jD,fY,hsk1,hsk2,Qo8,Qnk,QqV];done
     .have hcut:=QjK (n:=64) (m:=8) (p:=j*8) (G:=gG s.g) (by omega)
      have q7:j*8+8<=64:=by omega
      have q8:j*8<=56:=by omega
      have hJ:Qjk (Q1 sup.v f) sup.v t most s seen j=Qgh (Q1 sup.v f) t j most (s.g j) 8 (Q2 (xJ (Q1 sup.v f) sup.v t most s seen j) j true) s:=rfl;have hxs:xJ (Q1 sup.v f) sup.v t most s seen (j+1)=(Qgh (Q1 sup.v f) t j most (s.g j) 8 (Q2 (xJ (Q1 sup.v f) sup.v t most s seen j) j true) s).2.1:=by rw[xJ,if_neg eY]
      rw[decide_eq_false hmin,Bool.not_false,Bool.true_and]at hgX;rw[hgX,hJ,if_neg hmin,hxs];rw[hJ]at hFO;have hmk:Q2 (xJ (Q1 sup.v f) sup.v t most s seen j) j true j=true:=Qae _ _ _;simp[zE,hmin,q1,q6,q7,hcut,Qx,Qb,QjD,QeA,Qaf,Qz,Qb,Qf,Qp,QeY,jX,kN,lA,ht,jD,fY,hsk1,hsk2,Qo8,Qnk];generalize Q2 (xJ (Q1 sup.v f) sup.v t most s seen j) j true=sn at*;generalize j6:Cx.loop _ _ _=sO;have hI:=Qhn j6 (λq=>⟨[(0,.d (DI t)),(1,.d (DI most)),(2,.loc 1000 0),(3,.loc 1001 0),(4,.loc 1002 0),(5,.loc 1003 0),(10,.d (DI j)),(14,.d (DI t)),(15,.d (DI j)),(63,.d (.agg ((List.range 8).map λk=>gG s.g (j*8+k)))),(64,.d (DI q))],[(1000,QPw 8 (λy=>DB (oJ (Q1 sup.v f) t most (s.g j) s sn q y))),(1001,QPw 80 (Qbi s.has sup.n sup.v)),(1002,QPw 64 (gG s.g)),(1003,[.fx 104 [] Qea])],[],[]⟩) 8 (QbP (Q1 sup.v f) t most (s.g j) s sn) (λq=>stR (QfC (Q1 sup.v f) t most (s.g j) s sn q).1 (QfC (Q1 sup.v f) t most (s.g j) s sn q).2.1 (QfC (Q1 sup.v f) t most (s.g j) s sn q).2.2.has sup.n sup.v ((QfC (Q1 sup.v f) t most (s.g j) s sn q).2.2.turn j q t (QfC (Q1 sup.v f) t most (s.g j) s sn q).1).g) (.exit 2,⟨[(0,.d (DI t)),(1,.d (DI most)),(2,.loc 1000 0),(3,.loc 1001 0),(4,.loc 1002 0),(5,.loc 1003 0),(10,.d (DI j)),(14,.d (DI t)),(15,.d (DI j)),(63,.d (.agg ((List.range 8).map λk=>gG s.g (j*8+k)))),(64,.d (DI 8)),(65,.d (DB false))],[(1000,QPw 8 (λy=>DB (oJ (Q1 sup.v f) t most (s.g j) s sn 8 y))),(1001,QPw 80 (Qbi s.has sup.n sup.v)),(1002,QPw 64 (gG s.g)),(1003,[.fx 104 [] Qea])],[],[]⟩) (by simp[oJ]) (by show _ < 281474976710656; omega) (λj=>by simp[stR]) (by simp) ?_ ?_
      .rcases hI with⟨hall,hR⟩ | ⟨q,hq,aL,aM,hR⟩
       .rw[hR,Qxa (Qpl cR j8 hm.1 aQ xA xB) hall];simp[QeA,Qaf,Qz,w1];done
       .rw[hR,Qwr (Qpl cR j8 hm.1 aQ xA xB) hq aM aL];have hp:0 < (QfC (Q1 sup.v f) t most (s.g j) s sn q).1:=by
         unfold QbP at aL; simp at aL; exact aL.2
        simp[stR,hp,show ∀s':Fl,(s'.turn j q t (QfC (Q1 sup.v f) t most (s.g j) s sn q).1).has=s'.has from λ_=>rfl];done
      .intro q hq jM;have w2:=Qa ((q:Int)+1) (by omega) (by omega)
       have kO:(q:Int) < 8:=by omega
       have hgq0:=aQ.g j q;have hgqs:=QfL (f:=s.g j) (i:=q) (n:=8) (λi _=>aQ.g j i) hq;by_cases mG:q=t
       .have d9:QbP (Q1 sup.v f) t most (s.g j) s sn q=true:=by simp[QbP,mG]
        have dU:oJ (Q1 sup.v f) t most (s.g j) s sn (q+1)=oJ (Q1 sup.v f) t most (s.g j) s sn q:=by rw[oJ,if_pos (.inl mG)]
        rw[d9,if_pos rfl,dU];subst mG;simp[QeA,Qaf,Qz,hq,kO,w2];done
       .have sQ:((q:Int)==(t:Int))=false:=by simp; omega
        by_cases hr0:s.g j q=0
        .have d9:QbP (Q1 sup.v f) t most (s.g j) s sn q=true:=by simp[QbP,hr0]
         have dU:oJ (Q1 sup.v f) t most (s.g j) s sn (q+1)=oJ (Q1 sup.v f) t most (s.g j) s sn q:=by rw[oJ,if_pos (.inr hr0)]
         rw[d9,if_pos rfl,dU];simp[QeA,Qaf,Qz,Qpc,hq,kO,sQ,hr0,w2];done
        .have zF:¬(q=t\/s.g j q=0):=λh=>h.elim mG hr0;have xC:(s.g j q==0)=false:=by simpa using hr0
         have hmr:(if s.g j q < most then s.g j q else most)=min most (s.g j q):=by split<;>omega
         obtain⟨zG,hmq,hF⟩:=Qv1 cR j8 hm.1 aQ xA xB hq jM zF;obtain⟨hmo,hNq⟩:=QBr cR j8 hm.1 aQ xA xB q (by omega) jM
         have qE:=hF.keep j (hmo j hmk);have bA:=Qpl cR j8 hm.1 aQ xA xB q hq jM zF;have bK:=wY (t:=q) (most:=min most (s.g j q)) (seen:=oJ (Q1 sup.v f) t most (s.g j) s sn q) (sup:=sup) (g:=s.g) hNq.seen hNq.g ⟨hq,⟨hmq,by dsimp only; omega⟩,zG,by dsimp only[FA.fl]; rw[hh]; exact aQ,hbd'⟩
         have d9:QbP (Q1 sup.v f) t most (s.g j) s sn q=!decide (0 < (QfC (Q1 sup.v f) t most (s.g j) s sn q).1):=by unfold QbP; rw[decide_eq_false zF,Bool.false_or]
         have dU:oJ (Q1 sup.v f) t most (s.g j) s sn (q+1)=(QfC (Q1 sup.v f) t most (s.g j) s sn q).2.1:=by rw[oJ,if_neg zF]; rfl
         rw[hh]at bK;change Qyr f _ _ _=some (DI (QfC (Q1 sup.v f) t most (s.g j) s sn q).1,Qr3 (QfC (Q1 sup.v f) t most (s.g j) s sn q).2.1 (QfC (Q1 sup.v f) t most (s.g j) s sn q).2.2.has sup.n sup.v (QfC (Q1 sup.v f) t most (s.g j) s sn q).2.2.g,[])at bK;rw[d9,dU];generalize QfC (Q1 sup.v f) t most (s.g j) s sn q=R at*;by_cases hp:0 < R.1
         .have aX:=hF.le;have z1:R.2.2.g j q=s.g j q:=by rw[qE.2]
          have z2:R.2.2.g j t=s.g j t:=by rw[qE.2]
          have v1:=Qa (R.2.2.g j q - R.1) (by omega) (by omega)
          have v2:=Qa (R.2.2.g j t+R.1) (by omega) (by omega)
          have q9:j*8+q < 64:=by omega
          have q10:j*8+q<=63:=by omega
          have q11:j*8+q+1<=64:=by omega
          have q12:(0:Int)<=t:=by omega
          rw[decide_eq_true hp,QEf _ _ mG];simp[Qx,QbM,Qbp,QcZ,QaD,stR,Qr3,bK,hp,hmr,q3,q5,q9,q11,v1,v2,QAl mG,QeA,Qaf,Qz,Qb,Qf,Qp,Qpc,Qrs,hq,kO,sQ,xC,kN,ht,jD];done
         .have e:=bA hp;rw[decide_eq_false hp];rw[e]at bK;simp[Qx,QbM,Qbp,QcZ,QaD,Qr3,bK,hp,hmr,QeA,Qaf,Qz,Qb,Qpc,hq,kO,sQ,xC,w2];done
      .intro hg8;simp[QeA,Qaf,Qz];done
  .intro hgt;simp[QjD,QeA,Qaf,Qz];done
 .cases hr
end Go.Proofs.YtnfeakhkfehkhaaGreatDoor
