/-
  One takes as much as is found, step by step: plain laws for the program's function. Conditions: none.
-/
import Derived.Test.YtnfeakhkfehkhaaGreatDoorZPrE
set_option linter.unusedSimpArgs false
set_option linter.unusedVariables false
namespace Go.Proofs.YtnfeakhkfehkhaaGreatDoor
open Go.RowKit
def noS:Nat->Bool:=λ_=>false
def fJ (nv:Nat->Nat->Bool) (t:Nat) (need:Int) (s:Fl):Nat->Int×Fl
 | 0=>(need,s)
 | q+1=>((fJ nv t need s q).1 - (Q1 nv 8 t (fJ nv t need s q).1 noS (fJ nv t need s q).2).1,(Q1 nv 8 t (fJ nv t need s q).1 noS (fJ nv t need s q).2).2.2)
def QkO (nv:Nat->Nat->Bool) (t:Nat) (need:Int) (s:Fl) (q:Nat):Qms:=Q1 nv 8 t (fJ nv t need s q).1 noS (fJ nv t need s q).2
def Qcj (nv:Nat->Nat->Bool) (t:Nat) (need:Int) (s:Fl) (q:Nat):Bool:=decide (0 < (fJ nv t need s q).1)&&!decide ((QkO nv t need s q).1=0)
theorem Qp7 {nv:Nat->Nat->Bool} {t:Nat} {need:Int} {s:Fl} {k:Nat} :∀q,q<=k->(∀i,i < q->Qcj nv t need s i=true)->QiR nv t k need s=QiR nv t (k - q) (fJ nv t need s q).1 (fJ nv t need s q).2
 | 0,_,_=>rfl
 | q+1,hq,hg=>by
  rw[Qp7 q (by omega) λi hi=>hg i (by omega)]
  have e:k - q=(k - (q+1))+1:=by omega
  have jM:=hg q (by omega)
  simp only[Qcj,Za,decide_eq_true_eq,Bool.not_eq_true',decide_eq_false_iff_not]at jM;rw[e,QiR,if_neg (by omega)]
  have h2:=jM.2;unfold QkO noS at h2;rw[if_neg h2]; rfl
theorem Qru {nv:Nat->Nat->Bool} {t:Nat} {need:Int} {s:Fl} {k q:Nat} (hq:q < k) (hg:∀i,i < q->Qcj nv t need s i=true) (hb:Qcj nv t need s q=false):QiR nv t k need s=if 0 < (fJ nv t need s q).1 then((fJ nv t need s q).1,(QkO nv t need s q).2.2)else(0,(fJ nv t need s q).2):=by
 rw[Qp7 q (by omega) hg]
 have e:k - q=(k - (q+1))+1:=by omega
 rw[e,QiR];by_cases h1:0 < (fJ nv t need s q).1
 .rw[if_neg (by omega),if_pos h1]
  have h2:(QkO nv t need s q).1=0:=by
   unfold Qcj at hb;rw[decide_eq_true h1,Bool.true_and]at hb;simpa using hb
  unfold QkO noS at h2|-;rw[if_pos h2]
 .rw[if_pos (by omega),if_neg h1]
structure FJOk (nv:Nat->Nat->Bool) (need:Int) (s:Fl) (q:Nat) (r:Int×Fl):Prop where
 ok:FlOk nv r.2
 nrm:Nrm noS r.2
 row:∀x,r.2.has x+QY 8 (r.2.g x)=s.has x+QY 8 (s.g x)
 le:r.1<=need - q
 nn:0<=r.1
theorem QoI {nv:Nat->Nat->Bool} {t:Nat} (ht:t < 8) {need:Int} {s:Fl} {q:Nat} (h:FJOk nv need s q (fJ nv t need s q)) (hp:0 < (fJ nv t need s q).1):Found nv t (fJ nv t need s q).1 noS (fJ nv t need s q).2 (QkO nv t need s q)/\Nrm noS (QkO nv t need s q).2.2:=by
 have N:=Qjr nv 8 t (fJ nv t need s q).1 noS (fJ nv t need s q).2 ht h.nrm;exact⟨Qh2 nv 8 t (fJ nv t need s q).1 noS (fJ nv t need s q).2 ht hp Ql3 h.ok,⟨λ_ _=>rfl,N.has,N.g⟩⟩
theorem Qsd {nv:Nat->Nat->Bool} {t:Nat} (ht:t < 8) {need:Int} (hn:0<=need) {s:Fl} (hs:FlOk nv s) (hN:Nrm noS s):∀q,(∀i,i < q->Qcj nv t need s i=true)->FJOk nv need s q (fJ nv t need s q)
 | 0,_=>⟨hs,hN,λ_=>rfl,by simp[fJ],hn⟩
 | q+1,hg=>by
  have ih:=Qsd ht hn hs hN q λi hi=>hg i (by omega)
  have jM:=hg q (by omega)
  simp only[Qcj,Za,decide_eq_true_eq,Bool.not_eq_true',decide_eq_false_iff_not]at jM;obtain⟨F,N⟩:=QoI ht ih jM.1;have hp:0 < (QkO nv t need s q).1:=by have:=F.pos; have:=jM.2; omega
  have aX:=F.le;have h1:=ih.le;refine⟨F.ok,N,λx=>(F.row hp x).trans (ih.row x),?_,?_⟩
  .show(fJ nv t need s q).1 - (QkO nv t need s q).1<=_;omega
  .show 0<=(fJ nv t need s q).1 - (QkO nv t need s q).1;omega
theorem QwK {nv:Nat->Nat->Bool} {has needs:Nat->Int} (hh:∀x,0<=has x) (hn:∀t,0<=needs t) {m:Int} (hm:∀t,needs t<=m) {t:Nat} (ht:t<=8):0<=(Qa5 nv needs ⟨has,λ_ _=>0⟩ t).1/\(Qa5 nv needs ⟨has,λ_ _=>0⟩ t).1<=8*m:=by
 obtain⟨lack,A,B,M⟩:=QeK (nv:=nv) hh hn t ht;rw[<-M.sum];refine⟨Qa2 λi _=>M.nn i,?_⟩;have hl:∀o,lack o<=m:=λo=>by
  by_cases h:o < t
  .have h1:=M.col o h;have h2:0<=QY 8 (λx=>(Qa5 nv needs ⟨has,λ_ _=>0⟩ t).2.g x o):=Qa2 λi _=>M.ok.g i o;have:=hm o;omega
  .rw[M.l0 o (by omega)]
   have:=hm 0; have:=hn 0; omega
 have h8:QY 8 lack<=QY 8 (λ_=>m):=QbK λi _=>hl i;have e:QY 8 (λ_=>m)=8*m:=by simp only[QY]; omega
 omega
theorem Qn9 {nv:Nat->Nat->Bool} {needs:Nat->Int} (hn:∀t,0<=needs t) {s:Fl} (hs:FlOk nv s) (hN:Nrm noS s):∀t,t<=8->FlOk nv (Qa5 nv needs s t).2/\Nrm noS (Qa5 nv needs s t).2
 | 0,_=>⟨hs,hN⟩
 | t+1,ht=>by
  obtain⟨h1,h2⟩:=Qn9 hn hs hN t (by omega)
  rw[Qa5];generalize(Qa5 nv needs s t).2=u at*;have key:∃q,q < (needs t).toNat+1/\(∀i,i < q->Qcj nv t (needs t) u i=true)/\Qcj nv t (needs t) u q=false:=by
   rcases QaK (Qcj nv t (needs t) u) ((needs t).toNat+1)with hall | ⟨k,hk,hb,hg⟩
   .have h3:=(Qsd (by omega) (hn t) h1 h2 (needs t).toNat λi hi=>hall i (by omega)).le
    have h4:=hall (needs t).toNat (by omega)
    simp only[Qcj,Za,decide_eq_true_eq]at h4;have:=h4.1;have:=hn t;omega
   .exact⟨k,hk,hg,hb⟩
  obtain⟨q,hq,hg,hb⟩:=key;have H:=Qsd (by omega) (hn t) h1 h2 q hg
  simp only;rw[Qru hq hg hb];split
  .rename_i hp;obtain⟨F,N⟩:=QoI (by omega) H hp
   exact⟨F.ok,N⟩
  .exact⟨H.ok,H.nrm⟩
def QwJ (r:Nat):List (Nat×Option Nat):=match r with
 | 0=>kpn [1,2]
 | 1=>kpn [1,2,3]
 | 2=>kpn [1,2,3,4]
 | 3=>kpn [1,2,4]
 | 4=>kpn [2,4,10,11]
 | 5=>kpn [2,4,10,11,12]
 | 6=>kpn [2,4,5,6,10,11]
 | 7=>kpn [2,4,5,6,10,11,16]
 | 8=>kpn [2,4,5,6,7,10,11]
 | 9=>kpn [2,4,5,6,7,10,11,24]
 | 10=>kpn [2,4,10,11]
 | 11=>kpn [2,4,5,6,10,11]
 | 12=>kpn [2,4,10,11]
 | 13=>[(2,none)]
 | _=>[]
def QAD (s:Sup):Prop:=(∀x,0<=s.h x/\s.h x<=1000000)/\∀t,0<=s.n t/\s.n t<=1000000
noncomputable instance (s:Sup):Decidable (QAD s):=Classical.propDecidable _
noncomputable def s65:List D->Option D:=sp1 (QeC QqI) Qbh λs=>if QAD s then some (Qdr s.v s.h s.n)else none
theorem Qy7 (xs:Array Value) (w:World):(callFunc 65 xs).run Tryz.prog w= .ok (.enter 65 xs) w:=by kernel_rfl
theorem QFg {Γ:Tys} (hΓ:Γ 150=some Qf6) (eqs:List (TypeId×Nat)) (Δ:Nat->List D->Option D) (ev:Operand->X) (boxes:List (Nat×List X)) (toks:List Nat):aop Γ eqs Δ (.alloc 150) ev boxes toks=some (.new ⟨QPw 64 (gG (λ_ _=>0)),none⟩):=by
 simp only[aop,hΓ]; rfl
theorem Q6 (h n:Nat->Int) (v:Nat->Nat->Bool):(Qdk h n v).map X.d=QPw 80 (Qbi h n v):=by
 rw[Qdk,List.map_map]; rfl
theorem QCP:∀f,Qdc Tryz.prog 104 (Qyr f)
 | 0=>Qzt
 | f+1=>QBi f (QCP f)
def Qv5:List (Nat×Nat×Nat):=[(5000,1,0),(5000,3,0)]
theorem Qdu (n:Nat) (g:Nat->D) (b i:Nat) (h5:(b==5000)=false) (av nw:List Nat):Qaw [(5000,1,0),(5000,3,0)] b i (QPw n g) av nw=(QPw n g,av,nw):=Qbv Qv5 b _ i av nw (Qeh h5 (Qeh h5 (Qeb b))) Qbr
theorem Qpz (nv:Nat->Nat->Bool) (needs:Nat->Int) (s:Fl):Qa5 nv needs s 0=(0,s):=rfl
attribute [local simp] Qpz
theorem QCd (nv:Nat->Nat->Bool) (t:Nat) (need:Int) (s:Fl):fJ nv t need s 0=(need,s):=rfl
attribute [local simp] QCd
theorem QE4 {h:Nat->Int} (hh:∀x,8<=x->h x=0) (s:Sup):(Sup.of h s.n s.v).h=h/\(Sup.of h s.n s.v).n=s.n/\(Sup.of h s.n s.v).v=s.v:=by
 refine⟨?_,?_,?_⟩
 .funext x; rw[QA5]; split
  .rfl
  .rw[hh x (by omega)]
 .funext x; rw[Qzw]; split
  .rfl
  .exact(if_neg (by omega)).symm
 .funext x y; rw[Qzy]; split
  .rfl
  .rename_i hxy; exact(if_neg hxy).symm
theorem QsU {s:Sup} {t:Nat} (ht:t < 8) {need:Int} (hn:0 < need/\need<=1000000) {u:Fl} (hu:FlOk s.v u) (hN:Nrm noS u) (hb:∀x,u.has x+QY 8 (u.g x)<=1000000):Qyr 8 [.d (DI t),.d (DI need),.loc 1000 0,.loc 1001 0,.loc 1002 0,.loc 1003 0] [.cells [.d (DB false),.d (DB false),.d (DB false),.d (DB false),.d (DB false),.d (DB false),.d (DB false),.d (DB false)],.cells (QPw 80 (Qbi u.has s.n s.v)),.cells (QPw 64 (gG u.g)),.cells [.fx 104 [] [.inl 1001,.inl 1002,.inl 1003]]] []=some (DI (Q1 s.v 8 t need noS u).1,Qr3 (Q1 s.v 8 t need noS u).2.1 (Q1 s.v 8 t need noS u).2.2.has s.n s.v (Q1 s.v 8 t need noS u).2.2.g,[]):=by
 obtain⟨e1,e2,e3⟩:=QE4 hN.has s;have l9:FlOk (Sup.of u.has s.n s.v).v ⟨(Sup.of u.has s.n s.v).h,u.g⟩:=by rw[e1,e3]; exact hu
 have h:=QtD (f:=8) (t:=t) (most:=need) (seen:=noS) (sup:=Sup.of u.has s.n s.v) (g:=u.g) (λ_ _=>rfl) hN.g ⟨ht,⟨hn.1,by dsimp only; omega⟩,Ql3,l9,λx=>by dsimp only; rw[e1]; have:=hb x; omega⟩
 rw[e1,e2,e3]at h;exact h
theorem QB5 {h n:Nat->Int} {v:Nat->Nat->Bool} {t:Nat} (ht:t < 8):Qbi h n v (8+t)=DI (n t):=Qoh ht
set_option maxHeartbeats 8000000 in
theorem ok65:∀ds d,s65 ds=some d->PureC Tryz.prog 65 ds d:=Qb2 λs r hr=>by
 split at hr
 .rename_i hc;obtain⟨hh,hn⟩:=hc;cases hr;refine Qm (QbT QB (Qfr Qct Qs3 (QCP 8)) QbC QcU 33 QwJ Qv5 (λ_=>[]) (λ_=>0)) Tryz.func65 rfl rfl (Zb rfl) (by kernel_rfl) ?_
  rw[Tryz.results65];have hz:=QFg (Γ:=tys) rfl [] (λ_ _=>none) (λ_=> .d .top) [] [];simp[-Qf6]at hz;have dG:FlOk s.v ⟨s.h,λ_ _=>0⟩:=⟨λx=>(hh x).1,λ_ _=>Int.le_refl _,λx t h=>absurd h (by simp)⟩
  have hN0:Nrm noS ⟨s.h,λ_ _=>0⟩:=⟨λ_ _=>rfl,λx hx=>if_neg (by omega),λ_ _ _=>rfl⟩
  have pI:=λt (ht:t<=8)=>Qn9 (nv:=s.v) (needs:=s.n) (λt=>(hn t).1) dG hN0 t ht;have wR:=λt (ht:t<=8)=>QwK (nv:=s.v) (λx=>(hh x).1) (λt=>(hn t).1) (λt=>(hn t).2) ht;have hmid:=λt (ht:t<=8)=>QeK (nv:=s.v) (λx=>(hh x).1) (λt=>(hn t).1) t ht;have hcut:=QjK (n:=80) (m:=8) (p:=8) (G:=Qbi s.h s.n s.v) (by omega)
  simp[-Qf6,hz,QwJ,Qv5,Qcc,Q6,Qaf,Qdu,Qb,hcut,Qx]
  (generalize aC:Cx.loop _ _ _=aE; apply Qi aC (λt=>⟨[(2,.d (DI (Qa5 s.v s.n ⟨s.h,λ_ _=>0⟩ t).1)),(4,.loc 4 0),(10,.d (.agg ((List.range 8).map λj=>Qbi s.h s.n s.v (8+j)))),(11,.d (DI t))],[(4,[.fx 104 [] [.inl 1,.inl 3,.inl 4]]),(1,QPw 80 (Qbi (Qa5 s.v s.n ⟨s.h,λ_ _=>0⟩ t).2.has s.n s.v)),(3,QPw 64 (gG (Qa5 s.v s.n ⟨s.h,λ_ _=>0⟩ t).2.g))],[],[]⟩) 8 (by first | (simp; done) | (simp; rfl) | (simp; simp[*])); rotate_left; (show _ < 281474976710656; omega); rfl; rotate_left; all_goals clear aC)
  .intro t ht;have w1:=Qa ((t:Int)+1) (by omega) (by omega)
   have jD:(t:Int) < 8:=by omega
   obtain⟨aQ,hN⟩:=pI t (by omega)
   have hb:=wR t (by omega)
   have eD:=wR (t+1) (by omega)
   obtain⟨lack,A,B,M⟩:=hmid t (by omega)
   have eA:=M.row;have n6:=hn t;rw[Qa5]at eD;rw[Qa5];generalize Qa5 s.v s.n ⟨s.h,λ_ _=>0⟩ t=u at*;obtain⟨y8,u⟩:=u;dsimp only at*;simp[-Qf6,QwJ,Qaf,Qdu,ht,jD,QB5];generalize j6:Cx.loop _ _ _=sO;have hI:=Qhn j6 (λq=>⟨[(2,.d (DI y8)),(4,.loc 4 0),(5,.d (DI t)),(6,.d (DI (fJ s.v t (s.n t) u q).1)),(10,.d (.agg ((List.range 8).map λj=>Qbi s.h s.n s.v (8+j)))),(11,.d (DI t))],[(4,[.fx 104 [] [.inl 1,.inl 3,.inl 4]]),(1,QPw 80 (Qbi (fJ s.v t (s.n t) u q).2.has s.n s.v)),(3,QPw 64 (gG (fJ s.v t (s.n t) u q).2.g))],[],[]⟩) ((s.n t).toNat+1) (Qcj s.v t (s.n t) u) (λq=>(.exit 2,if 0 < (fJ s.v t (s.n t) u q).1 then⟨[(2,.d (DI (y8+(fJ s.v t (s.n t) u q).1))),(4,.loc 4 0),(10,.d (.agg ((List.range 8).map λj=>Qbi s.h s.n s.v (8+j)))),(11,.d (DI t))],[(4,[.fx 104 [] [.inl 1,.inl 3,.inl 4]]),(1,QPw 80 (Qbi (QkO s.v t (s.n t) u q).2.2.has s.n s.v)),(3,QPw 64 (gG (QkO s.v t (s.n t) u q).2.2.g))],[],[]⟩else⟨[(2,.d (DI y8)),(4,.loc 4 0),(5,.d (DI t)),(6,.d (DI (fJ s.v t (s.n t) u q).1)),(10,.d (.agg ((List.range 8).map λj=>Qbi s.h s.n s.v (8+j)))),(11,.d (DI t)),(16,.d (DB false))],[(4,[.fx 104 [] [.inl 1,.inl 3,.inl 4]]),(1,QPw 80 (Qbi (fJ s.v t (s.n t) u q).2.has s.n s.v)),(3,QPw 64 (gG (fJ s.v t (s.n t) u q).2.g))],[],[]⟩)) (.ret,⟨[],[],[],[]⟩) (by simp) (by show _ < 281474976710656; omega) (λj=>by simp) (by simp) ?_ ?_
   .rcases hI with⟨hall,hR⟩ | ⟨q,hq,aL,aM,hR⟩
    .exfalso
     have h3:=(Qsd ht n6.1 aQ hN (s.n t).toNat λi hi=>hall i (by omega)).le
     have h4:=hall (s.n t).toNat (by omega)
     simp only[Qcj,Za,decide_eq_true_eq]at h4;have:=h4.1;omega
    .have hf:=Qru hq aM aL;rw[hR,hf];by_cases hp:0 < (fJ s.v t (s.n t) u q).1
     .rw[if_pos hp,if_pos hp];simp[-Qf6,QwJ,Qaf,Qdu,w1];done
     .rw[if_neg hp,if_neg hp];simp[-Qf6,QwJ,Qaf,Qdu,w1];done
   .intro q hq jM;have H:=Qsd ht n6.1 aQ hN q jM;have aX:=H.le;have sJ:=H.nn;by_cases hp:0 < (fJ s.v t (s.n t) u q).1
    .have bK:=QsU (s:=s) ht (need:=(fJ s.v t (s.n t) u q).1) ⟨hp,by omega⟩ H.ok H.nrm (λx=>by rw[H.row x,eA x]; exact(hh x).2)
     obtain⟨F,N⟩:=QoI ht H hp;change Qyr 8 _ _ _=some (DI (QkO s.v t (s.n t) u q).1,Qr3 (QkO s.v t (s.n t) u q).2.1 (QkO s.v t (s.n t) u q).2.2.has s.n s.v (QkO s.v t (s.n t) u q).2.2.g,[])at bK;have dU:fJ s.v t (s.n t) u (q+1)=((fJ s.v t (s.n t) u q).1 - (QkO s.v t (s.n t) u q).1,(QkO s.v t (s.n t) u q).2.2):=rfl;have d9:Qcj s.v t (s.n t) u q=!decide ((QkO s.v t (s.n t) u q).1=0):=by unfold Qcj; rw[decide_eq_true hp,Bool.true_and]
     have hF1:=F.pos;have hF2:=F.le;rw[d9,dU,if_pos hp];generalize QkO s.v t (s.n t) u q=R at*;generalize fJ s.v t (s.n t) u q=V at*;have w2:=Qa (V.1 - R.1) (by omega) (by omega)
     have w3:=Qa (y8+V.1) (by omega) (by omega)
     by_cases h0:R.1=0
     .rw[h0]at bK;simp[-Qf6,QwJ,Qaf,Qdu,Qb,Qx,QbM,Qbp,QcZ,QaD,Qr3,Qea,bK,hp,h0,w3];done
     .have h0':(R.1==0)=false:=by simpa using h0
      rw[decide_eq_false h0];simp[-Qf6,QwJ,Qaf,Qdu,Qb,Qx,QbM,Qbp,QcZ,QaD,Qr3,Qea,bK,hp,h0',w2];done
    .have d9:Qcj s.v t (s.n t) u q=false:=by unfold Qcj; rw[decide_eq_false hp]; rfl
     rw[d9,if_neg hp];simp[-Qf6,QwJ,Qaf,Qdu,hp];done
   .intro hall
    exfalso
    have h3:=(Qsd ht n6.1 aQ hN (s.n t).toNat λi hi=>hall i (by omega)).le
    have h4:=hall (s.n t).toNat (by omega)
    simp only[Qcj,Za,decide_eq_true_eq]at h4;have:=h4.1;omega
  .simp[-Qf6,QwJ,Qaf,Qdu];rfl
 .cases hr
end Go.Proofs.YtnfeakhkfehkhaaGreatDoor
namespace Go.Proofs.YtnfeakhkfehkhaaGreatDoor
open Go.RowKit
def QGs (r:Nat):List (Nat×Option Nat):=match r with
 | 0=>[(1,none)]
 | 1=>[(2,none)]
 | _=>[]
def Qvp (r:Nat):List (Nat×Option Nat):=match r with
 | 0=>[(0,none)]
 | 1=>kpn [0,11]
 | 2=>kpn [2,3,4]
 | 3=>kpn [0,13,14]
 | 4=>kpn [0,13,14,15]
 | 5=>kpn [0,5,13,14]
 | 6=>kpn [0,4,5,13,14]
 | 7=>kpn [0,4,5,13,14,21]
 | 8=>kpn [2,3,4]
 | 9=>kpn [0,13,14]
 | 10=>[(6,none)]
 | 11=>kpn [6,30]
 | 12=>kpn [2,3,4]
 | 13=>kpn [6,7]
 | 14=>kpn [6,7,36]
 | 15=>kpn [2,3,4]
 | 16=>[(41,none)]
 | 17=>kpn [2,3,4]
 | 18=>kpn [2,3,4]
 | _=>[]
def hL (s:Sup):List Int:=(List.range 8).map s.h
def nL (s:Sup):List Int:=(List.range 8).map s.n
def QcJ (s:Sup):Bool:=!QmI 0 100000 (hL s++nL s)&&decide (Qdr s.v s.h s.n=0)
noncomputable def s53:List D->Option D:=sp1 (QeC QqI) QaI λs=>some (QcJ s)
theorem QDH {s:Sup} (h:QmI 0 100000 (hL s++nL s)=false):QAD s:=by
 have key:∀x∈hL s++nL s,0<=x/\x<=100000:=by
  unfold QmI at h;rw[List.any_eq_false]at h;intro x hx;have:=h x hx;simpa[Qau]using this
 refine⟨λx=>?_,λt=>?_⟩
 .by_cases hx:x < 8
  .have:=key (s.h x) (List.mem_append_left _ (List.mem_map.2 ⟨x,Zm.2 hx,rfl⟩)); omega
  .have:s.h x=0:=if_neg hx;omega
 .by_cases hx:t < 8
  .have:=key (s.n t) (List.mem_append_right _ (List.mem_map.2 ⟨t,Zm.2 hx,rfl⟩)); omega
  .have:s.n t=0:=if_neg hx;omega
noncomputable def g53:List (Nat×(List D->Option D)):=[(66,s66),(48,s48),(65,s65)]
theorem dg53:Qay Tryz.prog (Qas g53):=Ql (Ql (Ql QB Qy7 ok65) Qn5 QDi) QyU ok66
theorem Qtl (xs:Array Value) (w:World):(callFunc 53 xs).run Tryz.prog w= .ok (.enter 53 xs) w:=by kernel_rfl
set_option maxHeartbeats 4000000 in
theorem QG6:∀ds d,s53 ds=some d->PureC Tryz.prog 53 ds d:=Qb2 λs r hr=>by
 cases hr;have cS:=QE dg53 16 QGs [];refine QdD Tryz.func53 rfl rfl (Zb rfl) λm w a I tV=>?_;refine QgG cS 0 _ rfl (by kernel_rfl) (by kernel_rfl) (λ_ _=>rfl) _ _ _ _ I ?_
 simp[QeQ,QGs,Qcc,Q6,Qz,QT];intro g1 a1 w1 I1;obtain⟨g2,I2⟩:=QtK cS (b:=1) (t:=1) rfl (Qx 80 _) rfl rfl I1 I1.deferred;show Code.wpIn _ _ _ (Qon 0 _) _ _ _;refine QfO cS (by kernel_rfl) (by kernel_rfl) I2 (λ_ _=>rfl) ?_
 have hT1:List.take 8 (List.map ((λd=>[d]) ∘ Qbi s.h s.n s.v) (List.range 80))=(hL s).map Qt.enc:=by rfl
 have hT2:List.take 8 (List.drop 8 (List.map ((λd=>[d]) ∘ Qbi s.h s.n s.v) (List.range 80)))=(nL s).map Qt.enc:=by rfl
 have wS:s66 [.sl 1 [[.sl 1 ((hL s).map Qt.enc)],[.sl 1 ((nL s).map Qt.enc)]]]=some (.sl 1 ((hL s++nL s).map Qt.enc)):=by
  have hd:(Qy rLi).dec (.sl 1 [[.sl 1 ((hL s).map Qt.enc)],[.sl 1 ((nL s).map Qt.enc)]])=some [hL s,nL s]:=QaY rLi [hL s,nL s] 1 rfl;simp only[s66,sp1,hd];rw[if_pos ⟨by simp,by simp[hL,nL]⟩]
  simp[Qbk,Qg]
 have gC:s48 [DI 0,DI 100000,.sl 1 ((hL s++nL s).map Qt.enc)]=some (DB (QmI 0 100000 (hL s++nL s))):=by
  simp only[s48,sp3,Qam,QQ];rw[if_pos (by simp[hL,nL])]; rfl
 unfold QcJ;cases ho:QmI 0 100000 (hL s++nL s)with
 | true=>
  rw[ho,List.map_append]at gC;simp[Qon,QGs,g53,QT,hT1,hT2,wS,gC];intro g' a' w' I';exact Qim cS I' (r:=[DB false]) (by rw[Tryz.results53]; simp) rfl
 | false=>
  rw[ho,List.map_append]at gC;have y9:s65 [.agg (Qdk s.h s.n s.v)]=some (DI (Qdr s.v s.h s.n)):=by
   have hd:(QeC QqI).dec (.agg (Qdk s.h s.n s.v))=some s:=by
    rw[<-Qcc]; exact QqI.de s
   simp only[s65,sp1,hd];rw[if_pos (QDH ho)]; rfl
  change s65 [.agg (List.map (Qbi s.h s.n s.v) (List.range 80))]=_ at y9;have sP:List.take 80 (List.map (Qbi s.h s.n s.v) (List.range 80))=List.map (Qbi s.h s.n s.v) (List.range 80):=List.take_of_length_le (by simp)
  simp[Qon,QGs,g53,QT,hT1,hT2,wS,gC,sP,y9];intro g' a' w' I';exact Qim cS I' (r:=[DB (decide (Qdr s.v s.h s.n=0))]) (by rw[Tryz.results53]; simp; rfl) rfl
end Go.Proofs.YtnfeakhkfehkhaaGreatDoor
namespace Go.Proofs.YtnfeakhkfehkhaaGreatDoor
open Go.RowKit
theorem QgD {l:List Int} {j:Nat} (h:l.length<=j):l.getD j 0=0:=by rw[Zd,List.getElem?_eq_none h]; rfl
theorem QDb {b:List Bat} (hb:b.length<=8):(QdP b).sup.h=Qem (Qac b):=by
 funext x;show(Sup.of _ _ _).h x=_;rw[QA5];split
 .rfl
 .show 0=(QI b).getD x 0;rw[QgD (by rw[QN]; omega)]
theorem QGN {b:List Bat} (hb:b.length<=8):(QdP b).sup.n=QaM (Qac b):=by
 funext x;show(Sup.of _ _ _).n x=_;rw[Qzw];split
 .rfl
 .show 0=(QV b).getD x 0;rw[QgD (by rw[QS]; omega)]
theorem bx_v (b:List Bat):(QdP b).sup.v=noN:=by
 funext x t;show(Sup.of _ _ _).v x t=_;rw[Qzy];split<;>rfl
theorem Qt4 {b:List Bat} (hb:b.length<=8):(Qev Qd0 0 (QI b)=(0,0)/\Qw3 (Prd.neg).is (hL (QdP b).sup)= -1)\/∃k:Nat,Qev Qd0 0 (QI b)=((k:Int),7)/\Qw3 (Prd.neg).is (hL (QdP b).sup)=(k:Int):=by
 have hl:=QN b;have hH:∀k (h:k < (hL (QdP b).sup).length),(hL (QdP b).sup)[k]=(QI b).getD k 0:=λk h=>by
  simp only[hL,List.getElem_map,List.getElem_range];rw[QDb hb]; rfl
 have h8:(hL (QdP b).sup).length=8:=by simp[hL]
 have fB:∀k (h:k < (QI b).length),¬Qd0 k (QI b)[k]=0↔(QI b)[k] < 0:=λk h=>by
  unfold Qd0; split
  .rename_i hn; simp[hn]
  .rename_i hn; simp; omega
 rcases Qdb Qd0 (QI b)with⟨h1,h2⟩ | ⟨k,hk,h1,h2,h3⟩
 .refine .inl ⟨h1,?_⟩;rcases QdS (Prd.neg).is (hL (QdP b).sup)with⟨e,_⟩ | ⟨k,hk,e1,_,e3,_⟩
  .exact e
  .exfalso
   rw[hH k hk]at e3;simp only[Prd.is,decide_eq_true_eq]at e3;by_cases bB:k < (QI b).length
   .rw[Qj _ _ _ bB]at e3;exact(fB k bB).2 e3 (h2 k bB)
   .rw[QgD (by omega)]at e3; omega
 .have hn:=(fB k hk).1 h2;refine .inr ⟨k,by rw[h1]; unfold Qd0; rw[if_pos hn],?_⟩
  rcases QdS (Prd.neg).is (hL (QdP b).sup)with⟨_,_,e⟩ | ⟨q,hq,e1,_,e3,e4⟩
  .exfalso
   have:=e k (by omega)
   rw[hH k (by omega),Qj _ _ _ hk]at this
   simp only[Prd.is,decide_eq_false_iff_not]at this;exact this hn
  .rw[e1];have mV:=e3;rw[hH q hq]at mV;simp only[Prd.is,decide_eq_true_eq]at mV;have gT:q < (QI b).length:=by
    apply Classical.byContradiction;intro hc;rw[QgD (by omega)]at mV; omega
   rw[Qj _ _ _ gT]at mV;rcases Nat.lt_trichotomy q k with h | h | h
   .exact absurd (h3 q gT h) ((fB q gT).2 mV)
   .rw[h]
   .have:=e4 k (by omega) h
    rw[hH k (by omega),Qj _ _ _ hk]at this
    simp only[Prd.is,decide_eq_false_iff_not]at this;exact absurd hn this
theorem Qu3 {lo hi:Int} {l:List Int} (h:∀x∈l,lo<=x/\x<=hi):QmI lo hi l=false:=by
 unfold QmI;rw[List.any_eq_false];intro x hx;have:inR x lo hi=true:=Qau.2 (h x hx);rw[this]; simp
theorem QdM (s:Sup):QcJ s=true↔((∀x,0<=s.h x/\s.h x<=100000)/\∀t,0<=s.n t/\s.n t<=100000)/\Qpf s.v s.h s.n:=by
 unfold QcJ;constructor
 .intro h;simp only[Za,Bool.not_eq_true',decide_eq_true_eq]at h;obtain⟨h1,h2⟩:=h;have key:∀x∈hL s++nL s,0<=x/\x<=100000:=by
   unfold QmI at h1;rw[List.any_eq_false]at h1;intro x hx;have:=h1 x hx;simpa[Qau]using this
  have hA:∀x,0<=s.h x/\s.h x<=100000:=λx=>by
   by_cases hx:x < 8
   .exact key (s.h x) (List.mem_append_left _ (List.mem_map.2 ⟨x,Zm.2 hx,rfl⟩))
   .have:s.h x=0:=if_neg hx;omega
  have hB:∀t,0<=s.n t/\s.n t<=100000:=λt=>by
   by_cases hx:t < 8
   .exact key (s.n t) (List.mem_append_right _ (List.mem_map.2 ⟨t,Zm.2 hx,rfl⟩))
   .have:s.n t=0:=if_neg hx;omega
  exact⟨⟨hA,hB⟩,(Qc4 (λx=>(hA x).1) (λt=>(hB t).1)).2 h2⟩
 .rintro⟨⟨hA,hB⟩,h⟩;have h2:=(Qc4 (λx=>(hA x).1) (λt=>(hB t).1)).1 h;have h1:QmI 0 100000 (hL s++nL s)=false:=Qu3 λx hx=>by
   rcases Zp.1 hx with hx | hx
   .obtain⟨k,_,rfl⟩:=List.mem_map.1 hx; exact hA k
   .obtain⟨k,_,rfl⟩:=List.mem_map.1 hx; exact hB k
  rw[h1,h2]; rfl
theorem Qd4 {b:List Bat} (h:BookOk b):QcJ (QdP b).sup=QaT (Qac b):=by
 rw[Bool.eq_iff_iff,QdM,QdK (Qe2 h),QDb h.le,QGN h.le,bx_v,show nvP (Qac b)=noN from rfl];refine⟨λhw=>⟨λx=>⟨(hw.1.1 x).1,(hw.1.2 x).1⟩,hw.2⟩,λhw=>⟨⟨λx=>⟨(hw.1 x).1,?_⟩,λt=>⟨(hw.1 t).2,?_⟩⟩,hw.2⟩⟩
 .have hk:=(QgV h b.length (Zr _) x).2;rw[Qgg h]at hk;exact hk
 .show(QV b).getD t 0<=100000;by_cases ht:t < b.length
  .have hb:=h.at ht;have:(QV b).getD t 0=QfA b t:=by simp[QV,Zd,ht]
   rw[this];unfold QfA;rw[Qj _ _ _ ht];have:=hb.grams; have:=hb.fresh;split<;>omega
  .rw[QgD (by rw[QS]; omega)]; omega
theorem QkV (eqs:List (TypeId×Nat)) (Δ:Nat->List D->Option D) (ev:Operand->X) (boxes:List (Nat×List X)) (toks:List Nat):aop tys eqs Δ (.alloc 87) ev boxes toks=some (.new ⟨c87 (λ_=>0) (λ_=>0) noN (.sl 0 [] .ex) (.sl 0 [] .ex),none⟩):=QEH rfl eqs Δ ev boxes toks
theorem QF {b:Nat} {h n:Nat->Int} {v:Nat->Nat->Bool} {d e:D} {av nw:List Nat} :Qaw [] b 0 (c87 h n v (.d d) (.d e)) av nw=(c87 h n v (.d d) (.d e),av,nw):=by
 refine Qbv [] b _ 0 av nw (Qeb b) λc hc=>?_;unfold c87 at hc;rcases Zp.1 hc with hc | hc
 .exact Qbr c hc
 .simp only[List.mem_cons,List.not_mem_nil,or_false]at hc;rcases hc with rfl | rfl
  .exact⟨_,rfl⟩
  .exact⟨_,rfl⟩
theorem Qcn {h n:Nat->Int} {v:Nat->Nat->Bool} {bs lo:X} :(c87 h n v bs lo).take 80=QPw 80 (Qbi h n v):=by
 unfold c87;rw[List.take_append_of_le_length (by rw[Qb]; omega),QaG]
theorem QAI {h n:Nat->Int} {v:Nat->Nat->Bool} {bs lo:X} :(c87 h n v bs lo).take 8=QPw 8 (Qbi h n v):=by
 unfold c87;rw[List.take_append_of_le_length (by rw[Qb]; omega)]
 have:=QjK (n:=80) (m:=8) (p:=0) (G:=Qbi h n v) (by omega)
 simpa using this
noncomputable def g17:List (Nat×(List D->Option D)):=[(48,s48),(49,s49),(50,s50),(51,s51),(53,s53)]
theorem dg17:Qay Tryz.prog (Qas g17):=Ql (Ql (Ql (Ql (Ql QB Qtl QG6) Qzj ok51) QyB ok50) QDB ok49) Qn5 QDi
noncomputable def s17:List D->Option D:=sp1 (Qy QO) (QlK Qbh Qbh Qbh) λb=>if bkB b=true/\Qdx b then some (Q5 b)else none
theorem Qrn (xs:Array Value) (w:World):(callFunc 17 xs).run Tryz.prog w= .ok (.enter 17 xs) w:=by kernel_rfl
set_option maxHeartbeats 4000000 in
theorem QGi:∀ds d,s17 ds=some d->PureC Tryz.prog 17 ds d:=Qb2 λb r hr=>by
 split at hr
 .rename_i hc;obtain⟨cO,kV⟩:=hc;cases hr;refine Qm (QE dg17 42 Qvp []) Tryz.func17 rfl rfl (Zb rfl) (by kernel_rfl) ?_
  rw[Tryz.results17];unfold Q5;have gC:=QjM 1 8 b.length;cases h1:inR b.length 1 8 with
  | false=>
   rw[h1]at gC;simp[Qvp,g17,Qe,gC];done
  | true=>
   rw[h1]at gC;have hb:=Qau.1 h1;have mP:b.length<=8:=by omega
   have h49:∀j,j < b.length->s49 [.sl 5 (b.map QO.enc),DI j]=some (DI (Qol b j (b.getD j default))):=λj hj=>by
    have c:(0:Int)<=(j:Int)/\(j:Int) < b.length/\b.length<=8/\bkB b=true/\Qdx b:=by refine⟨by omega,by omega,mP,cO,kV⟩
    simp only[s49,sp2,QR,Qam];rw[if_pos c]; rfl
   rcases Qdb (Qol b) b with⟨h2,hall⟩ | ⟨k,hk,h2,aL,aM⟩
   .rw[h2];have aQ:BookOk b:=⟨mP,by omega,hall⟩
    have oV:s50 [.sl 5 (b.map QO.enc)]=some (.agg (rBx.enc (QdP b))):=by
     simp only[s50,sp1,QR];rw[if_pos aQ]; rfl
    simp[Qvp,g17,Qe,gC]
    (generalize aC:Cx.loop _ _ _=aE; apply Qi aC (λk=>⟨[(0,.d (.sl 5 (b.map QO.enc))),(13,.d (DI b.length)),(14,.d (DI k))],[],[],[]⟩) b.length rfl; rotate_left; (show _ < 281474976710656; omega); rfl; rotate_left; all_goals clear aC)
    .intro j hj;have w1:=Qa ((j:Int)+1) (by omega) (by omega)
     have aO:(j:Int) < b.length:=by omega
     have mY:=h49 j hj;rw[Qj _ _ _ hj,hall j hj]at mY;simp[Qvp,aO,mY,w1];done
    .have hz:=QkV [] (λ_ _=>none) (λ_=> .d .top) [] [];simp[-Qa8]at hz;rw[show rBx.enc (QdP b)=Qdk (QdP b).sup.h (QdP b).sup.n (QdP b).sup.v++[.sl 5 (b.map QO.enc),.sl 1 ((QU b).map Qt.enc)]from QiI _]at oV;generalize hS:(QdP b).sup=S at*;by_cases h3:3 < (QU b).length
     .have jK:(3:Int) < (QU b).length:=by omega
      simp[-Qa8,Qr,Qs,hz,Qvp,oV,QC,QM,Qah,QF,Qax,QaA,h3,jK];done
     .have jK:¬(3:Int) < (QU b).length:=by omega
      have wT:s51 [.sl 1 ((hL S).map Qt.enc),.v (.func (.func 52) #[] #[])]=some (DI (Qw3 (Prd.neg).is (hL S))):=by
       simp only[s51,sp2,QQ,QwD];rw[if_pos (by simp[hL])]; rfl
      have hT:List.map ((λd=>[d]) ∘ Qbi S.h S.n S.v) (List.range 8)=(hL S).map Qt.enc:=by rfl
      have jE:s53 [.agg ((List.range 80).map (Qbi S.h S.n S.v))]=some (DB (QcJ S)):=by
       have hd:(QeC QqI).dec (.agg ((List.range 80).map (Qbi S.h S.n S.v)))=some S:=by
        show QqI.dec (Qdk S.h S.n S.v)=some S;rw[<-Qcc]; exact QqI.de S
       simp only[s53,sp1,hd]; rfl
      have u5:=Qt4 mP;rw[hS]at u5;have nP:=Qd4 aQ;rw[hS]at nP;rw[<-nP];rcases u5 with⟨h4,h5⟩ | ⟨k,h4,h5⟩
      .rw[h4];rw[h5]at wT;cases h6:QcJ S with
       | false=>
        rw[h6]at jE;simp[-Qa8,Qr,Qs,hz,Qvp,oV,QC,QM,Qah,QF,Qax,QaA,h3,jK,Qcn,QAI,hT,Qx,wT,jE];done
       | true=>
        rw[h6]at jE;simp[-Qa8,Qr,Qs,hz,Qvp,oV,QC,QM,Qah,QF,Qax,QaA,h3,jK,Qcn,QAI,hT,Qx,wT,jE];done
      .rw[h4];rw[h5]at wT;simp[-Qa8,Qr,Qs,hz,Qvp,oV,QC,QM,Qah,QF,Qax,QaA,h3,jK,QAI,hT,Qx,wT];done
   .rw[h2];simp[Qvp,g17,Qe,gC]
    (generalize aC:Cx.loop _ _ _=aE; apply Qi aC (λk=>⟨[(0,.d (.sl 5 (b.map QO.enc))),(13,.d (DI b.length)),(14,.d (DI k))],[],[],[]⟩) k rfl; rotate_left; (show _ < 281474976710656; omega); rfl; rotate_left; all_goals clear aC)
    .intro j hj;have oC:j < b.length:=by omega
     have w1:=Qa ((j:Int)+1) (by omega) (by omega)
     have aO:(j:Int) < b.length:=by omega
     have mY:=h49 j oC;rw[Qj _ _ _ oC,aM j oC hj]at mY;simp[Qvp,aO,mY,w1];done
    .have bB:(k:Int) < b.length:=by omega
     have wU:=h49 k hk;rw[Qj _ _ _ hk]at wU;generalize Qol b k b[k]=e at*;have wV:(e != 0)=true:=by simpa using aL
     simp[Qvp,bB,wU,aL,wV];done
 .cases hr
end Go.Proofs.YtnfeakhkfehkhaaGreatDoor
namespace Go.Proofs.YtnfeakhkfehkhaaGreatDoor
open Go.RowKit
def QGJ (r:Nat):List (Nat×Option Nat):=match r with
 | 0=>kpn [0,1,4]
 | 1=>kpn [0,1,4,5]
 | 2=>kpn [0,1,4,5,13]
 | 3=>kpn [4,5]
 | 4=>kpn [0,4,20]
 | 5=>kpn [4,5]
 | 6=>kpn [4,5]
 | _=>[]
def cRaw:Cod D:=⟨id,some,λd x h=>by cases h; exact DImp.refl _⟩
def QAK (b:List Bat) (l:List Int):Int:=if ¬(Q5 b).2.2=0 then(Q5 b).2.2 else if QmI 0 ((b.length:Int) - 1) l=true then 4 else 0
def QFu:List D:=Qdk (λ_=>0) (λ_=>0) noN++[.sl 0 [],.sl 0 []]
noncomputable def QCr (b:List Bat) (l:List Int):D:=if QAK b l=0 then .tup [.agg (rBx.enc (QdP b)),DI 0]else .tup [.agg QFu,DI (QAK b l)]
noncomputable def s57:List D->Option D:=sp2 (Qy QO) (Qy Qt) cRaw λb l=>if bkB b=true/\Qdx b/\b.length<=140737488355328/\l.length<=35184372088832 then some (QCr b l)else none
theorem QpR (xs:Array Value) (w:World):(callFunc 57 xs).run Tryz.prog w= .ok (.enter 57 xs) w:=by kernel_rfl
noncomputable def g57:List (Nat×(List D->Option D)):=[(17,s17),(48,s48),(50,s50)]
theorem dg57:Qay Tryz.prog (Qas g57):=Ql (Ql (Ql QB QyB ok50) Qn5 QDi) Qrn QGi
theorem Qa3 {b:Nat} {h n:Nat->Int} {v:Nat->Nat->Bool} {d e:X} {av nw:List Nat} :Qaw [] b 0 (c87 h n v d e) av nw=(c87 h n v d.strip e.strip,av,nw):=by
 rw[QoF (λj _=>Qeb b j)]; rfl
set_option maxHeartbeats 4000000 in
theorem QGo:∀ds d,s57 ds=some d->PureC Tryz.prog 57 ds d:=QaR λb l r hr=>by
 split at hr
 .rename_i hc;obtain⟨cO,kV,fL,uF⟩:=hc;cases hr;refine Qm (QE dg57 24 QGJ []) Tryz.func57 rfl rfl (Zb rfl) (by kernel_rfl) ?_
  rw[Tryz.results57];have hz:=QkV [] (λ_ _=>none) (λ_=> .d .top) [] [];simp[-Qa8]at hz;have k8:s17 [.sl 5 (b.map QO.enc)]=some (.tup [DI (Q5 b).1,DI (Q5 b).2.1,DI (Q5 b).2.2]):=by
   simp only[s17,sp1,QR];rw[if_pos ⟨cO,kV⟩]; rfl
  have gC:s48 [DI 0,DI ((b.length:Int) - 1),.sl 1 (l.map Qt.enc)]=some (DB (QmI 0 ((b.length:Int) - 1) l)):=by
   simp only[s48,sp3,Qam,QQ];rw[if_pos uF]; rfl
  have wl:=Qa ((b.length:Int) - 1) (by omega) (by omega)
  show _=some (QCr b l);unfold QCr QAK;by_cases h1:(Q5 b).2.2=0
  .have hv:=(Qbl b).1 h1;have oV:s50 [.sl 5 (b.map QO.enc)]=some (.agg (rBx.enc (QdP b))):=by
    simp only[s50,sp1,QR];rw[if_pos hv.ok]; rfl
   rw[QiI]at oV|-;simp only[show(QdP b).bats=b from rfl,show(QdP b).lost=QU b from rfl]at oV|-;generalize(QdP b).sup=S at*;rw[h1]at k8;cases h2:QmI 0 ((b.length:Int) - 1) l with
   | true=>
    rw[h2]at gC;simp[-Qa8,Qr,Qs,hz,QGJ,g57,Qe,Qg,h1,k8,gC,wl,QFu,QC,Qah,Qa3,Qak,Q8,Qax,QaA];done
   | false=>
    rw[h2]at gC;simp[-Qa8,Qr,Qs,hz,QGJ,g57,Qe,Qg,h1,k8,gC,oV,wl,QC,Qah,Qa3,Qak,Q8,Qax,QaA];done
  .generalize Q5 b=q at*;obtain⟨q1,q2,q3⟩:=q;dsimp only at h1 k8|-;have h1':(q3 != 0)=true:=by simpa using h1
   simp[-Qa8,Qr,Qs,hz,QGJ,g57,Qe,Qg,h1,h1',k8,QFu,QC,Qah,Qa3,Qak,Q8,Qax,QaA];done
 .cases hr
end Go.Proofs.YtnfeakhkfehkhaaGreatDoor
