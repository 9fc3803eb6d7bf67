/-
  One takes as much as is found, step by step: plain laws for the program's function. Conditions: none.
-/
import Derived.Test.YticoemblgkemiaaGreatDoorZPrE
set_option linter.unusedSimpArgs false
set_option linter.unusedVariables false
namespace Go.Proofs.YticoemblgkemiaaGreatDoor
open Go.RowKit
def noS:Nat->Bool:=λ_=>false
def fJ (nv:Nat->Nat->Bool) (t:Nat) (need:Int) (s:Fl):Nat->Int×Fl
 | 0=>(need,s)
 | q+1=>((fJ nv t need s q).1 - (Q1 nv 8 t (fJ nv t need s q).1 noS (fJ nv t need s q).2).1,(Q1 nv 8 t (fJ nv t need s q).1 noS (fJ nv t need s q).2).2.2)
def Qml (nv:Nat->Nat->Bool) (t:Nat) (need:Int) (s:Fl) (q:Nat):Qn3:=Q1 nv 8 t (fJ nv t need s q).1 noS (fJ nv t need s q).2
def QcJ (nv:Nat->Nat->Bool) (t:Nat) (need:Int) (s:Fl) (q:Nat):Bool:=decide (0 < (fJ nv t need s q).1)&&!decide ((Qml nv t need s q).1=0)
theorem Qsp {nv:Nat->Nat->Bool} {t:Nat} {need:Int} {s:Fl} {k:Nat} :∀q,q<=k->(∀i,i < q->QcJ nv t need s i=true)->Qka nv t k need s=Qka nv t (k - q) (fJ nv t need s q).1 (fJ nv t need s q).2
 | 0,_,_=>rfl
 | q+1,hq,hg=>by
  rw[Qsp q (by omega) λi hi=>hg i (by omega)]
  have e:k - q=(k - (q+1))+1:=by omega
  have jW:=hg q (by omega)
  simp only[QcJ,Za,decide_eq_true_eq,Bool.not_eq_true',decide_eq_false_iff_not]at jW;rw[e,Qka,if_neg (by omega)]
  have h2:=jW.2;unfold Qml noS at h2;rw[if_neg h2]; rfl
theorem Qsv {nv:Nat->Nat->Bool} {t:Nat} {need:Int} {s:Fl} {k q:Nat} (hq:q < k) (hg:∀i,i < q->QcJ nv t need s i=true) (hb:QcJ nv t need s q=false):Qka nv t k need s=if 0 < (fJ nv t need s q).1 then((fJ nv t need s q).1,(Qml nv t need s q).2.2)else(0,(fJ nv t need s q).2):=by
 rw[Qsp q (by omega) hg]
 have e:k - q=(k - (q+1))+1:=by omega
 rw[e,Qka];by_cases h1:0 < (fJ nv t need s q).1
 .rw[if_neg (by omega),if_pos h1]
  have h2:(Qml nv t need s q).1=0:=by
   unfold QcJ at hb;rw[decide_eq_true h1,Bool.true_and]at hb;simpa using hb
  unfold Qml noS at h2|-;rw[if_pos h2]
 .rw[if_pos (by omega),if_neg h1]
structure FJOk (nv:Nat->Nat->Bool) (need:Int) (s:Fl) (q:Nat) (r:Int×Fl):Prop where
 ok:FlOk nv r.2
 nrm:Nrm noS r.2
 row:∀x,r.2.has x+QK 8 (r.2.g x)=s.has x+QK 8 (s.g x)
 le:r.1<=need - q
 nn:0<=r.1
theorem Qq9 {nv:Nat->Nat->Bool} {t:Nat} (ht:t < 8) {need:Int} {s:Fl} {q:Nat} (h:FJOk nv need s q (fJ nv t need s q)) (hp:0 < (fJ nv t need s q).1):Found nv t (fJ nv t need s q).1 noS (fJ nv t need s q).2 (Qml nv t need s q)/\Nrm noS (Qml nv t need s q).2.2:=by
 have N:=Qj9 nv 8 t (fJ nv t need s q).1 noS (fJ nv t need s q).2 ht h.nrm;exact⟨Qi4 nv 8 t (fJ nv t need s q).1 noS (fJ nv t need s q).2 ht hp Qmw h.ok,⟨λ_ _=>rfl,N.has,N.g⟩⟩
theorem Quf {nv:Nat->Nat->Bool} {t:Nat} (ht:t < 8) {need:Int} (hn:0<=need) {s:Fl} (hs:FlOk nv s) (hN:Nrm noS s):∀q,(∀i,i < q->QcJ nv t need s i=true)->FJOk nv need s q (fJ nv t need s q)
 | 0,_=>⟨hs,hN,λ_=>rfl,by simp[fJ],hn⟩
 | q+1,hg=>by
  have ih:=Quf ht hn hs hN q λi hi=>hg i (by omega)
  have jW:=hg q (by omega)
  simp only[QcJ,Za,decide_eq_true_eq,Bool.not_eq_true',decide_eq_false_iff_not]at jW;obtain⟨F,N⟩:=Qq9 ht ih jW.1;have hp:0 < (Qml nv t need s q).1:=by have:=F.pos; have:=jW.2; omega
  have bE:=F.le;have h1:=ih.le;refine⟨F.ok,N,λx=>(F.row hp x).trans (ih.row x),?_,?_⟩
  .show(fJ nv t need s q).1 - (Qml nv t need s q).1<=_;omega
  .show 0<=(fJ nv t need s q).1 - (Qml nv t need s q).1;omega
theorem QzY {nv:Nat->Nat->Bool} {has needs:Nat->Int} (hh:∀x,0<=has x) (hn:∀t,0<=needs t) {m:Int} (hm:∀t,needs t<=m) {t:Nat} (ht:t<=8):0<=(Qbq nv needs ⟨has,λ_ _=>0⟩ t).1/\(Qbq nv needs ⟨has,λ_ _=>0⟩ t).1<=8*m:=by
 obtain⟨lack,A,B,M⟩:=QfI (nv:=nv) hh hn t ht;rw[<-M.sum];refine⟨QaH λi _=>M.nn i,?_⟩;have hl:∀o,lack o<=m:=λo=>by
  by_cases h:o < t
  .have h1:=M.col o h;have h2:0<=QK 8 (λx=>(Qbq nv needs ⟨has,λ_ _=>0⟩ t).2.g x o):=QaH λi _=>M.ok.g i o;have:=hm o;omega
  .rw[M.l0 o (by omega)]
   have:=hm 0; have:=hn 0; omega
 have h8:QK 8 lack<=QK 8 (λ_=>m):=Qa2 λi _=>hl i;have e:QK 8 (λ_=>m)=8*m:=by simp only[QK]; omega
 omega
theorem Qok {nv:Nat->Nat->Bool} {needs:Nat->Int} (hn:∀t,0<=needs t) {s:Fl} (hs:FlOk nv s) (hN:Nrm noS s):∀t,t<=8->FlOk nv (Qbq nv needs s t).2/\Nrm noS (Qbq nv needs s t).2
 | 0,_=>⟨hs,hN⟩
 | t+1,ht=>by
  obtain⟨h1,h2⟩:=Qok hn hs hN t (by omega)
  rw[Qbq];generalize(Qbq nv needs s t).2=u at*;have key:∃q,q < (needs t).toNat+1/\(∀i,i < q->QcJ nv t (needs t) u i=true)/\QcJ nv t (needs t) u q=false:=by
   rcases Qbf (QcJ nv t (needs t) u) ((needs t).toNat+1)with hall | ⟨k,hk,hb,hg⟩
   .have h3:=(Quf (by omega) (hn t) h1 h2 (needs t).toNat λi hi=>hall i (by omega)).le
    have h4:=hall (needs t).toNat (by omega)
    simp only[QcJ,Za,decide_eq_true_eq]at h4;have:=h4.1;have:=hn t;omega
   .exact⟨k,hk,hg,hb⟩
  obtain⟨q,hq,hg,hb⟩:=key;have H:=Quf (by omega) (hn t) h1 h2 q hg
  simp only;rw[Qsv hq hg hb];split
  .rename_i hp;obtain⟨F,N⟩:=Qq9 (by omega) H hp
   exact⟨F.ok,N⟩
  .exact⟨H.ok,H.nrm⟩
def QAc (r:Nat):List (Nat×Option Nat):=match r with
 | 0=>kpn [1,2]
 | 1=>kpn [1,2,3]
 | 2=>kpn [1,2,3,4]
 | 3=>kpn [1,2,4]
 | 4=>kpn [2,4,10,11]
 | 5=>kpn [2,4,10,11,12]
 | 6=>kpn [2,4,5,6,10,11]
 | 7=>kpn [2,4,5,6,10,11,16]
 | 8=>kpn [2,4,5,6,7,10,11]
 | 9=>kpn [2,4,5,6,7,10,11,24]
 | 10=>kpn [2,4,10,11]
 | 11=>kpn [2,4,5,6,10,11]
 | 12=>kpn [2,4,10,11]
 | 13=>[(2,none)]
 | _=>[]
def QFe (s:Sup):Prop:=(∀x,0<=s.h x/\s.h x<=1000000)/\∀t,0<=s.n t/\s.n t<=1000000
noncomputable instance (s:Sup):Decidable (QFe s):=Classical.propDecidable _
noncomputable def s65:List D->Option D:=sp1 (Qcf Qtl) QaY λs=>if QFe s then some (Qd2 s.v s.h s.n)else none
theorem QDk (xs:Array Value) (w:World):(callFunc 58 xs).run Tryz.prog w= .ok (.enter 58 xs) w:=by kernel_rfl
theorem QL0 {Γ:Tys} (hΓ:Γ 197=some QgL) (eqs:List (TypeId×Nat)) (Δ:Nat->List D->Option D) (ev:Operand->X) (boxes:List (Nat×List X)) (toks:List Nat):aop Γ eqs Δ (.alloc 197) ev boxes toks=some (.new ⟨Qk 64 (gG (λ_ _=>0)),none⟩):=by
 simp only[aop,hΓ]; rfl
theorem Qab (h n:Nat->Int) (v:Nat->Nat->Bool):(QdW h n v).map X.d=Qk 80 (QbA h n v):=by
 rw[QdW,List.map_map]; rfl
theorem QMa:∀f,Qdl Tryz.prog 142 (QBR f)
 | 0=>QG5
 | f+1=>QEB f (QMa f)
def QzW:List (Nat×Nat×Nat):=[(5000,1,0),(5000,3,0)]
theorem Qea (n:Nat) (g:Nat->D) (b i:Nat) (h5:(b==5000)=false) (av nw:List Nat):Qaz [(5000,1,0),(5000,3,0)] b i (Qk n g) av nw=(Qk n g,av,nw):=QbM QzW b _ i av nw (Qd3 h5 (Qd3 h5 (QeM b))) QbJ
theorem QqC (nv:Nat->Nat->Bool) (needs:Nat->Int) (s:Fl):Qbq nv needs s 0=(0,s):=rfl
attribute [local simp] QqC
theorem QEj (nv:Nat->Nat->Bool) (t:Nat) (need:Int) (s:Fl):fJ nv t need s 0=(need,s):=rfl
attribute [local simp] QEj
theorem QLG {h:Nat->Int} (hh:∀x,8<=x->h x=0) (s:Sup):(Sup.of h s.n s.v).h=h/\(Sup.of h s.n s.v).n=s.n/\(Sup.of h s.n s.v).v=s.v:=by
 refine⟨?_,?_,?_⟩
 .funext x; rw[QFc]; split
  .rfl
  .rw[hh x (by omega)]
 .funext x; rw[QGA]; split
  .rfl
  .exact(if_neg (by omega)).symm
 .funext x y; rw[QHT]; split
  .rfl
  .rename_i hxy; exact(if_neg hxy).symm
theorem Qy0 {s:Sup} {t:Nat} (ht:t < 8) {need:Int} (hn:0 < need/\need<=1000000) {u:Fl} (hu:FlOk s.v u) (hN:Nrm noS u) (hb:∀x,u.has x+QK 8 (u.g x)<=1000000):QBR 8 [.d (DI t),.d (DI need),.loc 1000 0,.loc 1001 0,.loc 1002 0,.loc 1003 0] [.cells [.d (DB false),.d (DB false),.d (DB false),.d (DB false),.d (DB false),.d (DB false),.d (DB false),.d (DB false)],.cells (Qk 80 (QbA u.has s.n s.v)),.cells (Qk 64 (gG u.g)),.cells [.fx 142 [] [.inl 1001,.inl 1002,.inl 1003]]] []=some (DI (Q1 s.v 8 t need noS u).1,QtK (Q1 s.v 8 t need noS u).2.1 (Q1 s.v 8 t need noS u).2.2.has s.n s.v (Q1 s.v 8 t need noS u).2.2.g,[]):=by
 obtain⟨e1,e2,e3⟩:=QLG hN.has s;have mG:FlOk (Sup.of u.has s.n s.v).v ⟨(Sup.of u.has s.n s.v).h,u.g⟩:=by rw[e1,e3]; exact hu
 have h:=QxF (f:=8) (t:=t) (most:=need) (seen:=noS) (sup:=Sup.of u.has s.n s.v) (g:=u.g) (λ_ _=>rfl) hN.g ⟨ht,⟨hn.1,by dsimp only; omega⟩,Qmw,mG,λx=>by dsimp only; rw[e1]; have:=hb x; omega⟩
 rw[e1,e2,e3]at h;exact h
theorem QFK {h n:Nat->Int} {v:Nat->Nat->Bool} {t:Nat} (ht:t < 8):QbA h n v (8+t)=DI (n t):=QpH ht
set_option maxHeartbeats 8000000 in
theorem ok65:∀ds d,s65 ds=some d->PureC Tryz.prog 58 ds d:=Qbr λs r hr=>by
 split at hr
 .rename_i hc;obtain⟨hh,hn⟩:=hc;cases hr;refine Qf (Qby Qs (QeK Qb6 QxG (QMa 8)) Qbn Qcx 33 QAc QzW (λ_=>[]) (λ_=>0)) Tryz.func58 rfl rfl (Zb rfl) (by kernel_rfl) ?_
  rw[Tryz.results58];have hz:=QL0 (Γ:=tys) rfl [] (λ_ _=>none) (λ_=> .d .top) [] [];simp[-QgL]at hz;have dE:FlOk s.v ⟨s.h,λ_ _=>0⟩:=⟨λx=>(hh x).1,λ_ _=>Int.le_refl _,λx t h=>absurd h (by simp)⟩
  have hN0:Nrm noS ⟨s.h,λ_ _=>0⟩:=⟨λ_ _=>rfl,λx hx=>if_neg (by omega),λ_ _ _=>rfl⟩
  have qE:=λt (ht:t<=8)=>Qok (nv:=s.v) (needs:=s.n) (λt=>(hn t).1) dE hN0 t ht;have wM:=λt (ht:t<=8)=>QzY (nv:=s.v) (λx=>(hh x).1) (λt=>(hn t).1) (λt=>(hn t).2) ht;have hmid:=λt (ht:t<=8)=>QfI (nv:=s.v) (λx=>(hh x).1) (λt=>(hn t).1) t ht;have hcut:=QjH (n:=80) (m:=8) (p:=8) (G:=QbA s.h s.n s.v) (by omega)
  simp[-QgL,hz,QAc,QzW,Qcu,Qab,Qaj,Qea,Qb,hcut,Qv]
  (generalize aC:Cx.loop _ _ _=aE; apply Qi aC (λt=>⟨[(2,.d (DI (Qbq s.v s.n ⟨s.h,λ_ _=>0⟩ t).1)),(4,.loc 4 0),(10,.d (.agg ((List.range 8).map λj=>QbA s.h s.n s.v (8+j)))),(11,.d (DI t))],[(4,[.fx 142 [] [.inl 1,.inl 3,.inl 4]]),(1,Qk 80 (QbA (Qbq s.v s.n ⟨s.h,λ_ _=>0⟩ t).2.has s.n s.v)),(3,Qk 64 (gG (Qbq s.v s.n ⟨s.h,λ_ _=>0⟩ t).2.g))],[],[]⟩) 8 (by first | (simp; done) | (simp; rfl) | (simp; simp[*])); rotate_left; (show _ < 281474976710656; omega); rfl; rotate_left; all_goals clear aC)
  .intro t ht;have w1:=Qa ((t:Int)+1) (by omega) (by omega)
   have jF:(t:Int) < 8:=by omega
   obtain⟨aP,hN⟩:=qE t (by omega)
   have hb:=wM t (by omega)
   have cN:=wM (t+1) (by omega)
   obtain⟨lack,A,B,M⟩:=hmid t (by omega)
   have cV:=M.row;have oL:=hn t;rw[Qbq]at cN;rw[Qbq];generalize Qbq s.v s.n ⟨s.h,λ_ _=>0⟩ t=u at*;obtain⟨zK,u⟩:=u;dsimp only at*;simp[-QgL,QAc,Qaj,Qea,ht,jF,QFK];generalize kB:Cx.loop _ _ _=sW;have hI:=Qh8 kB (λq=>⟨[(2,.d (DI zK)),(4,.loc 4 0),(5,.d (DI t)),(6,.d (DI (fJ s.v t (s.n t) u q).1)),(10,.d (.agg ((List.range 8).map λj=>QbA s.h s.n s.v (8+j)))),(11,.d (DI t))],[(4,[.fx 142 [] [.inl 1,.inl 3,.inl 4]]),(1,Qk 80 (QbA (fJ s.v t (s.n t) u q).2.has s.n s.v)),(3,Qk 64 (gG (fJ s.v t (s.n t) u q).2.g))],[],[]⟩) ((s.n t).toNat+1) (QcJ s.v t (s.n t) u) (λq=>(.exit 2,if 0 < (fJ s.v t (s.n t) u q).1 then⟨[(2,.d (DI (zK+(fJ s.v t (s.n t) u q).1))),(4,.loc 4 0),(10,.d (.agg ((List.range 8).map λj=>QbA s.h s.n s.v (8+j)))),(11,.d (DI t))],[(4,[.fx 142 [] [.inl 1,.inl 3,.inl 4]]),(1,Qk 80 (QbA (Qml s.v t (s.n t) u q).2.2.has s.n s.v)),(3,Qk 64 (gG (Qml s.v t (s.n t) u q).2.2.g))],[],[]⟩else⟨[(2,.d (DI zK)),(4,.loc 4 0),(5,.d (DI t)),(6,.d (DI (fJ s.v t (s.n t) u q).1)),(10,.d (.agg ((List.range 8).map λj=>QbA s.h s.n s.v (8+j)))),(11,.d (DI t)),(16,.d (DB false))],[(4,[.fx 142 [] [.inl 1,.inl 3,.inl 4]]),(1,Qk 80 (QbA (fJ s.v t (s.n t) u q).2.has s.n s.v)),(3,Qk 64 (gG (fJ s.v t (s.n t) u q).2.g))],[],[]⟩)) (.ret,⟨[],[],[],[]⟩) (by simp) (by show _ < 281474976710656; omega) (λj=>by simp) (by simp) ?_ ?_
   .rcases hI with⟨hall,hR⟩ | ⟨q,hq,aM,aT,hR⟩
    .exfalso
     have h3:=(Quf ht oL.1 aP hN (s.n t).toNat λi hi=>hall i (by omega)).le
     have h4:=hall (s.n t).toNat (by omega)
     simp only[QcJ,Za,decide_eq_true_eq]at h4;have:=h4.1;omega
    .have hf:=Qsv hq aT aM;rw[hR,hf];by_cases hp:0 < (fJ s.v t (s.n t) u q).1
     .rw[if_pos hp,if_pos hp];simp[-QgL,QAc,Qaj,Qea,w1];done
     .rw[if_neg hp,if_neg hp];simp[-QgL,QAc,Qaj,Qea,w1];done
   .intro q hq jW;have H:=Quf ht oL.1 aP hN q jW;have bE:=H.le;have sS:=H.nn;by_cases hp:0 < (fJ s.v t (s.n t) u q).1
    .have cI:=Qy0 (s:=s) ht (need:=(fJ s.v t (s.n t) u q).1) ⟨hp,by omega⟩ H.ok H.nrm (λx=>by rw[H.row x,cV x]; exact(hh x).2)
     obtain⟨F,N⟩:=Qq9 ht H hp;change QBR 8 _ _ _=some (DI (Qml s.v t (s.n t) u q).1,QtK (Qml s.v t (s.n t) u q).2.1 (Qml s.v t (s.n t) u q).2.2.has s.n s.v (Qml s.v t (s.n t) u q).2.2.g,[])at cI;have dJ:fJ s.v t (s.n t) u (q+1)=((fJ s.v t (s.n t) u q).1 - (Qml s.v t (s.n t) u q).1,(Qml s.v t (s.n t) u q).2.2):=rfl;have eA:QcJ s.v t (s.n t) u q=!decide ((Qml s.v t (s.n t) u q).1=0):=by unfold QcJ; rw[decide_eq_true hp,Bool.true_and]
     have hF1:=F.pos;have hF2:=F.le;rw[eA,dJ,if_pos hp];generalize Qml s.v t (s.n t) u q=R at*;generalize fJ s.v t (s.n t) u q=V at*;have w2:=Qa (V.1 - R.1) (by omega) (by omega)
     have w3:=Qa (zK+V.1) (by omega) (by omega)
     by_cases h0:R.1=0
     .rw[h0]at cI;simp[-QgL,QAc,Qaj,Qea,Qb,Qv,QbT,QbC,Qdg,QaT,QtK,QeR,cI,hp,h0,w3];done
     .have h0':(R.1==0)=false:=by simpa using h0
      rw[decide_eq_false h0];simp[-QgL,QAc,Qaj,Qea,Qb,Qv,QbT,QbC,Qdg,QaT,QtK,QeR,cI,hp,h0',w2];done
    .have eA:QcJ s.v t (s.n t) u q=false:=by unfold QcJ; rw[decide_eq_false hp]; rfl
     rw[eA,if_neg hp];simp[-QgL,QAc,Qaj,Qea,hp];done
   .intro hall
    exfalso
    have h3:=(Quf ht oL.1 aP hN (s.n t).toNat λi hi=>hall i (by omega)).le
    have h4:=hall (s.n t).toNat (by omega)
    simp only[QcJ,Za,decide_eq_true_eq]at h4;have:=h4.1;omega
  .simp[-QgL,QAc,Qaj,Qea];rfl
 .cases hr
end Go.Proofs.YticoemblgkemiaaGreatDoor
namespace Go.Proofs.YticoemblgkemiaaGreatDoor
open Go.RowKit
def QNe (r:Nat):List (Nat×Option Nat):=match r with
 | 0=>[(1,none)]
 | 1=>[(2,none)]
 | _=>[]
def QwG (r:Nat):List (Nat×Option Nat):=match r with
 | 0=>[(0,none)]
 | 1=>kpn [0,11]
 | 2=>kpn [2,3,4]
 | 3=>kpn [0,13,14]
 | 4=>kpn [0,13,14,15]
 | 5=>kpn [0,5,13,14]
 | 6=>kpn [0,4,5,13,14]
 | 7=>kpn [0,4,5,13,14,21]
 | 8=>kpn [2,3,4]
 | 9=>kpn [0,13,14]
 | 10=>[(6,none)]
 | 11=>kpn [6,30]
 | 12=>kpn [2,3,4]
 | 13=>kpn [6,7]
 | 14=>kpn [6,7,36]
 | 15=>kpn [2,3,4]
 | 16=>[(41,none)]
 | 17=>kpn [2,3,4]
 | 18=>kpn [2,3,4]
 | _=>[]
def hL (s:Sup):List Int:=(List.range 8).map s.h
def nL (s:Sup):List Int:=(List.range 8).map s.n
def Qc2 (s:Sup):Bool:=!Qk3 0 100000 (hL s++nL s)&&decide (Qd2 s.v s.h s.n=0)
noncomputable def s53:List D->Option D:=sp1 (Qcf Qtl) QaW λs=>some (Qc2 s)
theorem QKh {s:Sup} (h:Qk3 0 100000 (hL s++nL s)=false):QFe s:=by
 have key:∀x∈hL s++nL s,0<=x/\x<=100000:=by
  unfold Qk3 at h;rw[List.any_eq_false]at h;intro x hx;have:=h x hx;simpa[Qal]using this
 refine⟨λx=>?_,λt=>?_⟩
 .by_cases hx:x < 8
  .have:=key (s.h x) (List.mem_append_left _ (List.mem_map.2 ⟨x,Zm.2 hx,rfl⟩)); omega
  .have:s.h x=0:=if_neg hx;omega
 .by_cases hx:t < 8
  .have:=key (s.n t) (List.mem_append_right _ (List.mem_map.2 ⟨t,Zm.2 hx,rfl⟩)); omega
  .have:s.n t=0:=if_neg hx;omega
noncomputable def g53:List (Nat×(List D->Option D)):=[(117,s66),(133,s48),(58,s65)]
theorem dg53:QaE Tryz.prog (Qaw g53):=Qh (Qh (Qh Qs QDk ok65) Qot QMu) QDc ok66
theorem QyP (xs:Array Value) (w:World):(callFunc 138 xs).run Tryz.prog w= .ok (.enter 138 xs) w:=by kernel_rfl
set_option maxHeartbeats 4000000 in
theorem QNZ:∀ds d,s53 ds=some d->PureC Tryz.prog 138 ds d:=Qbr λs r hr=>by
 cases hr;have bU:=Qw dg53 16 QNe [];refine QcR Tryz.func138 rfl rfl (Zb rfl) λm w a I uA=>?_;refine Qdm bU 0 _ rfl (by kernel_rfl) (by kernel_rfl) (λ_ _=>rfl) _ _ _ _ I ?_
 simp[Qeh,QNe,Qcu,Qab,QA,QG];intro g1 a1 w1 I1;obtain⟨g2,I2⟩:=Qxl bU (b:=1) (t:=1) rfl (Qv 80 _) rfl rfl I1 I1.deferred;show Code.wpIn _ _ _ (QiP 0 _) _ _ _;refine Qdk bU (by kernel_rfl) (by kernel_rfl) I2 (λ_ _=>rfl) ?_
 have hT1:List.take 8 (List.map ((λd=>[d]) ∘ QbA s.h s.n s.v) (List.range 80))=(hL s).map QH.enc:=by rfl
 have zL:List.take 8 (List.drop 8 (List.map ((λd=>[d]) ∘ QbA s.h s.n s.v) (List.range 80)))=(nL s).map QH.enc:=by rfl
 have h66:s66 [.sl 1 [[.sl 1 ((hL s).map QH.enc)],[.sl 1 ((nL s).map QH.enc)]]]=some (.sl 1 ((hL s++nL s).map QH.enc)):=by
  have hd:(QJ rLi).dec (.sl 1 [[.sl 1 ((hL s).map QH.enc)],[.sl 1 ((nL s).map QH.enc)]])=some [hL s,nL s]:=Qbd rLi [hL s,nL s] 1 rfl;simp only[s66,sp1,hd];rw[if_pos ⟨by simp,by simp[hL,nL]⟩]
  simp[QbL,Qn]
 have gK:s48 [DI 0,DI 100000,.sl 1 ((hL s++nL s).map QH.enc)]=some (DB (Qk3 0 100000 (hL s++nL s))):=by
  simp only[s48,sp3,Qak,Qap];rw[if_pos (by simp[hL,nL])]; rfl
 unfold Qc2;cases ho:Qk3 0 100000 (hL s++nL s)with
 | true=>
  rw[ho,List.map_append]at gK;simp[QiP,QNe,g53,QG,hT1,zL,h66,gK];intro g' a' w' I';exact Qdq bU I' (r:=[DB false]) (by rw[Tryz.results138]; simp) rfl
 | false=>
  rw[ho,List.map_append]at gK;have zM:s65 [.agg (QdW s.h s.n s.v)]=some (DI (Qd2 s.v s.h s.n)):=by
   have hd:(Qcf Qtl).dec (.agg (QdW s.h s.n s.v))=some s:=by
    rw[<-Qcu]; exact Qtl.de s
   simp only[s65,sp1,hd];rw[if_pos (QKh ho)]; rfl
  change s65 [.agg (List.map (QbA s.h s.n s.v) (List.range 80))]=_ at zM;have sX:List.take 80 (List.map (QbA s.h s.n s.v) (List.range 80))=List.map (QbA s.h s.n s.v) (List.range 80):=List.take_of_length_le (by simp)
  simp[QiP,QNe,g53,QG,hT1,zL,h66,gK,sX,zM];intro g' a' w' I';exact Qdq bU I' (r:=[DB (decide (Qd2 s.v s.h s.n=0))]) (by rw[Tryz.results138]; simp; rfl) rfl
end Go.Proofs.YticoemblgkemiaaGreatDoor
namespace Go.Proofs.YticoemblgkemiaaGreatDoor
open Go.RowKit
theorem Qhe {l:List Int} {j:Nat} (h:l.length<=j):l.getD j 0=0:=by rw[Zd,List.getElem?_eq_none h]; rfl
theorem QMf {b:List Bat} (hb:b.length<=8):(Qek b).sup.h=Qb2 (QV b):=by
 funext x;show(Sup.of _ _ _).h x=_;rw[QFc];split
 .rfl
 .show 0=(QT b).getD x 0;rw[Qhe (by rw[QU]; omega)]
theorem QMT {b:List Bat} (hb:b.length<=8):(Qek b).sup.n=Q4 (QV b):=by
 funext x;show(Sup.of _ _ _).n x=_;rw[QGA];split
 .rfl
 .show 0=(QaD b).getD x 0;rw[Qhe (by rw[Qah]; omega)]
theorem bx_v (b:List Bat):(Qek b).sup.v=noN:=by
 funext x t;show(Sup.of _ _ _).v x t=_;rw[QHT];split<;>rfl
theorem QvK {b:List Bat} (hb:b.length<=8):(Qfn QeJ 0 (QT b)=(0,0)/\QBs (Prd.neg).is (hL (Qek b).sup)= -1)\/∃k:Nat,Qfn QeJ 0 (QT b)=((k:Int),7)/\QBs (Prd.neg).is (hL (Qek b).sup)=(k:Int):=by
 have hl:=QU b;have hH:∀k (h:k < (hL (Qek b).sup).length),(hL (Qek b).sup)[k]=(QT b).getD k 0:=λk h=>by
  simp only[hL,List.getElem_map,List.getElem_range];rw[QMf hb]; rfl
 have h8:(hL (Qek b).sup).length=8:=by simp[hL]
 have fC:∀k (h:k < (QT b).length),¬QeJ k (QT b)[k]=0↔(QT b)[k] < 0:=λk h=>by
  unfold QeJ; split
  .rename_i hn; simp[hn]
  .rename_i hn; simp; omega
 rcases QdP QeJ (QT b)with⟨h1,h2⟩ | ⟨k,hk,h1,h2,h3⟩
 .refine .inl ⟨h1,?_⟩;rcases Qeo (Prd.neg).is (hL (Qek b).sup)with⟨e,_⟩ | ⟨k,hk,e1,_,e3,_⟩
  .exact e
  .exfalso
   rw[hH k hk]at e3;simp only[Prd.is,decide_eq_true_eq]at e3;by_cases aX:k < (QT b).length
   .rw[Ql _ _ _ aX]at e3;exact(fC k aX).2 e3 (h2 k aX)
   .rw[Qhe (by omega)]at e3; omega
 .have hn:=(fC k hk).1 h2;refine .inr ⟨k,by rw[h1]; unfold QeJ; rw[if_pos hn],?_⟩
  rcases Qeo (Prd.neg).is (hL (Qek b).sup)with⟨_,_,e⟩ | ⟨q,hq,e1,_,e3,e4⟩
  .exfalso
   have:=e k (by omega)
   rw[hH k (by omega),Ql _ _ _ hk]at this
   simp only[Prd.is,decide_eq_false_iff_not]at this;exact this hn
  .rw[e1];have m6:=e3;rw[hH q hq]at m6;simp only[Prd.is,decide_eq_true_eq]at m6;have gZ:q < (QT b).length:=by
    apply Classical.byContradiction;intro hc;rw[Qhe (by omega)]at m6; omega
   rw[Ql _ _ _ gZ]at m6;rcases Nat.lt_trichotomy q k with h | h | h
   .exact absurd (h3 q gZ h) ((fC q gZ).2 m6)
   .rw[h]
   .have:=e4 k (by omega) h
    rw[hH k (by omega),Ql _ _ _ hk]at this
    simp only[Prd.is,decide_eq_false_iff_not]at this;exact absurd hn this
theorem QyD {lo hi:Int} {l:List Int} (h:∀x∈l,lo<=x/\x<=hi):Qk3 lo hi l=false:=by
 unfold Qk3;rw[List.any_eq_false];intro x hx;have:inR x lo hi=true:=Qal.2 (h x hx);rw[this]; simp
theorem QeA (s:Sup):Qc2 s=true↔((∀x,0<=s.h x/\s.h x<=100000)/\∀t,0<=s.n t/\s.n t<=100000)/\QjX s.v s.h s.n:=by
 unfold Qc2;constructor
 .intro h;simp only[Za,Bool.not_eq_true',decide_eq_true_eq]at h;obtain⟨h1,h2⟩:=h;have key:∀x∈hL s++nL s,0<=x/\x<=100000:=by
   unfold Qk3 at h1;rw[List.any_eq_false]at h1;intro x hx;have:=h1 x hx;simpa[Qal]using this
  have hA:∀x,0<=s.h x/\s.h x<=100000:=λx=>by
   by_cases hx:x < 8
   .exact key (s.h x) (List.mem_append_left _ (List.mem_map.2 ⟨x,Zm.2 hx,rfl⟩))
   .have:s.h x=0:=if_neg hx;omega
  have hB:∀t,0<=s.n t/\s.n t<=100000:=λt=>by
   by_cases hx:t < 8
   .exact key (s.n t) (List.mem_append_right _ (List.mem_map.2 ⟨t,Zm.2 hx,rfl⟩))
   .have:s.n t=0:=if_neg hx;omega
  exact⟨⟨hA,hB⟩,(Qdv (λx=>(hA x).1) (λt=>(hB t).1)).2 h2⟩
 .rintro⟨⟨hA,hB⟩,h⟩;have h2:=(Qdv (λx=>(hA x).1) (λt=>(hB t).1)).1 h;have h1:Qk3 0 100000 (hL s++nL s)=false:=QyD λx hx=>by
   rcases Zp.1 hx with hx | hx
   .obtain⟨k,_,rfl⟩:=List.mem_map.1 hx; exact hA k
   .obtain⟨k,_,rfl⟩:=List.mem_map.1 hx; exact hB k
  rw[h1,h2]; rfl
theorem QeY {b:List Bat} (h:BookOk b):Qc2 (Qek b).sup=Qcj (QV b):=by
 rw[Bool.eq_iff_iff,QeA,QdA (QeU h),QMf h.le,QMT h.le,bx_v,show nvP (QV b)=noN from rfl];refine⟨λhw=>⟨λx=>⟨(hw.1.1 x).1,(hw.1.2 x).1⟩,hw.2⟩,λhw=>⟨⟨λx=>⟨(hw.1 x).1,?_⟩,λt=>⟨(hw.1 t).2,?_⟩⟩,hw.2⟩⟩
 .have hk:=(QhU h b.length (Zr _) x).2;rw[Qhf h]at hk;exact hk
 .show(QaD b).getD t 0<=100000;by_cases ht:t < b.length
  .have hb:=h.at ht;have:(QaD b).getD t 0=Qdt b t:=by simp[QaD,Zd,ht]
   rw[this];unfold Qdt;rw[Ql _ _ _ ht];have:=hb.grams; have:=hb.fresh;split<;>omega
  .rw[Qhe (by rw[Qah]; omega)]; omega
theorem QlC (eqs:List (TypeId×Nat)) (Δ:Nat->List D->Option D) (ev:Operand->X) (boxes:List (Nat×List X)) (toks:List Nat):aop tys eqs Δ (.alloc 128) ev boxes toks=some (.new ⟨c87 (λ_=>0) (λ_=>0) noN (.sl 0 [] .ex) (.sl 0 [] .ex),none⟩):=QMd rfl eqs Δ ev boxes toks
theorem QL {b:Nat} {h n:Nat->Int} {v:Nat->Nat->Bool} {d e:D} {av nw:List Nat} :Qaz [] b 0 (c87 h n v (.d d) (.d e)) av nw=(c87 h n v (.d d) (.d e),av,nw):=by
 refine QbM [] b _ 0 av nw (QeM b) λc hc=>?_;unfold c87 at hc;rcases Zp.1 hc with hc | hc
 .exact QbJ c hc
 .simp only[List.mem_cons,List.not_mem_nil,or_false]at hc;rcases hc with rfl | rfl
  .exact⟨_,rfl⟩
  .exact⟨_,rfl⟩
theorem QcO {h n:Nat->Int} {v:Nat->Nat->Bool} {bs lo:X} :(c87 h n v bs lo).take 80=Qk 80 (QbA h n v):=by
 unfold c87;rw[List.take_append_of_le_length (by rw[Qb]; omega),QaG]
theorem QGT {h n:Nat->Int} {v:Nat->Nat->Bool} {bs lo:X} :(c87 h n v bs lo).take 8=Qk 8 (QbA h n v):=by
 unfold c87;rw[List.take_append_of_le_length (by rw[Qb]; omega)]
 have:=QjH (n:=80) (m:=8) (p:=0) (G:=QbA h n v) (by omega)
 simpa using this
noncomputable def g17:List (Nat×(List D->Option D)):=[(133,s48),(192,s49),(134,s50),(193,s51),(138,s53)]
theorem dg17:QaE Tryz.prog (Qaw g17):=Qh (Qh (Qh (Qh (Qh Qs QyP QNZ) QDH ok51) QDy ok50) QLq ok49) Qot QMu
noncomputable def s17:List D->Option D:=sp1 (QJ QQ) (Qmy QaY QaY QaY) λb=>if bkB b=true/\Qee b then some (Qaf b)else none
theorem QxE (xs:Array Value) (w:World):(callFunc 123 xs).run Tryz.prog w= .ok (.enter 123 xs) w:=by kernel_rfl
set_option maxHeartbeats 4000000 in
theorem QPm:∀ds d,s17 ds=some d->PureC Tryz.prog 123 ds d:=Qbr λb r hr=>by
 split at hr
 .rename_i hc;obtain⟨cL,k7⟩:=hc;cases hr;refine Qf (Qw dg17 42 QwG []) Tryz.func123 rfl rfl (Zb rfl) (by kernel_rfl) ?_
  rw[Tryz.results123];unfold Qaf;have gK:=QjB 1 8 b.length;cases h1:inR b.length 1 8 with
  | false=>
   rw[h1]at gK;simp[QwG,g17,Qj,gK];done
  | true=>
   rw[h1]at gK;have hb:=Qal.1 h1;have m7:b.length<=8:=by omega
   have h49:∀j,j < b.length->s49 [.sl 5 (b.map QQ.enc),DI j]=some (DI (QmK b j (b.getD j default))):=λj hj=>by
    have c:(0:Int)<=(j:Int)/\(j:Int) < b.length/\b.length<=8/\bkB b=true/\Qee b:=by refine⟨by omega,by omega,m7,cL,k7⟩
    simp only[s49,sp2,Q9,Qak];rw[if_pos c]; rfl
   rcases QdP (QmK b) b with⟨h2,hall⟩ | ⟨k,hk,h2,aM,aT⟩
   .rw[h2];have aP:BookOk b:=⟨m7,by omega,hall⟩
    have pD:s50 [.sl 5 (b.map QQ.enc)]=some (.agg (rBx.enc (Qek b))):=by
     simp only[s50,sp1,Q9];rw[if_pos aP]; rfl
    simp[QwG,g17,Qj,gK]
    (generalize aC:Cx.loop _ _ _=aE; apply Qi aC (λk=>⟨[(0,.d (.sl 5 (b.map QQ.enc))),(13,.d (DI b.length)),(14,.d (DI k))],[],[],[]⟩) b.length rfl; rotate_left; (show _ < 281474976710656; omega); rfl; rotate_left; all_goals clear aC)
    .intro j hj;have w1:=Qa ((j:Int)+1) (by omega) (by omega)
     have aO:(j:Int) < b.length:=by omega
     have nC:=h49 j hj;rw[Ql _ _ _ hj,hall j hj]at nC;simp[QwG,aO,nC,w1];done
    .have hz:=QlC [] (λ_ _=>none) (λ_=> .d .top) [] [];simp[-Q7]at hz;rw[show rBx.enc (Qek b)=QdW (Qek b).sup.h (Qek b).sup.n (Qek b).sup.v++[.sl 5 (b.map QQ.enc),.sl 1 ((Qae b).map QH.enc)]from QkY _]at pD;generalize hS:(Qek b).sup=S at*;by_cases h3:3 < (Qae b).length
     .have jS:(3:Int) < (Qae b).length:=by omega
      simp[-Q7,Qq,Qp,hz,QwG,pD,QE,QN,Qas,QL,QaU,QaZ,h3,jS];done
     .have jS:¬(3:Int) < (Qae b).length:=by omega
      have wN:s51 [.sl 1 ((hL S).map QH.enc),.v (.func (.func 194) #[] #[])]=some (DI (QBs (Prd.neg).is (hL S))):=by
       simp only[s51,sp2,Qap,QBO];rw[if_pos (by simp[hL])]; rfl
      have hT:List.map ((λd=>[d]) ∘ QbA S.h S.n S.v) (List.range 8)=(hL S).map QH.enc:=by rfl
      have jG:s53 [.agg ((List.range 80).map (QbA S.h S.n S.v))]=some (DB (Qc2 S)):=by
       have hd:(Qcf Qtl).dec (.agg ((List.range 80).map (QbA S.h S.n S.v)))=some S:=by
        show Qtl.dec (QdW S.h S.n S.v)=some S;rw[<-Qcu]; exact Qtl.de S
       simp only[s53,sp1,hd]; rfl
      have vC:=QvK m7;rw[hS]at vC;have nY:=QeY aP;rw[hS]at nY;rw[<-nY];rcases vC with⟨h4,h5⟩ | ⟨k,h4,h5⟩
      .rw[h4];rw[h5]at wN;cases h6:Qc2 S with
       | false=>
        rw[h6]at jG;simp[-Q7,Qq,Qp,hz,QwG,pD,QE,QN,Qas,QL,QaU,QaZ,h3,jS,QcO,QGT,hT,Qv,wN,jG];done
       | true=>
        rw[h6]at jG;simp[-Q7,Qq,Qp,hz,QwG,pD,QE,QN,Qas,QL,QaU,QaZ,h3,jS,QcO,QGT,hT,Qv,wN,jG];done
      .rw[h4];rw[h5]at wN;simp[-Q7,Qq,Qp,hz,QwG,pD,QE,QN,Qas,QL,QaU,QaZ,h3,jS,QGT,hT,Qv,wN];done
   .rw[h2];simp[QwG,g17,Qj,gK]
    (generalize aC:Cx.loop _ _ _=aE; apply Qi aC (λk=>⟨[(0,.d (.sl 5 (b.map QQ.enc))),(13,.d (DI b.length)),(14,.d (DI k))],[],[],[]⟩) k rfl; rotate_left; (show _ < 281474976710656; omega); rfl; rotate_left; all_goals clear aC)
    .intro j hj;have oQ:j < b.length:=by omega
     have w1:=Qa ((j:Int)+1) (by omega) (by omega)
     have aO:(j:Int) < b.length:=by omega
     have nC:=h49 j oQ;rw[Ql _ _ _ oQ,aT j oQ hj]at nC;simp[QwG,aO,nC,w1];done
    .have aX:(k:Int) < b.length:=by omega
     have wO:=h49 k hk;rw[Ql _ _ _ hk]at wO;generalize QmK b k b[k]=e at*;have wP:(e != 0)=true:=by simpa using aM
     simp[QwG,aX,wO,aM,wP];done
 .cases hr
end Go.Proofs.YticoemblgkemiaaGreatDoor
namespace Go.Proofs.YticoemblgkemiaaGreatDoor
open Go.RowKit
def QNx (r:Nat):List (Nat×Option Nat):=match r with
 | 0=>kpn [0,1,4]
 | 1=>kpn [0,1,4,5]
 | 2=>kpn [0,1,4,5,13]
 | 3=>kpn [4,5]
 | 4=>kpn [0,4,20]
 | 5=>kpn [4,5]
 | 6=>kpn [4,5]
 | _=>[]
def QNy:Cod D:=⟨id,some,λd x h=>by cases h; exact DImp.refl _⟩
def QFW (b:List Bat) (l:List Int):Int:=if ¬(Qaf b).2.2=0 then(Qaf b).2.2 else if Qk3 0 ((b.length:Int) - 1) l=true then 4 else 0
def QKp:List D:=QdW (λ_=>0) (λ_=>0) noN++[.sl 0 [],.sl 0 []]
noncomputable def QIk (b:List Bat) (l:List Int):D:=if QFW b l=0 then .tup [.agg (rBx.enc (Qek b)),DI 0]else .tup [.agg QKp,DI (QFW b l)]
noncomputable def s57:List D->Option D:=sp2 (QJ QQ) (QJ QH) QNy λb l=>if bkB b=true/\Qee b/\b.length<=140737488355328/\l.length<=35184372088832 then some (QIk b l)else none
theorem QsN (xs:Array Value) (w:World):(callFunc 55 xs).run Tryz.prog w= .ok (.enter 55 xs) w:=by kernel_rfl
noncomputable def g57:List (Nat×(List D->Option D)):=[(123,s17),(133,s48),(134,s50)]
theorem dg57:QaE Tryz.prog (Qaw g57):=Qh (Qh (Qh Qs QDy ok50) Qot QMu) QxE QPm
theorem Qbm {b:Nat} {h n:Nat->Int} {v:Nat->Nat->Bool} {d e:X} {av nw:List Nat} :Qaz [] b 0 (c87 h n v d e) av nw=(c87 h n v d.strip e.strip,av,nw):=by
 rw[Qrj (λj _=>QeM b j)]; rfl
set_option maxHeartbeats 4000000 in
theorem QNo:∀ds d,s57 ds=some d->PureC Tryz.prog 55 ds d:=Qay λb l r hr=>by
 split at hr
 .rename_i hc;obtain⟨cL,k7,fK,uQ⟩:=hc;cases hr;refine Qf (Qw dg57 24 QNx []) Tryz.func55 rfl rfl (Zb rfl) (by kernel_rfl) ?_
  rw[Tryz.results55];have hz:=QlC [] (λ_ _=>none) (λ_=> .d .top) [] [];simp[-Q7]at hz;have lI:s17 [.sl 5 (b.map QQ.enc)]=some (.tup [DI (Qaf b).1,DI (Qaf b).2.1,DI (Qaf b).2.2]):=by
   simp only[s17,sp1,Q9];rw[if_pos ⟨cL,k7⟩]; rfl
  have gK:s48 [DI 0,DI ((b.length:Int) - 1),.sl 1 (l.map QH.enc)]=some (DB (Qk3 0 ((b.length:Int) - 1) l)):=by
   simp only[s48,sp3,Qak,Qap];rw[if_pos uQ]; rfl
  have wl:=Qa ((b.length:Int) - 1) (by omega) (by omega)
  show _=some (QIk b l);unfold QIk QFW;by_cases h1:(Qaf b).2.2=0
  .have hv:=(QbQ b).1 h1;have pD:s50 [.sl 5 (b.map QQ.enc)]=some (.agg (rBx.enc (Qek b))):=by
    simp only[s50,sp1,Q9];rw[if_pos hv.ok]; rfl
   rw[QkY]at pD|-;simp only[show(Qek b).bats=b from rfl,show(Qek b).lost=Qae b from rfl]at pD|-;generalize(Qek b).sup=S at*;rw[h1]at lI;cases h2:Qk3 0 ((b.length:Int) - 1) l with
   | true=>
    rw[h2]at gK;simp[-Q7,Qq,Qp,hz,QNx,g57,Qj,Qn,h1,lI,gK,wl,QKp,QE,Qas,Qbm,QaA,Qag,QaU,QaZ];done
   | false=>
    rw[h2]at gK;simp[-Q7,Qq,Qp,hz,QNx,g57,Qj,Qn,h1,lI,gK,pD,wl,QE,Qas,Qbm,QaA,Qag,QaU,QaZ];done
  .generalize Qaf b=q at*;obtain⟨q1,q2,q3⟩:=q;dsimp only at h1 lI|-;have h1':(q3 != 0)=true:=by simpa using h1
   simp[-Q7,Qq,Qp,hz,QNx,g57,Qj,Qn,h1,h1',lI,QKp,QE,Qas,Qbm,QaA,Qag,QaU,QaZ];done
 .cases hr
end Go.Proofs.YticoemblgkemiaaGreatDoor
