/-
  Where the wax of a batch may be: what the reference finds is what some truth says. Plain. Conditions: none.
-/
import Derived.Test.YticoemblgkemiaaGreatDoorZBook
set_option linter.unusedSimpArgs false
set_option linter.unusedVariables false
namespace Go.Proofs.YticoemblgkemiaaGreatDoor
def Qam (b:List Bat) (i:Nat) (more:List Edg):Nat->Nat->Bool
 | 0=>λ_=>false
 | t+1=>QZ (Qam b i more t) t (decide (t=i)||(b.getD t default).takes.any (λk=>Qam b i more t k.fr.toNat)||more.any (λe=>e.to==(t:Int)&&Qam b i more t e.fr.toNat))
theorem QbE (b:List Bat) (i:Nat) (more:List Edg) {x:Nat} :∀{k m:Nat},x < k->k<=m->Qam b i more m x=Qam b i more k x
 | k,0,h1,h2=>by omega
 | k,m+1,h1,h2=>by
  by_cases e:k=m+1
  .rw[e]
  .rw[Qam,Q2 _ _ (by omega),QbE b i more h1 (by omega:k<=m)]
structure EdgOk (b:List Bat) (more:List Edg):Prop where
 tk:∀t,∀k∈(b.getD t default).takes,0<=k.fr/\k.fr < t
 ed:∀e∈more,0<=e.fr/\e.fr < e.to/\e.to < b.length
def Qmu (b:List Bat) (more:List Edg) (x t:Nat):Prop:=Qk7 b x t=true\/(⟨(x:Int),(t:Int)⟩:Edg)∈more
theorem Qne {b:List Bat} {i:Nat} {more:List Edg} (h:EdgOk b more) {t m:Nat} (ht:t < m):Qam b i more m t=true↔t=i\/∃x,Qmu b more x t/\Qam b i more m x=true:=by
 rw[QbE b i more (show t < t+1 by omega) (by omega:t+1<=m),Qam,Qac]
 simp only[Bool.or_eq_true,decide_eq_true_eq,Zy,Za,beq_iff_eq,or_assoc];refine or_congr_right ?_;constructor
 .rintro(⟨k,h1,h2⟩ | ⟨e,h1,h2,h3⟩)
  .have hk:=h.tk t k h1;refine⟨k.fr.toNat,.inl ?_,?_⟩
   .unfold Qk7;exact Zy.2 ⟨k,h1,by simp; omega⟩
   .rw[QbE b i more (by omega:k.fr.toNat < t) (by omega:t<=m)]; exact h2
  .have he:=h.ed e h1;refine⟨e.fr.toNat,.inr ?_,?_⟩
   .have e1:((e.fr.toNat:Nat):Int)=e.fr:=by omega
    rw[e1,<-h2]; exact h1
   .rw[QbE b i more (by omega:e.fr.toNat < t) (by omega:t<=m)]; exact h3
 .rintro⟨x,h1 | h1,h2⟩
  .unfold Qk7 at h1;obtain⟨k,h3,h4⟩:=Zy.1 h1;have hk:=h.tk t k h3;have zH:k.fr=(x:Int):=by simpa using h4
   refine .inl ⟨k,h3,?_⟩;rw[QbE b i more (by omega:x < t) (by omega:t<=m)]at h2
   rw[zH]; exact h2
  .have he:=h.ed _ h1;refine .inr ⟨_,h1,rfl,?_⟩;have mI:x < t:=by have:=he.2.1; simp only at this; omega
   rw[QbE b i more mI (by omega:t<=m)]at h2
   exact h2
theorem QnI {b:List Bat} {more:List Edg} (h:EdgOk b more) {x t:Nat} (e:Qmu b more x t):x < t/\t < b.length:=by
 rcases e with e | e
 .unfold Qk7 at e;obtain⟨k,h3,h4⟩:=Zy.1 e;have hk:=h.tk t k h3;have zH:k.fr=(x:Int):=by simpa using h4
  refine⟨by omega,?_⟩
  by_cases hl:t < b.length
  .exact hl
  .rw[Qau (by omega)]at h3
   simp[show(default:Bat).takes=[]from rfl]at h3
 .have he:=h.ed _ e;have h1:=he.2.1;have h2:=he.2.2;simp only at h1 h2;omega
theorem Qkw {b:List Bat} {i:Nat} {more:List Edg} (h:EdgOk b more) {m:Nat} :∀{t:Nat},t < m->(Qam b i more m t=true↔Rch (Qmu b more) i t):=by
 intro t
 induction t using Nat.strongRecOn with
 | _ t ih=>
  intro ht;rw[Qne h ht];constructor
  .rintro(rfl | ⟨x,h1,h2⟩)
   .exact .self
   .have:=(QnI h h1).1;exact .step ((ih x this (by omega)).1 h2) h1
  .intro hr;cases hr with
   | self=>exact .inl rfl
   | step h1 h2=>
    rename_i x;have:=(QnI h h2).1;exact .inr ⟨x,h2,(ih x this (by omega)).2 h1⟩
theorem Qex {E F:Nat->Nat->Prop} {i t:Nat} (h:∀x t,E x t->F x t) (r:Rch E i t):Rch F i t:=by
 induction r with
 | self=>exact .self
 | step _ e ih=>exact .step ih (h _ _ e)
def dgs (N:Nat):Nat->Nat->List Nat
 | 0,_=>[]
 | m+1,n=>n % N::dgs N m (n / N)
theorem Qwy (N:Nat):∀m n,(dgs N m n).length=m
 | 0,_=>rfl
 | m+1,n=>by rw[dgs,List.length_cons,Qwy N m]
theorem QCT {N:Nat} (hN:0 < N):∀{m n:Nat},∀x∈dgs N m n,x < N
 | 0,n=>by simp[dgs]
 | m+1,n=>by
  intro x hx;rw[dgs]at hx;rcases List.mem_cons.1 hx with rfl | hx
  .exact Nat.mod_lt _ hN
  .exact QCT hN x hx
theorem QrE {N:Nat} :∀(v:List Nat),(∀x∈v,x < N)->∃n,n < N ^ v.length/\dgs N v.length n=v
 | [],_=>⟨0,by simp,rfl⟩
 | a::t,h=>by
  obtain⟨n,h1,h2⟩:=QrE t λx hx=>h x (by simp[hx])
  have ha:=h a (by simp)
  refine⟨N*n+a,?_,?_⟩
  .rw[List.length_cons,Nat.pow_succ,Nat.mul_comm (N ^ t.length)];have:N*(n+1)<=N*N ^ t.length:=Nat.mul_le_mul_left N h1;rw[Nat.mul_add]at this;omega
  .rw[List.length_cons,dgs,Nat.mul_add_mod,Nat.mod_eq_of_lt ha,Nat.mul_add_div (by omega),Nat.div_eq_of_lt ha,Nat.add_zero,h2]
structure ChS where
 has:List Int
 needs:List Int
 more:List Edg
 is:Bool
def Qyh (n:Nat) (l v:List Nat) (s:ChS) (k:Nat):ChS:=
 if v.getD k 0=n then s else⟨s.has.set (v.getD k 0) (s.has.getD (v.getD k 0) 0 - 1),s.needs.set (l.getD k 0) (s.needs.getD (l.getD k 0) 0 - 1),s.more++[⟨(v.getD k 0:Nat),(l.getD k 0:Nat)⟩],s.is&&decide (v.getD k 0 < l.getD k 0)⟩
def chK (n:Nat) (l v:List Nat) (has needs:List Int):Nat->ChS
 | 0=>⟨has,needs,[],true⟩
 | k+1=>Qyh n l v (chK n l v has needs k) k
def chO (n:Nat) (l v:List Nat):Nat->Nat->Option Nat
 | 0=>λ_=>none
 | k+1=>if v.getD k 0=n then chO n l v k else QZ (chO n l v k) (l.getD k 0) (some (v.getD k 0))
def QNR (b:List Bat) (i k:Nat) (v:List Nat):Bool:=
 let s:=chK b.length (QS b) v (QT b) (QaD b) (QS b).length
 s.is&&Qcj ⟨s.has,s.needs,[]⟩&&Qam b i s.more b.length k
def QCH (b:List Bat) (i k:Nat):Bool:=(List.range ((b.length+1) ^ (QS b).length)).any λn=>QNR b i k (dgs (b.length+1) (QS b).length n)
structure ChInv (n:Nat) (l v:List Nat) (has needs:List Int) (k:Nat):Prop where
 hl:(chK n l v has needs k).has.length=has.length
 nl:(chK n l v has needs k).needs.length=needs.length
 at':∀t x,chO n l v k t=some x->x < n/\∃j,j < k/\j < l.length/\l.getD j 0=t/\v.getD j 0=x
 hasE:∀x,(chK n l v has needs k).has.getD x 0=has.getD x 0 - chH (chO n l v k) x
 needE:∀t,(chK n l v has needs k).needs.getD t 0=needs.getD t 0 - chN (chO n l v k) t
 more:∀e:Edg,e∈(chK n l v has needs k).more↔∃x t:Nat,e=⟨(x:Int),(t:Int)⟩/\chO n l v k t=some x
 is:(chK n l v has needs k).is=true↔∀t x,chO n l v k t=some x->x < t
 ml:(chK n l v has needs k).more.length<=k
theorem Qv3 {c:Nat->Option Nat} {t x:Nat} (ht:t < 8) (hn:c t=none) (y:Nat):chH (QZ c t (some x)) y=chH c y+if y=x then 1 else 0:=by
 unfold chH;have e:(λo=>if QZ c t (some x) o=some y then(1:Int)else 0)=QZ (λo=>if c o=some y then(1:Int)else 0) t (if y=x then 1 else 0):=by
  funext o;by_cases ho:o=t
  .subst ho;rw[Qac,Qac];by_cases hy:y=x
   .rw[if_pos hy,if_pos (by rw[hy])]
   .rw[if_neg hy,if_neg (λh=>hy (Option.some.inj h).symm)]
  .rw[Q2 _ _ ho,Q2 _ _ ho]
 rw[e,QfV _ _ ht,hn];simp
theorem QDK {n:Nat} {l v:List Nat} {has needs:List Int} (hn:has.length=n) (hm:needs.length=n) (h8:n<=8) (hl:∀t∈l,t < n) (bZ:l.Nodup) (hv:∀x∈v,x<=n) (kL:v.length=l.length):∀k,k<=l.length->ChInv n l v has needs k
 | 0,_=>by
  refine⟨rfl,rfl,λt x h=>(by cases h),λx=>?_,λt=>?_,λe=>?_,?_,Zr _⟩
  .have:chH (chO n l v 0) x=0:=by
    unfold chH chO;rw[QB (g:=λ_=>0) λi _=>by simp,Qaa]
   rw[this]; simp[chK]
  .simp[chK,chO,chN]
  .simp[chK,chO]
  .simp[chK,chO]
 | k+1,hk=>by
  obtain⟨i1,i2,i3,i4,i5,i6,i7,i8⟩:=QDK (n:=n) (v:=v) (has:=has) (needs:=needs) hn hm h8 hl bZ hv kL k (by omega)
  have aX:k < l.length:=by omega
  have tU:k < v.length:=by omega
  by_cases e:v.getD k 0=n
  .have e1:chK n l v has needs (k+1)=chK n l v has needs k:=by rw[chK,Qyh,if_pos e]
   have e2:chO n l v (k+1)=chO n l v k:=by rw[chO,if_pos e]
   refine⟨by rw[e1]; exact i1,by rw[e1]; exact i2,λt x h=>?_,by rw[e1,e2]; exact i4,by rw[e1,e2]; exact i5,by rw[e1,e2]; exact i6,by rw[e1,e2]; exact i7,by rw[e1]; omega⟩
   rw[e2]at h;obtain⟨q1,j,q2,q3⟩:=i3 t x h;exact⟨q1,j,by omega,q3⟩
  .have e1:chK n l v has needs (k+1)=⟨(chK n l v has needs k).has.set (v.getD k 0) ((chK n l v has needs k).has.getD (v.getD k 0) 0 - 1),(chK n l v has needs k).needs.set (l.getD k 0) ((chK n l v has needs k).needs.getD (l.getD k 0) 0 - 1),(chK n l v has needs k).more++[⟨(v.getD k 0:Nat),(l.getD k 0:Nat)⟩],(chK n l v has needs k).is&&decide (v.getD k 0 < l.getD k 0)⟩:=by rw[chK,Qyh,if_neg e]
   have e2:chO n l v (k+1)=QZ (chO n l v k) (l.getD k 0) (some (v.getD k 0)):=by rw[chO,if_neg e]
   have hvn:v.getD k 0 < n:=by
    have:=hv v[k] (Ze tU);rw[Ql _ _ _ tU]at e|-; omega
   have sG:l.getD k 0 < n:=by rw[Ql _ _ _ aX]; exact hl _ (Ze aX)
   have jI:chO n l v k (l.getD k 0)=none:=by
    cases q:chO n l v k (l.getD k 0)with
    | none=>rfl
    | some x=>
     obtain⟨_,j,q2,q3,q4,_⟩:=i3 _ _ q;rw[Ql _ _ _ q3,Ql _ _ _ aX]at q4;have:=(List.getElem_inj bZ).1 q4;omega
   generalize hV:v.getD k 0=V at*;generalize hL:l.getD k 0=L at*;have bV:∀t x,QZ (chO n l v k) L (some V) t=some x↔(t=L/\x=V)\/(¬t=L/\chO n l v k t=some x):=λt x=>by
    by_cases ht:t=L
    .subst ht;rw[Qac];constructor
     .intro h; cases h; exact .inl ⟨rfl,rfl⟩
     .rintro(⟨_,rfl⟩ | ⟨h,_⟩)
      .rfl
      .exact absurd rfl h
    .rw[Q2 _ _ ht];exact⟨λh=> .inr ⟨ht,h⟩,λh=>h.elim (λh=>absurd h.1 ht) (·.2)⟩
   have aS:∀t x,chO n l v k t=some x->¬t=L:=λt x h e=>by subst e; rw[jI]at h; cases h
   refine⟨by rw[e1]; simpa using i1,by rw[e1]; simpa using i2,λt x h=>?_,λx=>?_,λt=>?_,λd=>?_,?_,by rw[e1]; simp; omega⟩
   .rw[e2]at h;rcases(bV t x).1 h with⟨rfl,rfl⟩ | ⟨_,h⟩
    .exact⟨hvn,k,by omega,aX,hL,hV⟩
    .obtain⟨q1,j,q2,q3⟩:=i3 t x h;exact⟨q1,j,by omega,q3⟩
   .rw[e1,e2,Qv3 (by omega) jI]
    simp only[Zd,List.getElem?_set]at i4|-;have h1:=i4 x;by_cases hx:V=x
    .subst hx;rw[if_pos rfl,if_pos rfl,if_pos (by omega),Option.getD_some,h1]; omega
    .rw[if_neg hx,if_neg (λh=>hx h.symm),h1]; omega
   .rw[e1,e2];simp only[Zd,List.getElem?_set]at i5|-;have h1:=i5 t;unfold chN at h1|-;by_cases hx:L=t
    .subst hx;rw[jI]at h1;rw[if_pos rfl,if_pos (by omega),Option.getD_some,Qac,if_neg (by simp),h1]; simp
    .rw[if_neg hx,Q2 _ _ (λh=>hx h.symm),h1]
   .rw[e1,e2];simp only[Zp,List.mem_singleton,i6 d];constructor
    .rintro(⟨x,t,q1,q2⟩ | q)
     .exact⟨x,t,q1,(bV t x).2 (.inr ⟨aS t x q2,q2⟩)⟩
     .exact⟨V,L,q,(bV L V).2 (.inl ⟨rfl,rfl⟩)⟩
    .rintro⟨x,t,q1,q2⟩;rcases(bV t x).1 q2 with⟨rfl,rfl⟩ | ⟨_,q⟩
     .exact .inr q1
     .exact .inl ⟨x,t,q1,q⟩
   .rw[e1,e2];simp only[Za,decide_eq_true_eq,i7];constructor
    .rintro⟨q1,q2⟩ t x h;rcases(bV t x).1 h with⟨rfl,rfl⟩ | ⟨_,q⟩
     .exact q2
     .exact q1 t x q
    .intro q;exact⟨λt x h=>q t x ((bV t x).2 (.inr ⟨aS t x h,h⟩)),q L V ((bV L V).2 (.inl ⟨rfl,rfl⟩))⟩
theorem QDF (c:Nat->Option Nat) (x:Nat):0<=chH c x/\chH c x<=8:=by
 refine⟨QaH λi _=>by split<;>omega,?_⟩
 have:chH c x<=QK 8 (λ_=>1):=Qa2 λi _=>by split<;>omega
 exact this
theorem QC2 (c:Nat->Option Nat) (x:Nat):0<=chN c x/\chN c x<=1:=by unfold chN; split<;>omega
theorem Qf4 {b:List Bat} {t:Nat} (h:t∈QS b):t < b.length:=(QdF.1 h).1
theorem QO4 {b:List Bat} (h:ValidB b) {v:List Nat} (hv:∀x∈v,x < b.length+1) (hl:v.length=(QS b).length) (k:Nat) (hk:k<=(QS b).length):ChInv b.length (QS b) v (QT b) (QaD b) k:=
 QDK (QU b) (Qah b) h.ok.le (λ_=>Qf4) (QgJ b) (λx hx=>by have:=hv x hx; omega) hl k hk
theorem QPi {b:List Bat} (h:ValidB b) {v:List Nat} {k:Nat} (I:ChInv b.length (QS b) v (QT b) (QaD b) k):PrOk ⟨(chK b.length (QS b) v (QT b) (QaD b) k).has,(chK b.length (QS b) v (QT b) (QaD b) k).needs,[]⟩:=by
 have hb:=QeU h.ok;have bE:=h.ok.le;refine⟨by rw[I.hl,I.nl,QU,Qah],by show(chK b.length (QS b) v (QT b) (QaD b) k).has.length<=8; rw[I.hl,QU]; exact bE,λi=>?_,by simp⟩
 have h1:=I.hasE i;have h2:=I.needE i;have h3:=QDF (chO b.length (QS b) v k) i;have h4:=QC2 (chO b.length (QS b) v k) i;have h5:(QT b).getD i 0=Qb2 (QV b) i:=rfl;have h6:(QaD b).getD i 0=Q4 (QV b) i:=rfl;have h7: -800000<=Qb2 (QV b) i/\Qb2 (QV b) i<=100000:=by
  by_cases hi:i < b.length
  .rw[Qfx hi]; exact QhP h.ok hi
  .rw[QfJ (by omega)]; omega
 have h8:0<=Q4 (QV b) i/\Q4 (QV b) i<=100000:=by
  by_cases hi:i < b.length
  .rw[QfM hi]; exact Qhk h.ok i
  .rw[Qcv (by omega)]; omega
 show _<=(chK b.length (QS b) v (QT b) (QaD b) k).has.getD i 0/\(chK b.length (QS b) v (QT b) (QaD b) k).has.getD i 0<=_/\_<=(chK b.length (QS b) v (QT b) (QaD b) k).needs.getD i 0/\(chK b.length (QS b) v (QT b) (QaD b) k).needs.getD i 0<=_;omega
theorem QJ2 {b:List Bat} (h:ValidB b) {v:List Nat} {k:Nat} (I:ChInv b.length (QS b) v (QT b) (QaD b) k) (hi:(chK b.length (QS b) v (QT b) (QaD b) k).is=true):EdgOk b (chK b.length (QS b) v (QT b) (QaD b) k).more:=by
 refine⟨λt q hq=>?_,λe he=>?_⟩
 .by_cases ht:t < b.length
  .rw[Qao ht]at hq;exact(h.ok.at ht).fr q hq
  .rw[Qau (by omega)]at hq
   simp[show(default:Bat).takes=[]from rfl]at hq
 .obtain⟨x,t,rfl,q⟩:=(I.more e).1 he;have h1:=I.is.1 hi t x q;obtain⟨_,j,_,q3,q4,_⟩:=I.at' t x q;rw[Ql _ _ _ q3]at q4;have:=Qf4 (Ze q3);simp only;omega
theorem QxC {b:List Bat} (h:ValidB b) {i k:Nat} (hk:k < b.length) {v:List Nat} (hv:∀x∈v,x < b.length+1) (hl:v.length=(QS b).length):QNR b i k v=true↔ChOk (QM b) (chO b.length (QS b) v (QS b).length)/\Rch (Qln (QM b) (chO b.length (QS b) v (QS b).length)) i k:=by
 have I:=QO4 h hv hl _ (Zr _);have bE:=h.ok.le;have hpo:=QPi h I;have gJ:(Qb2 ⟨(chK b.length (QS b) v (QT b) (QaD b) (QS b).length).has,(chK b.length (QS b) v (QT b) (QaD b) (QS b).length).needs,[]⟩)=λx=>(QM b).has x - chH (chO b.length (QS b) v (QS b).length) x:=by
  funext x; exact I.hasE x
 have lR:(Q4 ⟨(chK b.length (QS b) v (QT b) (QaD b) (QS b).length).has,(chK b.length (QS b) v (QT b) (QaD b) (QS b).length).needs,[]⟩)=λx=>(QM b).need x - chN (chO b.length (QS b) v (QS b).length) x:=by
  funext x; exact I.needE x
 have kM:nvP ⟨(chK b.length (QS b) v (QT b) (QaD b) (QS b).length).has,(chK b.length (QS b) v (QT b) (QaD b) (QS b).length).needs,[]⟩=noN:=rfl;have xB:=QdA hpo;rw[gJ,lR,kM]at xB;unfold QNR;simp only[Za];rw[xB];have dM:∀hi:(chK b.length (QS b) v (QT b) (QaD b) (QS b).length).is=true,(Qam b i (chK b.length (QS b) v (QT b) (QaD b) (QS b).length).more b.length k=true↔Rch (Qln (QM b) (chO b.length (QS b) v (QS b).length)) i k):=λhi=>by
  rw[Qkw (QJ2 h I hi) hk];have e:∀x t,Qmu b (chK b.length (QS b) v (QT b) (QaD b) (QS b).length).more x t↔Qln (QM b) (chO b.length (QS b) v (QS b).length) x t:=λx t=>by
   unfold Qmu Qln;refine or_congr_right ?_;rw[I.more];constructor
   .rintro⟨x',t',q1,q2⟩;simp only[Edg.mk.injEq]at q1;have e1:x'=x:=by omega
    have e2:t'=t:=by omega
    subst e1 e2; exact q2
   .intro q; exact⟨x,t,rfl,q⟩
  exact⟨Qex λx t=>(e x t).1,Qex λx t=>(e x t).2⟩
 constructor
 .rintro⟨⟨h1,h2,h3⟩,h4⟩;refine⟨⟨λt x q=>?_,λx=>(h2 x).1,λt=>(h2 t).2,h3⟩,(dM h1).1 h4⟩;obtain⟨_,j,_,q3,q4,_⟩:=I.at' t x q;rw[Ql _ _ _ q3]at q4;have hm:=QdF.1 (Ze q3);rw[q4]at hm;have:=I.is.1 h1 t x q;exact⟨hm.2,this,by omega⟩
 .rintro⟨h1,h2⟩;have hi:=I.is.2 λt x q=>(h1.lt t x q).2.1;exact⟨⟨hi,λx=>⟨h1.has x,h1.need x⟩,h1.hall⟩,(dM hi).2 h2⟩
theorem QB7 {b:List Bat} (h:ValidB b) {i k:Nat} (hi:i < b.length) (hk:k < b.length):QCH b i k=true↔QIo (QM b) i k:=by
 have bE:=h.ok.le;rw[QzB (Qd4 h) (by omega) (by omega)]
 unfold QCH;rw[Zy];constructor
 .rintro⟨n,_,h2⟩;obtain⟨q1,q2⟩:=(QxC h hk (λx hx=>QCT (by omega) x hx) (Qwy _ _ _)).1 h2
  exact⟨_,q1,q2⟩
 .rintro⟨ch,h1,h2⟩;obtain⟨v,hv⟩:∃v,v=(QS b).map λt=>(ch t).getD b.length:=⟨_,rfl⟩;have hl:v.length=(QS b).length:=by rw[hv]; simp
  have lY:∀x∈v,x < b.length+1:=λx hx=>by
   rw[hv]at hx;obtain⟨t,ht,rfl⟩:=List.mem_map.1 hx;cases q:ch t with
   | none=>simp
   | some y=>
    have h3:=h1.lt t y q;have:=Qf4 ht;simp; omega
  have dR:∀k,k<=(QS b).length->∀t,chO b.length (QS b) v k t=if t∈(QS b).take k then ch t else none:=by
   intro k
   induction k with
   | zero=>intro _ t; simp[chO]
   | succ k ih=>
    intro hk t;have aX:k < (QS b).length:=by omega
    have hvk:v.getD k 0=(ch ((QS b)[k])).getD b.length:=by
     rw[hv,Zd,List.getElem?_map,Zg aX]; rfl
    rw[List.take_succ_eq_append_getElem aX,chO,hvk,Ql _ _ _ aX];cases q:ch ((QS b)[k])with
    | none=>
     rw[if_pos (by simp),ih (by omega)]
     by_cases hm:t∈(QS b).take k
     .rw[if_pos hm,if_pos (Zp.2 (.inl hm))]
     .rw[if_neg hm];by_cases ht:t=(QS b)[k]
      .rw[if_pos (Zp.2 (.inr (List.mem_singleton.2 ht))),ht,q]
      .rw[if_neg (λh=>(Zp.1 h).elim hm λh=>ht (List.mem_singleton.1 h))]
    | some y=>
     have h3:=h1.lt _ y q;have h4:=Qf4 (Ze aX);rw[if_neg (by simp; omega)]
     by_cases ht:t=(QS b)[k]
     .rw[if_pos (Zp.2 (.inr (List.mem_singleton.2 ht))),ht,Qac,q]; rfl
     .rw[Q2 _ _ ht,ih (by omega)]
      by_cases hm:t∈(QS b).take k
      .rw[if_pos hm,if_pos (Zp.2 (.inl hm))]
      .rw[if_neg hm,if_neg (λh=>(Zp.1 h).elim hm λh=>ht (List.mem_singleton.1 h))]
  have rO:chO b.length (QS b) v (QS b).length=ch:=by
   funext t;rw[dR _ (Zr _) t,List.take_length];split
   .rfl
   .rename_i hm;cases q:ch t with
    | none=>rfl
    | some x=>
     have h3:=h1.lt t x q;exact absurd (QdF.2 ⟨Qh9 h3.1,h3.1⟩) hm
  obtain⟨n,h3,h4⟩:=QrE v lY;rw[hl]at h3 h4;refine⟨n,Zm.2 h3,?_⟩;rw[h4,QxC h hk lY hl,rO];exact⟨h1,h2⟩
end Go.Proofs.YticoemblgkemiaaGreatDoor
