/-
  Where the wax of a batch may be: what the reference finds is what some truth says. Plain. Conditions: none.
-/
import Derived.Test.YtnfeakhkfehkhaaGreatDoorZBook
set_option linter.unusedSimpArgs false
set_option linter.unusedVariables false
namespace Go.Proofs.YtnfeakhkfehkhaaGreatDoor
def Qao (b:List Bat) (i:Nat) (more:List Edg):Nat->Nat->Bool
 | 0=>λ_=>false
 | t+1=>Q2 (Qao b i more t) t (decide (t=i)||(b.getD t default).takes.any (λk=>Qao b i more t k.fr.toNat)||more.any (λe=>e.to==(t:Int)&&Qao b i more t e.fr.toNat))
theorem Qbn (b:List Bat) (i:Nat) (more:List Edg) {x:Nat} :∀{k m:Nat},x < k->k<=m->Qao b i more m x=Qao b i more k x
 | k,0,h1,h2=>by omega
 | k,m+1,h1,h2=>by
  by_cases e:k=m+1
  .rw[e]
  .rw[Qao,Q3 _ _ (by omega),Qbn b i more h1 (by omega:k<=m)]
structure EdgOk (b:List Bat) (more:List Edg):Prop where
 tk:∀t,∀k∈(b.getD t default).takes,0<=k.fr/\k.fr < t
 ed:∀e∈more,0<=e.fr/\e.fr < e.to/\e.to < b.length
def Qom (b:List Bat) (more:List Edg) (x t:Nat):Prop:=QnV b x t=true\/(⟨(x:Int),(t:Int)⟩:Edg)∈more
theorem QlM {b:List Bat} {i:Nat} {more:List Edg} (h:EdgOk b more) {t m:Nat} (ht:t < m):Qao b i more m t=true↔t=i\/∃x,Qom b more x t/\Qao b i more m x=true:=by
 rw[Qbn b i more (show t < t+1 by omega) (by omega:t+1<=m),Qao,Qae]
 simp only[Bool.or_eq_true,decide_eq_true_eq,Zy,Za,beq_iff_eq,or_assoc];refine or_congr_right ?_;constructor
 .rintro(⟨k,h1,h2⟩ | ⟨e,h1,h2,h3⟩)
  .have hk:=h.tk t k h1;refine⟨k.fr.toNat,.inl ?_,?_⟩
   .unfold QnV;exact Zy.2 ⟨k,h1,by simp; omega⟩
   .rw[Qbn b i more (by omega:k.fr.toNat < t) (by omega:t<=m)]; exact h2
  .have he:=h.ed e h1;refine⟨e.fr.toNat,.inr ?_,?_⟩
   .have e1:((e.fr.toNat:Nat):Int)=e.fr:=by omega
    rw[e1,<-h2]; exact h1
   .rw[Qbn b i more (by omega:e.fr.toNat < t) (by omega:t<=m)]; exact h3
 .rintro⟨x,h1 | h1,h2⟩
  .unfold QnV at h1;obtain⟨k,h3,h4⟩:=Zy.1 h1;have hk:=h.tk t k h3;have yX:k.fr=(x:Int):=by simpa using h4
   refine .inl ⟨k,h3,?_⟩;rw[Qbn b i more (by omega:x < t) (by omega:t<=m)]at h2
   rw[yX]; exact h2
  .have he:=h.ed _ h1;refine .inr ⟨_,h1,rfl,?_⟩;have kU:x < t:=by have:=he.2.1; simp only at this; omega
   rw[Qbn b i more kU (by omega:t<=m)]at h2
   exact h2
theorem Qlx {b:List Bat} {more:List Edg} (h:EdgOk b more) {x t:Nat} (e:Qom b more x t):x < t/\t < b.length:=by
 rcases e with e | e
 .unfold QnV at e;obtain⟨k,h3,h4⟩:=Zy.1 e;have hk:=h.tk t k h3;have yX:k.fr=(x:Int):=by simpa using h4
  refine⟨by omega,?_⟩
  by_cases hl:t < b.length
  .exact hl
  .rw[Qbc (by omega)]at h3
   simp[show(default:Bat).takes=[]from rfl]at h3
 .have he:=h.ed _ e;have h1:=he.2.1;have h2:=he.2.2;simp only at h1 h2;omega
theorem QnJ {b:List Bat} {i:Nat} {more:List Edg} (h:EdgOk b more) {m:Nat} :∀{t:Nat},t < m->(Qao b i more m t=true↔Rch (Qom b more) i t):=by
 intro t
 induction t using Nat.strongRecOn with
 | _ t ih=>
  intro ht;rw[QlM h ht];constructor
  .rintro(rfl | ⟨x,h1,h2⟩)
   .exact .self
   .have:=(Qlx h h1).1;exact .step ((ih x this (by omega)).1 h2) h1
  .intro hr;cases hr with
   | self=>exact .inl rfl
   | step h1 h2=>
    rename_i x;have:=(Qlx h h2).1;exact .inr ⟨x,h2,(ih x this (by omega)).2 h1⟩
theorem Qgy {E F:Nat->Nat->Prop} {i t:Nat} (h:∀x t,E x t->F x t) (r:Rch E i t):Rch F i t:=by
 induction r with
 | self=>exact .self
 | step _ e ih=>exact .step ih (h _ _ e)
def dgs (N:Nat):Nat->Nat->List Nat
 | 0,_=>[]
 | m+1,n=>n % N::dgs N m (n / N)
theorem Qpm (N:Nat):∀m n,(dgs N m n).length=m
 | 0,_=>rfl
 | m+1,n=>by rw[dgs,List.length_cons,Qpm N m]
theorem QuL {N:Nat} (hN:0 < N):∀{m n:Nat},∀x∈dgs N m n,x < N
 | 0,n=>by simp[dgs]
 | m+1,n=>by
  intro x hx;rw[dgs]at hx;rcases List.mem_cons.1 hx with rfl | hx
  .exact Nat.mod_lt _ hN
  .exact QuL hN x hx
theorem QqS {N:Nat} :∀(v:List Nat),(∀x∈v,x < N)->∃n,n < N ^ v.length/\dgs N v.length n=v
 | [],_=>⟨0,by simp,rfl⟩
 | a::t,h=>by
  obtain⟨n,h1,h2⟩:=QqS t λx hx=>h x (by simp[hx])
  have ha:=h a (by simp)
  refine⟨N*n+a,?_,?_⟩
  .rw[List.length_cons,Nat.pow_succ,Nat.mul_comm (N ^ t.length)];have:N*(n+1)<=N*N ^ t.length:=Nat.mul_le_mul_left N h1;rw[Nat.mul_add]at this;omega
  .rw[List.length_cons,dgs,Nat.mul_add_mod,Nat.mod_eq_of_lt ha,Nat.mul_add_div (by omega),Nat.div_eq_of_lt ha,Nat.add_zero,h2]
structure ChS where
 has:List Int
 needs:List Int
 more:List Edg
 is:Bool
def QnU (n:Nat) (l v:List Nat) (s:ChS) (k:Nat):ChS:=
 if v.getD k 0=n then s else⟨s.has.set (v.getD k 0) (s.has.getD (v.getD k 0) 0 - 1),s.needs.set (l.getD k 0) (s.needs.getD (l.getD k 0) 0 - 1),s.more++[⟨(v.getD k 0:Nat),(l.getD k 0:Nat)⟩],s.is&&decide (v.getD k 0 < l.getD k 0)⟩
def chK (n:Nat) (l v:List Nat) (has needs:List Int):Nat->ChS
 | 0=>⟨has,needs,[],true⟩
 | k+1=>QnU n l v (chK n l v has needs k) k
def chO (n:Nat) (l v:List Nat):Nat->Nat->Option Nat
 | 0=>λ_=>none
 | k+1=>if v.getD k 0=n then chO n l v k else Q2 (chO n l v k) (l.getD k 0) (some (v.getD k 0))
def QB6 (b:List Bat) (i k:Nat) (v:List Nat):Bool:=
 let s:=chK b.length (Qq b) v (QI b) (QV b) (Qq b).length
 s.is&&QaT ⟨s.has,s.needs,[]⟩&&Qao b i s.more b.length k
def QvJ (b:List Bat) (i k:Nat):Bool:=(List.range ((b.length+1) ^ (Qq b).length)).any λn=>QB6 b i k (dgs (b.length+1) (Qq b).length n)
structure ChInv (n:Nat) (l v:List Nat) (has needs:List Int) (k:Nat):Prop where
 hl:(chK n l v has needs k).has.length=has.length
 nl:(chK n l v has needs k).needs.length=needs.length
 at':∀t x,chO n l v k t=some x->x < n/\∃j,j < k/\j < l.length/\l.getD j 0=t/\v.getD j 0=x
 hasE:∀x,(chK n l v has needs k).has.getD x 0=has.getD x 0 - chH (chO n l v k) x
 needE:∀t,(chK n l v has needs k).needs.getD t 0=needs.getD t 0 - chN (chO n l v k) t
 more:∀e:Edg,e∈(chK n l v has needs k).more↔∃x t:Nat,e=⟨(x:Int),(t:Int)⟩/\chO n l v k t=some x
 is:(chK n l v has needs k).is=true↔∀t x,chO n l v k t=some x->x < t
 ml:(chK n l v has needs k).more.length<=k
theorem Qtu {c:Nat->Option Nat} {t x:Nat} (ht:t < 8) (hn:c t=none) (y:Nat):chH (Q2 c t (some x)) y=chH c y+if y=x then 1 else 0:=by
 unfold chH;have e:(λo=>if Q2 c t (some x) o=some y then(1:Int)else 0)=Q2 (λo=>if c o=some y then(1:Int)else 0) t (if y=x then 1 else 0):=by
  funext o;by_cases ho:o=t
  .subst ho;rw[Qae,Qae];by_cases hy:y=x
   .rw[if_pos hy,if_pos (by rw[hy])]
   .rw[if_neg hy,if_neg (λh=>hy (Option.some.inj h).symm)]
  .rw[Q3 _ _ ho,Q3 _ _ ho]
 rw[e,Qfu _ _ ht,hn];simp
theorem QyS {n:Nat} {l v:List Nat} {has needs:List Int} (hn:has.length=n) (hm:needs.length=n) (h8:n<=8) (hl:∀t∈l,t < n) (cB:l.Nodup) (hv:∀x∈v,x<=n) (lF:v.length=l.length):∀k,k<=l.length->ChInv n l v has needs k
 | 0,_=>by
  refine⟨rfl,rfl,λt x h=>(by cases h),λx=>?_,λt=>?_,λe=>?_,?_,Zr _⟩
  .have:chH (chO n l v 0) x=0:=by
    unfold chH chO;rw[Q0 (g:=λ_=>0) λi _=>by simp,Qal]
   rw[this]; simp[chK]
  .simp[chK,chO,chN]
  .simp[chK,chO]
  .simp[chK,chO]
 | k+1,hk=>by
  obtain⟨i1,i2,i3,i4,i5,i6,i7,i8⟩:=QyS (n:=n) (v:=v) (has:=has) (needs:=needs) hn hm h8 hl cB hv lF k (by omega)
  have bB:k < l.length:=by omega
  have tF:k < v.length:=by omega
  by_cases e:v.getD k 0=n
  .have e1:chK n l v has needs (k+1)=chK n l v has needs k:=by rw[chK,QnU,if_pos e]
   have e2:chO n l v (k+1)=chO n l v k:=by rw[chO,if_pos e]
   refine⟨by rw[e1]; exact i1,by rw[e1]; exact i2,λt x h=>?_,by rw[e1,e2]; exact i4,by rw[e1,e2]; exact i5,by rw[e1,e2]; exact i6,by rw[e1,e2]; exact i7,by rw[e1]; omega⟩
   rw[e2]at h;obtain⟨q1,j,q2,q3⟩:=i3 t x h;exact⟨q1,j,by omega,q3⟩
  .have e1:chK n l v has needs (k+1)=⟨(chK n l v has needs k).has.set (v.getD k 0) ((chK n l v has needs k).has.getD (v.getD k 0) 0 - 1),(chK n l v has needs k).needs.set (l.getD k 0) ((chK n l v has needs k).needs.getD (l.getD k 0) 0 - 1),(chK n l v has needs k).more++[⟨(v.getD k 0:Nat),(l.getD k 0:Nat)⟩],(chK n l v has needs k).is&&decide (v.getD k 0 < l.getD k 0)⟩:=by rw[chK,QnU,if_neg e]
   have e2:chO n l v (k+1)=Q2 (chO n l v k) (l.getD k 0) (some (v.getD k 0)):=by rw[chO,if_neg e]
   have hvn:v.getD k 0 < n:=by
    have:=hv v[k] (Ze tF);rw[Qj _ _ _ tF]at e|-; omega
   have rQ:l.getD k 0 < n:=by rw[Qj _ _ _ bB]; exact hl _ (Ze bB)
   have iX:chO n l v k (l.getD k 0)=none:=by
    cases q:chO n l v k (l.getD k 0)with
    | none=>rfl
    | some x=>
     obtain⟨_,j,q2,q3,q4,_⟩:=i3 _ _ q;rw[Qj _ _ _ q3,Qj _ _ _ bB]at q4;have:=(List.getElem_inj cB).1 q4;omega
   generalize hV:v.getD k 0=V at*;generalize hL:l.getD k 0=L at*;have bW:∀t x,Q2 (chO n l v k) L (some V) t=some x↔(t=L/\x=V)\/(¬t=L/\chO n l v k t=some x):=λt x=>by
    by_cases ht:t=L
    .subst ht;rw[Qae];constructor
     .intro h; cases h; exact .inl ⟨rfl,rfl⟩
     .rintro(⟨_,rfl⟩ | ⟨h,_⟩)
      .rfl
      .exact absurd rfl h
    .rw[Q3 _ _ ht];exact⟨λh=> .inr ⟨ht,h⟩,λh=>h.elim (λh=>absurd h.1 ht) (·.2)⟩
   have aS:∀t x,chO n l v k t=some x->¬t=L:=λt x h e=>by subst e; rw[iX]at h; cases h
   refine⟨by rw[e1]; simpa using i1,by rw[e1]; simpa using i2,λt x h=>?_,λx=>?_,λt=>?_,λd=>?_,?_,by rw[e1]; simp; omega⟩
   .rw[e2]at h;rcases(bW t x).1 h with⟨rfl,rfl⟩ | ⟨_,h⟩
    .exact⟨hvn,k,by omega,bB,hL,hV⟩
    .obtain⟨q1,j,q2,q3⟩:=i3 t x h;exact⟨q1,j,by omega,q3⟩
   .rw[e1,e2,Qtu (by omega) iX]
    simp only[Zd,List.getElem?_set]at i4|-;have h1:=i4 x;by_cases hx:V=x
    .subst hx;rw[if_pos rfl,if_pos rfl,if_pos (by omega),Option.getD_some,h1]; omega
    .rw[if_neg hx,if_neg (λh=>hx h.symm),h1]; omega
   .rw[e1,e2];simp only[Zd,List.getElem?_set]at i5|-;have h1:=i5 t;unfold chN at h1|-;by_cases hx:L=t
    .subst hx;rw[iX]at h1;rw[if_pos rfl,if_pos (by omega),Option.getD_some,Qae,if_neg (by simp),h1]; simp
    .rw[if_neg hx,Q3 _ _ (λh=>hx h.symm),h1]
   .rw[e1,e2];simp only[Zp,List.mem_singleton,i6 d];constructor
    .rintro(⟨x,t,q1,q2⟩ | q)
     .exact⟨x,t,q1,(bW t x).2 (.inr ⟨aS t x q2,q2⟩)⟩
     .exact⟨V,L,q,(bW L V).2 (.inl ⟨rfl,rfl⟩)⟩
    .rintro⟨x,t,q1,q2⟩;rcases(bW t x).1 q2 with⟨rfl,rfl⟩ | ⟨_,q⟩
     .exact .inr q1
     .exact .inl ⟨x,t,q1,q⟩
   .rw[e1,e2];simp only[Za,decide_eq_true_eq,i7];constructor
    .rintro⟨q1,q2⟩ t x h;rcases(bW t x).1 h with⟨rfl,rfl⟩ | ⟨_,q⟩
     .exact q2
     .exact q1 t x q
    .intro q;exact⟨λt x h=>q t x ((bW t x).2 (.inr ⟨aS t x h,h⟩)),q L V ((bW L V).2 (.inl ⟨rfl,rfl⟩))⟩
theorem QyV (c:Nat->Option Nat) (x:Nat):0<=chH c x/\chH c x<=8:=by
 refine⟨Qa2 λi _=>by split<;>omega,?_⟩
 have:chH c x<=QY 8 (λ_=>1):=QbK λi _=>by split<;>omega
 exact this
theorem Qzp (c:Nat->Option Nat) (x:Nat):0<=chN c x/\chN c x<=1:=by unfold chN; split<;>omega
theorem Qec {b:List Bat} {t:Nat} (h:t∈Qq b):t < b.length:=(Qb8.1 h).1
theorem QDj {b:List Bat} (h:ValidB b) {v:List Nat} (hv:∀x∈v,x < b.length+1) (hl:v.length=(Qq b).length) (k:Nat) (hk:k<=(Qq b).length):ChInv b.length (Qq b) v (QI b) (QV b) k:=
 QyS (QN b) (QS b) h.ok.le (λ_=>Qec) (Qef b) (λx hx=>by have:=hv x hx; omega) hl k hk
theorem QFM {b:List Bat} (h:ValidB b) {v:List Nat} {k:Nat} (I:ChInv b.length (Qq b) v (QI b) (QV b) k):PrOk ⟨(chK b.length (Qq b) v (QI b) (QV b) k).has,(chK b.length (Qq b) v (QI b) (QV b) k).needs,[]⟩:=by
 have hb:=Qe2 h.ok;have aX:=h.ok.le;refine⟨by rw[I.hl,I.nl,QN,QS],by show(chK b.length (Qq b) v (QI b) (QV b) k).has.length<=8; rw[I.hl,QN]; exact aX,λi=>?_,by simp⟩
 have h1:=I.hasE i;have h2:=I.needE i;have h3:=QyV (chO b.length (Qq b) v k) i;have h4:=Qzp (chO b.length (Qq b) v k) i;have h5:(QI b).getD i 0=Qem (Qac b) i:=rfl;have h6:(QV b).getD i 0=QaM (Qac b) i:=rfl;have h7: -800000<=Qem (Qac b) i/\Qem (Qac b) i<=100000:=by
  by_cases hi:i < b.length
  .rw[QmQ hi]; exact Qqm h.ok hi
  .rw[QiF (by omega)]; omega
 have h8:0<=QaM (Qac b) i/\QaM (Qac b) i<=100000:=by
  by_cases hi:i < b.length
  .rw[QoH hi]; exact QqM h.ok i
  .rw[QdW (by omega)]; omega
 show _<=(chK b.length (Qq b) v (QI b) (QV b) k).has.getD i 0/\(chK b.length (Qq b) v (QI b) (QV b) k).has.getD i 0<=_/\_<=(chK b.length (Qq b) v (QI b) (QV b) k).needs.getD i 0/\(chK b.length (Qq b) v (QI b) (QV b) k).needs.getD i 0<=_;omega
theorem Qzg {b:List Bat} (h:ValidB b) {v:List Nat} {k:Nat} (I:ChInv b.length (Qq b) v (QI b) (QV b) k) (hi:(chK b.length (Qq b) v (QI b) (QV b) k).is=true):EdgOk b (chK b.length (Qq b) v (QI b) (QV b) k).more:=by
 refine⟨λt q hq=>?_,λe he=>?_⟩
 .by_cases ht:t < b.length
  .rw[Qbf ht]at hq;exact(h.ok.at ht).fr q hq
  .rw[Qbc (by omega)]at hq
   simp[show(default:Bat).takes=[]from rfl]at hq
 .obtain⟨x,t,rfl,q⟩:=(I.more e).1 he;have h1:=I.is.1 hi t x q;obtain⟨_,j,_,q3,q4,_⟩:=I.at' t x q;rw[Qj _ _ _ q3]at q4;have:=Qec (Ze q3);simp only;omega
theorem QvW {b:List Bat} (h:ValidB b) {i k:Nat} (hk:k < b.length) {v:List Nat} (hv:∀x∈v,x < b.length+1) (hl:v.length=(Qq b).length):QB6 b i k v=true↔ChOk (Qaa b) (chO b.length (Qq b) v (Qq b).length)/\Rch (Qke (Qaa b) (chO b.length (Qq b) v (Qq b).length)) i k:=by
 have I:=QDj h hv hl _ (Zr _);have aX:=h.ok.le;have hpo:=QFM h I;have hf1:(Qem ⟨(chK b.length (Qq b) v (QI b) (QV b) (Qq b).length).has,(chK b.length (Qq b) v (QI b) (QV b) (Qq b).length).needs,[]⟩)=λx=>(Qaa b).has x - chH (chO b.length (Qq b) v (Qq b).length) x:=by
  funext x; exact I.hasE x
 have lD:(QaM ⟨(chK b.length (Qq b) v (QI b) (QV b) (Qq b).length).has,(chK b.length (Qq b) v (QI b) (QV b) (Qq b).length).needs,[]⟩)=λx=>(Qaa b).need x - chN (chO b.length (Qq b) v (Qq b).length) x:=by
  funext x; exact I.needE x
 have kE:nvP ⟨(chK b.length (Qq b) v (QI b) (QV b) (Qq b).length).has,(chK b.length (Qq b) v (QI b) (QV b) (Qq b).length).needs,[]⟩=noN:=rfl;have wE:=QdK hpo;rw[hf1,lD,kE]at wE;unfold QB6;simp only[Za];rw[wE];have dN:∀hi:(chK b.length (Qq b) v (QI b) (QV b) (Qq b).length).is=true,(Qao b i (chK b.length (Qq b) v (QI b) (QV b) (Qq b).length).more b.length k=true↔Rch (Qke (Qaa b) (chO b.length (Qq b) v (Qq b).length)) i k):=λhi=>by
  rw[QnJ (Qzg h I hi) hk];have e:∀x t,Qom b (chK b.length (Qq b) v (QI b) (QV b) (Qq b).length).more x t↔Qke (Qaa b) (chO b.length (Qq b) v (Qq b).length) x t:=λx t=>by
   unfold Qom Qke;refine or_congr_right ?_;rw[I.more];constructor
   .rintro⟨x',t',q1,q2⟩;simp only[Edg.mk.injEq]at q1;have e1:x'=x:=by omega
    have e2:t'=t:=by omega
    subst e1 e2; exact q2
   .intro q; exact⟨x,t,rfl,q⟩
  exact⟨Qgy λx t=>(e x t).1,Qgy λx t=>(e x t).2⟩
 constructor
 .rintro⟨⟨h1,h2,h3⟩,h4⟩;refine⟨⟨λt x q=>?_,λx=>(h2 x).1,λt=>(h2 t).2,h3⟩,(dN h1).1 h4⟩;obtain⟨_,j,_,q3,q4,_⟩:=I.at' t x q;rw[Qj _ _ _ q3]at q4;have hm:=Qb8.1 (Ze q3);rw[q4]at hm;have:=I.is.1 h1 t x q;exact⟨hm.2,this,by omega⟩
 .rintro⟨h1,h2⟩;have hi:=I.is.2 λt x q=>(h1.lt t x q).2.1;exact⟨⟨hi,λx=>⟨h1.has x,h1.need x⟩,h1.hall⟩,(dN hi).2 h2⟩
theorem Qxw {b:List Bat} (h:ValidB b) {i k:Nat} (hi:i < b.length) (hk:k < b.length):QvJ b i k=true↔QCw (Qaa b) i k:=by
 have aX:=h.ok.le;rw[QvZ (Qg0 h) (by omega) (by omega)]
 unfold QvJ;rw[Zy];constructor
 .rintro⟨n,_,h2⟩;obtain⟨q1,q2⟩:=(QvW h hk (λx hx=>QuL (by omega) x hx) (Qpm _ _ _)).1 h2
  exact⟨_,q1,q2⟩
 .rintro⟨ch,h1,h2⟩;obtain⟨v,hv⟩:∃v,v=(Qq b).map λt=>(ch t).getD b.length:=⟨_,rfl⟩;have hl:v.length=(Qq b).length:=by rw[hv]; simp
  have lL:∀x∈v,x < b.length+1:=λx hx=>by
   rw[hv]at hx;obtain⟨t,ht,rfl⟩:=List.mem_map.1 hx;cases q:ch t with
   | none=>simp
   | some y=>
    have h3:=h1.lt t y q;have:=Qec ht;simp; omega
  have cZ:∀k,k<=(Qq b).length->∀t,chO b.length (Qq b) v k t=if t∈(Qq b).take k then ch t else none:=by
   intro k
   induction k with
   | zero=>intro _ t; simp[chO]
   | succ k ih=>
    intro hk t;have bB:k < (Qq b).length:=by omega
    have hvk:v.getD k 0=(ch ((Qq b)[k])).getD b.length:=by
     rw[hv,Zd,List.getElem?_map,Zg bB]; rfl
    rw[List.take_succ_eq_append_getElem bB,chO,hvk,Qj _ _ _ bB];cases q:ch ((Qq b)[k])with
    | none=>
     rw[if_pos (by simp),ih (by omega)]
     by_cases hm:t∈(Qq b).take k
     .rw[if_pos hm,if_pos (Zp.2 (.inl hm))]
     .rw[if_neg hm];by_cases ht:t=(Qq b)[k]
      .rw[if_pos (Zp.2 (.inr (List.mem_singleton.2 ht))),ht,q]
      .rw[if_neg (λh=>(Zp.1 h).elim hm λh=>ht (List.mem_singleton.1 h))]
    | some y=>
     have h3:=h1.lt _ y q;have h4:=Qec (Ze bB);rw[if_neg (by simp; omega)]
     by_cases ht:t=(Qq b)[k]
     .rw[if_pos (Zp.2 (.inr (List.mem_singleton.2 ht))),ht,Qae,q]; rfl
     .rw[Q3 _ _ ht,ih (by omega)]
      by_cases hm:t∈(Qq b).take k
      .rw[if_pos hm,if_pos (Zp.2 (.inl hm))]
      .rw[if_neg hm,if_neg (λh=>(Zp.1 h).elim hm λh=>ht (List.mem_singleton.1 h))]
  have sB:chO b.length (Qq b) v (Qq b).length=ch:=by
   funext t;rw[cZ _ (Zr _) t,List.take_length];split
   .rfl
   .rename_i hm;cases q:ch t with
    | none=>rfl
    | some x=>
     have h3:=h1.lt t x q;exact absurd (Qb8.2 ⟨Qix h3.1,h3.1⟩) hm
  obtain⟨n,h3,h4⟩:=QqS v lL;rw[hl]at h3 h4;refine⟨n,Zm.2 h3,?_⟩;rw[h4,QvW h hk lL hl,sB];exact⟨h1,h2⟩
end Go.Proofs.YtnfeakhkfehkhaaGreatDoor
