/-
  A truth of a book, as the law draws it: how much one takes of another one, at least and at most, and the book with all cards. Plain; no program here. Conditions: none.
-/
import Derived.Test.YticoemblgkemiaaGreatDoorZMyp
set_option linter.unusedSimpArgs false
set_option linter.unusedVariables false
namespace Go.Proofs.YticoemblgkemiaaGreatDoor
def Q8 (p:Pro) (s n:Nat):Int:=QK n λk=>if Qc9 s k=true then Q4 p k else 0
def QcY (p:Pro) (f t s i k:Nat):Bool:=decide (i < k)&&(Qc9 s k&&(decide (0 < Q4 p k)&&(!nvP p i k&&!(decide (i=f)&&decide (k=t)))))
def QaF (p:Pro) (f t s i:Nat):Bool:=(List.range p.needs.length).any (QcY p f t s i)
def Qbc (p:Pro) (f t s n:Nat):Int:=QK n λi=>if QaF p f t s i=true then Qb2 p i else 0
def QgW (p:Pro) (f t s:Nat) (r:Int×Int):Int×Int:=
 (if Qc9 s t=true/\QaF p f t s f=false then max r.1 (Q8 p s p.needs.length - Qbc p f t s p.has.length)else r.1,
  if Qc9 s t=false/\QaF p f t s f=true then min r.2 (Qbc p f t s p.has.length - Q8 p s p.needs.length)else r.2)
def Qg1 (p:Pro) (f t:Nat):Nat->Int×Int
 | 0=>(0,min (Qb2 p f) (Q4 p t))
 | k+1=>QgW p f t (k+1) (Qg1 p f t k)
def Qey (p:Pro) (f t:Nat):Int×Int:=Qg1 p f t (2 ^ p.needs.length - 1)
theorem QoO {p:Pro} {f t:Nat} :∀k,0<=(Qg1 p f t k).1/\(Qg1 p f t k).2<=min (Qb2 p f) (Q4 p t)
 | 0=>⟨Int.le_refl _,Int.le_refl _⟩
 | k+1=>by
  obtain⟨h1,h2⟩:=QoO (p:=p) (f:=f) (t:=t) k;rw[Qg1]; unfold QgW;constructor
  .dsimp only; split
   .omega
   .exact h1
  .dsimp only; split
   .omega
   .exact h2
theorem Qyd {p:Pro} {f t:Nat} :∀k,(∀s,1<=s->s<=k->Qc9 s t=true->QaF p f t s f=false->Q8 p s p.needs.length - Qbc p f t s p.has.length<=(Qg1 p f t k).1)/\((Qg1 p f t k).1=0\/∃s,Qc9 s t=true/\QaF p f t s f=false/\(Qg1 p f t k).1=Q8 p s p.needs.length - Qbc p f t s p.has.length)
 | 0=>⟨λs h1 h2=>by omega,.inl rfl⟩
 | k+1=>by
  obtain⟨h1,h2⟩:=Qyd (p:=p) (f:=f) (t:=t) k;rw[Qg1]; unfold QgW;dsimp only;by_cases c:Qc9 (k+1) t=true/\QaF p f t (k+1) f=false
  .rw[if_pos c];refine⟨λs q1 q2 q3 q4=>?_,?_⟩
   .by_cases e:s=k+1
    .subst e; omega
    .have:=h1 s q1 (by omega) q3 q4; omega
   .rcases Int.le_total (Qg1 p f t k).1 (Q8 p (k+1) p.needs.length - Qbc p f t (k+1) p.has.length)with q | q
    .exact .inr ⟨k+1,c.1,c.2,Int.max_eq_right q⟩
    .rw[Int.max_eq_left q]; exact h2
  .rw[if_neg c];refine⟨λs q1 q2 q3 q4=>?_,h2⟩;by_cases e:s=k+1
   .subst e; exact absurd ⟨q3,q4⟩ c
   .exact h1 s q1 (by omega) q3 q4
theorem QyI {p:Pro} {f t:Nat} :∀k,(∀s,1<=s->s<=k->Qc9 s t=false->QaF p f t s f=true->(Qg1 p f t k).2<=Qbc p f t s p.has.length - Q8 p s p.needs.length)/\((Qg1 p f t k).2=min (Qb2 p f) (Q4 p t)\/∃s,Qc9 s t=false/\QaF p f t s f=true/\(Qg1 p f t k).2=Qbc p f t s p.has.length - Q8 p s p.needs.length)
 | 0=>⟨λs h1 h2=>by omega,.inl rfl⟩
 | k+1=>by
  obtain⟨h1,h2⟩:=QyI (p:=p) (f:=f) (t:=t) k;rw[Qg1]; unfold QgW;dsimp only;by_cases c:Qc9 (k+1) t=false/\QaF p f t (k+1) f=true
  .rw[if_pos c];refine⟨λs q1 q2 q3 q4=>?_,?_⟩
   .by_cases e:s=k+1
    .subst e; omega
    .have:=h1 s q1 (by omega) q3 q4; omega
   .rcases Int.le_total (Qg1 p f t k).2 (Qbc p f t (k+1) p.has.length - Q8 p (k+1) p.needs.length)with q | q
    .rw[Int.min_eq_left q]; exact h2
    .exact .inr ⟨k+1,c.1,c.2,Int.min_eq_right q⟩
  .rw[if_neg c];refine⟨λs q1 q2 q3 q4=>?_,h2⟩;by_cases e:s=k+1
   .subst e; exact absurd ⟨q3,q4⟩ c
   .exact h1 s q1 (by omega) q3 q4
structure PLen (p:Pro) (n:Nat):Prop where
 h:p.has.length=n
 m:p.needs.length=n
 le:n<=8
theorem Qgn {p:Pro} {n k:Nat} (h:PLen p n) (hk:n<=k):Q4 p k=0:=by
 unfold Q4; rw[Zd,List.getElem?_eq_none (by rw[h.m]; exact hk)]; rfl
theorem QFM {p:Pro} {n k:Nat} (h:PLen p n) (hk:n<=k):Qb2 p k=0:=by
 unfold Qb2; rw[Zd,List.getElem?_eq_none (by rw[h.h]; exact hk)]; rfl
def QiC (p:Pro) (s:Nat):Nat->Bool:=λk=>Qc9 s k&&decide (0 < Q4 p k)
theorem Qsd {p:Pro} {n s:Nat} (h:PLen p n) {S:Nat->Bool} (hS:∀a,a < n->Qc9 s a=S a):Q8 p s p.needs.length=inN S (Q4 p):=by
 unfold Q8 inN;rw[h.m,<-Qd5 (n:=n) (λi hi=>by rw[Qgn h hi]; simp) 8 h.le]
 refine QB λi hi=>?_;by_cases q:i < n
 .rw[hS i q]
 .rw[Qgn h (by omega)]; simp
theorem QAu {p:Pro} {n s:Nat} (h:PLen p n) (hn:∀t,0<=Q4 p t):Q8 p s p.needs.length=inN (QiC p s) (Q4 p):=by
 unfold Q8 inN;rw[h.m,<-Qd5 (n:=n) (λi hi=>by rw[Qgn h hi]; simp) 8 h.le]
 refine QB λi hi=>?_;unfold QiC;have:=hn i;by_cases q:0 < Q4 p i
 .simp[q]
 .have e:Q4 p i=0:=by omega
  simp[e]
theorem QfX {p:Pro} {n f t s i:Nat} (h:PLen p n):QaF p f t s i=nbB (nvM (nvP p) f t) (QiC p s) i:=by
 rw[Bool.eq_iff_iff,Qa8];unfold QaF;rw[Zy,h.m];constructor
 .rintro⟨k,h1,h2⟩;rw[Zm]at h1;simp only[QcY,Za,decide_eq_true_eq,Bool.not_eq_true']at h2;obtain⟨h3,h4,h5,h6,h7⟩:=h2;refine⟨k,by have:=h.le; omega,by simp[QiC,h4,h5],h3,Qc7.2 ⟨h6,λe=>?_⟩⟩
  rw[e.1,e.2]at h7; simp at h7
 .rintro⟨k,h1,h2,h3,h4⟩;obtain⟨h5,h6⟩:=Qc7.1 h4;simp only[QiC,Za,decide_eq_true_eq]at h2;have hk:k < n:=by
   rcases Nat.lt_or_ge k n with q | q
   .exact q
   .have:=Qgn h q; omega
  refine⟨k,Zm.2 hk,?_⟩;simp only[QcY,Za,decide_eq_true_eq,Bool.not_eq_true'];refine⟨h3,h2.1,h2.2,h5,?_⟩;rw[Bool.and_eq_false_iff];by_cases e:i=f
  .exact .inr (by simp; exact λq=>h6 ⟨e,q⟩)
  .exact .inl (by simp[e])
theorem QEw {p:Pro} {n f t s:Nat} (h:PLen p n):Qbc p f t s p.has.length=inN (nbB (nvM (nvP p) f t) (QiC p s)) (Qb2 p):=by
 unfold Qbc inN;rw[h.h,<-Qd5 (n:=n) (λi hi=>by rw[QFM h hi]; simp) 8 h.le]
 exact QB λi hi=>by rw[QfX h]
theorem Qn2 {nv:Nat->Nat->Bool} {S T:Nat->Bool} (h:∀t,t < 8->S t=true->T t=true) {x:Nat} (q:nbB nv S x=true):nbB nv T x=true:=by
 obtain⟨t,h1,h2,h3⟩:=Qa8.1 q;exact Qa8.2 ⟨t,h1,h t h1 h2,h3⟩
structure BndOk (p:Pro) (f t:Nat):Prop where
 nn:0<=(Qey p f t).1
 le:(Qey p f t).1<=(Qey p f t).2
 has:(Qey p f t).2<=Qb2 p f
 need:(Qey p f t).2<=Q4 p t
 hall:∀n,(Qey p f t).1<=n->n<=(Qey p f t).2->QjX (nvM (nvP p) f t) (QZ (Qb2 p) f (Qb2 p f - n)) (QZ (Q4 p) t (Q4 p t - n))
theorem QDa {p:Pro} {n f t:Nat} (h:PLen p n) (hh:∀x,0<=Qb2 p x) (hn:∀t,0<=Q4 p t) (hH:QjX (nvP p) (Qb2 p) (Q4 p)) (hf:f < t) (ht:t < n):BndOk p f t:=by
 have bE:=h.le;obtain⟨m1,m2⟩:=QoO (p:=p) (f:=f) (t:=t) (2 ^ p.needs.length - 1);obtain⟨l1,l2⟩:=Qyd (p:=p) (f:=f) (t:=t) (2 ^ p.needs.length - 1);obtain⟨g1,g2⟩:=QyI (p:=p) (f:=f) (t:=t) (2 ^ p.needs.length - 1);rw[h.m]at l1 l2 g1 g2 m1 m2;have eP:Qg1 p f t (2 ^ n - 1)=Qey p f t:=by unfold Qey; rw[h.m]
 rw[eP]at l1 l2 g1 g2 m1 m2;have en:∀s,Q8 p s n=inN (QiC p s) (Q4 p):=λs=>by rw[<-QAu h hn,h.m]
 have eh:∀s,Qbc p f t s p.has.length=inN (nbB (nvM (nvP p) f t) (QiC p s)) (Qb2 p):=λs=>QEw h;have bC:∀s,QiC p s t=false->inN (QiC p s) (Q4 p)<=inN (nbB (nvM (nvP p) f t) (QiC p s)) (Qb2 p):=λs hs=>by
  have:=Qz1 (f:=f) hH hs; omega
 have lo_hi:(Qey p f t).1<=(Qey p f t).2:=by
  have low0:∀s,Qc9 s t=true->QaF p f t s f=false->∀z,(0<=z)->(QiC p s t=true->nbB (nvM (nvP p) f t) (QiC p s) f=false->inN (QiC p s) (Q4 p) - inN (nbB (nvM (nvP p) f t) (QiC p s)) (Qb2 p)<=z)->Q8 p s n - Qbc p f t s p.has.length<=z:=by
   intro s h1 h2 z hz hk;rw[en,eh];rw[QfX h]at h2;cases q:QiC p s t with
   | true=>exact hk q h2
   | false=>have:=bC s q; omega
  have m9:0<=(Qey p f t).2:=by
   rcases g2 with e | ⟨s,q1,q2,e⟩
   .rw[e]; have:=hh f; have:=hn t; omega
   .rw[e,en,eh];have:=bC s (by simp[QiC,q1]); omega
  rcases l2 with e | ⟨s,q1,q2,e⟩
  .rw[e]; exact m9
  .rw[e];refine low0 s q1 q2 _ m9 λk1 k2=>?_;rcases g2 with e' | ⟨s',uB,uC,e'⟩
   .rw[e'];have a1:=QHx (needs:=Q4 p) (by omega:f < 8) hh hH k2
    have a2:=QAi (f:=f) (by omega:t < 8) hh hH k1
    omega
   .rw[e',en,eh];rw[QfX h]at uC;exact Qq2 hh hn hH k1 k2 (by simp[QiC,uB]) uC
 clear l2 g2;refine⟨m1,lo_hi,by omega,by omega,λk h1 h2=>?_⟩
 refine Qzs (by omega) (by omega) hH (λS hS eB=>?_) λS hS eB=>?_
 .obtain⟨s,hs,hb⟩:=QfO S n;have bT:Qc9 s t=true:=by rw[hb t ht]; exact hS
  have nA:1<=s:=by
   rcases Nat.eq_zero_or_pos s with q | q
   .subst q; simp[Qc9]at bT
   .exact q
  have iE:∀o,o < 8->QiC p s o=true->S o=true:=λo ho hp=>by
   simp only[QiC,Za,decide_eq_true_eq]at hp;have hon:o < n:=by
    rcases Nat.lt_or_ge o n with q | q
    .exact q
    .have:=Qgn h q; omega
   rw[<-hb o hon]; exact hp.1
  have sV:QaF p f t s f=false:=by
   rw[QfX h];cases q:nbB (nvM (nvP p) f t) (QiC p s) f with
   | false=>rfl
   | true=>rw[Qn2 iE q]at eB; cases eB
  have:=l1 s nA (by omega) bT sV
  have e1:Q8 p s n=inN S (Q4 p):=by rw[<-Qsd h hb,h.m]
  rw[e1,eh]at this;have e2:=QmT (f:=Qb2 p) hh (λx q=>Qn2 (nv:=nvM (nvP p) f t) iE (x:=x) q);omega
 .obtain⟨s,hs,hb⟩:=QfO S n;have bT:Qc9 s t=false:=by rw[hb t ht]; exact hS
  have iE:∀o,o < 8->QiC p s o=true->S o=true:=λo ho hp=>by
   simp only[QiC,Za,decide_eq_true_eq]at hp;have hon:o < n:=by
    rcases Nat.lt_or_ge o n with q | q
    .exact q
    .have:=Qgn h q; omega
   rw[<-hb o hon]; exact hp.1
  have e1:Q8 p s n=inN S (Q4 p):=by rw[<-Qsd h hb,h.m]
  have e2:=QmT (f:=Qb2 p) hh (λx q=>Qn2 (nv:=nvM (nvP p) f t) iE (x:=x) q);cases sV:QaF p f t s f with
  | true=>
   have nA:1<=s:=by
    rcases Nat.eq_zero_or_pos s with q | q
    .subst q;rw[QfX h]at sV;obtain⟨o,_,h2,_⟩:=Qa8.1 sV;simp[QiC,Qc9]at h2
    .exact q
   have:=g1 s nA (by omega) bT sV
   rw[e1,eh]at this;omega
  | false=>
   rw[QfX h]at sV;have e3:=bC s (by simp[QiC,bT])
   rw[<-en,e1]at e3;have e4:inN (nbB (nvM (nvP p) f t) (QiC p s)) (Qb2 p)+Qb2 p f<=inN (nbB (nvM (nvP p) f t) S) (Qb2 p):=by
    have e5:Qb2 p f=QK 8 (λx=>if x=f then Qb2 p f else 0):=by rw[Qbg,if_pos (by omega)]
    unfold inN;rw[e5,<-Qax];refine Qa2 λx _=>?_;have:=hh x;by_cases q:x=f
    .subst q;rw[if_pos eB,if_neg (by rw[sV]; simp),if_pos rfl]; omega
    .rw[if_neg q];by_cases q2:nbB (nvM (nvP p) f t) (QiC p s) x=true
     .rw[if_pos q2,if_pos (Qn2 iE q2)]; omega
     .rw[if_neg q2];split<;>omega
   omega
def Qk8 (y:List Int) (n:Nat):Int:=if y.length=0 then 0 else y.getD (n % y.length) 0
def Qzv (p:Pro) (y:List Int) (u f t:Nat):Int:=if(Qey p f t).1 < (Qey p f t).2 then(Qey p f t).1+(Qk8 y u).tmod ((Qey p f t).2 - (Qey p f t).1+1)else(Qey p f t).1
theorem QBD {y:List Int} (hy:∀z∈y,0<=z) (n:Nat):0<=Qk8 y n:=by
 unfold Qk8;split
 .exact Int.le_refl _
 .rename_i h;have hl:n % y.length < y.length:=Nat.mod_lt _ (by omega)
  rw[Zd,Zg hl];exact hy _ (Ze hl)
theorem QwW {p:Pro} {y:List Int} {u f t:Nat} (hy:∀z∈y,0<=z) (h:BndOk p f t):(Qey p f t).1<=Qzv p y u f t/\Qzv p y u f t<=(Qey p f t).2:=by
 unfold Qzv;have:=h.le;split
 .have h0:=QBD hy u;rw[Int.tmod_eq_emod_of_nonneg h0];have h1:=Int.emod_nonneg (Qk8 y u) (show(Qey p f t).2 - (Qey p f t).1+1≠0 by omega)
  have h2:=Int.emod_lt_of_pos (Qk8 y u) (show(0:Int) < (Qey p f t).2 - (Qey p f t).1+1 by omega)
  omega
 .omega
structure FS where
 p:Pro
 L:List Tak
 u:Nat
def QdU (y:List Int) (t:Nat) (p:Pro) (u:Nat):Nat->FS
 | 0=>⟨p,[],u⟩
 | f+1=>
  let s:=QdU y t p u f
  let n:=Qzv s.p y s.u f t
  if 0 < n then⟨⟨s.p.has.set f (Qb2 s.p f - n),s.p.needs.set t (Q4 s.p t - n),s.p.never++[⟨(f:Nat),(t:Nat)⟩]⟩,s.L++[⟨(f:Nat),n⟩],s.u+1⟩
  else⟨⟨s.p.has,s.p.needs,s.p.never++[⟨(f:Nat),(t:Nat)⟩]⟩,s.L,s.u+1⟩
structure FB where
 p:Pro
 out:List Bat
 u:Nat
def QdD (b:List Bat) (y:List Int):Nat->FB
 | 0=>⟨QV b,[],0⟩
 | t+1=>
  let s:=QdD b y t
  let x:=b.getD t default
  if x.lost=true then
   let r:=QdU y t s.p s.u t
   ⟨r.p,s.out++[{ x with lost:=false,takes:=r.L}],r.u⟩
  else⟨s.p,s.out++[x],s.u⟩
def Ql9 (b:List Bat) (y:List Int):List Bat:=(QdD b y b.length).out
def Qrs (g:Nat->Nat->Int) (t n:Nat):List Tak:=(List.range n).filterMap λx=>if 0 < g x t then some ⟨(x:Nat),g x t⟩else none
def QzM (b:List Bat) (g:Nat->Nat->Int) (t:Nat):Bat:=if(b.getD t default).lost=true then { b.getD t default with lost:=false,takes:=Qrs g t t} else b.getD t default
def QdY (b:List Bat) (g:Nat->Nat->Int):List Bat:=(List.range b.length).map (QzM b g)
theorem Qep (g:Nat->Nat->Int) (t n:Nat):Qrs g t (n+1)=Qrs g t n++if 0 < g n t then [⟨(n:Nat),g n t⟩]else []:=by
 unfold Qrs;rw[List.range_succ,List.filterMap_append];congr 1;by_cases h:0 < g n t
 .simp[h]
 .simp[h]
theorem QlQ {g g':Nat->Nat->Int} {t n:Nat} (h:∀x,x < n->g x t=g' x t):Qrs g t n=Qrs g' t n:=by
 induction n with
 | zero=>rfl
 | succ n ih=>rw[Qep,Qep,ih λx hx=>h x (by omega),h n (by omega)]
structure FI (P:Prb) (N:Nat) (p:Pro) (g:Nat->Nat->Int) (t f:Nat):Prop where
 len:PLen p N
 nn:∀x o,0<=g x o
 sup:∀x o,0 < g x o->x < o/\o < N/\P.lost o=true/\(o < t\/(o=t/\x < f))
 has:∀x,Qb2 p x=P.has x - QK 8 (g x)
 need:∀o,Q4 p o=P.need o - QK 8 (λx=>g x o)
 h0:∀x,0<=Qb2 p x
 n0:∀o,0<=Q4 p o
 hall:QjX (nvP p) (Qb2 p) (Q4 p)
 nv:∀x o,nvP p x o=true↔x < o/\((o < t/\P.lost o=true)\/(o=t/\x < f))
theorem QwE (h n:List Int) (l:List Edg) (f t:Nat) (h' n':List Int):nvP ⟨h',n',l++[⟨(f:Nat),(t:Nat)⟩]⟩=nvM (nvP ⟨h,n,l⟩) f t:=by
 funext x o;unfold nvP nvM;rw[List.any_append,List.any_cons,List.any_nil,Bool.or_false];congr 1;rw[Bool.eq_iff_iff];simp only[Za,beq_iff_eq,decide_eq_true_eq];omega
theorem QsA {l:List Int} {f:Nat} {z:Int} (h:f < l.length) (x:Nat):(l.set f z).getD x 0=if x=f then z else l.getD x 0:=by
 simp only[Zd,List.getElem?_set];by_cases e:x=f
 .subst e; simp[h]
 .rw[if_neg (λq=>e q.symm),if_neg e]
theorem FI.step {P:Prb} {N:Nat} {p:Pro} {g:Nat->Nat->Int} {t f:Nat} (I:FI P N p g t f) (ht:t < N) (hl:P.lost t=true) (hf:f < t) {n:Int} (hn:(Qey p f t).1<=n/\n<=(Qey p f t).2) (B:BndOk p f t):
  FI P N (if 0 < n then⟨p.has.set f (Qb2 p f - n),p.needs.set t (Q4 p t - n),p.never++[⟨(f:Nat),(t:Nat)⟩]⟩else⟨p.has,p.needs,p.never++[⟨(f:Nat),(t:Nat)⟩]⟩) (QgC g f t n) t (f+1):=by
 have bE:=I.len.le;have qA:0<=n:=by have:=B.nn; omega
 have zJ:g f t=0:=by
  have h1:=I.nn f t;by_cases q:0 < g f t
  .have:=I.sup f t q; omega
  .omega
 have key:∀q:Pro,Qb2 q=QZ (Qb2 p) f (Qb2 p f - n)->Q4 q=QZ (Q4 p) t (Q4 p t - n)->nvP q=nvM (nvP p) f t->PLen q N->FI P N q (QgC g f t n) t (f+1):=by
  intro q e1 e2 e3 e4;have cV:∀x,QK 8 (QgC g f t n x)=QK 8 (g x)+if x=f then n else 0:=λx=>by
   unfold QgC;by_cases q:x=f
   .subst q;rw[if_pos rfl,if_pos rfl,QfV _ _ (by omega),zJ]; omega
   .rw[if_neg q,if_neg q]; omega
  have hcol:∀o,QK 8 (λx=>QgC g f t n x o)=QK 8 (λx=>g x o)+if o=t then n else 0:=λo=>by
   by_cases q:o=t
   .subst q;have:(λx=>QgC g f o n x o)=QZ (λx=>g x o) f n:=by
     funext x;unfold QgC QZ;by_cases q:x=f
     .subst q; simp
     .simp[q]
    rw[this,QfV _ _ (by omega),zJ,if_pos rfl]; omega
   .rw[if_neg q];have:(λx=>QgC g f t n x o)=λx=>g x o:=by
     funext x;unfold QgC QZ;by_cases q':x=f
     .subst q'; simp[q]
     .simp[q']
    rw[this]; omega
  refine⟨e4,λx o=>?_,λx o ho=>?_,λx=>?_,λo=>?_,λx=>?_,λo=>?_,?_,λx o=>?_⟩
  .unfold QgC QZ;by_cases q1:x=f
   .rw[if_pos q1];show 0<=if o=t then n else g x o;split
    .exact qA
    .exact I.nn _ _
   .rw[if_neg q1]; exact I.nn _ _
  .unfold QgC QZ at ho;by_cases q1:x=f
   .rw[if_pos q1]at ho;by_cases q2:o=t
    .subst q1; subst q2;exact⟨hf,ht,hl,.inr ⟨rfl,by omega⟩⟩
    .rw[if_neg q2]at ho;have:=I.sup x o ho;exact⟨this.1,this.2.1,this.2.2.1,by have:=this.2.2.2; omega⟩
   .rw[if_neg q1]at ho;have:=I.sup x o ho;exact⟨this.1,this.2.1,this.2.2.1,by have:=this.2.2.2; omega⟩
  .rw[e1,cV];unfold QZ;by_cases q:x=f
   .subst q; rw[if_pos rfl,if_pos rfl,I.has]; omega
   .rw[if_neg q,if_neg q,I.has]; omega
  .rw[e2,hcol];unfold QZ;by_cases q:o=t
   .subst q; rw[if_pos rfl,if_pos rfl,I.need]; omega
   .rw[if_neg q,if_neg q,I.need]; omega
  .rw[e1];unfold QZ;split
   .have:=B.has; omega
   .exact I.h0 x
  .rw[e2];unfold QZ;split
   .have:=B.need; omega
   .exact I.n0 o
  .rw[e1,e2,e3]; exact B.hall n hn.1 hn.2
  .rw[e3];unfold nvM;rw[Bool.or_eq_true,I.nv,Za,decide_eq_true_eq,decide_eq_true_eq];by_cases q:P.lost o=true
   .simp only[q,and_true]; omega
   .have q':(P.lost o=true)=False:=eq_false q;simp only[q',and_false,false_or]; omega
 by_cases q:0 < n
 .rw[if_pos q];refine key _ ?_ ?_ ?_ ⟨by simp[I.len.h],by simp[I.len.m],bE⟩
  .funext x;exact QsA (by rw[I.len.h]; omega) x
  .funext x;exact QsA (by rw[I.len.m]; omega) x
  .exact QwE p.has p.needs p.never f t _ _
 .rw[if_neg q];have e0:n=0:=by omega
  refine key _ ?_ ?_ ?_ ⟨I.len.h,I.len.m,bE⟩
  .funext x;unfold QZ;split
   .rename_i e; subst e; rw[e0]; show Qb2 p x=_; omega
   .rfl
  .funext x;unfold QZ;split
   .rename_i e; subst e; rw[e0]; show Q4 p x=_; omega
   .rfl
  .exact QwE p.has p.needs p.never f t _ _
theorem QqP {P:Prb} {N:Nat} {y:List Int} (hy:∀z∈y,0<=z) {p:Pro} {g:Nat->Nat->Int} {t u:Nat} (I:FI P N p g t 0) (ht:t < N) (hl:P.lost t=true):∀f,f<=t->∃g',FI P N (QdU y t p u f).p g' t f/\(QdU y t p u f).L=Qrs g' t f/\∀x o,¬o=t->g' x o=g x o
 | 0,_=>⟨g,I,rfl,λ_ _ _=>rfl⟩
 | f+1,hf=>by
  obtain⟨g',I',e1,e2⟩:=QqP (u:=u) hy I ht hl f (by omega)
  have B:=QDa I'.len I'.h0 I'.n0 I'.hall (by omega:f < t) ht
  have hn:=QwW (u:=(QdU y t p u f).u) hy B;have I2:=I'.step ht hl (by omega) hn B
  rw[QdU]
  try dsimp only
  generalize Qzv (QdU y t p u f).p y (QdU y t p u f).u f t=n at*;refine⟨QgC g' f t n,?_,?_,λx o ho=>?_⟩
  .by_cases q:0 < n
   .rw[if_pos q]at I2|-; exact I2
   .rw[if_neg q]at I2|-; exact I2
  .rw[Qep,QlQ (g:=QgC g' f t n) (g':=g') λx hx=>by unfold QgC; rw[if_neg (by omega)]]
   have e3:QgC g' f t n f t=n:=by unfold QgC; rw[if_pos rfl,Qac]
   rw[e3,<-e1];by_cases q:0 < n
   .rw[if_pos q,if_pos q]
   .rw[if_neg q,if_neg q]; simp
  .rw[<-e2 x o ho];unfold QgC;split
   .rename_i e; rw[Q2 _ _ ho,e]
   .rfl
theorem FI.next {P:Prb} {N:Nat} {p:Pro} {g:Nat->Nat->Int} {t:Nat} (I:FI P N p g t t) (hl:P.lost t=true):FI P N p g (t+1) 0:=by
 refine⟨I.len,I.nn,λx o h=>?_,I.has,I.need,I.h0,I.n0,I.hall,λx o=>?_⟩
 .have:=I.sup x o h;exact⟨this.1,this.2.1,this.2.2.1,.inl (by have:=this.2.2.2; omega)⟩
 .rw[I.nv];constructor
  .rintro⟨h1,⟨h2,h3⟩ | ⟨h2,h3⟩⟩
   .exact⟨h1,.inl ⟨by omega,h3⟩⟩
   .exact⟨h1,.inl ⟨by omega,by rw[h2]; exact hl⟩⟩
  .rintro⟨h1,⟨h2,h3⟩ | ⟨h2,h3⟩⟩
   .by_cases q:o=t
    .exact⟨h1,.inr ⟨q,by omega⟩⟩
    .exact⟨h1,.inl ⟨by omega,h3⟩⟩
   .omega
theorem FI.skip {P:Prb} {N:Nat} {p:Pro} {g:Nat->Nat->Int} {t:Nat} (I:FI P N p g t 0) (hl:P.lost t=false):FI P N p g (t+1) 0:=by
 refine⟨I.len,I.nn,λx o h=>?_,I.has,I.need,I.h0,I.n0,I.hall,λx o=>?_⟩
 .have:=I.sup x o h;exact⟨this.1,this.2.1,this.2.2.1,.inl (by have:=this.2.2.2; omega)⟩
 .rw[I.nv];constructor
  .rintro⟨h1,⟨h2,h3⟩ | ⟨h2,h3⟩⟩
   .exact⟨h1,.inl ⟨by omega,h3⟩⟩
   .omega
  .rintro⟨h1,⟨h2,h3⟩ | ⟨h2,h3⟩⟩
   .by_cases q:o=t
    .rw[q,hl]at h3; cases h3
    .exact⟨h1,.inl ⟨by omega,h3⟩⟩
   .omega
theorem Qt8 {b:List Bat} {g g':Nat->Nat->Int} {t:Nat} (h:∀x,g x t=g' x t):QzM b g t=QzM b g' t:=by
 unfold QzM;rw[QlQ λx _=>h x]
theorem QqA {b:List Bat} (h:ValidB b) {y:List Int} (hy:∀z∈y,0<=z):∀k,k<=b.length->∃g,FI (QM b) b.length (QdD b y k).p g k 0/\(QdD b y k).out=(List.range k).map (QzM b g)
 | 0,_=>by
  have hP:=Qd4 h;have bE:=h.ok.le;refine⟨λ_ _=>0,⟨⟨QU b,Qah b,bE⟩,λ_ _=>Int.le_refl _,λx o q=>absurd q (by simp),λx=>?_,λo=>?_,hP.has,hP.need,Qjm h,λx o=>?_⟩,rfl⟩
  .rw[Qaa]; show Qb2 (QV b) x=Qb2 (QV b) x - 0; omega
  .rw[Qaa]; show Q4 (QV b) o=Q4 (QV b) o - 0; omega
  .show(nvP (QV b)) x o=true↔_;rw[show nvP (QV b)=noN from rfl];simp[noN]
 | k+1,hk=>by
  obtain⟨g,I,e⟩:=QqA h hy k (by omega)
  have hl:(QM b).lost k=(b.getD k default).lost:=rfl;rw[QdD];dsimp only;cases q:(b.getD k default).lost with
  | true=>
   rw[if_pos rfl];obtain⟨g',I',e1,e2⟩:=QqP (u:=(QdD b y k).u) hy I (by omega) (by rw[hl]; exact q) k (Zr _)
   refine⟨g',I'.next (by rw[hl]; exact q),?_⟩
   show(QdD b y k).out++[{ b.getD k default with lost:=false,takes:=(QdU y k (QdD b y k).p (QdD b y k).u k).L}]=_
   rw[List.range_succ,List.map_append,e];congr 1
   .refine List.map_congr_left λt ht=>Qt8 λx=>(e2 x t ?_).symm;have:=Zm.1 ht; omega
   .rw[List.map_cons,List.map_nil,QzM,if_pos q,e1]
  | false=>
   rw[if_neg (by simp)]
   refine⟨g,I.skip (by rw[hl]; exact q),?_⟩
   show(QdD b y k).out++[b.getD k default]=_;rw[List.range_succ,List.map_append,e];congr 1;rw[List.map_cons,List.map_nil,QzM,if_neg (by rw[q]; simp)]
theorem Qzq {b:List Bat} (h:ValidB b) {y:List Int} (hy:∀z∈y,0<=z):∃g,Tru (QM b) g/\Ql9 b y=QdY b g:=by
 obtain⟨g,I,e⟩:=QqA h hy b.length (Zr _);have hP:=Qd4 h;have bE:=h.ok.le;refine⟨g,⟨I.nn,λx t ht=>?_,λx _=>?_,λt ht=>?_⟩,e⟩
 .have:=I.sup x t ht;exact⟨⟨this.1,rfl⟩,by omega⟩
 .have h1:=I.h0 x; have h2:=I.has x; omega
 .have h1:=I.n0 t;have h2:=I.need t;have h3:Q4 (QdD b y b.length).p t<=0\/(QM b).need t=0:=by
   by_cases hl:(QM b).lost t=true
   .refine .inl (QwP ht I.hall λx hx=>(I.nv x t).2 ⟨hx,.inl ⟨?_,hl⟩⟩);exact Qh9 hl
   .refine .inr ?_;have:=hP.need t;by_cases q:0 < (QM b).need t
    .exact absurd (hP.lostn t q) hl
    .omega
  rcases h3 with h3 | h3
  .omega
  .have h4:QK 8 (λx=>g x t)≥0:=QaH λx _=>I.nn x t;omega
theorem QA0 {b:List Bat} {i:Nat} {x:Bat} (h:BatOk i x) (hd:(b.take i).any (λy=>y.name.toList==x.name.toList)=false):QmK b i x=0:=by
 unfold QmK;rw[h.name,if_neg (by simp),hd,if_neg (by simp)]
 rw[if_neg (by rw[Qal.2 h.grams,Qal.2 h.fresh]; simp)]
 rw[if_neg (by
  rintro⟨h1,h2⟩;rw[h.lost h1]at h2; simp at h2)]
 have e1:x.takes.any (λt=>!inR t.fr 0 ((i:Int) - 1))=false:=by
  rw[List.any_eq_false];intro t ht;have:=h.fr t ht;rw[Qal.2 (show 0<=t.fr/\t.fr<=(i:Int) - 1 by omega)]; simp
 have e2:x.takes.any (λt=>!inR t.gr 1 100000)=false:=by
  rw[List.any_eq_false];intro t ht;rw[Qal.2 (h.gr t ht)]; simp
 rw[e1,if_neg (by simp),h.asc,if_neg (by simp),e2,if_neg (by simp),if_neg]
 rintro⟨h1,h2⟩;exact h2 (h.sum h1)
theorem QAf {b:List Bat} (h:BookOk b) {i:Nat} (hi:i < b.length):(b.take i).any (λy=>y.name.toList==b[i].name.toList)=false:=by
 have h0:=h.bat i hi;unfold QmK at h0;split at h0
 .omega
 split at h0
 .omega
 rename_i e;simpa using e
theorem QCh (l l':List Bat) (h:l.map (·.name)=l'.map (·.name)) (i:Nat) (s:ByteArray):(l.take i).any (λy=>y.name.toList==s.toList)=(l'.take i).any (λy=>y.name.toList==s.toList):=by
 have key:∀q:List Bat,(q.take i).any (λy=>y.name.toList==s.toList)=((q.map (·.name)).take i).any (λy=>y.toList==s.toList):=λq=>by
  rw[<-List.map_take,List.any_map]; rfl
 rw[key,key,h]
theorem QAg {l:List Tak} (h:l.Pairwise λa c=>a.fr < c.fr):Qp0 l=true:=by
 unfold Qp0;rw[decide_eq_true_eq];intro k hk h0;rw[Ql _ _ _ hk,Ql _ _ _ (by omega)]
 exact List.pairwise_iff_getElem.1 h (k - 1) k (by omega) hk (by omega)
theorem Qg3 {g:Nat->Nat->Int} {t n:Nat} {k:Tak} :k∈Qrs g t n↔∃x,x < n/\0 < g x t/\k=⟨(x:Nat),g x t⟩:=by
 unfold Qrs;rw[List.mem_filterMap];constructor
 .rintro⟨x,h1,h2⟩;split at h2
  .rename_i h3;exact⟨x,Zm.1 h1,h3,(Option.some.inj h2).symm⟩
  .cases h2
 .rintro⟨x,h1,h2,rfl⟩;exact⟨x,Zm.2 h1,by rw[if_pos h2]⟩
theorem QoZ (g:Nat->Nat->Int) (t:Nat):∀n,(Qrs g t n).Pairwise λa c=>a.fr < c.fr
 | 0=>List.Pairwise.nil
 | n+1=>by
  rw[Qep,List.pairwise_append];refine⟨QoZ g t n,?_,λa ha c hc=>?_⟩
  .split
   .exact List.pairwise_singleton _ _
   .exact List.Pairwise.nil
  .obtain⟨x,h1,_,rfl⟩:=Qg3.1 ha;split at hc
   .rw[List.mem_singleton]at hc; subst hc;simp only; omega
   .cases hc
theorem QsV {g:Nat->Nat->Int} (hg:∀x t,0<=g x t) (t:Nat):∀n,QaR (Qrs g t n)=QK n (λx=>g x t)
 | 0=>rfl
 | n+1=>by
  have ih:=QsV hg t n;have h0:=hg n t;unfold QaR at ih|-;rw[Qep,List.map_append,List.sum_append,ih,QK];split
  .simp
  .rename_i h;simp; omega
theorem Qyb {g:Nat->Nat->Int} (hg:∀x t,0<=g x t) (t j:Nat):∀n,Qgu (Qrs g t n) j=if j < n then g j t else 0
 | 0=>rfl
 | n+1=>by
  have ih:=Qyb hg t j n;have h0:=hg n t;unfold Qgu at ih|-;rw[Qep,List.filter_append,List.map_append,List.sum_append,ih];by_cases e:n=j
  .subst e;rw[if_neg (Nat.lt_irrefl n),if_pos (Nat.lt_succ_self n)];split
   .simp
   .rename_i h;simp; omega
  .have e2:¬(n:Int)=(j:Int):=by omega
   have e3:((if 0 < g n t then([⟨(n:Nat),g n t⟩]:List Tak)else []).filter λt=>t.fr==(j:Int))=[]:=by
    split
    .simp[e2]
    .rfl
   rw[e3];by_cases q:j < n
   .rw[if_pos q,if_pos (by omega)]; simp
   .rw[if_neg q,if_neg (by omega)]; simp
theorem QBA {g:Nat->Nat->Int} {t n x:Nat} :(Qrs g t n).any (λk=>k.fr==(x:Int))=true↔x < n/\0 < g x t:=by
 rw[Zy];constructor
 .rintro⟨k,h1,h2⟩;obtain⟨y,h3,h4,rfl⟩:=Qg3.1 h1;have:y=x:=by simp only[beq_iff_eq]at h2; omega
  subst this;exact⟨h3,h4⟩
 .rintro⟨h1,h2⟩;exact⟨_,Qg3.2 ⟨x,h1,h2,rfl⟩,by simp⟩
theorem Qtj {α:Type} (f:α->Int) (l:List α) (d:α):(l.map f).sum=QK l.length λt=>f (l.getD t d):=by
 have key:∀k,k<=l.length->((l.take k).map f).sum=QK k λt=>f (l.getD t d):=by
  intro k
  induction k with
  | zero=>intro _; simp[QK]
  | succ k ih=>
   intro hk;rw[List.take_succ_eq_append_getElem (by omega),List.map_append,List.sum_append,ih (by omega),QK,Ql l k d (by omega)]
   simp
 have:=key l.length (Zr _)
 rwa [List.take_length]at this
theorem Qom {α:Type} {p q:α->Bool} (h:∀a,p a=true->q a=true):∀l:List α,(l.filter p).length<=(l.filter q).length
 | []=>Zr _
 | a::t=>by
  have ih:=Qom h t;rw[List.filter_cons,List.filter_cons];cases hp:p a with
  | true=>rw[h a hp]; simpa using ih
  | false=>
   cases q a with
   | true=>simp; omega
   | false=>simpa using ih
def QeP (b:List Bat) (g:Nat->Nat->Int) (C:Nat->Bool):List Bat:=(List.range b.length).map λt=>if C t=true then QzM b g t else b.getD t default
theorem Qny (b:List Bat) (g:Nat->Nat->Int):QeP b g (λ_=>true)=QdY b g:=by
 unfold QeP QdY;exact List.map_congr_left λt _=>if_pos rfl
theorem Qbw (b:List Bat) (g:Nat->Nat->Int) (C:Nat->Bool):(QeP b g C).length=b.length:=by simp[QeP]
theorem QHF {b:List Bat} {g:Nat->Nat->Int} {C:Nat->Bool} {t:Nat} (h:t < b.length):(QeP b g C).getD t default=if C t=true then QzM b g t else b.getD t default:=by
 unfold QeP;rw[Zd,List.getElem?_map,List.getElem?_range h]; rfl
def Qh1 (b:List Bat) (C:Nat->Bool) (t:Nat):Bool:=C t&&QbV b t
theorem QgK {b:List Bat} {g:Nat->Nat->Int} {C:Nat->Bool} {t:Nat} (h:t < b.length):(QeP b g C).getD t default=if Qh1 b C t=true then { b.getD t default with lost:=false,takes:=Qrs g t t} else b.getD t default:=by
 rw[QHF h];unfold Qh1 QzM QbV;cases C t with
 | false=>simp
 | true=>simp
section
variable {b:List Bat} {g:Nat->Nat->Int} {C:Nat->Bool}
theorem Qn9 (h:ValidB b) (hg:Tru (QM b) g) {x t:Nat} (q:0 < g x t):x < t/\t < b.length/\QbV b t=true:=by
 have hl:=(Qd4 h).lostn t (QmO hg q);exact⟨(hg.sup x t q).1.1,Qh9 hl,hl⟩
theorem Qes (h:ValidB b) (hg:Tru (QM b) g) {x t:Nat} (q:¬(x < t/\t < b.length/\QbV b t=true)):g x t=0:=by
 have h1:=hg.nn x t;by_cases q2:0 < g x t
 .exact absurd (Qn9 h hg q2) q
 .omega
theorem QyE (h:ValidB b) (hg:Tru (QM b) g) {x t:Nat} (hx:x < 8) (ht:t < 8):g x t<=Qdt b t:=by
 have h1:=hg.col t ht;have h2:=Qfr (f:=λx=>g x t) (λj _=>hg.nn j t) hx;have h3:(QM b).need t=Q4 (QV b) t:=rfl;by_cases q:t < b.length
 .rw[QfM q]at h3;omega
 .rw[Qcv (by omega)]at h3
  have:0<=Qdt b t:=(Qhk h.ok t).1;omega
theorem Qsy (h:ValidB b) (hg:Tru (QM b) g) {t:Nat} (ht:t < b.length):BatOk t ((QeP b g C).getD t default):=by
 have bE:=h.ok.le;have hb:=h.ok.at ht;rw[QgK ht];by_cases hc:Qh1 b C t=true
 .rw[if_pos hc];have hl:QbV b t=true:=by unfold Qh1 at hc; rw[Za]at hc; exact hc.2
  have hn:Qdt b t=b[t].grams - b[t].fresh:=by unfold Qdt; rw[Qao ht]; unfold QbV at hl; rw[Qao ht]at hl; rw[if_pos hl]
  rw[Qao ht];refine⟨hb.name,hb.grams,hb.fresh,λq=>(by cases q),λk hk=>?_,λk hk=>?_,QAg (QoZ g t t),λ_=>?_⟩
  .obtain⟨x,h1,h2,rfl⟩:=Qg3.1 hk;simp only; omega
  .obtain⟨x,h1,h2,rfl⟩:=Qg3.1 hk;have:=QyE h hg (by omega:x < 8) (by omega:t < 8)
   have:=(Qhk h.ok t).2;simp only; omega
  .show b[t].fresh+QaR (Qrs g t t)=b[t].grams;rw[QsV hg.nn];have h1:=hg.col t (by omega)
   rw[Qd5 (n:=t) (λi hi=>Qes h hg (by omega)) 8 (by omega)]at h1
   rw[h1];show b[t].fresh+Q4 (QV b) t=_;rw[QfM ht,hn]; omega
 .rw[if_neg hc,Qao ht]; exact hb
theorem Qmd (b:List Bat) (g:Nat->Nat->Int) (C:Nat->Bool):(QeP b g C).map (·.name)=b.map (·.name):=by
 refine List.ext_getElem (by simp[Qbw]) λt h1 h2=>?_
 have ht:t < b.length:=by simpa using h2
 rw[List.getElem_map,List.getElem_map,<-Ql _ _ default (by rw[Qbw]; exact ht),QgK ht]
 split
 .rw[Qao ht]
 .rw[Qao ht]
theorem QlU {t:Nat} (ht:t < b.length):((QeP b g C).getD t default).grams=(b.getD t default).grams/\((QeP b g C).getD t default).fresh=(b.getD t default).fresh:=by
 rw[QgK ht];split<;>exact⟨rfl,rfl⟩
theorem QoG (h:ValidB b) (hg:Tru (QM b) g):BookOk (QeP b g C):=by
 refine⟨by rw[Qbw]; exact h.ok.le,by rw[Qbw]; exact h.ok.pos,λt ht=>?_⟩
 have uX:t < b.length:=by rw[Qbw]at ht; exact ht
 refine QA0 ?_ ?_
 .have:=Qsy (C:=C) h hg uX
  rwa [Ql _ _ _ ht]at this
 .rw[QCh _ b (Qmd b g C)];have e:(QeP b g C)[t].name=b[t].name:=by
   have h1:=congrArg (λl=>l[t]?) (Qmd b g C);simpa[ht,uX]using h1
  rw[e];exact QAf h.ok uX
theorem Qvx (j:Nat):Qgu [] j=0:=rfl
theorem QpM (h:ValidB b) (hg:Tru (QM b) g) {j:Nat} (hj:j < b.length):Qba (QeP b g C) j=Qba b j - QK 8 (λt=>if Qh1 b C t=true then g j t else 0):=by
 have bE:=h.ok.le;unfold Qba;rw[(QlU hj).1,Qtj (λx:Bat=>Qgu x.takes j) (QeP b g C) default,Qtj (λx:Bat=>Qgu x.takes j) b default,Qbw];have e1:QK b.length (λt=>Qgu ((QeP b g C).getD t default).takes j)=QK b.length (λt=>Qgu (b.getD t default).takes j+if Qh1 b C t=true then g j t else 0):=by
  refine QB λt ht=>?_;rw[QgK ht];by_cases hc:Qh1 b C t=true
  .rw[if_pos hc,if_pos hc];have hl:QbV b t=true:=by unfold Qh1 at hc; rw[Za]at hc; exact hc.2
   unfold QbV at hl;rw[Qao ht]at hl|-;rw[(h.ok.at ht).lost hl,Qvx,Qyb hg.nn];by_cases q:j < t
   .rw[if_pos q]; omega
   .rw[if_neg q,Qes h hg (by omega)]; rfl
  .rw[if_neg hc,if_neg hc]; omega
 rw[e1,Qax,Qd5 (n:=b.length) (f:=λt=>if Qh1 b C t=true then g j t else 0) (λi hi=>by
  split
  .exact Qes h hg (by omega)
  .rfl) 8 bE]
 omega
theorem QuN {t:Nat} (ht:t < b.length):Qdt (QeP b g C) t=if Qh1 b C t=true then 0 else Qdt b t:=by
 unfold Qdt;rw[QgK ht];by_cases hc:Qh1 b C t=true
 .rw[if_pos hc,if_pos hc]; rfl
 .rw[if_neg hc,if_neg hc]
theorem QpE (t:Nat):QbV (QeP b g C) t=(QbV b t&&!C t):=by
 by_cases ht:t < b.length
 .show((QeP b g C).getD t default).lost=_;rw[QgK ht];unfold Qh1;cases hc:C t with
  | false=>simp; rfl
  | true=>
   cases hl:QbV b t with
   | true=>simp
   | false=>
    simp only[Bool.and_false,Bool.false_eq_true,if_false,Bool.not_true];exact hl
 .unfold QbV;rw[Qau (by rw[Qbw]; omega),Qau (by omega)]; rfl
theorem Qr3 (h:ValidB b) (hg:Tru (QM b) g) (x t:Nat):Qk7 (QeP b g C) x t=true↔Qk7 b x t=true\/(Qh1 b C t=true/\0 < g x t):=by
 by_cases ht:t < b.length
 .unfold Qk7;rw[QgK ht];by_cases hc:Qh1 b C t=true
  .rw[if_pos hc];have hl:QbV b t=true:=by unfold Qh1 at hc; rw[Za]at hc; exact hc.2
   unfold QbV at hl;rw[Qao ht]at hl|-;rw[QBA,(h.ok.at ht).lost hl];simp only[List.any_nil,Bool.false_eq_true,false_or,hc,true_and];constructor
   .exact λq=>q.2
   .exact λq=>⟨(Qn9 h hg q).1,q⟩
  .rw[if_neg hc];simp[hc]
 .unfold Qk7;rw[Qau (by rw[Qbw]; omega),Qau (by omega)]
  simp only[show(default:Bat).takes=[]from rfl,List.any_nil,Bool.false_eq_true,false_or,false_iff];rintro⟨_,q⟩;exact ht (Qn9 h hg q).2.1
theorem QsE (h:ValidB b) (hg:Tru (QM b) g) (x:Nat):(QM (QeP b g C)).has x=(QM b).has x - QK 8 (λt=>if Qh1 b C t=true then g x t else 0):=by
 show Qb2 (QV (QeP b g C)) x=Qb2 (QV b) x - _;by_cases hx:x < b.length
 .rw[Qfx (by rw[Qbw]; exact hx),Qfx hx,QpM h hg hx]
 .rw[QfJ (by rw[Qbw]; omega),QfJ (by omega),QB (g:=λ_=>0) λt _=>?_,Qaa]
  .rfl
  .split
   .exact Qes h hg (by omega)
   .rfl
theorem Qos (t:Nat):(QM (QeP b g C)).need t=if Qh1 b C t=true then 0 else(QM b).need t:=by
 show Q4 (QV (QeP b g C)) t=if _ then _ else Q4 (QV b) t;by_cases ht:t < b.length
 .rw[QfM (by rw[Qbw]; exact ht),QfM ht,QuN ht]
 .rw[Qcv (by rw[Qbw]; omega),Qcv (by omega)]
  split<;>rfl
theorem Qsh (hg:Tru (QM b) g) (x:Nat):QK 8 (λt=>if Qh1 b C t=true then g x t else 0)+QK 8 (λt=>if Qh1 b C t=true then 0 else g x t)=QK 8 (g x):=by
 rw[<-Qax];refine QB λt _=>?_;split<;>omega
theorem Qur (h:ValidB b) (hg:Tru (QM b) g):ValidB (QeP b g C):=by
 have hP:=Qd4 h;have hB:=QoG (C:=C) h hg;have bE:=h.ok.le;have hh:∀x,0<=(QM (QeP b g C)).has x:=λx=>by
  rw[QsE h hg];have h1:=Qsh (C:=C) hg x;have h2:0<=QK 8 (λt=>if Qh1 b C t=true then 0 else g x t):=QaH λt _=>by
   have:=hg.nn x t;split<;>omega
  by_cases hx:x < 8
  .have:=hg.row x hx; omega
  .have h3:QK 8 (λt=>if Qh1 b C t=true then g x t else 0)=0:=by
    rw[QB (g:=λ_=>0) λt _=>?_,Qaa];split
    .exact Qes h hg (by omega)
    .rfl
   have:=hP.has x; omega
 have hn:∀t,0<=(QM (QeP b g C)).need t:=λt=>by
  rw[Qos];have:=hP.need t;split<;>omega
 refine⟨hB,?_,λj hj=>?_,?_⟩
 .have h3:=h.lost;have h4:(Qae (QeP b g C)).length<=(Qae b).length:=by
   unfold Qae QS;rw[List.length_map,List.length_map,Qbw];refine Qom (λt ht=>?_) _;have:QbV (QeP b g C) t=true:=ht;rw[QpE,Za]at this;exact this.1
  omega
 .rw[Qbw]at hj;have:=hh j;have e:(QM (QeP b g C)).has j=Qba (QeP b g C) j:=Qfx (by rw[Qbw]; exact hj)
  rw[e]at this; exact this
 .rw[QdA (QeU hB)];refine⟨λx=>⟨hh x,hn x⟩,?_⟩;have hF:Flow noN (QM (QeP b g C)).has (QM (QeP b g C)).need (λx t=>if Qh1 b C t=true then 0 else g x t):=by
   refine⟨λx t=>?_,λx t q=>?_,λx hx=>?_,λt ht=>?_⟩
   .have:=hg.nn x t;show 0<=if Qh1 b C t=true then 0 else g x t;split<;>omega
   .have q:0 < if Qh1 b C t=true then 0 else g x t:=q;split at q
    .omega
    .exact hg.sup x t q
   .rw[QsE h hg];have h1:=Qsh (C:=C) hg x;have h2:=hg.row x hx;omega
   .rw[Qos];by_cases hc:Qh1 b C t=true
    .rw[if_pos hc,QB (g:=λ_=>0) λx _=>if_pos hc,Qaa]
    .rw[if_neg hc,QB (g:=λx=>g x t) λx _=>if_neg hc];exact hg.col t ht
  exact QhN hh hF
end
theorem QxM {b:List Bat} (h:ValidB b) {g:Nat->Nat->Int} (hg:Tru (QM b) g) {i:Nat} (hi:i < b.length):(QbH b i).lo<=QnS (QM b) g i/\QnS (QM b) g i<=(QbH b i).hi:=by
 have bE:=h.ok.le;have hP:=Qd4 h;have e:(QM b).has i=Qba b i:=Qfx hi;obtain⟨h1,h2⟩:=QmE hg (by omega:i < 8)
 have h3:=QyF hP hg (by omega:i < 8)
 unfold QbH QnS;rw[e]at h1|-;constructor
 .show _ - min _ _<=_;omega
 .show _<=Qba b i - QqH (QM b) i;omega
theorem QkE {b:List Bat} (h:ValidB b) {i:Nat} (hi:i < b.length):(∃g,Tru (QM b) g/\QnS (QM b) g i=(QbH b i).lo)/\∃g,Tru (QM b) g/\QnS (QM b) g i=(QbH b i).hi:=by
 have bE:=h.ok.le;have hP:=Qd4 h;have e:(QM b).has i=Qba b i:=Qfx hi;obtain⟨g,hg,hgl⟩:=QBK hP (by omega:i < 8) (Qjm h)
 obtain⟨g',k8,hgl'⟩:=QpK hP (by omega:i < 8) (min ((QM b).has i) (Qgy (QM b) i) - QK 8 (g i)).toNat g hg (by omega)
 refine⟨⟨g',k8,?_⟩,g,hg,?_⟩
 .unfold QbH QnS;rw[hgl',e]
 .unfold QbH QnS;rw[hgl,e]
theorem Qsn {b:List Bat} (h:ValidB b):∃g,Tru (QM b) g:=by
 obtain⟨⟨g,hg,_⟩,_⟩:=QkE h (show 0 < b.length from h.ok.pos);exact⟨g,hg⟩
theorem QI7 {P:Prb} (hP:PrbOk P) {g:Nat->Nat->Int} (hg:Tru P g) {i k:Nat} (h:Rch (Qew P g) i k):i<=k:=by
 induction h with
 | self=>exact Zr _
 | step _ e ih=>have:=(Qnj hP hg e).1; omega
theorem QBg {b:List Bat} (h:ValidB b) {i k:Nat} (hm:QwN (QM b) i k):QIo (QM b) i k:=by
 obtain⟨g,hg⟩:=Qsn h;exact⟨g,hg,hm g hg⟩
theorem Qyf {b:List Bat} (h:ValidB b) {i k:Nat} (hm:QIo (QM b) i k):i<=k:=by
 obtain⟨g,hg,hr⟩:=hm;exact QI7 (Qd4 h) hg hr
theorem Qza {b:List Bat} (h:ValidB b) {g:Nat->Nat->Int} (hg:Tru (QM b) g) {i k:Nat} (hk:k < b.length):Qam (QdY b g) i [] b.length k=true↔Rch (Qew (QM b) g) i k:=by
 rw[<-Qny];have hB:=QoG (C:=λ_=>true) h hg;have hE:EdgOk (QeP b g λ_=>true) []:=by
  refine⟨λt q hq=>?_,λe he=>by cases he⟩
  by_cases ht:t < (QeP b g λ_=>true).length
  .rw[Qao ht]at hq;exact(hB.at ht).fr q hq
  .rw[Qau (by omega)]at hq
   cases hq
 rw[Qkw hE hk];have key:∀x t,Qmu (QeP b g λ_=>true) [] x t↔Qew (QM b) g x t:=λx t=>by
  unfold Qmu Qew;rw[Qr3 h hg];show(Qk7 b x t=true\/_)\/_↔Qk7 b x t=true\/0 < g x t;constructor
  .rintro((q | ⟨_,q⟩) | q)
   .exact .inl q
   .exact .inr q
   .cases q
  .rintro(q | q)
   .exact .inl (.inl q)
   .exact .inl (.inr ⟨by unfold Qh1; rw[(Qn9 h hg q).2.2]; rfl,q⟩)
 exact⟨Qex λx t=>(key x t).1,Qex λx t=>(key x t).2⟩
theorem Qje {b:List Bat} (h:ValidB b) {g:Nat->Nat->Int} (hg:Tru (QM b) g) {i:Nat} (hi:i < b.length):Qba (QdY b g) i=QnS (QM b) g i:=by
 rw[<-Qny,QpM h hg hi];unfold QnS;rw[show(QM b).has i=Qba b i from Qfx hi];congr 1;refine QB λt _=>?_;by_cases q:Qh1 b (λ_=>true) t=true
 .rw[if_pos q]
 .rw[if_neg q];refine(Qes h hg λhq=>q ?_).symm;unfold Qh1; rw[hq.2.2]; rfl
theorem QhJ {b:List Bat} (h:ValidB b) {g:Nat->Nat->Int} (hg:Tru (QM b) g):ValidB (QdY b g):=by
 rw[<-Qny]; exact Qur h hg
end Go.Proofs.YticoemblgkemiaaGreatDoor
