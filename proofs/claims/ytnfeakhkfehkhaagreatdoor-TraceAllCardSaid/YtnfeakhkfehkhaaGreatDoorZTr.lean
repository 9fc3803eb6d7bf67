/-
  A truth of a book, as the law draws it: how much one takes of another one, at least and at most, and the book with all cards. Plain; no program here. Conditions: none.
-/
import Derived.Test.YtnfeakhkfehkhaaGreatDoorZMyp
set_option linter.unusedSimpArgs false
set_option linter.unusedVariables false
namespace Go.Proofs.YtnfeakhkfehkhaaGreatDoor
def QuK (p:Pro) (s n:Nat):Int:=QY n λk=>if QeB s k=true then QaM p k else 0
def Qwf (p:Pro) (f t s i k:Nat):Bool:=decide (i < k)&&(QeB s k&&(decide (0 < QaM p k)&&(!nvP p i k&&!(decide (i=f)&&decide (k=t)))))
def Qpq (p:Pro) (f t s i:Nat):Bool:=(List.range p.needs.length).any (Qwf p f t s i)
def Qze (p:Pro) (f t s n:Nat):Int:=QY n λi=>if Qpq p f t s i=true then Qem p i else 0
def QA8 (p:Pro) (f t s:Nat) (r:Int×Int):Int×Int:=
 (if QeB s t=true/\Qpq p f t s f=false then max r.1 (QuK p s p.needs.length - Qze p f t s p.has.length)else r.1,
  if QeB s t=false/\Qpq p f t s f=true then min r.2 (Qze p f t s p.has.length - QuK p s p.needs.length)else r.2)
def QLz (p:Pro) (f t:Nat):Nat->Int×Int
 | 0=>(0,min (Qem p f) (QaM p t))
 | k+1=>QA8 p f t (k+1) (QLz p f t k)
def QxQ (p:Pro) (f t:Nat):Int×Int:=QLz p f t (2 ^ p.needs.length - 1)
structure PLen (p:Pro) (n:Nat):Prop where
 h:p.has.length=n
 m:p.needs.length=n
 le:n<=8
structure BndOk (p:Pro) (f t:Nat):Prop where
 nn:0<=(QxQ p f t).1
 le:(QxQ p f t).1<=(QxQ p f t).2
 has:(QxQ p f t).2<=Qem p f
 need:(QxQ p f t).2<=QaM p t
 hall:∀n,(QxQ p f t).1<=n->n<=(QxQ p f t).2->Qpf (nvM (nvP p) f t) (Q2 (Qem p) f (Qem p f - n)) (Q2 (QaM p) t (QaM p t - n))
def QLN (y:List Int) (n:Nat):Int:=if y.length=0 then 0 else y.getD (n % y.length) 0
def QMV (p:Pro) (y:List Int) (u f t:Nat):Int:=if(QxQ p f t).1 < (QxQ p f t).2 then(QxQ p f t).1+(QLN y u).tmod ((QxQ p f t).2 - (QxQ p f t).1+1)else(QxQ p f t).1
structure FS where
 p:Pro
 L:List Tak
 u:Nat
def QLo (y:List Int) (t:Nat) (p:Pro) (u:Nat):Nat->FS
 | 0=>⟨p,[],u⟩
 | f+1=>
  let s:=QLo y t p u f
  let n:=QMV s.p y s.u f t
  if 0 < n then⟨⟨s.p.has.set f (Qem s.p f - n),s.p.needs.set t (QaM s.p t - n),s.p.never++[⟨(f:Nat),(t:Nat)⟩]⟩,s.L++[⟨(f:Nat),n⟩],s.u+1⟩
  else⟨⟨s.p.has,s.p.needs,s.p.never++[⟨(f:Nat),(t:Nat)⟩]⟩,s.L,s.u+1⟩
structure FB where
 p:Pro
 out:List Bat
 u:Nat
def QLn (b:List Bat) (y:List Int):Nat->FB
 | 0=>⟨Qac b,[],0⟩
 | t+1=>
  let s:=QLn b y t
  let x:=b.getD t default
  if x.lost=true then
   let r:=QLo y t s.p s.u t
   ⟨r.p,s.out++[{ x with lost:=false,takes:=r.L}],r.u⟩
  else⟨s.p,s.out++[x],s.u⟩
def QMf (g:Nat->Nat->Int) (t n:Nat):List Tak:=(List.range n).filterMap λx=>if 0 < g x t then some ⟨(x:Nat),g x t⟩else none
def QM2 (b:List Bat) (g:Nat->Nat->Int) (t:Nat):Bat:=if(b.getD t default).lost=true then { b.getD t default with lost:=false,takes:=QMf g t t} else b.getD t default
def QLx (b:List Bat) (g:Nat->Nat->Int):List Bat:=(List.range b.length).map (QM2 b g)
theorem QLr (g:Nat->Nat->Int) (t n:Nat):QMf g t (n+1)=QMf g t n++if 0 < g n t then [⟨(n:Nat),g n t⟩]else []:=by
 unfold QMf;rw[List.range_succ,List.filterMap_append];congr 1;by_cases h:0 < g n t
 .simp[h]
 .simp[h]
theorem QLQ {g g':Nat->Nat->Int} {t n:Nat} (h:∀x,x < n->g x t=g' x t):QMf g t n=QMf g' t n:=by
 induction n with
 | zero=>rfl
 | succ n ih=>rw[QLr,QLr,ih λx hx=>h x (by omega),h n (by omega)]
structure FI (P:Prb) (N:Nat) (p:Pro) (g:Nat->Nat->Int) (t f:Nat):Prop where
 len:PLen p N
 nn:∀x o,0<=g x o
 sup:∀x o,0 < g x o->x < o/\o < N/\P.lost o=true/\(o < t\/(o=t/\x < f))
 has:∀x,Qem p x=P.has x - QY 8 (g x)
 need:∀o,QaM p o=P.need o - QY 8 (λx=>g x o)
 h0:∀x,0<=Qem p x
 n0:∀o,0<=QaM p o
 hall:Qpf (nvP p) (Qem p) (QaM p)
 nv:∀x o,nvP p x o=true↔x < o/\((o < t/\P.lost o=true)\/(o=t/\x < f))
theorem Qus (h n:List Int) (l:List Edg) (f t:Nat) (h' n':List Int):nvP ⟨h',n',l++[⟨(f:Nat),(t:Nat)⟩]⟩=nvM (nvP ⟨h,n,l⟩) f t:=by
 funext x o;unfold nvP nvM;rw[List.any_append,List.any_cons,List.any_nil,Bool.or_false];congr 1;rw[Bool.eq_iff_iff];simp only[Za,beq_iff_eq,decide_eq_true_eq];omega
theorem Qp4 {l:List Int} {f:Nat} {z:Int} (h:f < l.length) (x:Nat):(l.set f z).getD x 0=if x=f then z else l.getD x 0:=by
 simp only[Zd,List.getElem?_set];by_cases e:x=f
 .subst e; simp[h]
 .rw[if_neg (λq=>e q.symm),if_neg e]
theorem FI.step {P:Prb} {N:Nat} {p:Pro} {g:Nat->Nat->Int} {t f:Nat} (I:FI P N p g t f) (ht:t < N) (hl:P.lost t=true) (hf:f < t) {n:Int} (hn:(QxQ p f t).1<=n/\n<=(QxQ p f t).2) (B:BndOk p f t):
  FI P N (if 0 < n then⟨p.has.set f (Qem p f - n),p.needs.set t (QaM p t - n),p.never++[⟨(f:Nat),(t:Nat)⟩]⟩else⟨p.has,p.needs,p.never++[⟨(f:Nat),(t:Nat)⟩]⟩) (QhG g f t n) t (f+1):=by
 have aX:=I.len.le;have m7:0<=n:=by have:=B.nn; omega
 have y7:g f t=0:=by
  have h1:=I.nn f t;by_cases q:0 < g f t
  .have:=I.sup f t q; omega
  .omega
 have key:∀q:Pro,Qem q=Q2 (Qem p) f (Qem p f - n)->QaM q=Q2 (QaM p) t (QaM p t - n)->nvP q=nvM (nvP p) f t->PLen q N->FI P N q (QhG g f t n) t (f+1):=by
  intro q e1 e2 e3 e4;have eA:∀x,QY 8 (QhG g f t n x)=QY 8 (g x)+if x=f then n else 0:=λx=>by
   unfold QhG;by_cases q:x=f
   .subst q;rw[if_pos rfl,if_pos rfl,Qfu _ _ (by omega),y7]; omega
   .rw[if_neg q,if_neg q]; omega
  have hcol:∀o,QY 8 (λx=>QhG g f t n x o)=QY 8 (λx=>g x o)+if o=t then n else 0:=λo=>by
   by_cases q:o=t
   .subst q;have:(λx=>QhG g f o n x o)=Q2 (λx=>g x o) f n:=by
     funext x;unfold QhG Q2;by_cases q:x=f
     .subst q; simp
     .simp[q]
    rw[this,Qfu _ _ (by omega),y7,if_pos rfl]; omega
   .rw[if_neg q];have:(λx=>QhG g f t n x o)=λx=>g x o:=by
     funext x;unfold QhG Q2;by_cases q':x=f
     .subst q'; simp[q]
     .simp[q']
    rw[this]; omega
  refine⟨e4,λx o=>?_,λx o ho=>?_,λx=>?_,λo=>?_,λx=>?_,λo=>?_,?_,λx o=>?_⟩
  .unfold QhG Q2;by_cases q1:x=f
   .rw[if_pos q1];show 0<=if o=t then n else g x o;split
    .exact m7
    .exact I.nn _ _
   .rw[if_neg q1]; exact I.nn _ _
  .unfold QhG Q2 at ho;by_cases q1:x=f
   .rw[if_pos q1]at ho;by_cases q2:o=t
    .subst q1; subst q2;exact⟨hf,ht,hl,.inr ⟨rfl,by omega⟩⟩
    .rw[if_neg q2]at ho;have:=I.sup x o ho;exact⟨this.1,this.2.1,this.2.2.1,by have:=this.2.2.2; omega⟩
   .rw[if_neg q1]at ho;have:=I.sup x o ho;exact⟨this.1,this.2.1,this.2.2.1,by have:=this.2.2.2; omega⟩
  .rw[e1,eA];unfold Q2;by_cases q:x=f
   .subst q; rw[if_pos rfl,if_pos rfl,I.has]; omega
   .rw[if_neg q,if_neg q,I.has]; omega
  .rw[e2,hcol];unfold Q2;by_cases q:o=t
   .subst q; rw[if_pos rfl,if_pos rfl,I.need]; omega
   .rw[if_neg q,if_neg q,I.need]; omega
  .rw[e1];unfold Q2;split
   .have:=B.has; omega
   .exact I.h0 x
  .rw[e2];unfold Q2;split
   .have:=B.need; omega
   .exact I.n0 o
  .rw[e1,e2,e3]; exact B.hall n hn.1 hn.2
  .rw[e3];unfold nvM;rw[Bool.or_eq_true,I.nv,Za,decide_eq_true_eq,decide_eq_true_eq];by_cases q:P.lost o=true
   .simp only[q,and_true]; omega
   .have q':(P.lost o=true)=False:=eq_false q;simp only[q',and_false,false_or]; omega
 by_cases q:0 < n
 .rw[if_pos q];refine key _ ?_ ?_ ?_ ⟨by simp[I.len.h],by simp[I.len.m],aX⟩
  .funext x;exact Qp4 (by rw[I.len.h]; omega) x
  .funext x;exact Qp4 (by rw[I.len.m]; omega) x
  .exact Qus p.has p.needs p.never f t _ _
 .rw[if_neg q];have e0:n=0:=by omega
  refine key _ ?_ ?_ ?_ ⟨I.len.h,I.len.m,aX⟩
  .funext x;unfold Q2;split
   .rename_i e; subst e; rw[e0]; show Qem p x=_; omega
   .rfl
  .funext x;unfold Q2;split
   .rename_i e; subst e; rw[e0]; show QaM p x=_; omega
   .rfl
  .exact Qus p.has p.needs p.never f t _ _
theorem FI.next {P:Prb} {N:Nat} {p:Pro} {g:Nat->Nat->Int} {t:Nat} (I:FI P N p g t t) (hl:P.lost t=true):FI P N p g (t+1) 0:=by
 refine⟨I.len,I.nn,λx o h=>?_,I.has,I.need,I.h0,I.n0,I.hall,λx o=>?_⟩
 .have:=I.sup x o h;exact⟨this.1,this.2.1,this.2.2.1,.inl (by have:=this.2.2.2; omega)⟩
 .rw[I.nv];constructor
  .rintro⟨h1,⟨h2,h3⟩ | ⟨h2,h3⟩⟩
   .exact⟨h1,.inl ⟨by omega,h3⟩⟩
   .exact⟨h1,.inl ⟨by omega,by rw[h2]; exact hl⟩⟩
  .rintro⟨h1,⟨h2,h3⟩ | ⟨h2,h3⟩⟩
   .by_cases q:o=t
    .exact⟨h1,.inr ⟨q,by omega⟩⟩
    .exact⟨h1,.inl ⟨by omega,h3⟩⟩
   .omega
theorem FI.skip {P:Prb} {N:Nat} {p:Pro} {g:Nat->Nat->Int} {t:Nat} (I:FI P N p g t 0) (hl:P.lost t=false):FI P N p g (t+1) 0:=by
 refine⟨I.len,I.nn,λx o h=>?_,I.has,I.need,I.h0,I.n0,I.hall,λx o=>?_⟩
 .have:=I.sup x o h;exact⟨this.1,this.2.1,this.2.2.1,.inl (by have:=this.2.2.2; omega)⟩
 .rw[I.nv];constructor
  .rintro⟨h1,⟨h2,h3⟩ | ⟨h2,h3⟩⟩
   .exact⟨h1,.inl ⟨by omega,h3⟩⟩
   .omega
  .rintro⟨h1,⟨h2,h3⟩ | ⟨h2,h3⟩⟩
   .by_cases q:o=t
    .rw[q,hl]at h3; cases h3
    .exact⟨h1,.inl ⟨by omega,h3⟩⟩
   .omega
theorem QNd {b:List Bat} {i:Nat} {x:Bat} (h:BatOk i x) (hd:(b.take i).any (λy=>y.name.toList==x.name.toList)=false):Qol b i x=0:=by
 unfold Qol;rw[h.name,if_neg (by simp),hd,if_neg (by simp)]
 rw[if_neg (by rw[Qau.2 h.grams,Qau.2 h.fresh]; simp)]
 rw[if_neg (by
  rintro⟨h1,h2⟩;rw[h.lost h1]at h2; simp at h2)]
 have e1:x.takes.any (λt=>!inR t.fr 0 ((i:Int) - 1))=false:=by
  rw[List.any_eq_false];intro t ht;have:=h.fr t ht;rw[Qau.2 (show 0<=t.fr/\t.fr<=(i:Int) - 1 by omega)]; simp
 have e2:x.takes.any (λt=>!inR t.gr 1 100000)=false:=by
  rw[List.any_eq_false];intro t ht;rw[Qau.2 (h.gr t ht)]; simp
 rw[e1,if_neg (by simp),h.asc,if_neg (by simp),e2,if_neg (by simp),if_neg]
 rintro⟨h1,h2⟩;exact h2 (h.sum h1)
theorem QNa {b:List Bat} (h:BookOk b) {i:Nat} (hi:i < b.length):(b.take i).any (λy=>y.name.toList==b[i].name.toList)=false:=by
 have h0:=h.bat i hi;unfold Qol at h0;split at h0
 .omega
 split at h0
 .omega
 rename_i e;simpa using e
theorem QM9 (l l':List Bat) (h:l.map (·.name)=l'.map (·.name)) (i:Nat) (s:ByteArray):(l.take i).any (λy=>y.name.toList==s.toList)=(l'.take i).any (λy=>y.name.toList==s.toList):=by
 have key:∀q:List Bat,(q.take i).any (λy=>y.name.toList==s.toList)=((q.map (·.name)).take i).any (λy=>y.toList==s.toList):=λq=>by
  rw[<-List.map_take,List.any_map]; rfl
 rw[key,key,h]
theorem QNf {l:List Tak} (h:l.Pairwise λa c=>a.fr < c.fr):QpK l=true:=by
 unfold QpK;rw[decide_eq_true_eq];intro k hk h0;rw[Qj _ _ _ hk,Qj _ _ _ (by omega)]
 exact List.pairwise_iff_getElem.1 h (k - 1) k (by omega) hk (by omega)
theorem QLA {g:Nat->Nat->Int} {t n:Nat} {k:Tak} :k∈QMf g t n↔∃x,x < n/\0 < g x t/\k=⟨(x:Nat),g x t⟩:=by
 unfold QMf;rw[List.mem_filterMap];constructor
 .rintro⟨x,h1,h2⟩;split at h2
  .rename_i h3;exact⟨x,Zm.1 h1,h3,(Option.some.inj h2).symm⟩
  .cases h2
 .rintro⟨x,h1,h2,rfl⟩;exact⟨x,Zm.2 h1,by rw[if_pos h2]⟩
theorem QL2 (g:Nat->Nat->Int) (t:Nat):∀n,(QMf g t n).Pairwise λa c=>a.fr < c.fr
 | 0=>List.Pairwise.nil
 | n+1=>by
  rw[QLr,List.pairwise_append];refine⟨QL2 g t n,?_,λa ha c hc=>?_⟩
  .split
   .exact List.pairwise_singleton _ _
   .exact List.Pairwise.nil
  .obtain⟨x,h1,_,rfl⟩:=QLA.1 ha;split at hc
   .rw[List.mem_singleton]at hc; subst hc;simp only; omega
   .cases hc
theorem QMr {g:Nat->Nat->Int} (hg:∀x t,0<=g x t) (t:Nat):∀n,QaS (QMf g t n)=QY n (λx=>g x t)
 | 0=>rfl
 | n+1=>by
  have ih:=QMr hg t n;have h0:=hg n t;unfold QaS at ih|-;rw[QLr,List.map_append,List.sum_append,ih,QY];split
  .simp
  .rename_i h;simp; omega
theorem QMK {g:Nat->Nat->Int} (hg:∀x t,0<=g x t) (t j:Nat):∀n,Qlt (QMf g t n) j=if j < n then g j t else 0
 | 0=>rfl
 | n+1=>by
  have ih:=QMK hg t j n;have h0:=hg n t;unfold Qlt at ih|-;rw[QLr,List.filter_append,List.map_append,List.sum_append,ih];by_cases e:n=j
  .subst e;rw[if_neg (Nat.lt_irrefl n),if_pos (Nat.lt_succ_self n)];split
   .simp
   .rename_i h;simp; omega
  .have e2:¬(n:Int)=(j:Int):=by omega
   have e3:((if 0 < g n t then([⟨(n:Nat),g n t⟩]:List Tak)else []).filter λt=>t.fr==(j:Int))=[]:=by
    split
    .simp[e2]
    .rfl
   rw[e3];by_cases q:j < n
   .rw[if_pos q,if_pos (by omega)]; simp
   .rw[if_neg q,if_neg (by omega)]; simp
theorem QM6 {g:Nat->Nat->Int} {t n x:Nat} :(QMf g t n).any (λk=>k.fr==(x:Int))=true↔x < n/\0 < g x t:=by
 rw[Zy];constructor
 .rintro⟨k,h1,h2⟩;obtain⟨y,h3,h4,rfl⟩:=QLA.1 h1;have:y=x:=by simp only[beq_iff_eq]at h2; omega
  subst this;exact⟨h3,h4⟩
 .rintro⟨h1,h2⟩;exact⟨_,QLA.2 ⟨x,h1,h2,rfl⟩,by simp⟩
theorem QLZ {α:Type} (f:α->Int) (l:List α) (d:α):(l.map f).sum=QY l.length λt=>f (l.getD t d):=by
 have key:∀k,k<=l.length->((l.take k).map f).sum=QY k λt=>f (l.getD t d):=by
  intro k
  induction k with
  | zero=>intro _; simp[QY]
  | succ k ih=>
   intro hk;rw[List.take_succ_eq_append_getElem (by omega),List.map_append,List.sum_append,ih (by omega),QY,Qj l k d (by omega)]
   simp
 have:=key l.length (Zr _)
 rwa [List.take_length]at this
theorem QL6 {α:Type} {p q:α->Bool} (h:∀a,p a=true->q a=true):∀l:List α,(l.filter p).length<=(l.filter q).length
 | []=>Zr _
 | a::t=>by
  have ih:=QL6 h t;rw[List.filter_cons,List.filter_cons];cases hp:p a with
  | true=>rw[h a hp]; simpa using ih
  | false=>
   cases q a with
   | true=>simp; omega
   | false=>simpa using ih
def QLs (b:List Bat) (g:Nat->Nat->Int) (C:Nat->Bool):List Bat:=(List.range b.length).map λt=>if C t=true then QM2 b g t else b.getD t default
theorem QLI (b:List Bat) (g:Nat->Nat->Int):QLs b g (λ_=>true)=QLx b g:=by
 unfold QLs QLx;exact List.map_congr_left λt _=>if_pos rfl
theorem QLi (b:List Bat) (g:Nat->Nat->Int) (C:Nat->Bool):(QLs b g C).length=b.length:=by simp[QLs]
theorem QNz {b:List Bat} {g:Nat->Nat->Int} {C:Nat->Bool} {t:Nat} (h:t < b.length):(QLs b g C).getD t default=if C t=true then QM2 b g t else b.getD t default:=by
 unfold QLs;rw[Zd,List.getElem?_map,List.getElem?_range h]; rfl
def QLC (b:List Bat) (C:Nat->Bool) (t:Nat):Bool:=C t&&Qfv b t
theorem QLy {b:List Bat} {g:Nat->Nat->Int} {C:Nat->Bool} {t:Nat} (h:t < b.length):(QLs b g C).getD t default=if QLC b C t=true then { b.getD t default with lost:=false,takes:=QMf g t t} else b.getD t default:=by
 rw[QNz h];unfold QLC QM2 Qfv;cases C t with
 | false=>simp
 | true=>simp
section
variable {b:List Bat} {g:Nat->Nat->Int} {C:Nat->Bool}
theorem QL0 (h:ValidB b) (hg:Tru (Qaa b) g) {x t:Nat} (q:0 < g x t):x < t/\t < b.length/\Qfv b t=true:=by
 have hl:=(Qg0 h).lostn t (QqP hg q);exact⟨(hg.sup x t q).1.1,Qix hl,hl⟩
theorem QLp (h:ValidB b) (hg:Tru (Qaa b) g) {x t:Nat} (q:¬(x < t/\t < b.length/\Qfv b t=true)):g x t=0:=by
 have h1:=hg.nn x t;by_cases q2:0 < g x t
 .exact absurd (QL0 h hg q2) q
 .omega
theorem QM1 (h:ValidB b) (hg:Tru (Qaa b) g) {x t:Nat} (hx:x < 8) (ht:t < 8):g x t<=QfA b t:=by
 have h1:=hg.col t ht;have h2:=QfL (f:=λx=>g x t) (λj _=>hg.nn j t) hx;have h3:(Qaa b).need t=QaM (Qac b) t:=rfl;by_cases q:t < b.length
 .rw[QoH q]at h3;omega
 .rw[QdW (by omega)]at h3
  have:0<=QfA b t:=(QqM h.ok t).1;omega
theorem QNc (h:ValidB b) (hg:Tru (Qaa b) g) {t:Nat} (ht:t < b.length):BatOk t ((QLs b g C).getD t default):=by
 have aX:=h.ok.le;have hb:=h.ok.at ht;rw[QLy ht];by_cases hc:QLC b C t=true
 .rw[if_pos hc];have hl:Qfv b t=true:=by unfold QLC at hc; rw[Za]at hc; exact hc.2
  have hn:QfA b t=b[t].grams - b[t].fresh:=by unfold QfA; rw[Qbf ht]; unfold Qfv at hl; rw[Qbf ht]at hl; rw[if_pos hl]
  rw[Qbf ht];refine⟨hb.name,hb.grams,hb.fresh,λq=>(by cases q),λk hk=>?_,λk hk=>?_,QNf (QL2 g t t),λ_=>?_⟩
  .obtain⟨x,h1,h2,rfl⟩:=QLA.1 hk;simp only; omega
  .obtain⟨x,h1,h2,rfl⟩:=QLA.1 hk;have:=QM1 h hg (by omega:x < 8) (by omega:t < 8)
   have:=(QqM h.ok t).2;simp only; omega
  .show b[t].fresh+QaS (QMf g t t)=b[t].grams;rw[QMr hg.nn];have h1:=hg.col t (by omega)
   rw[Qlq (n:=t) (λi hi=>QLp h hg (by omega)) 8 (by omega)]at h1
   rw[h1];show b[t].fresh+QaM (Qac b) t=_;rw[QoH ht,hn]; omega
 .rw[if_neg hc,Qbf ht]; exact hb
theorem QLR (b:List Bat) (g:Nat->Nat->Int) (C:Nat->Bool):(QLs b g C).map (·.name)=b.map (·.name):=by
 refine List.ext_getElem (by simp[QLi]) λt h1 h2=>?_
 have ht:t < b.length:=by simpa using h2
 rw[List.getElem_map,List.getElem_map,<-Qj _ _ default (by rw[QLi]; exact ht),QLy ht]
 split
 .rw[Qbf ht]
 .rw[Qbf ht]
theorem QMB {t:Nat} (ht:t < b.length):((QLs b g C).getD t default).grams=(b.getD t default).grams/\((QLs b g C).getD t default).fresh=(b.getD t default).fresh:=by
 rw[QLy ht];split<;>exact⟨rfl,rfl⟩
theorem QL9 (h:ValidB b) (hg:Tru (Qaa b) g):BookOk (QLs b g C):=by
 refine⟨by rw[QLi]; exact h.ok.le,by rw[QLi]; exact h.ok.pos,λt ht=>?_⟩
 have uQ:t < b.length:=by rw[QLi]at ht; exact ht
 refine QNd ?_ ?_
 .have:=QNc (C:=C) h hg uQ
  rwa [Qj _ _ _ ht]at this
 .rw[QM9 _ b (QLR b g C)];have e:(QLs b g C)[t].name=b[t].name:=by
   have h1:=congrArg (λl=>l[t]?) (QLR b g C);simpa[ht,uQ]using h1
  rw[e];exact QNa h.ok uQ
theorem QMS (j:Nat):Qlt [] j=0:=rfl
theorem QMa (h:ValidB b) (hg:Tru (Qaa b) g) {j:Nat} (hj:j < b.length):QfE (QLs b g C) j=QfE b j - QY 8 (λt=>if QLC b C t=true then g j t else 0):=by
 have aX:=h.ok.le;unfold QfE;rw[(QMB hj).1,QLZ (λx:Bat=>Qlt x.takes j) (QLs b g C) default,QLZ (λx:Bat=>Qlt x.takes j) b default,QLi];have e1:QY b.length (λt=>Qlt ((QLs b g C).getD t default).takes j)=QY b.length (λt=>Qlt (b.getD t default).takes j+if QLC b C t=true then g j t else 0):=by
  refine Q0 λt ht=>?_;rw[QLy ht];by_cases hc:QLC b C t=true
  .rw[if_pos hc,if_pos hc];have hl:Qfv b t=true:=by unfold QLC at hc; rw[Za]at hc; exact hc.2
   unfold Qfv at hl;rw[Qbf ht]at hl|-;rw[(h.ok.at ht).lost hl,QMS,QMK hg.nn];by_cases q:j < t
   .rw[if_pos q]; omega
   .rw[if_neg q,QLp h hg (by omega)]; rfl
  .rw[if_neg hc,if_neg hc]; omega
 rw[e1,Qbs,Qlq (n:=b.length) (f:=λt=>if QLC b C t=true then g j t else 0) (λi hi=>by
  split
  .exact QLp h hg (by omega)
  .rfl) 8 aX]
 omega
theorem QME {t:Nat} (ht:t < b.length):QfA (QLs b g C) t=if QLC b C t=true then 0 else QfA b t:=by
 unfold QfA;rw[QLy ht];by_cases hc:QLC b C t=true
 .rw[if_pos hc,if_pos hc]; rfl
 .rw[if_neg hc,if_neg hc]
theorem QL4 (t:Nat):Qfv (QLs b g C) t=(Qfv b t&&!C t):=by
 by_cases ht:t < b.length
 .show((QLs b g C).getD t default).lost=_;rw[QLy ht];unfold QLC;cases hc:C t with
  | false=>simp; rfl
  | true=>
   cases hl:Qfv b t with
   | true=>simp
   | false=>
    simp only[Bool.and_false,Bool.false_eq_true,if_false,Bool.not_true];exact hl
 .unfold Qfv;rw[Qbc (by rw[QLi]; omega),Qbc (by omega)]; rfl
theorem QNh (h:ValidB b) (hg:Tru (Qaa b) g) (x t:Nat):QnV (QLs b g C) x t=true↔QnV b x t=true\/(QLC b C t=true/\0 < g x t):=by
 by_cases ht:t < b.length
 .unfold QnV;rw[QLy ht];by_cases hc:QLC b C t=true
  .rw[if_pos hc];have hl:Qfv b t=true:=by unfold QLC at hc; rw[Za]at hc; exact hc.2
   unfold Qfv at hl;rw[Qbf ht]at hl|-;rw[QM6,(h.ok.at ht).lost hl];simp only[List.any_nil,Bool.false_eq_true,false_or,hc,true_and];constructor
   .exact λq=>q.2
   .exact λq=>⟨(QL0 h hg q).1,q⟩
  .rw[if_neg hc];simp[hc]
 .unfold QnV;rw[Qbc (by rw[QLi]; omega),Qbc (by omega)]
  simp only[show(default:Bat).takes=[]from rfl,List.any_nil,Bool.false_eq_true,false_or,false_iff];rintro⟨_,q⟩;exact ht (QL0 h hg q).2.1
theorem QMs (h:ValidB b) (hg:Tru (Qaa b) g) (x:Nat):(Qaa (QLs b g C)).has x=(Qaa b).has x - QY 8 (λt=>if QLC b C t=true then g x t else 0):=by
 show Qem (Qac (QLs b g C)) x=Qem (Qac b) x - _;by_cases hx:x < b.length
 .rw[QmQ (by rw[QLi]; exact hx),QmQ hx,QMa h hg hx]
 .rw[QiF (by rw[QLi]; omega),QiF (by omega),Q0 (g:=λ_=>0) λt _=>?_,Qal]
  .rfl
  .split
   .exact QLp h hg (by omega)
   .rfl
theorem QL1 (t:Nat):(Qaa (QLs b g C)).need t=if QLC b C t=true then 0 else(Qaa b).need t:=by
 show QaM (Qac (QLs b g C)) t=if _ then _ else QaM (Qac b) t;by_cases ht:t < b.length
 .rw[QoH (by rw[QLi]; exact ht),QoH ht,QME ht]
 .rw[QdW (by rw[QLi]; omega),QdW (by omega)]
  split<;>rfl
theorem QMq (hg:Tru (Qaa b) g) (x:Nat):QY 8 (λt=>if QLC b C t=true then g x t else 0)+QY 8 (λt=>if QLC b C t=true then 0 else g x t)=QY 8 (g x):=by
 rw[<-Qbs];refine Q0 λt _=>?_;split<;>omega
theorem QMF (h:ValidB b) (hg:Tru (Qaa b) g):ValidB (QLs b g C):=by
 have hP:=Qg0 h;have hB:=QL9 (C:=C) h hg;have aX:=h.ok.le;have hh:∀x,0<=(Qaa (QLs b g C)).has x:=λx=>by
  rw[QMs h hg];have h1:=QMq (C:=C) hg x;have h2:0<=QY 8 (λt=>if QLC b C t=true then 0 else g x t):=Qa2 λt _=>by
   have:=hg.nn x t;split<;>omega
  by_cases hx:x < 8
  .have:=hg.row x hx; omega
  .have h3:QY 8 (λt=>if QLC b C t=true then g x t else 0)=0:=by
    rw[Q0 (g:=λ_=>0) λt _=>?_,Qal];split
    .exact QLp h hg (by omega)
    .rfl
   have:=hP.has x; omega
 have hn:∀t,0<=(Qaa (QLs b g C)).need t:=λt=>by
  rw[QL1];have:=hP.need t;split<;>omega
 refine⟨hB,?_,λj hj=>?_,?_⟩
 .have h3:=h.lost;have h4:(QU (QLs b g C)).length<=(QU b).length:=by
   unfold QU Qq;rw[List.length_map,List.length_map,QLi];refine QL6 (λt ht=>?_) _;have:Qfv (QLs b g C) t=true:=ht;rw[QL4,Za]at this;exact this.1
  omega
 .rw[QLi]at hj;have:=hh j;have e:(Qaa (QLs b g C)).has j=QfE (QLs b g C) j:=QmQ (by rw[QLi]; exact hj)
  rw[e]at this; exact this
 .rw[QdK (Qe2 hB)];refine⟨λx=>⟨hh x,hn x⟩,?_⟩;have hF:Flow noN (Qaa (QLs b g C)).has (Qaa (QLs b g C)).need (λx t=>if QLC b C t=true then 0 else g x t):=by
   refine⟨λx t=>?_,λx t q=>?_,λx hx=>?_,λt ht=>?_⟩
   .have:=hg.nn x t;show 0<=if QLC b C t=true then 0 else g x t;split<;>omega
   .have q:0 < if QLC b C t=true then 0 else g x t:=q;split at q
    .omega
    .exact hg.sup x t q
   .rw[QMs h hg];have h1:=QMq (C:=C) hg x;have h2:=hg.row x hx;omega
   .rw[QL1];by_cases hc:QLC b C t=true
    .rw[if_pos hc,Q0 (g:=λ_=>0) λx _=>if_pos hc,Qal]
    .rw[if_neg hc,Q0 (g:=λx=>g x t) λx _=>if_neg hc];exact hg.col t ht
  exact QiN hh hF
end
theorem QNt {b:List Bat} (h:ValidB b) {g:Nat->Nat->Int} (hg:Tru (Qaa b) g) {i:Nat} (hi:i < b.length):(Qj7 b i).lo<=Qxl (Qaa b) g i/\Qxl (Qaa b) g i<=(Qj7 b i).hi:=by
 have aX:=h.ok.le;have hP:=Qg0 h;have e:(Qaa b).has i=QfE b i:=QmQ hi;obtain⟨h1,h2⟩:=Qqn hg (by omega:i < 8)
 have h3:=Qyy hP hg (by omega:i < 8)
 unfold Qj7 Qxl;rw[e]at h1|-;constructor
 .show _ - min _ _<=_;omega
 .show _<=QfE b i - QpT (Qaa b) i;omega
theorem Quk {b:List Bat} (h:ValidB b) {i:Nat} (hi:i < b.length):(∃g,Tru (Qaa b) g/\Qxl (Qaa b) g i=(Qj7 b i).lo)/\∃g,Tru (Qaa b) g/\Qxl (Qaa b) g i=(Qj7 b i).hi:=by
 have aX:=h.ok.le;have hP:=Qg0 h;have e:(Qaa b).has i=QfE b i:=QmQ hi;obtain⟨g,hg,vX⟩:=QwF hP (by omega:i < 8) (Qla h)
 obtain⟨g',jT,hgl'⟩:=QmX hP (by omega:i < 8) (min ((Qaa b).has i) (QfK (Qaa b) i) - QY 8 (g i)).toNat g hg (by omega)
 refine⟨⟨g',jT,?_⟩,g,hg,?_⟩
 .unfold Qj7 Qxl;rw[hgl',e]
 .unfold Qj7 Qxl;rw[vX,e]
theorem Qwv {b:List Bat} (h:ValidB b):∃g,Tru (Qaa b) g:=by
 obtain⟨⟨g,hg,_⟩,_⟩:=Quk h (show 0 < b.length from h.ok.pos);exact⟨g,hg⟩
theorem QCF {P:Prb} (hP:PrbOk P) {g:Nat->Nat->Int} (hg:Tru P g) {i k:Nat} (h:Rch (QfZ P g) i k):i<=k:=by
 induction h with
 | self=>exact Zr _
 | step _ e ih=>have:=(QlG hP hg e).1; omega
theorem QxY {b:List Bat} (h:ValidB b) {i k:Nat} (hm:Qs9 (Qaa b) i k):QCw (Qaa b) i k:=by
 obtain⟨g,hg⟩:=Qwv h;exact⟨g,hg,hm g hg⟩
theorem Qzn {b:List Bat} (h:ValidB b) {i k:Nat} (hm:QCw (Qaa b) i k):i<=k:=by
 obtain⟨g,hg,hr⟩:=hm;exact QCF (Qg0 h) hg hr
theorem QL5 {b:List Bat} (h:ValidB b) {g:Nat->Nat->Int} (hg:Tru (Qaa b) g) {i k:Nat} (hk:k < b.length):Qao (QLx b g) i [] b.length k=true↔Rch (QfZ (Qaa b) g) i k:=by
 rw[<-QLI];have hB:=QL9 (C:=λ_=>true) h hg;have hE:EdgOk (QLs b g λ_=>true) []:=by
  refine⟨λt q hq=>?_,λe he=>by cases he⟩
  by_cases ht:t < (QLs b g λ_=>true).length
  .rw[Qbf ht]at hq;exact(hB.at ht).fr q hq
  .rw[Qbc (by omega)]at hq
   cases hq
 rw[QnJ hE hk];have key:∀x t,Qom (QLs b g λ_=>true) [] x t↔QfZ (Qaa b) g x t:=λx t=>by
  unfold Qom QfZ;rw[QNh h hg];show(QnV b x t=true\/_)\/_↔QnV b x t=true\/0 < g x t;constructor
  .rintro((q | ⟨_,q⟩) | q)
   .exact .inl q
   .exact .inr q
   .cases q
  .rintro(q | q)
   .exact .inl (.inl q)
   .exact .inl (.inr ⟨by unfold QLC; rw[(QL0 h hg q).2.2]; rfl,q⟩)
 exact⟨Qgy λx t=>(key x t).1,Qgy λx t=>(key x t).2⟩
theorem QNg {b:List Bat} (h:ValidB b) {g:Nat->Nat->Int} (hg:Tru (Qaa b) g) {i:Nat} (hi:i < b.length):QfE (QLx b g) i=Qxl (Qaa b) g i:=by
 rw[<-QLI,QMa h hg hi];unfold Qxl;rw[show(Qaa b).has i=QfE b i from QmQ hi];congr 1;refine Q0 λt _=>?_;by_cases q:QLC b (λ_=>true) t=true
 .rw[if_pos q]
 .rw[if_neg q];refine(QLp h hg λhq=>q ?_).symm;unfold QLC; rw[hq.2.2]; rfl
theorem QMQ {b:List Bat} (h:ValidB b) {g:Nat->Nat->Int} (hg:Tru (Qaa b) g):ValidB (QLx b g):=by
 rw[<-QLI]; exact QMF h hg
end Go.Proofs.YtnfeakhkfehkhaaGreatDoor
