/-
  What the reference's test of a problem says: Hall's condition. Plain. Conditions: none.
-/
import Derived.Test.YticoemblgkemiaaGreatDoorZRefD
set_option linter.unusedSimpArgs false
set_option linter.unusedVariables false
namespace Go.Proofs.YticoemblgkemiaaGreatDoor
def nvP (p:Pro) (x t:Nat):Bool:=p.never.any λe=>e.fr==(x:Int)&&e.to==(t:Int)
def Qb2 (p:Pro) (x:Nat):Int:=p.has.getD x 0
def Q4 (p:Pro) (x:Nat):Int:=p.needs.getD x 0
theorem QrK (p:Pro) (x t:Nat):QD2 p x t=(decide (x < t)&&!nvP p x t):=by
 unfold QD2 nvP;rw[Bool.and_comm];congr 1;simp
theorem QfO (f:Nat->Bool):∀n,∃s,s < 2 ^ n/\∀a,a < n->Qc9 s a=f a
 | 0=>⟨0,by simp,λa h=>by omega⟩
 | n+1=>by
  obtain⟨s,h1,h2⟩:=QfO f n;have hb:∀s a,Qc9 s a=s.testBit a:=λs a=>by
   unfold Qc9;rw[Nat.testBit_eq_decide_div_mod_eq]
  cases hf:f n with
  | false=>
   refine⟨s,by rw[Nat.pow_succ]; omega,λa ha=>?_⟩
   by_cases e:a=n
   .subst e; rw[hb,hf]; exact Nat.testBit_lt_two_pow h1
   .exact h2 a (by omega)
  | true=>
   refine⟨2 ^ n+s,by rw[Nat.pow_succ]; omega,λa ha=>?_⟩
   by_cases e:a=n
   .subst e; rw[hb,hf,Nat.testBit_two_pow_add_eq,Nat.testBit_lt_two_pow h1]; rfl
   .rw[hb,Nat.testBit_two_pow_add_gt (by omega),<-hb]; exact h2 a (by omega)
theorem QnX {p:Pro} {k a:Nat} (h:a < (Qb4 p k).length):∃t:Nat,t < k/\(Qb4 p k).getD a 0=t/\0 < Q4 p t:=by
 rw[Ql _ _ _ h];have hm:=Ze h;generalize(Qb4 p k)[a]=x at hm;simp only[Qb4,List.mem_map,List.mem_filter,Zm,decide_eq_true_eq]at hm;obtain⟨i,⟨h1,h2⟩,rfl⟩:=hm;exact⟨i,h1,rfl,h2⟩
theorem Qzt {p:Pro} {k t:Nat} (h1:t < k) (h2:0 < Q4 p t):∃a,a < (Qb4 p k).length/\(Qb4 p k).getD a 0=t:=by
 have hm:(t:Int)∈Qb4 p k:=by
  simp only[Qb4,List.mem_map,List.mem_filter,Zm,decide_eq_true_eq];exact⟨t,⟨h1,h2⟩,rfl⟩
 obtain⟨a,ha,e⟩:=List.getElem_of_mem hm;exact⟨a,ha,by rw[Ql _ _ _ ha]; exact e⟩
theorem Qtp {p:Pro} {k:Nat} :∀m,k<=m->∃r,Qb4 p m=Qb4 p k++r
 | 0,h=>⟨[],by rw[show k=0 by omega]; simp⟩
 | m+1,h=>by
  by_cases e:k=m+1
  .exact⟨[],by rw[e]; simp⟩
  .obtain⟨r,hr⟩:=Qtp (p:=p) (k:=k) m (by omega)
   by_cases hp:0 < p.needs.getD m 0
   .exact⟨r++[(m:Int)],by rw[QeO hp,hr]; simp⟩
   .exact⟨r,by rw[QkK hp,hr]⟩
def Qi0 (p:Pro) (s:Nat) (t:Nat):Bool:=(List.range (Qb4 p p.needs.length).length).any λa=>Qc9 s a&&((Qb4 p p.needs.length).getD a 0==(t:Int))
theorem QdM {p:Pro} {s t:Nat} :Qi0 p s t=true↔∃a,a < (Qb4 p p.needs.length).length/\Qc9 s a=true/\(Qb4 p p.needs.length).getD a 0=(t:Int):=by
 unfold Qi0;rw[Zy];constructor
 .rintro⟨a,h1,h2⟩;simp only[Za,beq_iff_eq]at h2;exact⟨a,Zm.1 h1,h2.1,h2.2⟩
 .rintro⟨a,h1,h2,h3⟩;exact⟨a,Zm.2 h1,by simp only[Za,beq_iff_eq]; exact⟨h2,h3⟩⟩
theorem QBy {p:Pro} {k:Nat} :∀{a b:Nat},a < (Qb4 p k).length->b < (Qb4 p k).length->(Qb4 p k).getD a 0=(Qb4 p k).getD b 0->a=b:=by
 induction k with
 | zero=>intro a b ha; simp[Qb4]at ha
 | succ k ih=>
  intro a b ha hb he;by_cases hp:0 < p.needs.getD k 0
  .rw[QeO hp]at ha hb he;simp only[List.length_append,List.length_singleton]at ha hb;have aQ:∀j,j < (Qb4 p k).length->(Qb4 p k++[(k:Int)]).getD j 0=(Qb4 p k).getD j 0/\(Qb4 p k++[(k:Int)]).getD j 0 < k:=λj hj=>by
    have e:(Qb4 p k++[(k:Int)]).getD j 0=(Qb4 p k).getD j 0:=by
     simp only[Zd]; rw[List.getElem?_append_left hj]
    obtain⟨t,h1,h2,_⟩:=QnX hj;exact⟨e,by rw[e,h2]; omega⟩
   have gV:(Qb4 p k++[(k:Int)]).getD (Qb4 p k).length 0=k:=by simp
   by_cases h1:a < (Qb4 p k).length
   .by_cases h2:b < (Qb4 p k).length
    .rw[(aQ a h1).1,(aQ b h2).1]at he;exact ih h1 h2 he
    .have:b=(Qb4 p k).length:=by omega
     rw[this,gV]at he;have:=(aQ a h1).2;omega
   .have e1:a=(Qb4 p k).length:=by omega
    by_cases h2:b < (Qb4 p k).length
    .rw[e1,gV]at he;have:=(aQ b h2).2;omega
    .omega
  .rw[QkK hp]at ha hb he;exact ih ha hb he
theorem Qpa {p:Pro} {s:Nat} :∀k,k<=p.needs.length->Qdf p (Qb4 p p.needs.length) s (Qb4 p k).length=QK k λt=>if Qi0 p s t=true then Q4 p t else 0
 | 0,_=>by simp[Qb4,Qdf,QK]
 | k+1,hk=>by
  have ih:=Qpa (p:=p) (s:=s) k (by omega)
  by_cases hp:0 < p.needs.getD k 0
  .obtain⟨r,hr⟩:=Qtp (p:=p) (k:=k+1) p.needs.length hk;have bV:(Qb4 p p.needs.length).getD (Qb4 p k).length 0=(k:Int):=by
    rw[hr,QeO hp]; simp
   have aI:(Qb4 p k).length < (Qb4 p p.needs.length).length:=by
    rw[hr,QeO hp]; simp
   rw[QeO hp,List.length_append,List.length_singleton,Qen,ih,QK,bV];have e:Qc9 s (Qb4 p k).length=Qi0 p s k:=by
    cases hb:Qc9 s (Qb4 p k).length with
    | true=>exact(QdM.2 ⟨_,aI,hb,bV⟩).symm
    | false=>
     cases hs:Qi0 p s k with
     | false=>rfl
     | true=>
      obtain⟨a,h1,h2,h3⟩:=QdM.1 hs;have:=QBy h1 aI (by rw[h3,bV])
      rw[this,hb]at h2; cases h2
   rw[e];simp[Q4]
  .rw[QkK hp,ih,QK];have:¬Qi0 p s k=true:=λh=>by
    obtain⟨a,h1,h2,h3⟩:=QdM.1 h;obtain⟨t,h4,h5,h6⟩:=QnX h1;have:t=k:=by omega
    subst this;exact hp h6
   rw[if_neg this]; omega
theorem Qd5 {f:Nat->Int} {n:Nat} (hf:∀i,n<=i->f i=0):∀m,n<=m->QK m f=QK n f
 | 0,h=>by have:n=0:=by omega
           subst this; rfl
 | m+1,h=>by
  by_cases e:n=m+1
  .rw[e]
  .rw[QK,Qd5 hf m (by omega),hf m (by omega)]; omega
theorem QFA {p:Pro} (aP:PrOk p) (s i:Nat):Qfo p (Qb4 p p.needs.length) s i (Qb4 p p.needs.length).length=nbB (nvP p) (Qi0 p s) i:=by
 have aI:=aP.len;have bE:=aP.le;rw[Bool.eq_iff_iff,Qa8];unfold Qfo;rw[Zy];constructor
 .rintro⟨a,h1,h2⟩;rw[Zm]at h1;obtain⟨t,h4,h5,h6⟩:=QnX h1;rw[h5,QrK]at h2;simp only[Za,decide_eq_true_eq,Bool.not_eq_true']at h2;exact⟨t,by omega,QdM.2 ⟨a,h1,h2.1,h5⟩,h2.2.1,h2.2.2⟩
 .rintro⟨t,h1,h2,h3⟩;obtain⟨a,h4,h5,h6⟩:=QdM.1 h2;refine⟨a,Zm.2 h4,?_⟩;rw[h6,QrK];simp only[Za,decide_eq_true_eq,Bool.not_eq_true'];exact⟨h5,h3.1,h3.2⟩
theorem Qo4 {p:Pro} (aP:PrOk p) (s:Nat):Qnt p (Qb4 p p.needs.length) s=true↔QhK (nvP p) (Qb2 p) (Q4 p) (Qi0 p s)<=0:=by
 have aI:=aP.len;have bE:=aP.le;unfold Qnt QhK;rw[decide_eq_true_eq,Qpa p.needs.length (Zr _)];have e1:QK p.needs.length (λt=>if Qi0 p s t=true then Q4 p t else 0)=inN (Qi0 p s) (Q4 p):=by
  unfold inN;refine(Qd5 (λi hi=>?_) 8 (by omega)).symm
  have:Q4 p i=0:=by simp[Q4,Zd,List.getElem?_eq_none hi]
  rw[this]; simp
 have e2:QjE p (Qb4 p p.needs.length) s p.has.length=inN (nbB (nvP p) (Qi0 p s)) (Qb2 p):=by
  unfold inN QjE;refine Eq.trans (QB λi hi=>?_) (Qd5 (λi hi=>?_) 8 (by omega)).symm
  .rw[QFA aP]; rfl
  .have:Qb2 p i=0:=by simp[Qb2,Zd,List.getElem?_eq_none hi]
   rw[this]; simp
 rw[e1,e2];omega
theorem QhT {nv:Nat->Nat->Bool} {has needs:Nat->Int} (hh:∀x,0<=has x) (hn:∀t,0<=needs t) {S T:Nat->Bool} (hT:∀t,T t=true->S t=true) (hS:∀t,t < 8->S t=true->0 < needs t->T t=true):QhK nv has needs S<=QhK nv has needs T:=by
 unfold QhK;have h1:inN S needs<=inN T needs:=Qa2 λi hi=>by
  by_cases h:S i=true
  .by_cases h2:T i=true
   .rw[if_pos h,if_pos h2]; exact Int.le_refl _
   .rw[if_pos h,if_neg h2];have:=hn i;by_cases h3:0 < needs i
    .exact absurd (hS i hi h h3) h2
    .omega
  .rw[if_neg h];have:=hn i;split<;>omega
 have h2:inN (nbB nv T) has<=inN (nbB nv S) has:=Qa2 λi _=>by
  by_cases h:nbB nv T i=true
  .obtain⟨t,q1,q2,q3⟩:=Qa8.1 h;rw[if_pos h,if_pos (Qa8.2 ⟨t,q1,hT t q2,q3⟩)]; exact Int.le_refl _
  .rw[if_neg h];have:=hh i;split<;>omega
 omega
def QvS (f g:Nat->Int):Prop:=∀x,0<=f x/\0<=g x
theorem QdA {p:Pro} (aP:PrOk p):Qcj p=true↔QvS (Qb2 p) (Q4 p)/\QjX (nvP p) (Qb2 p) (Q4 p):=by
 have aI:=aP.len;have bE:=aP.le;have hsg:(List.range p.needs.length).all (Qlh p)=true↔QvS (Qb2 p) (Q4 p):=by
  rw[Zl];unfold QvS Qb2 Q4;constructor
  .intro h x;by_cases hx:x < p.needs.length
   .have:=h x (Zm.2 hx);unfold Qlh at this;simpa using this
   .rw[Zd,List.getElem?_eq_none (by omega),Zd,List.getElem?_eq_none (by omega)]
    simp
  .intro h x hx;unfold Qlh;simpa using h x
 unfold Qcj;rw[Za,hsg];refine and_congr_right λsS=>?_;rw[Zl];constructor
 .intro h S;obtain⟨s,h1,h2⟩:=QfO (λa=>S ((Qb4 p p.needs.length).getD a 0).toNat) (Qb4 p p.needs.length).length;have h3:=(Qo4 aP s).1 (h s (Zm.2 h1));refine Int.le_trans (QhT (λx=>(sS x).1) (λx=>(sS x).2) (T:=Qi0 p s) (λt ht=>?_) λt ht hS hp=>?_) h3
  .obtain⟨a,q1,q2,q3⟩:=QdM.1 ht;rw[h2 a q1,q3]at q2;simpa using q2
  .by_cases hl:t < p.needs.length
   .obtain⟨a,q1,q2⟩:=Qzt hl hp;exact QdM.2 ⟨a,q1,by rw[h2 a q1,q2]; simpa using hS,q2⟩
   .unfold Q4 at hp;rw[Zd,List.getElem?_eq_none (by omega)]at hp
    exact absurd hp (by simp)
 .intro h s _;exact(Qo4 aP s).2 (h _)
end Go.Proofs.YticoemblgkemiaaGreatDoor
namespace Go.Proofs.YticoemblgkemiaaGreatDoor
open Go.RowKit
structure BookOk (b:List Bat):Prop where
 le:b.length<=8
 pos:1<=b.length
 bat:∀i (hi:i < b.length),QmK b i b[i]=0
structure BatOk (i:Nat) (x:Bat):Prop where
 name:Qbz x.name=true
 grams:1<=x.grams/\x.grams<=100000
 fresh:0<=x.fresh/\x.fresh<=x.grams
 lost:x.lost=true->x.takes=[]
 fr:∀t∈x.takes,0<=t.fr/\t.fr < i
 gr:∀t∈x.takes,1<=t.gr/\t.gr<=100000
 asc:Qp0 x.takes=true
 sum:x.lost=false->x.fresh+QaR x.takes=x.grams
theorem BookOk.at {b:List Bat} (h:BookOk b) {i:Nat} (hi:i < b.length):BatOk i b[i]:=by
 have h0:=h.bat i hi;unfold QmK at h0;split at h0
 .omega
 rename_i e1;split at h0
 .omega
 split at h0
 .omega
 rename_i e3;split at h0
 .omega
 rename_i e4;split at h0
 .omega
 rename_i e5;split at h0
 .omega
 rename_i e6;split at h0
 .omega
 rename_i e7;split at h0
 .omega
 rename_i e8;have m6:inR b[i].grams 1 100000=true/\inR b[i].fresh 0 b[i].grams=true:=by
  constructor
  .cases hc:inR b[i].grams 1 100000 with
   | true=>rfl
   | false=>exact absurd (.inl hc) e3
  .cases hc:inR b[i].fresh 0 b[i].grams with
   | true=>rfl
   | false=>exact absurd (.inr hc) e3
 refine⟨by simpa using e1,Qal.1 m6.1,Qal.1 m6.2,λhl=>?_,λt ht=>?_,λt ht=>?_,by simpa using e6,λhl=>?_⟩
 .refine List.length_eq_zero_iff.1 ?_;rcases Nat.eq_zero_or_pos b[i].takes.length with h | h
  .exact h
  .exact absurd ⟨hl,h⟩ e4
 .have:inR t.fr 0 ((i:Int) - 1)=true:=by
   cases hc:inR t.fr 0 ((i:Int) - 1)with
   | true=>rfl
   | false=>exact absurd (Zy.2 ⟨t,ht,by rw[hc]; rfl⟩) e5
  have:=Qal.1 this;omega
 .have:inR t.gr 1 100000=true:=by
   cases hc:inR t.gr 1 100000 with
   | true=>rfl
   | false=>exact absurd (Zy.2 ⟨t,ht,by rw[hc]; rfl⟩) e7
  exact Qal.1 this
 .by_cases hc:b[i].fresh+QaR b[i].takes=b[i].grams
  .exact hc
  .exact absurd ⟨hl,hc⟩ e8
theorem BatOk.sum_le {i:Nat} {x:Bat} (h:BatOk i x):0<=QaR x.takes/\QaR x.takes<=100000:=by
 cases hl:x.lost with
 | true=>rw[h.lost hl]; simp[QaR]
 | false=>
  have h1:=h.sum hl;have h2:=h.grams;have h3:=h.fresh;refine⟨?_,by omega⟩
  have:∀l:List Tak,(∀t∈l,1<=t.gr/\t.gr<=100000)->0<=QaR l:=by
   intro l
   induction l with
   | nil=>intro _; simp[QaR]
   | cons a t ih=>
    intro hl;have h4:=ih λt ht=>hl t (by simp[ht])
    have h5:=hl a (by simp)
    simp only[QaR,List.map_cons,List.sum_cons]at h4|-;omega
  exact this _ h.gr
theorem QjI {l:List Tak} (h:∀t∈l,1<=t.gr/\t.gr<=100000) (k:Nat):0<=QaR (l.take k)/\QaR (l.take k)<=QaR l:=by
 induction l generalizing k with
 | nil=>simp[QaR]
 | cons a t ih=>
  cases k with
  | zero=>
   have:=ih (λt ht=>h t (by simp[ht])) t.length
   rw[List.take_length]at this;have h5:=h a (by simp)
   simp only[List.take_zero,QaR,List.map_nil,List.sum_nil,List.map_cons,List.sum_cons]at this|-;omega
  | succ k=>
   have:=ih (λt ht=>h t (by simp[ht])) k
   have h5:=h a (by simp)
   simp only[List.take_succ_cons,QaR,List.map_cons,List.sum_cons]at this|-;omega
def Qob (L:List Int) (t:Tak):List Int:=L.set t.fr.toNat (L.getD t.fr.toNat 0 - t.gr)
theorem Qnr (L:List Int) (t:Tak):(Qob L t).length=L.length:=by simp[Qob]
theorem QnY (l:List Tak):∀L:List Int,(l.foldl Qob L).length=L.length:=by
 induction l with
 | nil=>intro L; rfl
 | cons a t ih=>intro L; rw[List.foldl_cons,ih,Qnr]
def Qhh (b:List Bat) (i:Nat):List Int:=(b.take i).foldl (λL x=>x.takes.foldl Qob L) (b.map (·.grams))
theorem Qh3 (b:List Bat):Qhh b 0=b.map (·.grams):=rfl
theorem Qei {b:List Bat} {i:Nat} (h:i < b.length):Qhh b (i+1)=b[i].takes.foldl Qob (Qhh b i):=by
 simp only[Qhh];rw[List.take_succ_eq_append_getElem h,List.foldl_append]; rfl
theorem Qev (b:List Bat):∀i,i<=b.length->(Qhh b i).length=b.length
 | 0,_=>by simp[Qh3]
 | i+1,h=>by rw[Qei (by omega),QnY,Qev b i (by omega)]
def BdL (L:List Int) (m:Int):Prop:=∀j,0 - m<=L.getD j 0/\L.getD j 0<=100000
theorem QmC (L:List Int) (t:Tak) (h0:0<=t.fr) (hl:t.fr < L.length) (j:Nat):(Qob L t).getD j 0=L.getD j 0 - if t.fr=(j:Int)then t.gr else 0:=by
 unfold Qob;obtain⟨f,hf⟩:∃f:Nat,t.fr=f:=⟨t.fr.toNat,by omega⟩
 rw[hf]at hl|-;have t7:f < L.length:=by omega
 simp only[Int.toNat_natCast,Zd,List.getElem?_set];by_cases hj:f=j
 .subst hj; simp[t7]
 .have:¬(f:Int)=(j:Int):=by omega
  simp[hj,this]
theorem BdL.sub {L:List Int} {m:Int} (h:BdL L m) {t:Tak} (h0:0<=t.fr) (hl:t.fr < L.length) (hg:0<=t.gr):BdL (Qob L t) (m+t.gr):=by
 intro j;have:=h j;rw[QmC L t h0 hl j];split<;>omega
theorem Qnv {L:List Int} {m:Int} (h:BdL L m) (l:List Tak) (h0:∀t∈l,0<=t.fr/\t.fr < L.length) (hg:∀t∈l,1<=t.gr/\t.gr<=100000):BdL (l.foldl Qob L) (m+QaR l):=by
 induction l generalizing L m with
 | nil=>simpa[QaR]using h
 | cons a t ih=>
  have h1:=h.sub (h0 a (by simp)).1 (h0 a (by simp)).2 (by have:=hg a (by simp); omega)
  have h2:=ih h1 (λt ht=>by rw[Qnr]; exact h0 t (by simp[ht])) λt ht=>hg t (by simp[ht])
  rw[List.foldl_cons];have e:m+QaR (a::t)=m+a.gr+QaR t:=by simp[QaR]; omega
  rw[e]; exact h2
theorem QhU {b:List Bat} (h:BookOk b):∀i,i<=b.length->BdL (Qhh b i) (100000*(i:Int))
 | 0,_=>λj=>by
  rw[Qh3,Zd,List.getElem?_map];cases hj:b[j]? with
  | none=>simp
  | some x=>
   obtain⟨aO,rfl⟩:=Zi.1 hj;have:=(h.at aO).grams;simp; omega
 | i+1,hi=>by
  have ih:=QhU h i (by omega)
  have hb:=h.at (i:=i) (by omega)
  have hl:=Qev b i (by omega)
  rw[Qei (by omega)]
  have h1:=Qnv ih b[i].takes (λt ht=>by have:=hb.fr t ht; rw[hl]; omega) hb.gr
  have h2:=hb.sum_le;intro j;have:=h1 j;omega
theorem QGt (l:List Tak) (j:Nat):∀(L:List Int),(∀t∈l,0<=t.fr/\t.fr < L.length)->(l.foldl Qob L).getD j 0=L.getD j 0 - Qgu l j:=by
 induction l with
 | nil=>intro L _; simp[Qgu]
 | cons a t ih=>
  intro L h;rw[List.foldl_cons,ih _ (λt ht=>by rw[Qnr]; exact h t (by simp[ht])),QmC L a (h a (by simp)).1 (h a (by simp)).2]
  unfold Qgu;by_cases hj:a.fr=(j:Int)
  .simp[hj]; omega
  .have cM:(a.fr==(j:Int))=false:=by simpa using hj
   simp[cM,hj]
theorem Qnu {b:List Bat} (h:BookOk b) (j:Nat):∀i,i<=b.length->(Qhh b i).getD j 0=(b.map (·.grams)).getD j 0 - ((b.take i).map λx=>Qgu x.takes j).sum
 | 0,_=>by simp[Qh3]
 | i+1,hi=>by
  have ih:=Qnu h j i (by omega)
  have hb:=h.at (i:=i) (by omega)
  have hl:=Qev b i (by omega)
  rw[Qei (by omega),QGt _ _ _ (λt ht=>by have:=hb.fr t ht; rw[hl]; omega),ih,List.take_succ_eq_append_getElem (by omega),List.map_append,List.sum_append]
  simp; omega
theorem Qhf {b:List Bat} (h:BookOk b):Qhh b b.length=QT b:=by
 have hl:=Qev b b.length (Zr _);refine List.ext_getElem (by rw[hl]; simp[QT]) λj h1 h2=>?_
 have h3:=Qnu h j b.length (Zr _);rw[Ql _ j _ h1]at h3;rw[h3,List.take_length];have hj:j < b.length:=by omega
 simp[QT,Qba,hj]
end Go.Proofs.YticoemblgkemiaaGreatDoor
namespace Go.Proofs.YticoemblgkemiaaGreatDoor
def Qk7 (b:List Bat) (x t:Nat):Bool:=(b.getD t default).takes.any λk=>k.fr==(x:Int)
def QbV (b:List Bat) (t:Nat):Bool:=(b.getD t default).lost
def QM (b:List Bat):Prb:=⟨Qb2 (QV b),Q4 (QV b),Qk7 b,QbV b⟩
structure ValidB (b:List Bat):Prop where
 ok:BookOk b
 lost:(Qae b).length<=3
 kept:∀j,j < b.length->0<=Qba b j
 sol:Qcj (QV b)=true
theorem QU (b:List Bat):(QT b).length=b.length:=by simp[QT]
theorem Qah (b:List Bat):(QaD b).length=b.length:=by simp[QaD]
theorem Qfx {b:List Bat} {j:Nat} (h:j < b.length):Qb2 (QV b) j=Qba b j:=by
 simp[Qb2,QV,QT,Zd,h]
theorem QfM {b:List Bat} {j:Nat} (h:j < b.length):Q4 (QV b) j=Qdt b j:=by
 simp[Q4,QV,QaD,Zd,h]
theorem QfJ {b:List Bat} {j:Nat} (h:b.length<=j):Qb2 (QV b) j=0:=by
 simp[Qb2,QV,QT,Zd,h]
theorem Qcv {b:List Bat} {j:Nat} (h:b.length<=j):Q4 (QV b) j=0:=by
 simp[Q4,QV,QaD,Zd,h]
theorem Qao {b:List Bat} {j:Nat} (h:j < b.length):b.getD j default=b[j]:=Ql b j _ h
theorem Qau {b:List Bat} {j:Nat} (h:b.length<=j):b.getD j default=default:=by
 simp[Zd,h]
theorem Qhk {b:List Bat} (h:BookOk b) (j:Nat):0<=Qdt b j/\Qdt b j<=100000:=by
 unfold Qdt;by_cases hj:j < b.length
 .rw[Qao hj];have:=(h.at hj).grams;have:=(h.at hj).fresh;split<;>omega
 .rw[Qau (by omega)]
  simp[show(default:Bat).lost=false from rfl]
theorem QhP {b:List Bat} (h:BookOk b) {j:Nat} (hj:j < b.length): -800000<=Qba b j/\Qba b j<=100000:=by
 have h1:=QhU h b.length (Zr _) j;rw[Qhf h]at h1;have h2:(QT b).getD j 0=Qba b j:=by simp[QT,Zd,hj]
 rw[h2]at h1;have:=h.le;omega
theorem QeU {b:List Bat} (h:BookOk b):PrOk (QV b):=by
 have bE:=h.le;refine⟨by simp[QV,QT,QaD],by simpa[QV,QT]using bE,λi=>?_,by simp[QV]⟩
 show _<=Qb2 (QV b) i/\Qb2 (QV b) i<=_/\_<=Q4 (QV b) i/\Q4 (QV b) i<=_;by_cases hi:i < b.length
 .rw[Qfx hi,QfM hi];have:=QhP h hi;have:=Qhk h i;omega
 .rw[QfJ (by omega),Qcv (by omega)]; omega
theorem QKN {b:List Bat} (h:BookOk b) {x t:Nat} (hf:Qk7 b x t=true):x < t/\t < b.length:=by
 unfold Qk7 at hf;by_cases ht:t < b.length
 .rw[Qao ht]at hf;obtain⟨k,hk,he⟩:=Zy.1 hf;have:=(h.at ht).fr k hk;have mI:k.fr=(x:Int):=by simpa using he
  omega
 .rw[Qau (by omega)]at hf
  cases hf
theorem Qh9 {b:List Bat} {t:Nat} (h:QbV b t=true):t < b.length:=by
 by_cases ht:t < b.length
 .exact ht
 .unfold QbV at h;rw[Qau (by omega)]at h; cases h
theorem Qd4 {b:List Bat} (h:ValidB b):PrbOk (QM b):=by
 have sS:=((QdA (QeU h.ok)).1 h.sol).1;refine⟨λx=>(sS x).1,λx=>(sS x).2,λx t hf=>?_,λt ht=>?_⟩
 .have:=QKN h.ok hf;have:=h.ok.le;omega
 .show QbV b t=true;have ht:0 < Q4 (QV b) t:=ht;by_cases hl:t < b.length
  .rw[QfM hl]at ht;unfold Qdt at ht;split at ht
   .rename_i e; exact e
   .omega
  .rw[Qcv (by omega)]at ht; omega
theorem Qjm {b:List Bat} (h:ValidB b):QjX noN (QM b).has (QM b).need:=by
 have:=((QdA (QeU h.ok)).1 h.sol).2;have e:nvP (QV b)=noN:=rfl;rw[e]at this;exact this
def Qe3 (b:List Bat) (s t:Nat):Bool:=(List.range (QS b).length).any λk=>Qc9 s k&&(QS b).getD k 0==t
def QkL (b:List Bat) (i s:Nat):Nat->Bool:=QdK (QM b) i (Qe3 b s)
def QcB (d:Nat->Bool) (n:Nat):List Edg:=(List.range n).flatMap λt=>if d t=true then []else((List.range t).filter d).map λ(x:Nat)=>⟨(x:Int),(t:Int)⟩
def Qlp (b:List Bat) (i k:Nat):Bool:=(List.range (2 ^ (QS b).length)).all λs=>!(!QkL b i s k&&Qcj ⟨QT b,QaD b,QcB (QkL b i s) b.length⟩)
theorem QkV {P:Prb} {i:Nat} {c c':Nat->Bool} (h:∀t,P.lost t=true->c t=c' t):∀m,QcA P i c m=QcA P i c' m
 | 0=>rfl
 | m+1=>by
  rw[QcA,QcA,QkV h m];congr 1;cases hl:P.lost m with
  | false=>simp
  | true=>rw[h m hl]
theorem Qgl {nv nv':Nat->Nat->Bool} {has needs:Nat->Int} (hh:∀x,0<=has x) (hn:∀t,0<=needs t) (h:∀x t,x < t->t < 8->0 < needs t->nv x t=nv' x t) (H:QjX nv has needs):QjX nv' has needs:=by
 intro S;refine Int.le_trans (QhT hh hn (T:=λt=>S t&&decide (0 < needs t)) (λt ht=>by simp only[Za]at ht; exact ht.1) λt _ h1 h2=>by simp[h1,h2]) ?_
 have e:nbB nv' (λt=>S t&&decide (0 < needs t))=nbB nv (λt=>S t&&decide (0 < needs t)):=by
  funext x;rw[Bool.eq_iff_iff,Qa8,Qa8];constructor
  .rintro⟨t,h1,h2,h3,h4⟩;simp only[Za,decide_eq_true_eq]at h2;exact⟨t,h1,by simp[h2.1,h2.2],h3,by rw[h x t h3 h1 h2.2]; exact h4⟩
  .rintro⟨t,h1,h2,h3,h4⟩;simp only[Za,decide_eq_true_eq]at h2;exact⟨t,h1,by simp[h2.1,h2.2],h3,by rw[<-h x t h3 h1 h2.2]; exact h4⟩
 have:=H (λt=>S t&&decide (0 < needs t));unfold QhK at this|-;rw[e]; exact this
theorem Qpn {d:Nat->Bool} {n:Nat} {x t:Int} :(⟨x,t⟩:Edg)∈QcB d n↔∃a c:Nat,x=a/\t=c/\c < n/\a < c/\d c=false/\d a=true:=by
 unfold QcB;rw[List.mem_flatMap];constructor
 .rintro⟨c,h1,h2⟩;rw[Zm]at h1;split at h2
  .cases h2
  .rename_i hd;obtain⟨a,h3,h4⟩:=List.mem_map.1 h2;simp only[Edg.mk.injEq]at h4;rw[List.mem_filter,Zm]at h3;exact⟨a,c,h4.1.symm,h4.2.symm,h1,h3.1,by simpa using hd,h3.2⟩
 .rintro⟨a,c,rfl,rfl,h1,h2,h3,h4⟩;refine⟨c,Zm.2 h1,?_⟩;rw[if_neg (by rw[h3]; simp)]
  exact List.mem_map.2 ⟨a,List.mem_filter.2 ⟨Zm.2 h2,h4⟩,rfl⟩
theorem QAr {p:Pro} {d:Nat->Bool} {n x t:Nat} (hp:p.never=QcB d n) (hx:x < t) (ht:t < n):nvP p x t=(d x&&!d t):=by
 unfold nvP;rw[hp,Bool.eq_iff_iff,Zy];constructor
 .rintro⟨⟨a,c⟩,h1,h2⟩;simp only[Za,beq_iff_eq]at h2;obtain⟨a',c',rfl,rfl,h3,h4,h5,h6⟩:=Qpn.1 h1;have e1:a'=x:=by omega
  have e2:c'=t:=by omega
  subst e1 e2;simp[h5,h6]
 .intro h;simp only[Za,Bool.not_eq_true']at h;exact⟨⟨x,t⟩,Qpn.2 ⟨x,t,rfl,rfl,ht,hx,h.2,h.1⟩,by simp⟩
theorem QqB (d:Nat->Bool) (n:Nat):QcB d (n+1)=QcB d n++if d n=true then []else((List.range n).filter d).map λ(x:Nat)=>⟨(x:Int),(n:Int)⟩:=by
 simp[QcB,List.range_succ]
theorem QlG (d:Nat->Bool):∀n,(QcB d n).length<=n*n
 | 0=>by simp[QcB]
 | n+1=>by
  have ih:=QlG d n;rw[QqB,List.length_append];have h:(if d n=true then([]:List Edg)else((List.range n).filter d).map λ(x:Nat)=>⟨(x:Int),(n:Int)⟩).length<=n:=by
   split
   .simp
   .rw[List.length_map]; exact Nat.le_trans (List.length_filter_le _ _) (by simp)
  have e:(n+1)*(n+1)=n*n+n+n+1:=by rw[Nat.succ_mul,Nat.mul_succ]; omega
  omega
theorem QAM {b:List Bat} (h:BookOk b) (d:Nat->Bool):PrOk ⟨QT b,QaD b,QcB d b.length⟩:=by
 have hb:=QeU h;have bE:=h.le;refine⟨hb.len,hb.le,hb.vals,?_⟩;have h1:=QlG d b.length;have h2:b.length*b.length<=8*8:=Nat.mul_le_mul bE bE;show(QcB d b.length).length<=1000000;omega
theorem Qmz {b:List Bat} (h:ValidB b) {i s:Nat} :Qcj ⟨QT b,QaD b,QcB (QkL b i s) b.length⟩=true↔QjX (nvD (QM b) i (Qe3 b s)) (QM b).has (QM b).need:=by
 have hP:=Qd4 h;have aP:=QAM h.ok (QkL b i s);rw[QdA aP];have hag:∀x t,x < t->t < 8->0 < (QM b).need t->nvP ⟨QT b,QaD b,QcB (QkL b i s) b.length⟩ x t=nvD (QM b) i (Qe3 b s) x t:=λx t hx ht hn=>by
  have dG:t < b.length:=Qh9 (hP.lostn t hn);rw[QAr rfl hx dG]; rfl
 constructor
 .rintro⟨_,h2⟩;exact Qgl hP.has hP.need hag h2
 .intro h2;exact⟨λx=>⟨hP.has x,hP.need x⟩,Qgl hP.has hP.need (λx t a c d=>(hag x t a c d).symm) h2⟩
theorem QdF {b:List Bat} {t:Nat} :t∈QS b↔t < b.length/\QbV b t=true:=by
 simp[QS,QbV]
theorem QgJ (b:List Bat):(QS b).Nodup:=List.Pairwise.filter _ List.nodup_range
theorem QuI (b:List Bat) (c:Nat->Bool):∃s,s < 2 ^ (QS b).length/\∀t,QbV b t=true->Qe3 b s t=c t:=by
 obtain⟨s,h1,h2⟩:=QfO (λk=>c ((QS b).getD k 0)) (QS b).length;refine⟨s,h1,λt ht=>?_⟩;have nS:t∈QS b:=QdF.2 ⟨Qh9 ht,ht⟩;obtain⟨k,hk,hkt⟩:=List.getElem_of_mem nS;have hg:(QS b).getD k 0=t:=by rw[Ql _ _ _ hk]; exact hkt
 unfold Qe3;rw[Bool.eq_iff_iff,Zy];constructor
 .rintro⟨j,h3,h4⟩;rw[Zm]at h3;simp only[Za,beq_iff_eq]at h4;have:=h2 j h3;rw[h4.1,h4.2]at this;exact this.symm
 .intro hc;refine⟨k,Zm.2 hk,?_⟩;rw[h2 k hk,hg];simp[hc]
theorem QAI {b:List Bat} (h:ValidB b) {i k:Nat} (hi:i < b.length) (hk:k < b.length):Qlp b i k=true↔QwN (QM b) i k:=by
 have bE:=h.ok.le;rw[QCA (Qd4 h) (by omega) (by omega)]
 unfold Qlp;rw[Zl];constructor
 .intro hall c hc;obtain⟨s,h1,h2⟩:=QuI b c;have e:QdK (QM b) i (Qe3 b s)=QdK (QM b) i c:=QkV (λt ht=>h2 t ht) 8;have e2:nvD (QM b) i (Qe3 b s)=nvD (QM b) i c:=by funext x t; unfold nvD; rw[e]
  have h3:=hall s (Zm.2 h1);have h4:=(Qmz h).2 (by rw[e2]; exact hc)
  rw[h4]at h3;unfold QkL at h3;rw[e]at h3;simpa using h3
 .intro hall s _;cases hs:Qcj ⟨QT b,QaD b,QcB (QkL b i s) b.length⟩with
  | false=>simp
  | true=>
   have:=hall _ ((Qmz h).1 hs);show(!(!QdK (QM b) i (Qe3 b s) k&&true))=true;rw[this]; rfl
def QeJ (_:Nat) (x:Int):Int:=if x < 0 then 7 else 0
def Qaf (b:List Bat):Int×Int×Int:=
 if inR b.length 1 8=false then(1,0,3)
 else if ¬(Qfn (QmK b) 0 b).2=0 then(2,Qfn (QmK b) 0 b)
 else if 3 < (Qae b).length then(3,0,3)
 else if ¬(Qfn QeJ 0 (QT b)).2=0 then(4,Qfn QeJ 0 (QT b))
 else if Qcj (QV b)=false then(5,0,9)else(0,0,0)
theorem QfT {α:Type} (f:Nat->α->Int) (l:List α):(Qfn f 0 l).2=0↔∀k (h:k < l.length),f k l[k]=0:=by
 rcases QdP f l with⟨h1,h2⟩ | ⟨k,hk,h1,h2,_⟩
 .rw[h1]; exact⟨λ_=>h2,λ_=>rfl⟩
 .rw[h1]; exact⟨λh=>absurd h h2,λh=>absurd (h k hk) h2⟩
theorem QGb {b:List Bat} (h1:¬inR b.length 1 8=false) (h2:(Qfn (QmK b) 0 b).2=0):BookOk b:=by
 have h:inR b.length 1 8=true:=by
  cases q:inR b.length 1 8 with
  | true=>rfl
  | false=>exact absurd q h1
 have:=Qal.1 h;exact⟨by omega,by omega,(QfT _ _).1 h2⟩
theorem QbQ (b:List Bat):(Qaf b).2.2=0↔ValidB b:=by
 unfold Qaf;constructor
 .intro h;split at h
  .cases h
  rename_i h1;split at h
  .rename_i h2; exact absurd h h2
  rename_i h2;split at h
  .cases h
  rename_i h3;split at h
  .rename_i h4; exact absurd h h4
  rename_i h4;split at h
  .cases h
  rename_i h5;have zH:=(QfT QeJ (QT b)).1 (Decidable.not_not.1 h4);refine⟨QGb h1 (Decidable.not_not.1 h2),by omega,λj hj=>?_,by simpa using h5⟩
  have:=zH j (by rw[QU]; exact hj)
  unfold QeJ at this;split at this
  .cases this
  .rename_i hn;have e:(QT b)[j]'(by rw[QU]; exact hj)=Qba b j:=by simp[QT]
   rw[e]at hn;omega
 .intro h;have hp:=h.ok.pos;have bE:=h.ok.le;have e1:inR b.length 1 8=true:=Qal.2 (by omega)
  have e2:(Qfn (QmK b) 0 b).2=0:=(QfT _ _).2 h.ok.bat;have e3:¬3 < (Qae b).length:=by have:=h.lost; omega
  have e4:(Qfn QeJ 0 (QT b)).2=0:=(QfT _ _).2 λk hk=>by
   have dR:k < b.length:=by rw[QU]at hk; exact hk
   have e:(QT b)[k]=Qba b k:=by simp[QT]
   rw[e];have:=h.kept k dR;unfold QeJ;rw[if_neg (by omega)]
  rw[e1,if_neg (by simp),if_neg (by rw[e2]; simp),if_neg e3,if_neg (by rw[e4]; simp),h.sol]
  rfl
def bsS (c:Int) (p:Int×Int):Int×Int:=if c<=(p.1+p.2) / 2 then(p.1,(p.1+p.2) / 2)else((p.1+p.2) / 2+1,p.2)
def bsK (c l h:Int):Nat->Int×Int
 | 0=>(l,h)
 | k+1=>bsS c (bsK c l h k)
theorem QIO {b:List Bat} (h:ValidB b) {i:Nat} (hi:i < b.length):0<=QqH (QM b) i/\QqH (QM b) i<=Qba b i:=by
 have hP:=Qd4 h;have bE:=h.ok.le;have e:(QM b).has i=Qba b i:=Qfx hi;constructor
 .have h1:=(QfC (nv:=noN) (has:=QZ (QM b).has i 0) (needs:=(QM b).need) (λx=>by
   by_cases hx:x=i
   .subst hx; rw[Qac]; exact Int.le_refl _
   .rw[Q2 _ _ hx]; exact hP.has x) hP.need).1 (λ_=>false)
  have h0:QhK noN (QZ (QM b).has i 0) (QM b).need (λ_=>false)=0:=by
   unfold QhK inN;have e:∀x,nbB noN (λ_=>false) x=false:=λx=>by
    cases q:nbB noN (λ_=>false) x with
    | false=>rfl
    | true=>obtain⟨t,_,h,_⟩:=Qa8.1 q; cases h
   rw[QB (g:=λ_=>0) λi _=>by simp,QB (f:=λi_1=>if nbB noN (λ_=>false) i_1=true then QZ (QM b).has i 0 i_1 else 0) (g:=λ_=>0) λi _=>by simp[e],Qaa]; rfl
  rw[h0]at h1;exact h1
 .rw[<-e];refine(Qr7 hP (by omega) (hP.has i) (Qjm h) (Int.le_refl _)).1 ?_
  have:QZ (QM b).has i ((QM b).has i)=(QM b).has:=by
   funext x;by_cases hx:x=i
   .subst hx; rw[Qac]
   .rw[Q2 _ _ hx]
  rw[this]; exact Qjm h
def QbH (b:List Bat) (i:Nat):Spn:=⟨Qba b i - min (Qba b i) (Qgy (QM b) i),Qba b i - QqH (QM b) i⟩
end Go.Proofs.YticoemblgkemiaaGreatDoor
