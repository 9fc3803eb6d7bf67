/-
  What the reference's test of a problem says: Hall's condition. Plain. Conditions: none.
-/
import Derived.Test.YtnfeakhkfehkhaaGreatDoorZRefD
set_option linter.unusedSimpArgs false
set_option linter.unusedVariables false
namespace Go.Proofs.YtnfeakhkfehkhaaGreatDoor
def nvP (p:Pro) (x t:Nat):Bool:=p.never.any λe=>e.fr==(x:Int)&&e.to==(t:Int)
def Qem (p:Pro) (x:Nat):Int:=p.has.getD x 0
def QaM (p:Pro) (x:Nat):Int:=p.needs.getD x 0
theorem QqN (p:Pro) (x t:Nat):QAz p x t=(decide (x < t)&&!nvP p x t):=by
 unfold QAz nvP;rw[Bool.and_comm];congr 1;simp
theorem QiB (f:Nat->Bool):∀n,∃s,s < 2 ^ n/\∀a,a < n->QeB s a=f a
 | 0=>⟨0,by simp,λa h=>by omega⟩
 | n+1=>by
  obtain⟨s,h1,h2⟩:=QiB f n;have hb:∀s a,QeB s a=s.testBit a:=λs a=>by
   unfold QeB;rw[Nat.testBit_eq_decide_div_mod_eq]
  cases hf:f n with
  | false=>
   refine⟨s,by rw[Nat.pow_succ]; omega,λa ha=>?_⟩
   by_cases e:a=n
   .subst e; rw[hb,hf]; exact Nat.testBit_lt_two_pow h1
   .exact h2 a (by omega)
  | true=>
   refine⟨2 ^ n+s,by rw[Nat.pow_succ]; omega,λa ha=>?_⟩
   by_cases e:a=n
   .subst e; rw[hb,hf,Nat.testBit_two_pow_add_eq,Nat.testBit_lt_two_pow h1]; rfl
   .rw[hb,Nat.testBit_two_pow_add_gt (by omega),<-hb]; exact h2 a (by omega)
theorem Qlz {p:Pro} {k a:Nat} (h:a < (QbJ p k).length):∃t:Nat,t < k/\(QbJ p k).getD a 0=t/\0 < QaM p t:=by
 rw[Qj _ _ _ h];have hm:=Ze h;generalize(QbJ p k)[a]=x at hm;simp only[QbJ,List.mem_map,List.mem_filter,Zm,decide_eq_true_eq]at hm;obtain⟨i,⟨h1,h2⟩,rfl⟩:=hm;exact⟨i,h1,rfl,h2⟩
theorem Qtn {p:Pro} {k t:Nat} (h1:t < k) (h2:0 < QaM p t):∃a,a < (QbJ p k).length/\(QbJ p k).getD a 0=t:=by
 have hm:(t:Int)∈QbJ p k:=by
  simp only[QbJ,List.mem_map,List.mem_filter,Zm,decide_eq_true_eq];exact⟨t,⟨h1,h2⟩,rfl⟩
 obtain⟨a,ha,e⟩:=List.getElem_of_mem hm;exact⟨a,ha,by rw[Qj _ _ _ ha]; exact e⟩
theorem Qqs {p:Pro} {k:Nat} :∀m,k<=m->∃r,QbJ p m=QbJ p k++r
 | 0,h=>⟨[],by rw[show k=0 by omega]; simp⟩
 | m+1,h=>by
  by_cases e:k=m+1
  .exact⟨[],by rw[e]; simp⟩
  .obtain⟨r,hr⟩:=Qqs (p:=p) (k:=k) m (by omega)
   by_cases hp:0 < p.needs.getD m 0
   .exact⟨r++[(m:Int)],by rw[Qee hp,hr]; simp⟩
   .exact⟨r,by rw[Qiv hp,hr]⟩
def QhR (p:Pro) (s:Nat) (t:Nat):Bool:=(List.range (QbJ p p.needs.length).length).any λa=>QeB s a&&((QbJ p p.needs.length).getD a 0==(t:Int))
theorem Qc7 {p:Pro} {s t:Nat} :QhR p s t=true↔∃a,a < (QbJ p p.needs.length).length/\QeB s a=true/\(QbJ p p.needs.length).getD a 0=(t:Int):=by
 unfold QhR;rw[Zy];constructor
 .rintro⟨a,h1,h2⟩;simp only[Za,beq_iff_eq]at h2;exact⟨a,Zm.1 h1,h2.1,h2.2⟩
 .rintro⟨a,h1,h2,h3⟩;exact⟨a,Zm.2 h1,by simp only[Za,beq_iff_eq]; exact⟨h2,h3⟩⟩
theorem QxC {p:Pro} {k:Nat} :∀{a b:Nat},a < (QbJ p k).length->b < (QbJ p k).length->(QbJ p k).getD a 0=(QbJ p k).getD b 0->a=b:=by
 induction k with
 | zero=>intro a b ha; simp[QbJ]at ha
 | succ k ih=>
  intro a b ha hb he;by_cases hp:0 < p.needs.getD k 0
  .rw[Qee hp]at ha hb he;simp only[List.length_append,List.length_singleton]at ha hb;have aR:∀j,j < (QbJ p k).length->(QbJ p k++[(k:Int)]).getD j 0=(QbJ p k).getD j 0/\(QbJ p k++[(k:Int)]).getD j 0 < k:=λj hj=>by
    have e:(QbJ p k++[(k:Int)]).getD j 0=(QbJ p k).getD j 0:=by
     simp only[Zd]; rw[List.getElem?_append_left hj]
    obtain⟨t,h1,h2,_⟩:=Qlz hj;exact⟨e,by rw[e,h2]; omega⟩
   have gM:(QbJ p k++[(k:Int)]).getD (QbJ p k).length 0=k:=by simp
   by_cases h1:a < (QbJ p k).length
   .by_cases h2:b < (QbJ p k).length
    .rw[(aR a h1).1,(aR b h2).1]at he;exact ih h1 h2 he
    .have:b=(QbJ p k).length:=by omega
     rw[this,gM]at he;have:=(aR a h1).2;omega
   .have e1:a=(QbJ p k).length:=by omega
    by_cases h2:b < (QbJ p k).length
    .rw[e1,gM]at he;have:=(aR b h2).2;omega
    .omega
  .rw[Qiv hp]at ha hb he;exact ih ha hb he
theorem QnD {p:Pro} {s:Nat} :∀k,k<=p.needs.length->QcO p (QbJ p p.needs.length) s (QbJ p k).length=QY k λt=>if QhR p s t=true then QaM p t else 0
 | 0,_=>by simp[QbJ,QcO,QY]
 | k+1,hk=>by
  have ih:=QnD (p:=p) (s:=s) k (by omega)
  by_cases hp:0 < p.needs.getD k 0
  .obtain⟨r,hr⟩:=Qqs (p:=p) (k:=k+1) p.needs.length hk;have bW:(QbJ p p.needs.length).getD (QbJ p k).length 0=(k:Int):=by
    rw[hr,Qee hp]; simp
   have aI:(QbJ p k).length < (QbJ p p.needs.length).length:=by
    rw[hr,Qee hp]; simp
   rw[Qee hp,List.length_append,List.length_singleton,QdC,ih,QY,bW];have e:QeB s (QbJ p k).length=QhR p s k:=by
    cases hb:QeB s (QbJ p k).length with
    | true=>exact(Qc7.2 ⟨_,aI,hb,bW⟩).symm
    | false=>
     cases hs:QhR p s k with
     | false=>rfl
     | true=>
      obtain⟨a,h1,h2,h3⟩:=Qc7.1 hs;have:=QxC h1 aI (by rw[h3,bW])
      rw[this,hb]at h2; cases h2
   rw[e];simp[QaM]
  .rw[Qiv hp,ih,QY];have:¬QhR p s k=true:=λh=>by
    obtain⟨a,h1,h2,h3⟩:=Qc7.1 h;obtain⟨t,h4,h5,h6⟩:=Qlz h1;have:t=k:=by omega
    subst this;exact hp h6
   rw[if_neg this]; omega
theorem Qlq {f:Nat->Int} {n:Nat} (hf:∀i,n<=i->f i=0):∀m,n<=m->QY m f=QY n f
 | 0,h=>by have:n=0:=by omega
           subst this; rfl
 | m+1,h=>by
  by_cases e:n=m+1
  .rw[e]
  .rw[QY,Qlq hf m (by omega),hf m (by omega)]; omega
theorem QBW {p:Pro} (aQ:PrOk p) (s i:Nat):QeI p (QbJ p p.needs.length) s i (QbJ p p.needs.length).length=nbB (nvP p) (QhR p s) i:=by
 have aI:=aQ.len;have aX:=aQ.le;rw[Bool.eq_iff_iff,QeS];unfold QeI;rw[Zy];constructor
 .rintro⟨a,h1,h2⟩;rw[Zm]at h1;obtain⟨t,h4,h5,h6⟩:=Qlz h1;rw[h5,QqN]at h2;simp only[Za,decide_eq_true_eq,Bool.not_eq_true']at h2;exact⟨t,by omega,Qc7.2 ⟨a,h1,h2.1,h5⟩,h2.2.1,h2.2.2⟩
 .rintro⟨t,h1,h2,h3⟩;obtain⟨a,h4,h5,h6⟩:=Qc7.1 h2;refine⟨a,Zm.2 h4,?_⟩;rw[h6,QqN];simp only[Za,decide_eq_true_eq,Bool.not_eq_true'];exact⟨h5,h3.1,h3.2⟩
theorem Qm8 {p:Pro} (aQ:PrOk p) (s:Nat):Qmv p (QbJ p p.needs.length) s=true↔QjQ (nvP p) (Qem p) (QaM p) (QhR p s)<=0:=by
 have aI:=aQ.len;have aX:=aQ.le;unfold Qmv QjQ;rw[decide_eq_true_eq,QnD p.needs.length (Zr _)];have e1:QY p.needs.length (λt=>if QhR p s t=true then QaM p t else 0)=inN (QhR p s) (QaM p):=by
  unfold inN;refine(Qlq (λi hi=>?_) 8 (by omega)).symm
  have:QaM p i=0:=by simp[QaM,Zd,List.getElem?_eq_none hi]
  rw[this]; simp
 have e2:Qi9 p (QbJ p p.needs.length) s p.has.length=inN (nbB (nvP p) (QhR p s)) (Qem p):=by
  unfold inN Qi9;refine Eq.trans (Q0 λi hi=>?_) (Qlq (λi hi=>?_) 8 (by omega)).symm
  .rw[QBW aQ]; rfl
  .have:Qem p i=0:=by simp[Qem,Zd,List.getElem?_eq_none hi]
   rw[this]; simp
 rw[e1,e2];omega
theorem Qgl {nv:Nat->Nat->Bool} {has needs:Nat->Int} (hh:∀x,0<=has x) (hn:∀t,0<=needs t) {S T:Nat->Bool} (hT:∀t,T t=true->S t=true) (hS:∀t,t < 8->S t=true->0 < needs t->T t=true):QjQ nv has needs S<=QjQ nv has needs T:=by
 unfold QjQ;have h1:inN S needs<=inN T needs:=QbK λi hi=>by
  by_cases h:S i=true
  .by_cases h2:T i=true
   .rw[if_pos h,if_pos h2]; exact Int.le_refl _
   .rw[if_pos h,if_neg h2];have:=hn i;by_cases h3:0 < needs i
    .exact absurd (hS i hi h h3) h2
    .omega
  .rw[if_neg h];have:=hn i;split<;>omega
 have h2:inN (nbB nv T) has<=inN (nbB nv S) has:=QbK λi _=>by
  by_cases h:nbB nv T i=true
  .obtain⟨t,q1,q2,q3⟩:=QeS.1 h;rw[if_pos h,if_pos (QeS.2 ⟨t,q1,hT t q2,q3⟩)]; exact Int.le_refl _
  .rw[if_neg h];have:=hh i;split<;>omega
 omega
def Qvk (f g:Nat->Int):Prop:=∀x,0<=f x/\0<=g x
theorem QdK {p:Pro} (aQ:PrOk p):QaT p=true↔Qvk (Qem p) (QaM p)/\Qpf (nvP p) (Qem p) (QaM p):=by
 have aI:=aQ.len;have aX:=aQ.le;have hsg:(List.range p.needs.length).all (QjW p)=true↔Qvk (Qem p) (QaM p):=by
  rw[Zl];unfold Qvk Qem QaM;constructor
  .intro h x;by_cases hx:x < p.needs.length
   .have:=h x (Zm.2 hx);unfold QjW at this;simpa using this
   .rw[Zd,List.getElem?_eq_none (by omega),Zd,List.getElem?_eq_none (by omega)]
    simp
  .intro h x hx;unfold QjW;simpa using h x
 unfold QaT;rw[Za,hsg];refine and_congr_right λsJ=>?_;rw[Zl];constructor
 .intro h S;obtain⟨s,h1,h2⟩:=QiB (λa=>S ((QbJ p p.needs.length).getD a 0).toNat) (QbJ p p.needs.length).length;have h3:=(Qm8 aQ s).1 (h s (Zm.2 h1));refine Int.le_trans (Qgl (λx=>(sJ x).1) (λx=>(sJ x).2) (T:=QhR p s) (λt ht=>?_) λt ht hS hp=>?_) h3
  .obtain⟨a,q1,q2,q3⟩:=Qc7.1 ht;rw[h2 a q1,q3]at q2;simpa using q2
  .by_cases hl:t < p.needs.length
   .obtain⟨a,q1,q2⟩:=Qtn hl hp;exact Qc7.2 ⟨a,q1,by rw[h2 a q1,q2]; simpa using hS,q2⟩
   .unfold QaM at hp;rw[Zd,List.getElem?_eq_none (by omega)]at hp
    exact absurd hp (by simp)
 .intro h s _;exact(Qm8 aQ s).2 (h _)
end Go.Proofs.YtnfeakhkfehkhaaGreatDoor
namespace Go.Proofs.YtnfeakhkfehkhaaGreatDoor
open Go.RowKit
structure BookOk (b:List Bat):Prop where
 le:b.length<=8
 pos:1<=b.length
 bat:∀i (hi:i < b.length),Qol b i b[i]=0
structure BatOk (i:Nat) (x:Bat):Prop where
 name:Qbe x.name=true
 grams:1<=x.grams/\x.grams<=100000
 fresh:0<=x.fresh/\x.fresh<=x.grams
 lost:x.lost=true->x.takes=[]
 fr:∀t∈x.takes,0<=t.fr/\t.fr < i
 gr:∀t∈x.takes,1<=t.gr/\t.gr<=100000
 asc:QpK x.takes=true
 sum:x.lost=false->x.fresh+QaS x.takes=x.grams
theorem BookOk.at {b:List Bat} (h:BookOk b) {i:Nat} (hi:i < b.length):BatOk i b[i]:=by
 have h0:=h.bat i hi;unfold Qol at h0;split at h0
 .omega
 rename_i e1;split at h0
 .omega
 split at h0
 .omega
 rename_i e3;split at h0
 .omega
 rename_i e4;split at h0
 .omega
 rename_i e5;split at h0
 .omega
 rename_i e6;split at h0
 .omega
 rename_i e7;split at h0
 .omega
 rename_i e8;have mV:inR b[i].grams 1 100000=true/\inR b[i].fresh 0 b[i].grams=true:=by
  constructor
  .cases hc:inR b[i].grams 1 100000 with
   | true=>rfl
   | false=>exact absurd (.inl hc) e3
  .cases hc:inR b[i].fresh 0 b[i].grams with
   | true=>rfl
   | false=>exact absurd (.inr hc) e3
 refine⟨by simpa using e1,Qau.1 mV.1,Qau.1 mV.2,λhl=>?_,λt ht=>?_,λt ht=>?_,by simpa using e6,λhl=>?_⟩
 .refine List.length_eq_zero_iff.1 ?_;rcases Nat.eq_zero_or_pos b[i].takes.length with h | h
  .exact h
  .exact absurd ⟨hl,h⟩ e4
 .have:inR t.fr 0 ((i:Int) - 1)=true:=by
   cases hc:inR t.fr 0 ((i:Int) - 1)with
   | true=>rfl
   | false=>exact absurd (Zy.2 ⟨t,ht,by rw[hc]; rfl⟩) e5
  have:=Qau.1 this;omega
 .have:inR t.gr 1 100000=true:=by
   cases hc:inR t.gr 1 100000 with
   | true=>rfl
   | false=>exact absurd (Zy.2 ⟨t,ht,by rw[hc]; rfl⟩) e7
  exact Qau.1 this
 .by_cases hc:b[i].fresh+QaS b[i].takes=b[i].grams
  .exact hc
  .exact absurd ⟨hl,hc⟩ e8
theorem BatOk.sum_le {i:Nat} {x:Bat} (h:BatOk i x):0<=QaS x.takes/\QaS x.takes<=100000:=by
 cases hl:x.lost with
 | true=>rw[h.lost hl]; simp[QaS]
 | false=>
  have h1:=h.sum hl;have h2:=h.grams;have h3:=h.fresh;refine⟨?_,by omega⟩
  have:∀l:List Tak,(∀t∈l,1<=t.gr/\t.gr<=100000)->0<=QaS l:=by
   intro l
   induction l with
   | nil=>intro _; simp[QaS]
   | cons a t ih=>
    intro hl;have h4:=ih λt ht=>hl t (by simp[ht])
    have h5:=hl a (by simp)
    simp only[QaS,List.map_cons,List.sum_cons]at h4|-;omega
  exact this _ h.gr
theorem QiW {l:List Tak} (h:∀t∈l,1<=t.gr/\t.gr<=100000) (k:Nat):0<=QaS (l.take k)/\QaS (l.take k)<=QaS l:=by
 induction l generalizing k with
 | nil=>simp[QaS]
 | cons a t ih=>
  cases k with
  | zero=>
   have:=ih (λt ht=>h t (by simp[ht])) t.length
   rw[List.take_length]at this;have h5:=h a (by simp)
   simp only[List.take_zero,QaS,List.map_nil,List.sum_nil,List.map_cons,List.sum_cons]at this|-;omega
  | succ k=>
   have:=ih (λt ht=>h t (by simp[ht])) k
   have h5:=h a (by simp)
   simp only[List.take_succ_cons,QaS,List.map_cons,List.sum_cons]at this|-;omega
def QmJ (L:List Int) (t:Tak):List Int:=L.set t.fr.toNat (L.getD t.fr.toNat 0 - t.gr)
theorem Qmp (L:List Int) (t:Tak):(QmJ L t).length=L.length:=by simp[QmJ]
theorem Qml (l:List Tak):∀L:List Int,(l.foldl QmJ L).length=L.length:=by
 induction l with
 | nil=>intro L; rfl
 | cons a t ih=>intro L; rw[List.foldl_cons,ih,Qmp]
def Qg1 (b:List Bat) (i:Nat):List Int:=(b.take i).foldl (λL x=>x.takes.foldl QmJ L) (b.map (·.grams))
theorem Qhq (b:List Bat):Qg1 b 0=b.map (·.grams):=rfl
theorem QdG {b:List Bat} {i:Nat} (h:i < b.length):Qg1 b (i+1)=b[i].takes.foldl QmJ (Qg1 b i):=by
 simp only[Qg1];rw[List.take_succ_eq_append_getElem h,List.foldl_append]; rfl
theorem QdE (b:List Bat):∀i,i<=b.length->(Qg1 b i).length=b.length
 | 0,_=>by simp[Qhq]
 | i+1,h=>by rw[QdG (by omega),Qml,QdE b i (by omega)]
def BdL (L:List Int) (m:Int):Prop:=∀j,0 - m<=L.getD j 0/\L.getD j 0<=100000
theorem QlV (L:List Int) (t:Tak) (h0:0<=t.fr) (hl:t.fr < L.length) (j:Nat):(QmJ L t).getD j 0=L.getD j 0 - if t.fr=(j:Int)then t.gr else 0:=by
 unfold QmJ;obtain⟨f,hf⟩:∃f:Nat,t.fr=f:=⟨t.fr.toNat,by omega⟩
 rw[hf]at hl|-;have hl':f < L.length:=by omega
 simp only[Int.toNat_natCast,Zd,List.getElem?_set];by_cases hj:f=j
 .subst hj; simp[hl']
 .have:¬(f:Int)=(j:Int):=by omega
  simp[hj,this]
theorem BdL.sub {L:List Int} {m:Int} (h:BdL L m) {t:Tak} (h0:0<=t.fr) (hl:t.fr < L.length) (hg:0<=t.gr):BdL (QmJ L t) (m+t.gr):=by
 intro j;have:=h j;rw[QlV L t h0 hl j];split<;>omega
theorem Ql9 {L:List Int} {m:Int} (h:BdL L m) (l:List Tak) (h0:∀t∈l,0<=t.fr/\t.fr < L.length) (hg:∀t∈l,1<=t.gr/\t.gr<=100000):BdL (l.foldl QmJ L) (m+QaS l):=by
 induction l generalizing L m with
 | nil=>simpa[QaS]using h
 | cons a t ih=>
  have h1:=h.sub (h0 a (by simp)).1 (h0 a (by simp)).2 (by have:=hg a (by simp); omega)
  have h2:=ih h1 (λt ht=>by rw[Qmp]; exact h0 t (by simp[ht])) λt ht=>hg t (by simp[ht])
  rw[List.foldl_cons];have e:m+QaS (a::t)=m+a.gr+QaS t:=by simp[QaS]; omega
  rw[e]; exact h2
theorem QgV {b:List Bat} (h:BookOk b):∀i,i<=b.length->BdL (Qg1 b i) (100000*(i:Int))
 | 0,_=>λj=>by
  rw[Qhq,Zd,List.getElem?_map];cases hj:b[j]? with
  | none=>simp
  | some x=>
   obtain⟨aO,rfl⟩:=Zi.1 hj;have:=(h.at aO).grams;simp; omega
 | i+1,hi=>by
  have ih:=QgV h i (by omega)
  have hb:=h.at (i:=i) (by omega)
  have hl:=QdE b i (by omega)
  rw[QdG (by omega)]
  have h1:=Ql9 ih b[i].takes (λt ht=>by have:=hb.fr t ht; rw[hl]; omega) hb.gr
  have h2:=hb.sum_le;intro j;have:=h1 j;omega
theorem QAX (l:List Tak) (j:Nat):∀(L:List Int),(∀t∈l,0<=t.fr/\t.fr < L.length)->(l.foldl QmJ L).getD j 0=L.getD j 0 - Qlt l j:=by
 induction l with
 | nil=>intro L _; simp[Qlt]
 | cons a t ih=>
  intro L h;rw[List.foldl_cons,ih _ (λt ht=>by rw[Qmp]; exact h t (by simp[ht])),QlV L a (h a (by simp)).1 (h a (by simp)).2]
  unfold Qlt;by_cases hj:a.fr=(j:Int)
  .simp[hj]; omega
  .have cM:(a.fr==(j:Int))=false:=by simpa using hj
   simp[cM,hj]
theorem Ql1 {b:List Bat} (h:BookOk b) (j:Nat):∀i,i<=b.length->(Qg1 b i).getD j 0=(b.map (·.grams)).getD j 0 - ((b.take i).map λx=>Qlt x.takes j).sum
 | 0,_=>by simp[Qhq]
 | i+1,hi=>by
  have ih:=Ql1 h j i (by omega)
  have hb:=h.at (i:=i) (by omega)
  have hl:=QdE b i (by omega)
  rw[QdG (by omega),QAX _ _ _ (λt ht=>by have:=hb.fr t ht; rw[hl]; omega),ih,List.take_succ_eq_append_getElem (by omega),List.map_append,List.sum_append]
  simp; omega
theorem Qgg {b:List Bat} (h:BookOk b):Qg1 b b.length=QI b:=by
 have hl:=QdE b b.length (Zr _);refine List.ext_getElem (by rw[hl]; simp[QI]) λj h1 h2=>?_
 have h3:=Ql1 h j b.length (Zr _);rw[Qj _ j _ h1]at h3;rw[h3,List.take_length];have hj:j < b.length:=by omega
 simp[QI,QfE,hj]
end Go.Proofs.YtnfeakhkfehkhaaGreatDoor
namespace Go.Proofs.YtnfeakhkfehkhaaGreatDoor
def QnV (b:List Bat) (x t:Nat):Bool:=(b.getD t default).takes.any λk=>k.fr==(x:Int)
def Qfv (b:List Bat) (t:Nat):Bool:=(b.getD t default).lost
def Qaa (b:List Bat):Prb:=⟨Qem (Qac b),QaM (Qac b),QnV b,Qfv b⟩
structure ValidB (b:List Bat):Prop where
 ok:BookOk b
 lost:(QU b).length<=3
 kept:∀j,j < b.length->0<=QfE b j
 sol:QaT (Qac b)=true
theorem QN (b:List Bat):(QI b).length=b.length:=by simp[QI]
theorem QS (b:List Bat):(QV b).length=b.length:=by simp[QV]
theorem QmQ {b:List Bat} {j:Nat} (h:j < b.length):Qem (Qac b) j=QfE b j:=by
 simp[Qem,Qac,QI,Zd,h]
theorem QoH {b:List Bat} {j:Nat} (h:j < b.length):QaM (Qac b) j=QfA b j:=by
 simp[QaM,Qac,QV,Zd,h]
theorem QiF {b:List Bat} {j:Nat} (h:b.length<=j):Qem (Qac b) j=0:=by
 simp[Qem,Qac,QI,Zd,h]
theorem QdW {b:List Bat} {j:Nat} (h:b.length<=j):QaM (Qac b) j=0:=by
 simp[QaM,Qac,QV,Zd,h]
theorem Qbf {b:List Bat} {j:Nat} (h:j < b.length):b.getD j default=b[j]:=Qj b j _ h
theorem Qbc {b:List Bat} {j:Nat} (h:b.length<=j):b.getD j default=default:=by
 simp[Zd,h]
theorem QqM {b:List Bat} (h:BookOk b) (j:Nat):0<=QfA b j/\QfA b j<=100000:=by
 unfold QfA;by_cases hj:j < b.length
 .rw[Qbf hj];have:=(h.at hj).grams;have:=(h.at hj).fresh;split<;>omega
 .rw[Qbc (by omega)]
  simp[show(default:Bat).lost=false from rfl]
theorem Qqm {b:List Bat} (h:BookOk b) {j:Nat} (hj:j < b.length): -800000<=QfE b j/\QfE b j<=100000:=by
 have h1:=QgV h b.length (Zr _) j;rw[Qgg h]at h1;have h2:(QI b).getD j 0=QfE b j:=by simp[QI,Zd,hj]
 rw[h2]at h1;have:=h.le;omega
theorem Qe2 {b:List Bat} (h:BookOk b):PrOk (Qac b):=by
 have aX:=h.le;refine⟨by simp[Qac,QI,QV],by simpa[Qac,QI]using aX,λi=>?_,by simp[Qac]⟩
 show _<=Qem (Qac b) i/\Qem (Qac b) i<=_/\_<=QaM (Qac b) i/\QaM (Qac b) i<=_;by_cases hi:i < b.length
 .rw[QmQ hi,QoH hi];have:=Qqm h hi;have:=QqM h i;omega
 .rw[QiF (by omega),QdW (by omega)]; omega
theorem QEG {b:List Bat} (h:BookOk b) {x t:Nat} (hf:QnV b x t=true):x < t/\t < b.length:=by
 unfold QnV at hf;by_cases ht:t < b.length
 .rw[Qbf ht]at hf;obtain⟨k,hk,he⟩:=Zy.1 hf;have:=(h.at ht).fr k hk;have kU:k.fr=(x:Int):=by simpa using he
  omega
 .rw[Qbc (by omega)]at hf
  cases hf
theorem Qix {b:List Bat} {t:Nat} (h:Qfv b t=true):t < b.length:=by
 by_cases ht:t < b.length
 .exact ht
 .unfold Qfv at h;rw[Qbc (by omega)]at h; cases h
theorem Qg0 {b:List Bat} (h:ValidB b):PrbOk (Qaa b):=by
 have sJ:=((QdK (Qe2 h.ok)).1 h.sol).1;refine⟨λx=>(sJ x).1,λx=>(sJ x).2,λx t hf=>?_,λt ht=>?_⟩
 .have:=QEG h.ok hf;have:=h.ok.le;omega
 .show Qfv b t=true;have ht:0 < QaM (Qac b) t:=ht;by_cases hl:t < b.length
  .rw[QoH hl]at ht;unfold QfA at ht;split at ht
   .rename_i e; exact e
   .omega
  .rw[QdW (by omega)]at ht; omega
theorem Qla {b:List Bat} (h:ValidB b):Qpf noN (Qaa b).has (Qaa b).need:=by
 have:=((QdK (Qe2 h.ok)).1 h.sol).2;have e:nvP (Qac b)=noN:=rfl;rw[e]at this;exact this
def QcI (b:List Bat) (s t:Nat):Bool:=(List.range (Qq b).length).any λk=>QeB s k&&(Qq b).getD k 0==t
def Qcy (b:List Bat) (i s:Nat):Nat->Bool:=QcV (Qaa b) i (QcI b s)
def QaE (d:Nat->Bool) (n:Nat):List Edg:=(List.range n).flatMap λt=>if d t=true then []else((List.range t).filter d).map λ(x:Nat)=>⟨(x:Int),(t:Int)⟩
def Qjz (b:List Bat) (i k:Nat):Bool:=(List.range (2 ^ (Qq b).length)).all λs=>!(!Qcy b i s k&&QaT ⟨QI b,QV b,QaE (Qcy b i s) b.length⟩)
theorem QiA {P:Prb} {i:Nat} {c c':Nat->Bool} (h:∀t,P.lost t=true->c t=c' t):∀m,Qcb P i c m=Qcb P i c' m
 | 0=>rfl
 | m+1=>by
  rw[Qcb,Qcb,QiA h m];congr 1;cases hl:P.lost m with
  | false=>simp
  | true=>rw[h m hl]
theorem Qfc {nv nv':Nat->Nat->Bool} {has needs:Nat->Int} (hh:∀x,0<=has x) (hn:∀t,0<=needs t) (h:∀x t,x < t->t < 8->0 < needs t->nv x t=nv' x t) (H:Qpf nv has needs):Qpf nv' has needs:=by
 intro S;refine Int.le_trans (Qgl hh hn (T:=λt=>S t&&decide (0 < needs t)) (λt ht=>by simp only[Za]at ht; exact ht.1) λt _ h1 h2=>by simp[h1,h2]) ?_
 have e:nbB nv' (λt=>S t&&decide (0 < needs t))=nbB nv (λt=>S t&&decide (0 < needs t)):=by
  funext x;rw[Bool.eq_iff_iff,QeS,QeS];constructor
  .rintro⟨t,h1,h2,h3,h4⟩;simp only[Za,decide_eq_true_eq]at h2;exact⟨t,h1,by simp[h2.1,h2.2],h3,by rw[h x t h3 h1 h2.2]; exact h4⟩
  .rintro⟨t,h1,h2,h3,h4⟩;simp only[Za,decide_eq_true_eq]at h2;exact⟨t,h1,by simp[h2.1,h2.2],h3,by rw[<-h x t h3 h1 h2.2]; exact h4⟩
 have:=H (λt=>S t&&decide (0 < needs t));unfold QjQ at this|-;rw[e]; exact this
theorem QmS {d:Nat->Bool} {n:Nat} {x t:Int} :(⟨x,t⟩:Edg)∈QaE d n↔∃a c:Nat,x=a/\t=c/\c < n/\a < c/\d c=false/\d a=true:=by
 unfold QaE;rw[List.mem_flatMap];constructor
 .rintro⟨c,h1,h2⟩;rw[Zm]at h1;split at h2
  .cases h2
  .rename_i hd;obtain⟨a,h3,h4⟩:=List.mem_map.1 h2;simp only[Edg.mk.injEq]at h4;rw[List.mem_filter,Zm]at h3;exact⟨a,c,h4.1.symm,h4.2.symm,h1,h3.1,by simpa using hd,h3.2⟩
 .rintro⟨a,c,rfl,rfl,h1,h2,h3,h4⟩;refine⟨c,Zm.2 h1,?_⟩;rw[if_neg (by rw[h3]; simp)]
  exact List.mem_map.2 ⟨a,List.mem_filter.2 ⟨Zm.2 h2,h4⟩,rfl⟩
theorem Qwj {p:Pro} {d:Nat->Bool} {n x t:Nat} (hp:p.never=QaE d n) (hx:x < t) (ht:t < n):nvP p x t=(d x&&!d t):=by
 unfold nvP;rw[hp,Bool.eq_iff_iff,Zy];constructor
 .rintro⟨⟨a,c⟩,h1,h2⟩;simp only[Za,beq_iff_eq]at h2;obtain⟨a',c',rfl,rfl,h3,h4,h5,h6⟩:=QmS.1 h1;have e1:a'=x:=by omega
  have e2:c'=t:=by omega
  subst e1 e2;simp[h5,h6]
 .intro h;simp only[Za,Bool.not_eq_true']at h;exact⟨⟨x,t⟩,QmS.2 ⟨x,t,rfl,rfl,ht,hx,h.2,h.1⟩,by simp⟩
theorem QfW (d:Nat->Bool) (n:Nat):QaE d (n+1)=QaE d n++if d n=true then []else((List.range n).filter d).map λ(x:Nat)=>⟨(x:Int),(n:Int)⟩:=by
 simp[QaE,List.range_succ]
theorem Qe4 (d:Nat->Bool):∀n,(QaE d n).length<=n*n
 | 0=>by simp[QaE]
 | n+1=>by
  have ih:=Qe4 d n;rw[QfW,List.length_append];have h:(if d n=true then([]:List Edg)else((List.range n).filter d).map λ(x:Nat)=>⟨(x:Int),(n:Int)⟩).length<=n:=by
   split
   .simp
   .rw[List.length_map]; exact Nat.le_trans (List.length_filter_le _ _) (by simp)
  have e:(n+1)*(n+1)=n*n+n+n+1:=by rw[Nat.succ_mul,Nat.mul_succ]; omega
  omega
theorem Qrr {b:List Bat} (h:BookOk b) (d:Nat->Bool):PrOk ⟨QI b,QV b,QaE d b.length⟩:=by
 have hb:=Qe2 h;have aX:=h.le;refine⟨hb.len,hb.le,hb.vals,?_⟩;have h1:=Qe4 d b.length;have h2:b.length*b.length<=8*8:=Nat.mul_le_mul aX aX;show(QaE d b.length).length<=1000000;omega
theorem Qmu {b:List Bat} (h:ValidB b) {i s:Nat} :QaT ⟨QI b,QV b,QaE (Qcy b i s) b.length⟩=true↔Qpf (nvD (Qaa b) i (QcI b s)) (Qaa b).has (Qaa b).need:=by
 have hP:=Qg0 h;have aQ:=Qrr h.ok (Qcy b i s);rw[QdK aQ];have hag:∀x t,x < t->t < 8->0 < (Qaa b).need t->nvP ⟨QI b,QV b,QaE (Qcy b i s) b.length⟩ x t=nvD (Qaa b) i (QcI b s) x t:=λx t hx ht hn=>by
  have dJ:t < b.length:=Qix (hP.lostn t hn);rw[Qwj rfl hx dJ]; rfl
 constructor
 .rintro⟨_,h2⟩;exact Qfc hP.has hP.need hag h2
 .intro h2;exact⟨λx=>⟨hP.has x,hP.need x⟩,Qfc hP.has hP.need (λx t a c d=>(hag x t a c d).symm) h2⟩
theorem Qb8 {b:List Bat} {t:Nat} :t∈Qq b↔t < b.length/\Qfv b t=true:=by
 simp[Qq,Qfv]
theorem Qef (b:List Bat):(Qq b).Nodup:=List.Pairwise.filter _ List.nodup_range
theorem Qsm (b:List Bat) (c:Nat->Bool):∃s,s < 2 ^ (Qq b).length/\∀t,Qfv b t=true->QcI b s t=c t:=by
 obtain⟨s,h1,h2⟩:=QiB (λk=>c ((Qq b).getD k 0)) (Qq b).length;refine⟨s,h1,λt ht=>?_⟩;have nG:t∈Qq b:=Qb8.2 ⟨Qix ht,ht⟩;obtain⟨k,hk,yW⟩:=List.getElem_of_mem nG;have hg:(Qq b).getD k 0=t:=by rw[Qj _ _ _ hk]; exact yW
 unfold QcI;rw[Bool.eq_iff_iff,Zy];constructor
 .rintro⟨j,h3,h4⟩;rw[Zm]at h3;simp only[Za,beq_iff_eq]at h4;have:=h2 j h3;rw[h4.1,h4.2]at this;exact this.symm
 .intro hc;refine⟨k,Zm.2 hk,?_⟩;rw[h2 k hk,hg];simp[hc]
theorem Qxk {b:List Bat} (h:ValidB b) {i k:Nat} (hi:i < b.length) (hk:k < b.length):Qjz b i k=true↔Qs9 (Qaa b) i k:=by
 have aX:=h.ok.le;rw[Qws (Qg0 h) (by omega) (by omega)]
 unfold Qjz;rw[Zl];constructor
 .intro hall c hc;obtain⟨s,h1,h2⟩:=Qsm b c;have e:QcV (Qaa b) i (QcI b s)=QcV (Qaa b) i c:=QiA (λt ht=>h2 t ht) 8;have e2:nvD (Qaa b) i (QcI b s)=nvD (Qaa b) i c:=by funext x t; unfold nvD; rw[e]
  have h3:=hall s (Zm.2 h1);have h4:=(Qmu h).2 (by rw[e2]; exact hc)
  rw[h4]at h3;unfold Qcy at h3;rw[e]at h3;simpa using h3
 .intro hall s _;cases hs:QaT ⟨QI b,QV b,QaE (Qcy b i s) b.length⟩with
  | false=>simp
  | true=>
   have:=hall _ ((Qmu h).1 hs);show(!(!QcV (Qaa b) i (QcI b s) k&&true))=true;rw[this]; rfl
def Qd0 (_:Nat) (x:Int):Int:=if x < 0 then 7 else 0
def Q5 (b:List Bat):Int×Int×Int:=
 if inR b.length 1 8=false then(1,0,3)
 else if ¬(Qev (Qol b) 0 b).2=0 then(2,Qev (Qol b) 0 b)
 else if 3 < (QU b).length then(3,0,3)
 else if ¬(Qev Qd0 0 (QI b)).2=0 then(4,Qev Qd0 0 (QI b))
 else if QaT (Qac b)=false then(5,0,9)else(0,0,0)
theorem Qfn {α:Type} (f:Nat->α->Int) (l:List α):(Qev f 0 l).2=0↔∀k (h:k < l.length),f k l[k]=0:=by
 rcases Qdb f l with⟨h1,h2⟩ | ⟨k,hk,h1,h2,_⟩
 .rw[h1]; exact⟨λ_=>h2,λ_=>rfl⟩
 .rw[h1]; exact⟨λh=>absurd h h2,λh=>absurd (h k hk) h2⟩
theorem QzH {b:List Bat} (h1:¬inR b.length 1 8=false) (h2:(Qev (Qol b) 0 b).2=0):BookOk b:=by
 have h:inR b.length 1 8=true:=by
  cases q:inR b.length 1 8 with
  | true=>rfl
  | false=>exact absurd q h1
 have:=Qau.1 h;exact⟨by omega,by omega,(Qfn _ _).1 h2⟩
theorem Qbl (b:List Bat):(Q5 b).2.2=0↔ValidB b:=by
 unfold Q5;constructor
 .intro h;split at h
  .cases h
  rename_i h1;split at h
  .rename_i h2; exact absurd h h2
  rename_i h2;split at h
  .cases h
  rename_i h3;split at h
  .rename_i h4; exact absurd h h4
  rename_i h4;split at h
  .cases h
  rename_i h5;have yX:=(Qfn Qd0 (QI b)).1 (Decidable.not_not.1 h4);refine⟨QzH h1 (Decidable.not_not.1 h2),by omega,λj hj=>?_,by simpa using h5⟩
  have:=yX j (by rw[QN]; exact hj)
  unfold Qd0 at this;split at this
  .cases this
  .rename_i hn;have e:(QI b)[j]'(by rw[QN]; exact hj)=QfE b j:=by simp[QI]
   rw[e]at hn;omega
 .intro h;have hp:=h.ok.pos;have aX:=h.ok.le;have e1:inR b.length 1 8=true:=Qau.2 (by omega)
  have e2:(Qev (Qol b) 0 b).2=0:=(Qfn _ _).2 h.ok.bat;have e3:¬3 < (QU b).length:=by have:=h.lost; omega
  have e4:(Qev Qd0 0 (QI b)).2=0:=(Qfn _ _).2 λk hk=>by
   have cZ:k < b.length:=by rw[QN]at hk; exact hk
   have e:(QI b)[k]=QfE b k:=by simp[QI]
   rw[e];have:=h.kept k cZ;unfold Qd0;rw[if_neg (by omega)]
  rw[e1,if_neg (by simp),if_neg (by rw[e2]; simp),if_neg e3,if_neg (by rw[e4]; simp),h.sol]
  rfl
def bsS (c:Int) (p:Int×Int):Int×Int:=if c<=(p.1+p.2) / 2 then(p.1,(p.1+p.2) / 2)else((p.1+p.2) / 2+1,p.2)
def bsK (c l h:Int):Nat->Int×Int
 | 0=>(l,h)
 | k+1=>bsS c (bsK c l h k)
theorem QE3 {b:List Bat} (h:ValidB b) {i:Nat} (hi:i < b.length):0<=QpT (Qaa b) i/\QpT (Qaa b) i<=QfE b i:=by
 have hP:=Qg0 h;have aX:=h.ok.le;have e:(Qaa b).has i=QfE b i:=QmQ hi;constructor
 .have h1:=(QeW (nv:=noN) (has:=Q2 (Qaa b).has i 0) (needs:=(Qaa b).need) (λx=>by
   by_cases hx:x=i
   .subst hx; rw[Qae]; exact Int.le_refl _
   .rw[Q3 _ _ hx]; exact hP.has x) hP.need).1 (λ_=>false)
  have h0:QjQ noN (Q2 (Qaa b).has i 0) (Qaa b).need (λ_=>false)=0:=by
   unfold QjQ inN;have e:∀x,nbB noN (λ_=>false) x=false:=λx=>by
    cases q:nbB noN (λ_=>false) x with
    | false=>rfl
    | true=>obtain⟨t,_,h,_⟩:=QeS.1 q; cases h
   rw[Q0 (g:=λ_=>0) λi _=>by simp,Q0 (f:=λi_1=>if nbB noN (λ_=>false) i_1=true then Q2 (Qaa b).has i 0 i_1 else 0) (g:=λ_=>0) λi _=>by simp[e],Qal]; rfl
  rw[h0]at h1;exact h1
 .rw[<-e];refine(QpL hP (by omega) (hP.has i) (Qla h) (Int.le_refl _)).1 ?_
  have:Q2 (Qaa b).has i ((Qaa b).has i)=(Qaa b).has:=by
   funext x;by_cases hx:x=i
   .subst hx; rw[Qae]
   .rw[Q3 _ _ hx]
  rw[this]; exact Qla h
def Qj7 (b:List Bat) (i:Nat):Spn:=⟨QfE b i - min (QfE b i) (QfK (Qaa b) i),QfE b i - QpT (Qaa b) i⟩
end Go.Proofs.YtnfeakhkfehkhaaGreatDoor
