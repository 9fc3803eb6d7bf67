/-
  Two batches, one directly behind the other, change places: all is the same, with other numbers. Plain; no program here. Conditions: none.
-/
import Derived.Test.YtnfeakhkfehkhaaGreatDoorZTr
set_option linter.unusedSimpArgs false
set_option linter.unusedVariables false
namespace Go.Proofs.YtnfeakhkfehkhaaGreatDoor
def swN (n i:Nat):Nat:=if i=n then n+1 else if i=n+1 then n else i
theorem QPB (n i:Nat):swN n (swN n i)=i:=by unfold swN; split<;>(try split)<;>(try split)<;>omega
theorem QPJ {n i N:Nat} (h:n+1 < N):swN n i < N↔i < N:=by unfold swN; split<;>(try split)<;>omega
theorem QQm {n i j:Nat} (h:swN n i=swN n j):i=j:=by rw[<-QPB n i,h,QPB]
theorem QPX (n j:Nat) (f:Int):(QPx f (n:Int)==(j:Int))=(f==((swN n j:Nat):Int)):=by
 rw[Bool.eq_iff_iff,beq_iff_eq,beq_iff_eq];unfold QPx swN;split<;>(try split)<;>(try split)<;>(try split)<;>omega
theorem QPS (f:Nat->Int) {n:Nat} :∀{N:Nat},n+1 < N->QY N (λk=>f (swN n k))=QY N f
 | 0,h=>by omega
 | N+1,h=>by
  rw[QY,QY];by_cases e:n+1 < N
  .rw[QPS f e,show swN n N=N by unfold swN; split<;>(try split)<;>omega]
  .obtain rfl:N=n+1:=by omega
   rw[QY,QY,Q0 (n:=n) (g:=f) λk hk=>by rw[show swN n k=k by unfold swN; split<;>(try split)<;>omega]]
   have e1:swN n n=n+1:=by unfold swN; rw[if_pos rfl]
   have e2:swN n (n+1)=n:=by unfold swN; rw[if_neg (by omega),if_pos rfl]
   rw[e1,e2]; omega
theorem QPK (p:Nat->Bool):∀N,((((List.range N).filter p).length:Nat):Int)=QY N λk=>if p k=true then 1 else 0
 | 0=>rfl
 | N+1=>by
  rw[List.range_succ,List.filter_append,List.length_append,QY,<-QPK p N,List.filter_cons];cases p N with
  | true=>simp
  | false=>simp
theorem QRh {n N:Nat} (h:n+1 < N) {p q:Nat->Bool} (e:∀k,k < N->p k=q (swN n k)):((List.range N).filter p).length=((List.range N).filter q).length:=by
 have h1:=QPK p N;have h2:=QPK q N;rw[Q0 (g:=λk=>(λk=>if q k=true then(1:Int)else 0) (swN n k)) λk hk=>by rw[e k hk],QPS (λk=>if q k=true then(1:Int)else 0) h,<-h2]at h1
 omega
def swT (n:Nat) (t:Tak):Tak:=⟨QPx t.fr n,t.gr⟩
def QQH (f:Int) (l:List Tak):Nat->Nat
 | 0=>0
 | a+1=>if f < (l.getD a default).fr then QQH f l a else a+1
def QRn (l:List Tak) (t:Tak):List Tak:=l.take (QQH t.fr l l.length)++t::l.drop (QQH t.fr l l.length)
def QQl (n:Nat) (l:List Tak):Nat->List Tak
 | 0=>[]
 | k+1=>QRn (QQl n l k) (swT n (l.getD k default))
def QQY (n:Nat) (l:List Tak):List Tak:=QQl n l l.length
theorem QQi (f:Int) (l:List Tak):∀a,QQH f l a<=a
 | 0=>Zr _
 | a+1=>by
  rw[QQH];split
  .have:=QQi f l a; omega
  .exact Zr _
theorem QQh (f:Int) (l:List Tak):∀a i,QQH f l a<=i->i < a->f < (l.getD i default).fr
 | 0,i,_,h=>by omega
 | a+1,i,h1,h2=>by
  rw[QQH]at h1;split at h1
  .rename_i h;by_cases e:i=a
   .subst e; exact h
   .exact QQh f l a i h1 (by omega)
  .omega
theorem QQg (f:Int) (l:List Tak):∀a,0 < QQH f l a->(l.getD (QQH f l a - 1) default).fr<=f
 | 0,h=>by cases h
 | a+1,h=>by
  rw[QQH]at h|-;split
  .rename_i h1;rw[if_pos h1]at h;exact QQg f l a h
  .rename_i h1;rw[Nat.add_sub_cancel]; omega
theorem QQd (l:List Tak) (t:Tak):(QRn l t).Perm (t::l):=by
 unfold QRn;generalize QQH t.fr l l.length=a;have:=List.perm_middle (a:=t) (l₁:=l.take a) (l₂:=l.drop a)
 rwa [List.take_append_drop]at this
abbrev QQN (l:List Tak):Prop:=l.Pairwise λa c=>a.fr < c.fr
theorem QQ5 {l:List Tak} {t:Tak} (h:QQN l) (hn:∀x∈l,¬x.fr=t.fr):QQN (QRn l t):=by
 have aX:=QQi t.fr l l.length;have yS:=QQh t.fr l l.length;have lI:=QQg t.fr l l.length;have hg:∀i j (hi:i < l.length) (hj:j < l.length),i < j->l[i].fr < l[j].fr:=λi j hi hj hij=>List.pairwise_iff_getElem.1 h i j hi hj hij;unfold QRn QQN;generalize QQH t.fr l l.length=a at*;have hT:∀x∈l.take a,x.fr < t.fr:=λx hx=>by
  obtain⟨i,hi,rfl⟩:=List.mem_take_iff_getElem.1 hx;have h1:=lI (by omega)
  rw[Qj _ _ _ (by omega:a - 1 < l.length)]at h1
  have h2:l[i].fr<=l[a - 1].fr:=by
   by_cases e:i=a - 1
   .subst e; exact Int.le_refl _
   .exact Int.le_of_lt (hg i (a - 1) (by omega) (by omega) (by omega))
  have h3:=hn l[i] (Ze _);omega
 have hD:∀x∈l.drop a,t.fr < x.fr:=λx hx=>by
  obtain⟨i,hi,rfl⟩:=List.mem_drop_iff_getElem.1 hx;have h1:=yS (a+i) (by omega) (by omega)
  rwa [Qj _ _ _ (by omega:a+i < l.length)]at h1
 have hp:=h;rw[<-List.take_append_drop a l,QQN,List.pairwise_append]at hp;rw[List.pairwise_append,List.pairwise_cons];refine⟨hp.1,⟨hD,hp.2.1⟩,λx hx y hy=>?_⟩;rcases List.mem_cons.1 hy with rfl | hy
 .exact hT x hx
 .exact hp.2.2 x hx y hy
theorem QQE {n:Nat} {f g:Int} (h:QPx f n=QPx g n):f=g:=by
 unfold QPx at h;split at h<;>(try split at h)<;>(try split at h)<;>(try split at h)<;>omega
theorem QQo (n:Nat) {l:List Tak} (h:QQN l):∀k,k<=l.length->(QQl n l k).Perm ((l.take k).map (swT n))/\QQN (QQl n l k)
 | 0,_=>⟨List.Perm.refl _,List.Pairwise.nil⟩
 | k+1,hk=>by
  obtain⟨h1,h2⟩:=QQo n h k (by omega)
  have hg:∀i j (hi:i < l.length) (hj:j < l.length),i < j->l[i].fr < l[j].fr:=λi j hi hj hij=>List.pairwise_iff_getElem.1 h i j hi hj hij;rw[QQl,Qj _ _ _ (by omega:k < l.length)]
  refine⟨?_,QQ5 h2 λx hx he=>?_⟩
  .refine(QQd _ _).trans ?_;rw[List.take_succ_eq_append_getElem (by omega),List.map_append]
   refine(List.Perm.cons _ h1).trans ?_;exact(List.perm_append_comm (l₁:=[swT n l[k]]) (l₂:=(l.take k).map (swT n)))
  .obtain⟨y,hy,rfl⟩:=List.mem_map.1 (h1.mem_iff.1 hx);obtain⟨i,hi,rfl⟩:=List.mem_take_iff_getElem.1 hy;have:=QQE (n:=n) (f:=l[i].fr) (g:=l[k].fr) he;have:=hg i k (by omega) (by omega) (by omega)
   omega
theorem QQS (n:Nat) {l:List Tak} (h:QQN l):(QQY n l).Perm (l.map (swT n)):=by
 have:=(QQo n h l.length (Zr _)).1
 rwa [List.take_length]at this
theorem QQ4 (n:Nat) {l:List Tak} (h:QQN l):QQN (QQY n l):=(QQo n h l.length (Zr _)).2
theorem QQf {l:List Tak} (h:QpK l=true):QQN l:=List.pairwise_iff_getElem.2 λi j hi hj hij=>QDQ h j hj i hij
theorem QQy {l m:List Int} (h:l.Perm m):l.sum=m.sum:=by
 induction h with
 | nil=>rfl
 | cons x _ ih=>simp only[List.sum_cons,ih]
 | swap x y l=>simp only[List.sum_cons]; omega
 | trans _ _ ih1 ih2=>rw[ih1,ih2]
theorem QQK {l m:List Tak} (h:l.Perm m) (j:Nat):Qlt l j=Qlt m j:=QQy ((h.filter _).map _)
theorem QQk {l m:List Tak} (h:l.Perm m):QaS l=QaS m:=QQy (h.map _)
theorem QQq (n j:Nat):∀l:List Tak,Qlt (l.map (swT n)) j=Qlt l (swN n j)
 | []=>rfl
 | t::l=>by
  have ih:=QQq n j l;unfold Qlt at ih|-;rw[List.map_cons,List.filter_cons,List.filter_cons];show(List.map _ (if(QPx t.fr n==(j:Int))=true then _ else _)).sum=_;rw[QPX];cases(t.fr==((swN n j:Nat):Int))with
  | true=>simp only[if_true,List.map_cons,List.sum_cons,ih]; rfl
  | false=>simpa using ih
theorem QQU (n:Nat) (l:List Tak):QaS (l.map (swT n))=QaS l:=by
 unfold QaS;rw[List.map_map]; rfl
def QPG (b:List Bat) (n:Nat):List Bat:=(List.range b.length).map λi=> { b.getD (swN n i) default with takes:=if i < n then(b.getD i default).takes else QQY n (b.getD (swN n i) default).takes}
theorem QPy (b:List Bat) (n:Nat):(QPG b n).length=b.length:=by simp[QPG]
theorem QQV {b:List Bat} {n i:Nat} (h:i < b.length):(QPG b n).getD i default= { b.getD (swN n i) default with takes:=if i < n then(b.getD i default).takes else QQY n (b.getD (swN n i) default).takes} :=by
 unfold QPG;rw[Zd,List.getElem?_map,List.getElem?_range h]; rfl
structure SwOk (b:List Bat) (n:Nat):Prop where
 v:ValidB b
 lt:n+1 < b.length
 l0:Qfv b n=false
 l1:Qfv b (n+1)=false
 no:QnV b n (n+1)=false
theorem SwOk.takes {b:List Bat} {n:Nat} (S:SwOk b n) {i:Nat} (hi:i < b.length):((QPG b n).getD i default).takes.Perm ((b.getD (swN n i) default).takes.map (swT n))/\QQN ((QPG b n).getD i default).takes:=by
 have hl:=S.lt;have hs:swN n i < b.length:=(QPJ hl).2 hi;have ha:=QQf (S.v.ok.at hs).asc;rw[QQV hi,Qbf hs];dsimp only;by_cases h:i < n
 .rw[if_pos h,Qbf hi];have e:swN n i=i:=by unfold swN; split<;>(try split)<;>omega
  have hb:=S.v.ok.at hi;simp only[e];refine⟨?_,QQf hb.asc⟩;have key:b[i].takes.map (swT n)=b[i].takes:=by
   have:b[i].takes.map (swT n)=b[i].takes.map id:=List.map_congr_left λt ht=>by
    have:=hb.fr t ht;unfold swT QPx;rw[if_neg (by omega),if_neg (by omega)]; rfl
   rw[this,List.map_id]
  rw[key]
 .rw[if_neg h];exact⟨QQS n ha,QQ4 n ha⟩
theorem SwOk.fresh {b:List Bat} {n:Nat} (S:SwOk b n) {i:Nat} (hi:i < b.length):((QPG b n).getD i default).grams=(b.getD (swN n i) default).grams/\((QPG b n).getD i default).fresh=(b.getD (swN n i) default).fresh/\((QPG b n).getD i default).lost=(b.getD (swN n i) default).lost/\((QPG b n).getD i default).name=(b.getD (swN n i) default).name:=by
 rw[QQV hi]; exact⟨rfl,rfl,rfl,rfl⟩
theorem SwOk.bat {b:List Bat} {n:Nat} (S:SwOk b n) {i:Nat} (hi:i < b.length):BatOk i ((QPG b n).getD i default):=by
 have hl:=S.lt;have hs:swN n i < b.length:=(QPJ hl).2 hi;have hb:=S.v.ok.at hs;obtain⟨h1,h2⟩:=S.takes hi;obtain⟨g1,g2,g3,g4⟩:=S.fresh hi;rw[Qbf hs]at h1 g1 g2 g3 g4;refine⟨by rw[g4]; exact hb.name,by rw[g1]; exact hb.grams,by rw[g1,g2]; exact hb.fresh,λq=>?_,λt ht=>?_,λt ht=>?_,QNf h2,λq=>?_⟩
 .rw[g3]at q;rw[hb.lost q]at h1;exact h1.eq_nil
 .obtain⟨y,hy,rfl⟩:=List.mem_map.1 (h1.mem_iff.1 ht);have hf:=hb.fr y hy;have bA:¬(i=n/\y.fr=n):=by
   rintro⟨rfl,e⟩;have m9:swN i i=i+1:=by unfold swN; rw[if_pos rfl]
   have:=S.no;unfold QnV at this;rw[Qbf (by omega:i+1 < b.length)]at this
   rw[List.any_eq_false]at this;refine this y ?_ (by rw[e]; simp)
   simpa only[m9]using hy
  show 0<=QPx y.fr n/\QPx y.fr n < i;have hsw:swN n i=if i=n then n+1 else if i=n+1 then n else i:=rfl;unfold QPx;split at hsw
  .split<;>(try split)<;>omega
  .split at hsw
   .split<;>(try split)<;>omega
   .split<;>(try split)<;>omega
 .obtain⟨y,hy,rfl⟩:=List.mem_map.1 (h1.mem_iff.1 ht);exact hb.gr y hy
 .rw[g3]at q;rw[g1,g2,QQk h1,QQU];exact hb.sum q
theorem QQ3 {b:List Bat} (h:BookOk b) {j k:Nat} (hj:j < b.length) (hk:k < b.length) (he:b[j].name=b[k].name):j=k:=by
 have key:∀j k (hj:j < b.length) (hk:k < b.length),j < k->b[j].name≠b[k].name:=by
  intro j k hj hk tA he;have hs:=QNa h hk;rw[List.any_eq_false]at hs;refine hs b[j] (List.mem_take_iff_getElem.2 ⟨j,by omega,rfl⟩) ?_
  rw[he]; simp
 rcases Nat.lt_trichotomy j k with h1 | h1 | h1
 .exact absurd he (key j k hj hk h1)
 .exact h1
 .exact absurd he.symm (key k j hk hj h1)
theorem QQp {s t:ByteArray} (h:s.toList=t.toList):s=t:=by
 rw[ByteArray.toList_eq,ByteArray.toList_eq]at h;obtain⟨⟨a⟩⟩:=s;obtain⟨⟨c⟩⟩:=t;simp only at h;rw[h]
theorem SwOk.book {b:List Bat} {n:Nat} (S:SwOk b n):BookOk (QPG b n):=by
 have hl:=S.lt;refine⟨by rw[QPy]; exact S.v.ok.le,by rw[QPy]; exact S.v.ok.pos,λi hi=>?_⟩
 have hib:i < b.length:=by rw[QPy]at hi; exact hi
 refine QNd ?_ ?_
 .have:=S.bat hib
  rwa [Qj _ _ _ hi]at this
 .rw[List.any_eq_false];intro y hy he;obtain⟨j,hj,rfl⟩:=List.mem_take_iff_getElem.1 hy;have aO:j < (QPG b n).length:=by omega
  have oC:j < b.length:=by rw[QPy]at aO; exact aO
  have kU:(QPG b n)[j].name=(QPG b n)[i].name:=QQp (by simpa using he)
  have e1:=(S.fresh oC).2.2.2;have e2:=(S.fresh hib).2.2.2;rw[Qj _ _ _ aO,Qbf ((QPJ hl).2 oC)]at e1;rw[Qj _ _ _ hi,Qbf ((QPJ hl).2 hib)]at e2;rw[e1,e2]at kU;have:=QQm (QQ3 S.v.ok _ _ kU);omega
theorem SwOk.kept {b:List Bat} {n:Nat} (S:SwOk b n) {j:Nat} (hj:j < b.length):QfE (QPG b n) j=QfE b (swN n j):=by
 unfold QfE;rw[(S.fresh hj).1,QLZ (λx:Bat=>Qlt x.takes j) (QPG b n) default,QLZ (λx:Bat=>Qlt x.takes (swN n j)) b default,QPy,<-QPS (λt=>Qlt (b.getD t default).takes (swN n j)) S.lt];congr 1;refine Q0 λt ht=>?_;rw[QQK (S.takes ht).1,QQq]
theorem SwOk.needs {b:List Bat} {n:Nat} (S:SwOk b n) {j:Nat} (hj:j < b.length):QfA (QPG b n) j=QfA b (swN n j):=by
 obtain⟨g1,g2,g3,g4⟩:=S.fresh hj;unfold QfA;rw[g1,g2,g3]
theorem QP3 {n i N:Nat} (h:n+1 < N) (hi:N<=i):swN n i=i:=by unfold swN; split<;>(try split)<;>omega
structure SwP (n:Nat) (P Q:Prb):Prop where
 has:∀x,Q.has x=P.has (swN n x)
 need:∀x,Q.need x=P.need (swN n x)
 fix:∀x t,Q.fix x t=P.fix (swN n x) (swN n t)
 lost:∀x,Q.lost x=P.lost (swN n x)
theorem SwP.symm {n:Nat} {P Q:Prb} (S:SwP n P Q):SwP n Q P:=⟨λx=>by rw[S.has,QPB],λx=>by rw[S.need,QPB],λx t=>by rw[S.fix,QPB,QPB],λx=>by rw[S.lost,QPB]⟩
def swG (n:Nat) (g:Nat->Nat->Int):Nat->Nat->Int:=λx t=>g (swN n x) (swN n t)
theorem QRw (n:Nat) (g:Nat->Nat->Int):swG n (swG n g)=g:=by
 funext x t;unfold swG;rw[QPB,QPB]
theorem SwOk.prb {b:List Bat} {n:Nat} (S:SwOk b n):SwP n (Qaa b) (Qaa (QPG b n)):=by
 have hl:=S.lt;refine⟨λx=>?_,λx=>?_,λx t=>?_,λx=>?_⟩
 .show Qem (Qac (QPG b n)) x=Qem (Qac b) (swN n x);by_cases h:x < b.length
  .rw[QmQ (by rw[QPy]; exact h),QmQ ((QPJ hl).2 h),S.kept h]
  .rw[QiF (by rw[QPy]; omega),QP3 hl (by omega),QiF (by omega)]
 .show QaM (Qac (QPG b n)) x=QaM (Qac b) (swN n x);by_cases h:x < b.length
  .rw[QoH (by rw[QPy]; exact h),QoH ((QPJ hl).2 h),S.needs h]
  .rw[QdW (by rw[QPy]; omega),QP3 hl (by omega),QdW (by omega)]
 .show QnV (QPG b n) x t=QnV b (swN n x) (swN n t);unfold QnV;by_cases h:t < b.length
  .have hp:=(S.takes h).1;rw[Bool.eq_iff_iff,Zy,Zy];constructor
   .rintro⟨k,hk,e⟩;obtain⟨y,hy,rfl⟩:=List.mem_map.1 (hp.mem_iff.1 hk);refine⟨y,hy,?_⟩;rw[<-QPX]; exact e
   .rintro⟨y,hy,e⟩;refine⟨swT n y,hp.mem_iff.2 (List.mem_map.2 ⟨y,hy,rfl⟩),?_⟩;rw[<-QPX]at e; exact e
  .rw[QP3 hl (by omega),Qbc (by rw[QPy]; omega),Qbc (by omega)]
   rfl
 .show Qfv (QPG b n) x=Qfv b (swN n x);unfold Qfv;by_cases h:x < b.length
  .exact(S.fresh h).2.2.1
  .rw[Qbc (by rw[QPy]; omega),QP3 hl (by omega),Qbc (by omega)]
theorem QPW {n:Nat} {P Q:Prb} (hn:n+1 < 8) (hP:PrbOk P) (S:SwP n P Q) (l0:P.lost n=false) (l1:P.lost (n+1)=false) {g:Nat->Nat->Int} (hg:Tru P g):Tru Q (swG n g):=by
 refine⟨λx t=>hg.nn _ _,λx t q=>?_,λx hx=>?_,λt ht=>?_⟩
 .unfold swG at q;have h1:=hP.lostn _ (QqP hg q);obtain⟨⟨h2,_⟩,h3⟩:=hg.sup _ _ q;have n0:¬swN n t=n:=λe=>by rw[e,l0]at h1; cases h1
  have n1:¬swN n t=n+1:=λe=>by rw[e,l1]at h1; cases h1
  have t0:¬t=n:=λe=>n1 (by rw[e]; unfold swN; rw[if_pos rfl])
  have t1:¬t=n+1:=λe=>n0 (by rw[e]; unfold swN; rw[if_neg (by omega),if_pos rfl])
  have et:swN n t=t:=by unfold swN; rw[if_neg t0,if_neg t1]
  rw[et]at h2 h3;have key:x < t/\t < 8:=by
   refine⟨?_,h3⟩;unfold swN at h2;split at h2
   .omega
   .split at h2<;>omega
  exact⟨⟨key.1,rfl⟩,key.2⟩
 .rw[S.has];have:QY 8 (swG n g x)=QY 8 (g (swN n x)):=QPS (g (swN n x)) hn;rw[this];exact hg.row _ ((QPJ hn).2 hx)
 .rw[S.need];have:QY 8 (λx=>swG n g x t)=QY 8 (λx=>g x (swN n t)):=QPS (λx=>g x (swN n t)) hn;rw[this];exact hg.col _ ((QPJ hn).2 ht)
theorem QRk {n:Nat} {P Q:Prb} (S:SwP n P Q) {g:Nat->Nat->Int} {i k:Nat} (h:Rch (QfZ P g) i k):Rch (QfZ Q (swG n g)) (swN n i) (swN n k):=by
 induction h with
 | self=>exact .self
 | @step x t _ e ih=>
  refine .step ih ?_;unfold QfZ swG at*;rw[S.fix,QPB,QPB];exact e
theorem SwOk.valid {b:List Bat} {n:Nat} (S:SwOk b n):ValidB (QPG b n):=by
 have hl:=S.lt;have aX:=S.v.ok.le;have hP:=Qg0 S.v;have hS:=S.prb;have hB:=S.book;obtain⟨g,hg⟩:=Qwv S.v;have hT:=QPW (by omega) hP hS S.l0 S.l1 hg
 have hh:∀x,0<=(Qaa (QPG b n)).has x:=λx=>by rw[hS.has]; exact hP.has _
 have hn:∀x,0<=(Qaa (QPG b n)).need x:=λx=>by rw[hS.need]; exact hP.need _
 refine⟨hB,?_,λj hj=>?_,?_⟩
 .have h3:=S.v.lost;have e:(QU (QPG b n)).length=(QU b).length:=by
   unfold QU Qq;rw[List.length_map,List.length_map,QPy];exact QRh hl λk _=>hS.lost k
  omega
 .rw[QPy]at hj;have:=hh j
  rwa [show(Qaa (QPG b n)).has j=QfE (QPG b n) j from QmQ (by rw[QPy]; exact hj)]at this
 .rw[QdK (Qe2 hB)];exact⟨λx=>⟨hh x,hn x⟩,QiN hh hT⟩
theorem QQR {n:Nat} {P Q:Prb} (hn:n+1 < 8) (hQ:PrbOk Q) (S:SwP n P Q) (l0:Q.lost n=false) (l1:Q.lost (n+1)=false) {i k:Nat} (h:Qs9 P i k):Qs9 Q (swN n i) (swN n k):=λg hg=>by
 have:=QRk S (h _ (QPW hn hQ S.symm l0 l1 hg))
 rwa [QRw]at this
theorem QRe {n:Nat} {P Q:Prb} (hn:n+1 < 8) (hP:PrbOk P) (S:SwP n P Q) (l0:P.lost n=false) (l1:P.lost (n+1)=false) {i k:Nat} (h:QCw P i k):QCw Q (swN n i) (swN n k):=by
 obtain⟨g,hg,hr⟩:=h;exact⟨_,QPW hn hP S l0 l1 hg,QRk S hr⟩
theorem SwOk.lost0 {b:List Bat} {n:Nat} (S:SwOk b n):(Qaa (QPG b n)).lost n=false/\(Qaa (QPG b n)).lost (n+1)=false:=by
 have hS:=S.prb;rw[hS.lost,hS.lost];have e1:swN n n=n+1:=by unfold swN; rw[if_pos rfl]
 have e2:swN n (n+1)=n:=by unfold swN; rw[if_neg (by omega),if_pos rfl]
 rw[e1,e2];exact⟨S.l1,S.l0⟩
theorem SwOk.must {b:List Bat} {n:Nat} (S:SwOk b n) (i k:Nat):Qgj (QPG b n) (swN n i) (swN n k)=Qgj b i k:=by
 have aX:=S.v.ok.le;have hl:=S.lt;rw[Bool.eq_iff_iff,Qnh,Qnh];constructor
 .intro h;have:=QQR (by omega) (Qg0 S.v) S.prb.symm S.l0 S.l1 h
  rwa [QPB,QPB]at this
 .exact QQR (by omega) (Qg0 S.valid) S.prb S.lost0.1 S.lost0.2
theorem SwOk.may {b:List Bat} {n:Nat} (S:SwOk b n) (i k:Nat):QoL (QPG b n) (swN n i) (swN n k)=QoL b i k:=by
 have aX:=S.v.ok.le;have hl:=S.lt;rw[Bool.eq_iff_iff,Qli,Qli];constructor
 .intro h;have:=QRe (by omega) (Qg0 S.valid) S.prb.symm S.lost0.1 S.lost0.2 h
  rwa [QPB,QPB]at this
 .exact QRe (by omega) (Qg0 S.v) S.prb S.l0 S.l1
theorem QQj {n:Nat} {P Q:Prb} (hn:n+1 < 8) (S:SwP n P Q) (g:Nat->Nat->Int) (i:Nat):Qxl Q (swG n g) (swN n i)=Qxl P g i:=by
 unfold Qxl;rw[S.has,QPB];congr 1;have:QY 8 (swG n g (swN n i))=QY 8 (g i):=by
  have:=QPS (g i) hn;rw[<-this];refine Q0 λt _=>?_;unfold swG;rw[QPB]
 exact this
theorem SwOk.left {b:List Bat} {n:Nat} (S:SwOk b n) {i:Nat} (hi:i < b.length):Qj7 (QPG b n) (swN n i)=Qj7 b i:=by
 have aX:=S.v.ok.le;have hl:=S.lt;have hi':swN n i < (QPG b n).length:=by rw[QPy]; exact(QPJ hl).2 hi
 obtain⟨⟨g1,t1,e1⟩,⟨g2,t2,e2⟩⟩:=Quk S.v hi;obtain⟨⟨g3,t3,e3⟩,⟨g4,t4,e4⟩⟩:=Quk S.valid hi';have hS:=S.prb;have u1:=QNt S.valid (QPW (by omega) (Qg0 S.v) hS S.l0 S.l1 t1) hi'
 have u2:=QNt S.valid (QPW (by omega) (Qg0 S.v) hS S.l0 S.l1 t2) hi'
 have u3:=QNt S.v (QPW (by omega) (Qg0 S.valid) hS.symm S.lost0.1 S.lost0.2 t3) hi
 have u4:=QNt S.v (QPW (by omega) (Qg0 S.valid) hS.symm S.lost0.1 S.lost0.2 t4) hi
 rw[QQj (by omega) hS]at u1 u2
 have w3:=QQj (by omega) hS.symm g3 (swN n i)
 have w4:=QQj (by omega) hS.symm g4 (swN n i)
 rw[QPB]at w3 w4;rw[w3]at u3;rw[w4]at u4;generalize Qj7 (QPG b n) (swN n i)=A at*;generalize Qj7 b i=B at*;obtain⟨a1,a2⟩:=A;obtain⟨b1,b2⟩:=B;simp only[Spn.mk.injEq]at*;omega
def QPN (c:Nat->Int) (m:Nat):List Tak:=QMf (λx _=>c x) 0 m
def QQv (m n:Nat) (x:List Tak):List Tak:=if 0 < n then x++[⟨(m:Nat),(n:Nat)⟩]else x
def QQM (g l:Int):Nat:=(min g l+1).toNat
def QPM (left:Nat->Int):Nat->Int->List (List Tak)
 | 0,g=>if 0 < g then []else [[]]
 | m+1,g=>(List.range (QQM g (left m))).flatMap λn=>(QPM left m (g - (n:Nat))).map (QQv m n)
theorem QQe (c:Nat->Int) (m:Nat) (h:0<=c m):QPN c (m+1)=QQv m (c m).toNat (QPN c m):=by
 unfold QPN QQv;rw[QLr];by_cases q:0 < c m
 .rw[if_pos q,if_pos (by omega),show(((c m).toNat:Nat):Int)=c m by omega]
 .rw[if_neg q,if_neg (by omega),List.append_nil]
theorem QP0 {c d:Nat->Int} {m:Nat} (h:∀x,x < m->c x=d x):QPN c m=QPN d m:=QLQ h
theorem QPO (left:Nat->Int):∀(m:Nat) (g:Int) (L:List Tak),0<=g->(L∈QPM left m g↔∃c:Nat->Int,(∀x,0<=c x)/\(∀x,x < m->c x<=left x)/\(∀x,m<=x->c x=0)/\QY m c=g/\L=QPN c m)
 | 0,g,L,hg=>by
  rw[QPM];constructor
  .intro h;by_cases q:0 < g
   .rw[if_pos q]at h; cases h
   .rw[if_neg q,List.mem_singleton]at h;subst h;exact⟨λ_=>0,λ_=>Int.le_refl _,λx hx=>by omega,λ_ _=>rfl,by show(0:Int)=g; omega,rfl⟩
  .rintro⟨c,_,_,_,h1,rfl⟩;have:(0:Int)=g:=h1;rw[if_neg (by omega)]
   simp[QPN,QMf]
 | m+1,g,L,hg=>by
  rw[QPM,List.mem_flatMap];constructor
  .rintro⟨n,hn,hL⟩;rw[Zm]at hn;unfold QQM at hn;obtain⟨x,hx,rfl⟩:=List.mem_map.1 hL;obtain⟨c,h1,h2,h3,h4,rfl⟩:=(QPO left m (g - (n:Nat)) x (by omega)).1 hx
   have e:∀x,x < m->Q2 c m (n:Int) x=c x:=λx hx=>Q3 _ _ (by omega)
   refine⟨Q2 c m (n:Int),λx=>?_,λx hx=>?_,λx hx=>?_,?_,?_⟩
   .unfold Q2;split
    .omega
    .exact h1 x
   .by_cases q:x=m
    .subst q; rw[Qae]; omega
    .rw[Q3 _ _ q]; exact h2 x (by omega)
   .rw[Q3 _ _ (by omega)]; exact h3 x (by omega)
   .rw[QY,Qae,Q0 e,h4]; omega
   .rw[QQe _ _ (by rw[Qae]; omega),Qae,Int.toNat_natCast,QP0 e]
  .rintro⟨c,h1,h2,h3,h4,rfl⟩;have hm:=h1 m;have hl:=h2 m (by omega)
   have h5:=Qa2 (n:=m) λi _=>h1 i;rw[QY]at h4;refine⟨(c m).toNat,Zm.2 (by unfold QQM; omega),?_⟩
   rw[QQe _ _ hm];refine List.mem_map.2 ⟨QPN c m,(QPO left m _ _ (by omega)).2 ⟨λx=>if x < m then c x else 0,λx=>?_,λx hx=>?_,λx hx=>?_,?_,?_⟩,rfl⟩
   .dsimp only;split
    .exact h1 x
    .exact Int.le_refl _
   .show(if x < m then c x else 0)<=_;rw[if_pos hx]; exact h2 x (by omega)
   .show(if x < m then c x else 0)=0;rw[if_neg (by omega)]
   .rw[Q0 (g:=c) λi hi=>if_pos hi]; omega
   .exact QP0 λx hx=>(if_pos hx).symm
theorem QP2 {α β:Type} (f:α->List β) (B:Nat):∀l:List α,(∀a∈l,(f a).length<=B)->(l.flatMap f).length<=l.length*B
 | [],_=>by simp
 | a::t,h=>by
  have h1:=h a (by simp)
  have h2:=QP2 f B t λx hx=>h x (by simp[hx])
  rw[List.flatMap_cons,List.length_append,List.length_cons,Nat.add_mul];omega
theorem QQs (left:Nat->Int):∀(m:Nat) (g:Int),(QPM left m g).length<=(g.toNat+1) ^ m
 | 0,g=>by
  rw[QPM];split
  .exact Nat.zero_le _
  .simp
 | m+1,g=>by
  rw[QPM];have h1:=QP2 (λn=>(QPM left m (g - (n:Nat))).map (QQv m n)) ((g.toNat+1) ^ m) (List.range (QQM g (left m))) λn _=>by
   rw[List.length_map];refine Nat.le_trans (QQs left m _) (Nat.pow_le_pow_left ?_ m);omega
  refine Nat.le_trans h1 ?_;rw[List.length_range,Nat.pow_succ,Nat.mul_comm];exact Nat.mul_le_mul_left _ (by unfold QQM; omega)
theorem QRm (g:Nat):g+1<=2 ^ g:=by
 induction g with
 | zero=>exact Zr _
 | succ g ih=>rw[Nat.pow_succ]; omega
theorem QP5 (left:Nat->Int) {m:Nat} (hm:m<=7) (g:Int):(QPM left m g).length<=128 ^ g.toNat:=by
 refine Nat.le_trans (QQs left m g) ?_;refine Nat.le_trans (Nat.pow_le_pow_right (by omega) hm) ?_
 refine Nat.le_trans (Nat.pow_le_pow_left (QRm g.toNat) 7) ?_;rw[<-Nat.pow_mul,Nat.mul_comm,Nat.pow_mul];exact Zr _
def QPF (b:List Bat) (i:Nat) (l:List Tak):List Bat:=b.set i { b.getD i default with lost:=false,takes:=l}
def QPP:Nat->List Bat->List (List Bat)
 | 0,b=>[b]
 | f+1,b=>match Qq b with
  | []=>[b]
  | i::_=>(QPM (QfE b) i (QfA b i)).flatMap λl=>QPP f (QPF b i l)
theorem QPz (b:List Bat) (i:Nat) (l:List Tak):(QPF b i l).length=b.length:=by simp[QPF]
theorem QPR {b:List Bat} {i:Nat} (hi:i < b.length) (l:List Tak) (t:Nat):(QPF b i l).getD t default=if t=i then { b.getD i default with lost:=false,takes:=l} else b.getD t default:=by
 unfold QPF;simp only[Zd,List.getElem?_set];by_cases e:t=i
 .subst e; simp[hi]
 .rw[if_neg (λq=>e q.symm),if_neg e]
theorem QPT {b:List Bat} {i:Nat} {r:List Nat} (h:Qq b=i::r):i < b.length/\Qfv b i=true/\∀j,j < i->Qfv b j=false:=by
 have hm:i∈Qq b:=by rw[h]; simp
 unfold Qq at hm h;obtain⟨h1,h2⟩:=List.mem_filter.1 hm;refine⟨Zm.1 h1,h2,λj hj=>?_⟩;obtain⟨l1,l2,e,hn,_,_⟩:=List.filter_eq_cons_iff.1 h;have aI:l1.length=i:=by
  have h3:(List.range b.length)[l1.length]?=some i:=by rw[e]; simp
  rw[Zi]at h3;obtain⟨h4,h5⟩:=h3;simpa using h5
 have hjm:j∈l1:=by
  have h3:(List.range b.length)[j]?=l1[j]?:=by rw[e,List.getElem?_append_left (by omega)]
  rw[List.getElem?_range (by have:=Zm.1 h1; omega)]at h3
  exact List.mem_of_getElem? h3.symm
 have:=hn j hjm;unfold Qfv;simpa using this
theorem QQc {b:List Bat} (h:Qq b=[]) (t:Nat):Qfv b t=false:=by
 by_cases ht:t < b.length
 .have:=List.filter_eq_nil_iff.1 h t (Zm.2 ht);simpa[Qfv]using this
 .unfold Qfv;rw[Qbc (by omega)]; rfl
structure CardOk (b:List Bat) (i:Nat) (c:Nat->Int):Prop where
 ok:BookOk b
 kept:∀j,j < b.length->0<=QfE b j
 lt:i < b.length
 l:Qfv b i=true
 nn:∀x,0<=c x
 le:∀x,x < i->c x<=QfE b x
 out:∀x,i<=x->c x=0
 sum:QY i c=QfA b i
section
variable {b:List Bat} {i:Nat} {c:Nat->Int}
theorem CardOk.le_need (h:CardOk b i c) (x:Nat):c x<=QfA b i:=by
 by_cases hx:x < i
 .rw[<-h.sum];exact QfL (f:=c) (λj _=>h.nn j) hx
 .rw[h.out x (by omega)]; exact(QqM h.ok i).1
theorem CardOk.takes (h:CardOk b i c):(b[i]'h.lt).takes=[]:=by
 have:=h.l;unfold Qfv at this;rw[Qbf h.lt]at this;exact(h.ok.at h.lt).lost this
theorem CardOk.need (h:CardOk b i c):QfA b i=(b[i]'h.lt).grams - (b[i]'h.lt).fresh:=by
 have:=h.l;unfold Qfv at this;unfold QfA;rw[if_pos this,Qbf h.lt]
theorem CardOk.bat (h:CardOk b i c) {t:Nat} (ht:t < b.length):BatOk t ((QPF b i (QPN c i)).getD t default):=by
 have hb:=h.ok.at ht;rw[QPR h.lt];by_cases e:t=i
 .subst e;rw[if_pos rfl,Qbf ht];have aX:=h.ok.le;refine⟨hb.name,hb.grams,hb.fresh,λq=>(by cases q),λk hk=>?_,λk hk=>?_,QNf (QL2 (λx _=>c x) 0 t),λ_=>?_⟩
  .have hk:k∈QMf (λx _=>c x) 0 t:=hk;obtain⟨x,h1,h2,rfl⟩:=QLA.1 hk;simp only; omega
  .have hk:k∈QMf (λx _=>c x) 0 t:=hk;obtain⟨x,h1,h2,rfl⟩:=QLA.1 hk;have:=h.le_need x;have:=(QqM h.ok t).2;simp only; omega
  .show b[t].fresh+QaS (QPN c t)=b[t].grams;have h1:QaS (QPN c t)=QY t c:=QMr (λx _=>h.nn x) 0 t;rw[h1,h.sum,h.need]; omega
 .rw[if_neg e,Qbf ht]; exact hb
theorem QP8 (b:List Bat) (i:Nat) (l:List Tak):(QPF b i l).map (·.name)=b.map (·.name):=by
 unfold QPF;rw[List.map_set];refine List.ext_getElem (by simp) λt h1 h2=>?_
 rw[List.getElem_set];split
 .rename_i e;subst e;have ht:i < b.length:=by simpa using h2
  rw[List.getElem_map,Qbf ht]
 .rfl
theorem CardOk.book (h:CardOk b i c):BookOk (QPF b i (QPN c i)):=by
 refine⟨by rw[QPz]; exact h.ok.le,by rw[QPz]; exact h.ok.pos,λt ht=>?_⟩
 have uQ:t < b.length:=by rw[QPz]at ht; exact ht
 refine QNd ?_ ?_
 .have:=h.bat uQ
  rwa [Qj _ _ _ ht]at this
 .rw[QM9 _ b (QP8 b i _)];have e:(QPF b i (QPN c i))[t].name=b[t].name:=by
   have h1:=congrArg (λl=>l[t]?) (QP8 b i (QPN c i));simpa[ht,uQ]using h1
  rw[e];exact QNa h.ok uQ
theorem CardOk.kfd (h:CardOk b i c) (j:Nat) (hj:j < b.length):QfE (QPF b i (QPN c i)) j=QfE b j - c j:=by
 have hl:=h.lt;have ht:=h.takes;unfold QfE;have e0:((QPF b i (QPN c i)).getD j default).grams=(b.getD j default).grams:=by
  rw[QPR hl];split
  .rename_i e; subst e; rfl
  .rfl
 rw[e0,QLZ (λx:Bat=>Qlt x.takes j) (QPF b i (QPN c i)) default,QLZ (λx:Bat=>Qlt x.takes j) b default,QPz];have e1:QY b.length (λt=>Qlt ((QPF b i (QPN c i)).getD t default).takes j)=QY b.length (λt=>Qlt (b.getD t default).takes j+if t=i then c j else 0):=by
  refine Q0 λt _=>?_;rw[QPR hl];by_cases e:t=i
  .subst e;rw[if_pos rfl,if_pos rfl,Qbf hl,ht,QMS];have:=QMK (g:=λx _=>c x) (λx _=>h.nn x) 0 j t;show Qlt (QMf (λx _=>c x) 0 t) j=_;rw[this];by_cases q:j < t
   .rw[if_pos q]; omega
   .rw[if_neg q,h.out j (by omega)]; rfl
  .rw[if_neg e,if_neg e]; omega
 rw[e1,Qbs,QbU,if_pos hl];omega
theorem CardOk.needs (h:CardOk b i c) (t:Nat):QfA (QPF b i (QPN c i)) t=if t=i then 0 else QfA b t:=by
 unfold QfA;rw[QPR h.lt];by_cases e:t=i
 .rw[if_pos e,if_pos e]; rfl
 .rw[if_neg e,if_neg e]
theorem CardOk.lost (h:CardOk b i c) (t:Nat):Qfv (QPF b i (QPN c i)) t=(Qfv b t&&!decide (t=i)):=by
 unfold Qfv;rw[QPR h.lt];by_cases e:t=i
 .rw[if_pos e,decide_eq_true e]; simp
 .rw[if_neg e,decide_eq_false e]; simp
theorem CardOk.pneed (h:CardOk b i c) (t:Nat):(Qaa (QPF b i (QPN c i))).need t=if t=i then 0 else(Qaa b).need t:=by
 show QaM (Qac _) t=if _ then _ else QaM (Qac b) t;by_cases ht:t < b.length
 .rw[QoH (by rw[QPz]; exact ht),QoH ht,h.needs t]
 .rw[QdW (by rw[QPz]; omega),QdW (by omega)]
  split<;>rfl
theorem CardOk.phas (h:CardOk b i c) (x:Nat):(Qaa (QPF b i (QPN c i))).has x=(Qaa b).has x - c x:=by
 show Qem (Qac _) x=Qem (Qac b) x - c x;have hl:=h.lt;by_cases hx:x < b.length
 .rw[QmQ (by rw[QPz]; exact hx),QmQ hx,h.kfd x hx]
 .rw[QiF (by rw[QPz]; omega),QiF (by omega),h.out x (by omega)]; rfl
theorem CardOk.kept' (h:CardOk b i c) (j:Nat) (hj:j < (QPF b i (QPN c i)).length):0<=QfE (QPF b i (QPN c i)) j:=by
 rw[QPz]at hj;rw[h.kfd j hj];by_cases q:j < i
 .have:=h.le j q; omega
 .rw[h.out j (by omega)]
  have:=h.kept j hj; omega
theorem CardOk.many (h:CardOk b i c):(Qq (QPF b i (QPN c i))).length+1=(Qq b).length:=by
 have h1:=QPK (Qfv (QPF b i (QPN c i))) b.length;have h2:=QPK (Qfv b) b.length;have e1:(Qq (QPF b i (QPN c i))).length=((List.range b.length).filter (Qfv (QPF b i (QPN c i)))).length:=by
  unfold Qq;rw[QPz]; rfl
 have e2:(Qq b).length=((List.range b.length).filter (Qfv b)).length:=rfl;have h3:QY b.length (λk=>if Qfv (QPF b i (QPN c i)) k=true then(1:Int)else 0)=QY b.length (λk=>(if Qfv b k=true then 1 else 0) - if k=i then 1 else 0):=by
  refine Q0 λk _=>?_;rw[h.lost k];by_cases e:k=i
  .subst e; rw[h.l]; simp
  .simp[e]
 rw[h3,Qd9,QbU,if_pos h.lt]at h1;omega
theorem CardOk.up (h:CardOk b i c) {g:Nat->Nat->Int} (hg:Tru (Qaa (QPF b i (QPN c i))) g):Tru (Qaa b) (λx t=>if t=i then c x else g x t):=by
 have aX:=h.ok.le;have hl:=h.lt;have hz:∀x,g x i=0:=λx=>by
  have h1:=hg.nn x i;by_cases q:0 < g x i
  .have:=QqP hg q;rw[h.pneed,if_pos rfl]at this; omega
  .omega
 refine⟨λx t=>?_,λx t q=>?_,λx hx=>?_,λt ht=>?_⟩
 .split
  .exact h.nn x
  .exact hg.nn x t
 .by_cases e:t=i
  .rw[if_pos e]at q;have:x < i:=by
    apply Classical.byContradiction;intro hn;rw[h.out x (by omega)]at q; omega
   exact⟨⟨by omega,rfl⟩,by omega⟩
  .rw[if_neg e]at q;exact hg.sup x t q
 .have h1:=hg.row x hx;rw[h.phas]at h1;have h2:QY 8 (λt=>if t=i then c x else g x t)=QY 8 (Q2 (g x) i (c x)):=rfl;rw[h2,Qfu _ _ (by omega),hz]; omega
 .by_cases e:t=i
  .subst e;rw[Q0 (g:=c) λx _=>if_pos rfl,Qlq (n:=t) (λx hx=>h.out x hx) 8 (by omega),h.sum]
   exact(QoH hl).symm
  .rw[Q0 (g:=λx=>g x t) λx _=>if_neg e,hg.col t ht,h.pneed,if_neg e]
theorem CardOk.down (h:CardOk b i c) {g:Nat->Nat->Int} (hg:Tru (Qaa b) g) (hc:∀x,g x i=c x):Tru (Qaa (QPF b i (QPN c i))) (λx t=>if t=i then 0 else g x t):=by
 have aX:=h.ok.le;have hl:=h.lt;refine⟨λx t=>?_,λx t q=>?_,λx hx=>?_,λt ht=>?_⟩
 .split
  .exact Int.le_refl _
  .exact hg.nn x t
 .by_cases e:t=i
  .rw[if_pos e]at q; omega
  .rw[if_neg e]at q; exact hg.sup x t q
 .have h1:=hg.row x hx;rw[h.phas];have h2:QY 8 (λt=>if t=i then 0 else g x t)=QY 8 (Q2 (g x) i 0):=rfl;rw[h2,Qfu _ _ (by omega),hc]; omega
 .rw[h.pneed];by_cases e:t=i
  .rw[if_pos e,Q0 (g:=λ_=>0) λx _=>if_pos e,Qal]
  .rw[if_neg e,Q0 (g:=λx=>g x t) λx _=>if_neg e,hg.col t ht]
theorem CardOk.tru (h:CardOk b i c) {g g':Nat->Nat->Int} (hc:∀x,g x i=c x) (hg:∀x t,¬t=i->g' x t=g x t):QLx (QPF b i (QPN c i)) g'=QLx b g:=by
 unfold QLx;rw[QPz];refine List.map_congr_left λt ht=>?_;unfold QM2;rw[QPR h.lt];by_cases e:t=i
 .subst e;have hl:(b.getD t default).lost=true:=h.l;have e2:QMf g t t=QPN c t:=by
   unfold QPN QMf;simp only[hc]
  rw[if_pos rfl,if_neg (by simp),if_pos hl,e2]
 .rw[if_neg e];split
  .rw[QLQ λx _=>hg x t e]
  .rfl
theorem CardOk.of (ok:BookOk b) (kept:∀j,j < b.length->0<=QfE b j) (hi:i < b.length) (hl:Qfv b i=true) {g:Nat->Nat->Int} (hg:Tru (Qaa b) g):CardOk b i (λx=>g x i):=by
 have aX:=ok.le;have ho:∀x,i<=x->g x i=0:=λx hx=>by
  have h1:=hg.nn x i;by_cases q:0 < g x i
  .have:=(hg.sup x i q).1.1; omega
  .omega
 refine⟨ok,kept,hi,hl,λx=>hg.nn x i,λx hx=>?_,ho,?_⟩
 .have h1:=hg.row x (by omega)
  have h2:=QfL (f:=g x) (λj _=>hg.nn x j) (show i < 8 by omega)
  have h3:(Qaa b).has x=QfE b x:=QmQ (by omega)
  show g x i<=_;omega
 .have h1:=hg.col i (by omega)
  rw[Qlq (n:=i) (λx hx=>ho x hx) 8 (by omega)]at h1
  rw[h1];exact QoH hi
end
theorem QQr {b:List Bat} (ok:BookOk b) (hl:∀t,Qfv b t=false) {g:Nat->Nat->Int} :QLx b g=b:=by
 refine List.ext_getElem (by simp[QLx]) λt h1 h2=>?_
 have h3:=hl t;unfold Qfv at h3;rw[show(QLx b g)[t]=QM2 b g t by simp[QLx],QM2,if_neg (by rw[h3]; simp),Qbf h2]
theorem QQ6:∀(f:Nat) {b:List Bat},BookOk b->(∀j,j < b.length->0<=QfE b j)->(Qq b).length<=f->∀T,(T∈QPP f b↔∃g,Tru (Qaa b) g/\T=QLx b g):=by
 have iX:∀{b:List Bat},BookOk b->(∀j,j < b.length->0<=QfE b j)->Qq b=[]->∀T,(T∈[b]↔∃g,Tru (Qaa b) g/\T=QLx b g):=by
  intro b ok kept h0 T;have hl:=QQc h0;rw[List.mem_singleton];constructor
  .rintro rfl;refine⟨λ_ _=>0,⟨λ_ _=>Int.le_refl _,λx t q=>absurd q (by simp),λx _=>?_,λt _=>?_⟩,(QQr ok hl).symm⟩
   .rw[Qal];show 0<=Qem (Qac T) x;by_cases hx:x < T.length
    .rw[QmQ hx]; exact kept x hx
    .rw[QiF (by omega)]; exact Int.le_refl _
   .rw[Qal];show 0=QaM (Qac T) t;by_cases ht:t < T.length
    .rw[QoH ht];have:=hl t;unfold Qfv at this;unfold QfA;rw[if_neg (by rw[this]; simp)]
    .rw[QdW (by omega)]
  .rintro⟨g,_,rfl⟩;exact QQr ok hl
 intro f
 induction f with
 | zero=>
  intro b ok kept h0 T;exact iX ok kept (List.length_eq_zero_iff.1 (by omega)) T
 | succ f ih=>
  intro b ok kept h0 T;rw[QPP];cases hL:Qq b with
  | nil=>exact iX ok kept hL T
  | cons i r=>
   obtain⟨hi,hl,_⟩:=QPT hL;dsimp only;rw[List.mem_flatMap];have hn:=(QqM ok i).1;constructor
   .rintro⟨l,uH,hT⟩;obtain⟨c,h1,h2,h3,h4,rfl⟩:=(QPO _ _ _ _ hn).1 uH;have C:CardOk b i c:=⟨ok,kept,hi,hl,h1,h2,h3,h4⟩;have hm:=C.many;obtain⟨g,hg,rfl⟩:=(ih C.book C.kept' (by omega) T).1 hT
    exact⟨_,C.up hg,C.tru (λx=>if_pos rfl) λx t e=>(if_neg e).symm⟩
   .rintro⟨g,hg,rfl⟩;have C:=CardOk.of ok kept hi hl hg;have hm:=C.many;refine⟨QPN (λx=>g x i) i,(QPO _ _ _ _ hn).2 ⟨_,C.nn,C.le,C.out,C.sum,rfl⟩,?_⟩;exact(ih C.book C.kept' (by omega) _).2 ⟨_,C.down hg λ_=>rfl,(C.tru (λ_=>rfl) λx t e=>if_neg e).symm⟩
theorem QP6:∀(f:Nat) {b:List Bat},BookOk b->(∀j,j < b.length->0<=QfE b j)->(QPP f b).length<=128 ^ (QY b.length (QfA b)).toNat
 | 0,b,_,_=>by
  rw[QPP];exact Nat.pos_of_ne_zero (by simp)
 | f+1,b,ok,kept=>by
  rw[QPP];have h1:1<=128 ^ (QY b.length (QfA b)).toNat:=Nat.pos_of_ne_zero (by simp)
  cases hL:Qq b with
  | nil=>exact h1
  | cons i r=>
   obtain⟨hi,hl,_⟩:=QPT hL;dsimp only;have hn:=(QqM ok i).1;have aX:=ok.le;have hs:0<=QY b.length (QfA b) - QfA b i:=by
    have:=QfL (f:=QfA b) (n:=b.length) (λj _=>(QqM ok j).1) hi;omega
   have h2:=QP2 (λl=>QPP f (QPF b i l)) (128 ^ (QY b.length (QfA b) - QfA b i).toNat) (QPM (QfE b) i (QfA b i)) λl uH=>by
    obtain⟨c,q1,q2,q3,q4,rfl⟩:=(QPO _ _ _ _ hn).1 uH;have C:CardOk b i c:=⟨ok,kept,hi,hl,q1,q2,q3,q4⟩;refine Nat.le_trans (QP6 f C.book C.kept') ?_;rw[QPz];have e:QY b.length (QfA (QPF b i (QPN c i)))=QY b.length (QfA b) - QfA b i:=by
     rw[Q0 (g:=Q2 (QfA b) i 0) λt _=>C.needs t,Qfu _ _ hi]; omega
    rw[e];exact Zr _
   refine Nat.le_trans h2 ?_;refine Nat.le_trans (Nat.mul_le_mul_right _ (QP5 (QfE b) (by omega) (QfA b i))) ?_
   rw[<-Nat.pow_add];refine Nat.pow_le_pow_right (by omega) ?_
   omega
end Go.Proofs.YtnfeakhkfehkhaaGreatDoor
