/-
  The list of Fewest is a shortest one that explains the complaints. Plain; no program here. Conditions: none.
-/
import Derived.Test.YtnfeakhkfehkhaaGreatDoorZPrT
set_option linter.unusedSimpArgs false
set_option linter.unusedVariables false
namespace Go.Proofs.YtnfeakhkfehkhaaGreatDoor
def QOq (n:Nat) (l:List Int):Prop:=l.Pairwise (λa b=>a < b)/\∀x∈l,0<=x/\x < (n:Int)
theorem QOr {f:Nat->List Int×Bool} :∀{k i:Nat},(QkD f k i).2=true->∃j,i<=j/\j < i+k/\QkD f k i=f j/\(f j).2=true/\∀q,i<=q->q < j->(f q).2=false
 | 0,_,h=>by cases h
 | k+1,i,h=>by
  rw[QkD]at h|-;by_cases h0:(f i).2=true
  .rw[if_pos h0]at h|-;exact⟨i,Zr _,by omega,rfl,h0,λq h1 h2=>by omega⟩
  .rw[if_neg h0]at h|-;obtain⟨j,h1,h2,h3,h4,h5⟩:=QOr h;refine⟨j,by omega,by omega,h3,h4,λq h6 h7=>?_⟩
   by_cases e:q=i
   .subst e; simpa using h0
   .exact h5 q (by omega) h7
theorem QOp {f:Nat->List Int×Bool} :∀{k i:Nat},(QkD f k i).2=false->∀j,i<=j->j < i+k->(f j).2=false
 | 0,_,_,j,h1,h2=>by omega
 | k+1,i,h,j,h1,h2=>by
  rw[QkD]at h;by_cases h0:(f i).2=true
  .rw[if_pos h0]at h;rw[h0]at h; cases h
  .rw[if_neg h0]at h;by_cases e:j=i
   .subst e; simpa using h0
   .exact QOp h j (by omega) (by omega)
theorem QOw {n:Nat} {g:List Int} (h:QOq n g) (j:Nat):QOq n (g++[(j:Int)])↔Qcf g<=j/\j < n:=by
 unfold QOq;rcases List.eq_nil_or_concat g with rfl | ⟨g',a,rfl⟩
 .simp[QiU]
 .rw[List.concat_eq_append]at h|-;obtain⟨hp,hm⟩:=h;have ha:=hm a (by simp)
  obtain⟨i,rfl⟩:∃i:Nat,a=i:=⟨a.toNat,by omega⟩
  rw[Qow];constructor
  .rintro⟨h1,h2⟩;rw[List.pairwise_append]at h1;have h3:=h1.2.2 (i:Int) (by simp) (j:Int) (by simp)
   have h4:=h2 (j:Int) (by simp)
   omega
  .rintro⟨h1,h2⟩;refine⟨?_,λx hx=>?_⟩
   .rw[List.pairwise_append];refine⟨hp,List.pairwise_singleton _ _,λx hx y hy=>?_⟩;rw[List.mem_singleton]at hy;subst hy;rcases Zp.1 hx with hx | hx
    .have:=(List.pairwise_append.1 hp).2.2 x hx (i:Int) (by simp)
     omega
    .rw[List.mem_singleton]at hx; subst hx; omega
   .rcases Zp.1 hx with hx | hx
    .exact hm x hx
    .rw[List.mem_singleton]at hx; subst hx; omega
theorem QOA {n:Nat} {g e:List Int} (h:QOq n (g++e)):QOq n g:=⟨(List.pairwise_append.1 h.1).1,λx hx=>h.2 x (by simp[hx])⟩
theorem QOv {ok:List Int->Bool} {n:Nat} :∀(m:Nat) (g:List Int),QOq n g->(QaV ok n m g).2=true->∃e,(QaV ok n m g).1=g++e/\e.length=m/\QOq n (g++e)/\ok (g++e)=true
 | 0,g,hg,h=>by
  rw[QaV]at h|-;by_cases h0:ok g=true
  .rw[if_pos h0];exact⟨[],by simp,rfl,by simpa using hg,by simpa using h0⟩
  .rw[if_neg h0]at h; cases h
 | m+1,g,hg,h=>by
  rw[QaV]at h|-;obtain⟨j,h1,h2,h3,h4,_⟩:=QOr h;rw[h3];obtain⟨e,e1,e2,e3,e4⟩:=QOv m (g++[(j:Int)]) ((QOw hg j).2 ⟨h1,by omega⟩) h4
  refine⟨(j:Int)::e,?_,by simp[e2],?_,?_⟩
  .rw[e1]; simp
  .simpa using e3
  .simpa using e4
theorem QOo {ok:List Int->Bool} {n:Nat} :∀(m:Nat) (g:List Int),QOq n g->(QaV ok n m g).2=false->∀e,e.length=m->QOq n (g++e)->ok (g++e)=false
 | 0,g,hg,h,e,he,_=>by
  obtain rfl:e=[]:=List.length_eq_zero_iff.1 he;rw[QaV]at h;by_cases h0:ok g=true
  .rw[if_pos h0]at h; cases h
  .simpa using h0
 | m+1,g,hg,h,e,he,ha=>by
  rw[QaV]at h;cases e with
  | nil=>cases he
  | cons x e=>
   have hx:=ha.2 x (by simp)
   obtain⟨j,rfl⟩:∃j:Nat,x=j:=⟨x.toNat,by omega⟩
   have yE:QOq n (g++[(j:Int)]++e):=by simpa using ha
   have hj:=(QOw hg j).1 (QOA yE);have:=QOo m (g++[(j:Int)]) (QOA yE) (QOp h j hj.1 (by omega)) e (by simpa using he) yE
   simpa using this
theorem QOs {n:Nat} {l:List Int} (h:QOq n l):l.length<=n:=by
 have key:∀(k:Nat) (hk:k < l.length),(k:Int)<=l[k]:=by
  intro k
  induction k with
  | zero=>intro hk; exact(h.2 _ (Ze hk)).1
  | succ k ih=>
   intro hk;have h1:=ih (by omega)
   have h2:=List.pairwise_iff_getElem.1 h.1 k (k+1) (by omega) hk (by omega)
   omega
 by_cases h0:l.length=0
 .omega
 .have h1:=key (l.length - 1) (by omega)
  have h2:=(h.2 _ (Ze (by omega:l.length - 1 < l.length))).2
  omega
theorem QOy (n:Nat):QOq n []:=⟨List.Pairwise.nil,λx hx=>by cases hx⟩
theorem QOz {b:List Bat} {good c g:List Int} (hc:∀k∈c,0<=k/\k < (b.length:Int)) (hg:∀i∈g,0<=i/\i < (b.length:Int)):okP b good c g=true↔∀k∈c,∃i∈g,QcW b good i=true/\QoL b i.toNat k.toNat=true:=by
 unfold okP;rw[Bool.not_eq_true',List.any_eq_false];refine forall_congr' λk=>forall_congr' λhk=>?_;rw[Bool.not_eq_true,Bool.not_eq_false',Zy];refine exists_congr λi=>and_congr_right λhi=>?_;have h1:=hg i hi;have h2:=hc k hk;unfold QFQ QmE;rw[decide_eq_true (show k.toNat < b.length by omega),Bool.true_and,Za,show((i.toNat:Nat):Int)=i by omega]
theorem QOC {b:List Bat} {c good l:List Int} :QAy b c good l=true↔(∀i∈l,QcW b good i=true)/\∀k∈c,∃i∈l,QoL b i.toNat k.toNat=true:=by
 unfold QAy QuZ;simp only[Za,Zl,Zy]
theorem QOF {b:List Bat} {c good l:List Int} (hc:∀k∈c,0<=k/\k < (b.length:Int)) (hl:QOq b.length l) (h:QAy b c good l=true):okP b good c l=true:=by
 obtain⟨h1,h2⟩:=QOC.1 h;refine(QOz hc hl.2).2 λk hk=>?_;obtain⟨i,hi,hm⟩:=h2 k hk;exact⟨i,hi,h1 i hi,hm⟩
theorem QOE {b:List Bat} {c good:List Int} (hc:∀k∈c,0<=k/\k < (b.length:Int)) (h:(Qqq b c good).2=true):QOq b.length (Qqq b c good).1/\okP b good c (Qqq b c good).1=true/\∀l,QOq b.length l->okP b good c l=true->(Qqq b c good).1.length<=l.length:=by
 unfold Qqq at h|-;obtain⟨j,h1,h2,h3,h4,h5⟩:=QOr h;rw[h3];obtain⟨e,e1,e2,e3,e4⟩:=QOv j [] (QOy _) h4;rw[e1];rw[List.nil_append]at e3 e4|-;rw[QEp hc e3.2]at e4;refine⟨e3,e4,λl hl aQ=>?_⟩;apply Classical.byContradiction;intro hn;have h6:=QOo l.length [] (QOy _) (h5 l.length (Nat.zero_le _) (by omega)) l rfl (by simpa using hl)
 rw[List.nil_append,QEp hc hl.2,aQ]at h6;cases h6
theorem QOJ {b:List Bat} {c good:List Int} (hc:∀k∈c,0<=k/\k < (b.length:Int)) (h:(Qqq b c good).2=false) {l:List Int} (hl:QOq b.length l):okP b good c l=false:=by
 unfold Qqq at h;have hn:=QOs hl;have h6:=QOo l.length [] (QOy _) (QOp h l.length (Nat.zero_le _) (by omega)) l rfl (by simpa using hl)
 rw[List.nil_append,QEp hc hl.2]at h6;exact h6
theorem QOH {b:List Bat} {c good:List Int} (hc:∀k∈c,0<=k/\k < (b.length:Int)) (h:(Qqq b c good).2=true):QAy b c good (Qqq b c good).1=true:=by
 obtain⟨h1,h2,h3⟩:=QOE hc h;generalize(Qqq b c good).1=l at*;have h4:=(QOz hc h1.2).1 h2;refine QOC.2 ⟨λi hi=>?_,λk hk=>?_⟩
 .apply Classical.byContradiction;intro hn;have hl':QOq b.length (l.filter λi=>QcW b good i):=⟨h1.1.filter _,λx hx=>h1.2 x (List.mem_filter.1 hx).1⟩;have h5:=h3 _ hl' ((QOz hc hl'.2).2 λk hk=>by
   obtain⟨i,hi,h6,h7⟩:=h4 k hk;exact⟨i,List.mem_filter.2 ⟨hi,h6⟩,h6,h7⟩)
  have h6:(l.filter λi=>QcW b good i).length < l.length:=List.length_filter_lt_length_iff_exists.2 ⟨i,hi,hn⟩;omega
 .obtain⟨i,hi,_,hm⟩:=h4 k hk;exact⟨i,hi,hm⟩
theorem QOV {b:List Bat} {good c l:List Int} {k:Int} (h:okP b good (c++[k]) l=true):okP b good c l=true:=by
 unfold okP at h|-;rw[Bool.not_eq_true',List.any_append,Bool.or_eq_false_iff]at h;rw[h.1]; rfl
theorem QOW {b:List Bat} {good c l:List Int} {k:Int} (h:okP b (good++[k]) c l=true):okP b good c l=true:=by
 unfold okP at h|-;rw[Bool.not_eq_true',List.any_eq_false]at h|-;intro x hx hn;refine h x hx ?_;rw[Bool.not_eq_true',List.any_eq_false]at hn|-;intro i hi hs;refine hn i hi ?_;unfold QFQ QcW at hs|-;rw[List.all_append,Za,Za]at hs;rw[Za];exact⟨hs.1.1,hs.2⟩
theorem QOT {b:List Bat} {c c' good good':List Int} (hc:∀k∈c,0<=k/\k < (b.length:Int)) (hc':∀k∈c',0<=k/\k < (b.length:Int)) (hm:∀l,okP b good' c' l=true->okP b good c l=true) (h:(Qqq b c' good').2=true):(Qqq b c good).2=true/\(Qqq b c good).1.length<=(Qqq b c' good').1.length:=by
 obtain⟨h1,h2,_⟩:=QOE hc' h;have h4:=hm _ h2;cases h5:(Qqq b c good).2 with
 | true=>exact⟨rfl,(QOE hc h5).2.2 _ h1 h4⟩
 | false=>rw[QOJ hc h5 h1]at h4; cases h4
end Go.Proofs.YtnfeakhkfehkhaaGreatDoor
