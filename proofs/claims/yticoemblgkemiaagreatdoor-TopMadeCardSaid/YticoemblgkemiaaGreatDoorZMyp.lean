/-
  Where the wax of a batch may be: what the program finds is what some truth says. Plain. Conditions: none.
-/
import Derived.Test.YticoemblgkemiaaGreatDoorZPrJ
set_option linter.unusedSimpArgs false
set_option linter.unusedVariables false
namespace Go.Proofs.YticoemblgkemiaaGreatDoor
def Qch (f:Nat->Int) (x:Nat):Nat->Int:=QZ f x (f x - 1)
noncomputable def QpZ (b:List Bat) (i:Nat):List Nat->(Nat->Int)->(Nat->Int)->List Edg->(Nat->Bool)->(Nat->Bool)
 | [],h,n,more,all=>if Qc2 (Sup.of h n noN)=true then λk=>all k||Qam b i more b.length k else all
 | to::r,h,n,more,all=>(List.range to).foldl (λa x=>QpZ b i r (Qch h x) (Qch n to) (more++[⟨(x:Nat),(to:Nat)⟩]) a) (QpZ b i r h n more all)
noncomputable def Qk1 (b:List Bat) (i to:Nat) (r:List Nat) (h n:Nat->Int) (more:List Edg) (all:Nat->Bool) (j:Nat):Nat->Bool:=(List.range j).foldl (λa x=>QpZ b i r (Qch h x) (Qch n to) (more++[⟨(x:Nat),(to:Nat)⟩]) a) (QpZ b i r h n more all)
theorem QlW (b:List Bat) (i to:Nat) (r:List Nat) (h n:Nat->Int) (more:List Edg) (all:Nat->Bool):Qk1 b i to r h n more all 0=QpZ b i r h n more all:=rfl
theorem Qit (b:List Bat) (i to:Nat) (r:List Nat) (h n:Nat->Int) (more:List Edg) (all:Nat->Bool) (j:Nat):Qk1 b i to r h n more all (j+1)=QpZ b i r (Qch h j) (Qch n to) (more++[⟨(j:Nat),(to:Nat)⟩]) (Qk1 b i to r h n more all j):=by
 unfold Qk1;rw[List.range_succ,List.foldl_append]; rfl
theorem Qpo (b:List Bat) (i to:Nat) (r:List Nat) (h n:Nat->Int) (more:List Edg) (all:Nat->Bool):QpZ b i (to::r) h n more all=Qk1 b i to r h n more all to:=rfl
def Qs7 (b:List Bat) (i k:Nat):List Nat->(Nat->Int)->(Nat->Int)->List Edg->Prop
 | [],h,n,more=>Qc2 (Sup.of h n noN)=true/\Qam b i more b.length k=true
 | to::r,h,n,more=>Qs7 b i k r h n more\/∃x,x < to/\Qs7 b i k r (Qch h x) (Qch n to) (more++[⟨(x:Nat),(to:Nat)⟩])
theorem Qi8 (b:List Bat) (i k:Nat):∀(l:List Nat) (h n:Nat->Int) (more:List Edg) (all:Nat->Bool),QpZ b i l h n more all k=true↔all k=true\/Qs7 b i k l h n more
 | [],h,n,more,all=>by
  rw[QpZ,Qs7];split
  .rename_i hw;rw[Bool.or_eq_true]; simp[hw]
  .rename_i hw;simp[hw]
 | to::r,h,n,more,all=>by
  have key:∀j,Qk1 b i to r h n more all j k=true↔all k=true\/Qs7 b i k r h n more\/∃x,x < j/\Qs7 b i k r (Qch h x) (Qch n to) (more++[⟨(x:Nat),(to:Nat)⟩]):=by
   intro j
   induction j with
   | zero=>rw[QlW,Qi8 b i k r]; simp
   | succ j ih=>
    rw[Qit,Qi8 b i k r,ih];constructor
    .rintro((q | q | ⟨x,h1,h2⟩) | q)
     .exact .inl q
     .exact .inr (.inl q)
     .exact .inr (.inr ⟨x,by omega,h2⟩)
     .exact .inr (.inr ⟨j,by omega,q⟩)
    .rintro(q | q | ⟨x,h1,h2⟩)
     .exact .inl (.inl q)
     .exact .inl (.inr (.inl q))
     .by_cases e:x=j
      .subst e; exact .inr h2
      .exact .inl (.inr (.inr ⟨x,by omega,h2⟩))
  rw[Qpo,key,Qs7]
structure TrySt (P:Prb) (n:Nat) (ch:Nat->Option Nat) (h m:Nat->Int) (more:List Edg):Prop where
 hh:∀x,h x=P.has x - chH ch x
 mm:∀x,m x=P.need x - chN ch x
 ed:∀e∈more,∃x t:Nat,e=⟨(x:Int),(t:Int)⟩/\ch t=some x
 cc:∀t x,ch t=some x->(⟨(x:Int),(t:Int)⟩:Edg)∈more
 lt:∀t x,ch t=some x->P.lost t=true/\x < t/\t < n
theorem TrySt.next {P:Prb} {n:Nat} (hn:n<=8) {ch:Nat->Option Nat} {h m:Nat->Int} {more:List Edg} (S:TrySt P n ch h m more) {t x:Nat} (ht:t < n) (hl:P.lost t=true) (hx:x < t) (h0:ch t=none):TrySt P n (QZ ch t (some x)) (Qch h x) (Qch m t) (more++[⟨(x:Nat),(t:Nat)⟩]):=by
 refine⟨λy=>?_,λy=>?_,λe he=>?_,λu y hu=>?_,λu y hu=>?_⟩
 .rw[Qv3 (by omega) h0]
  unfold Qch;by_cases q:y=x
  .subst q; rw[Qac,S.hh,if_pos rfl]; omega
  .rw[Q2 _ _ q,S.hh,if_neg q]; omega
 .unfold Qch chN;by_cases q:y=t
  .subst q;rw[Qac,Qac,S.mm,if_neg (by simp)]
   unfold chN; rw[h0,if_pos rfl]; omega
  .rw[Q2 _ _ q,Q2 _ _ q,S.mm]; rfl
 .rcases Zp.1 he with he | he
  .obtain⟨y,u,e1,e2⟩:=S.ed e he;refine⟨y,u,e1,?_⟩;rw[Q2 _ _ (λq=>by rw[q,h0]at e2; cases e2)]; exact e2
  .rw[List.mem_singleton]at he;exact⟨x,t,he,Qac _ _ _⟩
 .by_cases q:u=t
  .subst q;rw[Qac]at hu;obtain rfl:=Option.some.inj hu;exact List.mem_append_right _ (List.mem_singleton.2 rfl)
  .rw[Q2 _ _ q]at hu;exact List.mem_append_left _ (S.cc u y hu)
 .by_cases q:u=t
  .subst q;rw[Qac]at hu;obtain rfl:=Option.some.inj hu;exact⟨hl,hx,ht⟩
  .rw[Q2 _ _ q]at hu;exact S.lt u y hu
theorem Qn1 {b:List Bat} (hb:ValidB b) {i k:Nat} (hk:k < b.length):∀(l:List Nat),l.Nodup->(∀t∈l,t < b.length/\QbV b t=true)->∀(ch:Nat->Option Nat) (h m:Nat->Int) (more:List Edg),TrySt (QM b) b.length ch h m more->(∀t∈l,ch t=none)->
  (Qs7 b i k l h m more↔∃c,(∀t,t∉l->c t=ch t)/\ChOk (QM b) c/\Rch (Qln (QM b) c) i k)
 | [],_,_,ch,h,m,more,S,_=>by
  have bE:=hb.ok.le;have hP:=Qd4 hb;have n9:=(QeA (Qek b).sup).1 (by rw[QeY hb.ok]; exact hb.sol)
  rw[QMf bE,QMT bE]at n9;have cN:∀x,(QM b).has x<=100000:=λx=>(n9.1.1 x).2;have eV:∀x,(QM b).need x<=100000:=λx=>(n9.1.2 x).2;have ez:∀x,8<=x->chH ch x=0:=λx hx=>by
   unfold chH;rw[QB (g:=λ_=>0) λt ht=>?_,Qaa];rw[if_neg (λq=>by have:=S.lt t x q; omega)]
  have em:∀x,8<=x->chN ch x=0:=λx hx=>by
   unfold chN;cases q:ch x with
   | none=>simp
   | some y=>have:=S.lt x y q; omega
  have eh:(Sup.of h m noN).h=λx=>(QM b).has x - chH ch x:=by
   funext x;rw[QFc];split
   .exact S.hh x
   .rename_i hx;rw[ez x (by omega)]
    show(0:Int)=Qb2 (QV b) x - 0;rw[QfJ (by omega)]; rfl
  have en:(Sup.of h m noN).n=λx=>(QM b).need x - chN ch x:=by
   funext x;rw[QGA];split
   .exact S.mm x
   .rename_i hx;rw[em x (by omega)]
    show(0:Int)=Q4 (QV b) x - 0;rw[Qcv (by omega)]; rfl
  have ev:(Sup.of h m noN).v=noN:=by
   funext x t;rw[QHT]; split<;>rfl
  have hE:EdgOk b more:=by
   refine⟨λt q hq=>?_,λe he=>?_⟩
   .by_cases ht:t < b.length
    .rw[Qao ht]at hq;exact(hb.ok.at ht).fr q hq
    .rw[Qau (by omega)]at hq
     cases hq
   .obtain⟨x,t,rfl,h2⟩:=S.ed e he;have:=S.lt t x h2;simp only; omega
  have dM:∀x t,Qmu b more x t↔Qln (QM b) ch x t:=λx t=>by
   unfold Qmu Qln;refine or_congr Iff.rfl ⟨λhe=>?_,λhc=>S.cc t x hc⟩;obtain⟨y,u,e1,e2⟩:=S.ed _ he;simp only[Edg.mk.injEq,Int.natCast_inj]at e1;rw[e1.1,e1.2]; exact e2
  rw[Qs7,QeA,eh,en,ev,Qkw hE hk];constructor
  .rintro⟨⟨⟨h1,h2⟩,h3⟩,h4⟩;refine⟨ch,λ_ _=>rfl,⟨λt x hc=>?_,λx=>(h1 x).1,λt=>(h2 t).1,h3⟩,Qex (λx t=>(dM x t).1) h4⟩;have:=S.lt t x hc;exact⟨this.1,this.2.1,by omega⟩
  .rintro⟨c,h1,h2,h3⟩;have:c=ch:=funext λt=>h1 t (by simp)
   subst this;refine⟨⟨⟨λx=>⟨h2.has x,?_⟩,λt=>⟨h2.need t,?_⟩⟩,h2.hall⟩,Qex (λx t=>(dM x t).2) h3⟩
   .show(QM b).has x - chH c x<=100000;have:=cN x; have:=(QDF c x).1; omega
   .show(QM b).need t - chN c t<=100000;have:=eV t; have:=(QC2 c t).1; omega
 | to::r,bZ,hl,ch,h,m,more,S,h0=>by
  have bE:=hb.ok.le;obtain⟨oW,lD⟩:=List.nodup_cons.1 bZ;have rB:=hl to (by simp)
  have hlr:∀t∈r,t < b.length/\QbV b t=true:=λt ht=>hl t (by simp[ht])
  rw[Qs7,Qn1 hb hk r lD hlr ch h m more S λt ht=>h0 t (by simp[ht])]
  have hx:∀x,x < to->(Qs7 b i k r (Qch h x) (Qch m to) (more++[⟨(x:Nat),(to:Nat)⟩])↔_):=λx hx=>Qn1 hb hk r lD hlr (QZ ch to (some x)) (Qch h x) (Qch m to) (more++[⟨(x:Nat),(to:Nat)⟩]) (S.next bE rB.1 rB.2 hx (h0 to (by simp))) λt ht=>by
   rw[Q2 _ _ (λq=>oW (by rw[<-q]; exact ht))]; exact h0 t (by simp[ht])
  constructor
  .rintro(⟨c,h1,h2⟩ | ⟨x,uN,h1⟩)
   .exact⟨c,λt ht=>h1 t (λq=>ht (by simp[q])),h2⟩
   .obtain⟨c,h2,h3⟩:=(hx x uN).1 h1;refine⟨c,λt ht=>?_,h3⟩;rw[h2 t (λq=>ht (by simp[q])),Q2 _ _ (λq=>ht (by simp[q]))]
  .rintro⟨c,h1,h2,h3⟩;cases hc:c to with
   | none=>
    refine .inl ⟨c,λt ht=>?_,h2,h3⟩;by_cases q:t=to
    .rw[q,hc,h0 to (by simp)]
    .exact h1 t (by simp[q,ht])
   | some x=>
    have aQ:=h2.lt to x hc;refine .inr ⟨x,aQ.2.1,(hx x aQ.2.1).2 ⟨c,λt ht=>?_,h2,h3⟩⟩;by_cases q:t=to
    .rw[q,hc,Qac]
    .rw[Q2 _ _ q]; exact h1 t (by simp[q,ht])
noncomputable def Qm6 (b:List Bat) (i k:Nat):Bool:=decide (k < b.length)&&Qve b i k
theorem Qiz (b:List Bat) (i:Nat) (more:List Edg) {x:Nat} :∀m,m<=x->Qam b i more m x=false
 | 0,_=>rfl
 | m+1,h=>by rw[Qam,Q2 _ _ (by omega),Qiz b i more m (by omega)]
theorem Qjt {b:List Bat} {i k:Nat} (hk:b.length<=k):∀(l:List Nat) (h n:Nat->Int) (more:List Edg),¬Qs7 b i k l h n more
 | [],h,n,more,q=>by
  rw[Qs7,Qiz _ _ _ _ hk]at q;exact absurd q.2 (by simp)
 | to::r,h,n,more,q=>by
  rw[Qs7]at q;rcases q with q | ⟨x,_,q⟩
  .exact Qjt hk r _ _ _ q
  .exact Qjt hk r _ _ _ q
theorem QD7 {b:List Bat} (h:ValidB b) {i:Nat} (hi:i < b.length):QpZ b i (QS b) (Qb2 (QV b)) (Q4 (QV b)) [] (λ_=>false)=Qm6 b i:=by
 funext k;have bE:=h.ok.le;rw[Bool.eq_iff_iff,Qi8];by_cases hk:k < b.length
 .unfold Qm6;rw[decide_eq_true hk,Bool.true_and,Qgb,QzB (Qd4 h) (by omega) (by omega)]
  have S:TrySt (QM b) b.length (λ_=>none) (Qb2 (QV b)) (Q4 (QV b)) []:=by
   refine⟨λx=>?_,λx=>?_,λe he=>(by cases he),λt x hc=>(by cases hc),λt x hc=>(by cases hc)⟩
   .unfold chH;rw[QB (g:=λ_=>0) λt _=>by simp,Qaa]
    show _=Qb2 (QV b) x - 0;omega
   .unfold chN;rw[if_pos rfl];show _=Q4 (QV b) x - 0;omega
  rw[Qn1 h hk (QS b) (QgJ b) (λt ht=>QdF.1 ht) (λ_=>none) _ _ [] S λ_ _=>rfl];constructor
  .rintro(q | ⟨c,_,h2⟩)
   .cases q
   .exact⟨c,h2⟩
  .rintro⟨c,h2,h3⟩;refine .inr ⟨c,λt ht=>?_,h2,h3⟩;cases q:c t with
   | none=>rfl
   | some x=>
    have h4:QbV b t=true:=(h2.lt t x q).1;exact absurd (QdF.2 ⟨Qh9 h4,h4⟩) ht
 .have:Qm6 b i k=false:=by unfold Qm6; rw[decide_eq_false hk]; rfl
  rw[this];constructor
  .rintro(q | q)
   .cases q
   .exact absurd q (Qjt (by omega) _ _ _ _)
  .intro q; cases q
end Go.Proofs.YticoemblgkemiaaGreatDoor
