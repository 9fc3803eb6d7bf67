/-
  Where the wax of a batch may be: what the program finds is what some truth says. Plain. Conditions: none.
-/
import Derived.Test.YtnfeakhkfehkhaaGreatDoorZPrJ
set_option linter.unusedSimpArgs false
set_option linter.unusedVariables false
namespace Go.Proofs.YtnfeakhkfehkhaaGreatDoor
def QbW (f:Nat->Int) (x:Nat):Nat->Int:=Q2 f x (f x - 1)
noncomputable def Qoj (b:List Bat) (i:Nat):List Nat->(Nat->Int)->(Nat->Int)->List Edg->(Nat->Bool)->(Nat->Bool)
 | [],h,n,more,all=>if QcJ (Sup.of h n noN)=true then λk=>all k||Qao b i more b.length k else all
 | to::r,h,n,more,all=>(List.range to).foldl (λa x=>Qoj b i r (QbW h x) (QbW n to) (more++[⟨(x:Nat),(to:Nat)⟩]) a) (Qoj b i r h n more all)
noncomputable def Qjj (b:List Bat) (i to:Nat) (r:List Nat) (h n:Nat->Int) (more:List Edg) (all:Nat->Bool) (j:Nat):Nat->Bool:=(List.range j).foldl (λa x=>Qoj b i r (QbW h x) (QbW n to) (more++[⟨(x:Nat),(to:Nat)⟩]) a) (Qoj b i r h n more all)
theorem Qk4 (b:List Bat) (i to:Nat) (r:List Nat) (h n:Nat->Int) (more:List Edg) (all:Nat->Bool):Qjj b i to r h n more all 0=Qoj b i r h n more all:=rfl
theorem QhA (b:List Bat) (i to:Nat) (r:List Nat) (h n:Nat->Int) (more:List Edg) (all:Nat->Bool) (j:Nat):Qjj b i to r h n more all (j+1)=Qoj b i r (QbW h j) (QbW n to) (more++[⟨(j:Nat),(to:Nat)⟩]) (Qjj b i to r h n more all j):=by
 unfold Qjj;rw[List.range_succ,List.foldl_append]; rfl
theorem QnK (b:List Bat) (i to:Nat) (r:List Nat) (h n:Nat->Int) (more:List Edg) (all:Nat->Bool):Qoj b i (to::r) h n more all=Qjj b i to r h n more all to:=rfl
def QpW (b:List Bat) (i k:Nat):List Nat->(Nat->Int)->(Nat->Int)->List Edg->Prop
 | [],h,n,more=>QcJ (Sup.of h n noN)=true/\Qao b i more b.length k=true
 | to::r,h,n,more=>QpW b i k r h n more\/∃x,x < to/\QpW b i k r (QbW h x) (QbW n to) (more++[⟨(x:Nat),(to:Nat)⟩])
theorem Qin (b:List Bat) (i k:Nat):∀(l:List Nat) (h n:Nat->Int) (more:List Edg) (all:Nat->Bool),Qoj b i l h n more all k=true↔all k=true\/QpW b i k l h n more
 | [],h,n,more,all=>by
  rw[Qoj,QpW];split
  .rename_i hw;rw[Bool.or_eq_true]; simp[hw]
  .rename_i hw;simp[hw]
 | to::r,h,n,more,all=>by
  have key:∀j,Qjj b i to r h n more all j k=true↔all k=true\/QpW b i k r h n more\/∃x,x < j/\QpW b i k r (QbW h x) (QbW n to) (more++[⟨(x:Nat),(to:Nat)⟩]):=by
   intro j
   induction j with
   | zero=>rw[Qk4,Qin b i k r]; simp
   | succ j ih=>
    rw[QhA,Qin b i k r,ih];constructor
    .rintro((q | q | ⟨x,h1,h2⟩) | q)
     .exact .inl q
     .exact .inr (.inl q)
     .exact .inr (.inr ⟨x,by omega,h2⟩)
     .exact .inr (.inr ⟨j,by omega,q⟩)
    .rintro(q | q | ⟨x,h1,h2⟩)
     .exact .inl (.inl q)
     .exact .inl (.inr (.inl q))
     .by_cases e:x=j
      .subst e; exact .inr h2
      .exact .inl (.inr (.inr ⟨x,by omega,h2⟩))
  rw[QnK,key,QpW]
structure TrySt (P:Prb) (n:Nat) (ch:Nat->Option Nat) (h m:Nat->Int) (more:List Edg):Prop where
 hh:∀x,h x=P.has x - chH ch x
 mm:∀x,m x=P.need x - chN ch x
 ed:∀e∈more,∃x t:Nat,e=⟨(x:Int),(t:Int)⟩/\ch t=some x
 cc:∀t x,ch t=some x->(⟨(x:Int),(t:Int)⟩:Edg)∈more
 lt:∀t x,ch t=some x->P.lost t=true/\x < t/\t < n
theorem TrySt.next {P:Prb} {n:Nat} (hn:n<=8) {ch:Nat->Option Nat} {h m:Nat->Int} {more:List Edg} (S:TrySt P n ch h m more) {t x:Nat} (ht:t < n) (hl:P.lost t=true) (hx:x < t) (h0:ch t=none):TrySt P n (Q2 ch t (some x)) (QbW h x) (QbW m t) (more++[⟨(x:Nat),(t:Nat)⟩]):=by
 refine⟨λy=>?_,λy=>?_,λe he=>?_,λu y hu=>?_,λu y hu=>?_⟩
 .rw[Qtu (by omega) h0]
  unfold QbW;by_cases q:y=x
  .subst q; rw[Qae,S.hh,if_pos rfl]; omega
  .rw[Q3 _ _ q,S.hh,if_neg q]; omega
 .unfold QbW chN;by_cases q:y=t
  .subst q;rw[Qae,Qae,S.mm,if_neg (by simp)]
   unfold chN; rw[h0,if_pos rfl]; omega
  .rw[Q3 _ _ q,Q3 _ _ q,S.mm]; rfl
 .rcases Zp.1 he with he | he
  .obtain⟨y,u,e1,e2⟩:=S.ed e he;refine⟨y,u,e1,?_⟩;rw[Q3 _ _ (λq=>by rw[q,h0]at e2; cases e2)]; exact e2
  .rw[List.mem_singleton]at he;exact⟨x,t,he,Qae _ _ _⟩
 .by_cases q:u=t
  .subst q;rw[Qae]at hu;obtain rfl:=Option.some.inj hu;exact List.mem_append_right _ (List.mem_singleton.2 rfl)
  .rw[Q3 _ _ q]at hu;exact List.mem_append_left _ (S.cc u y hu)
 .by_cases q:u=t
  .subst q;rw[Qae]at hu;obtain rfl:=Option.some.inj hu;exact⟨hl,hx,ht⟩
  .rw[Q3 _ _ q]at hu;exact S.lt u y hu
theorem Qly {b:List Bat} (hb:ValidB b) {i k:Nat} (hk:k < b.length):∀(l:List Nat),l.Nodup->(∀t∈l,t < b.length/\Qfv b t=true)->∀(ch:Nat->Option Nat) (h m:Nat->Int) (more:List Edg),TrySt (Qaa b) b.length ch h m more->(∀t∈l,ch t=none)->
  (QpW b i k l h m more↔∃c,(∀t,t∉l->c t=ch t)/\ChOk (Qaa b) c/\Rch (Qke (Qaa b) c) i k)
 | [],_,_,ch,h,m,more,S,_=>by
  have aX:=hb.ok.le;have hP:=Qg0 hb;have oX:=(QdM (QdP b).sup).1 (by rw[Qd4 hb.ok]; exact hb.sol)
  rw[QDb aX,QGN aX]at oX;have eD:∀x,(Qaa b).has x<=100000:=λx=>(oX.1.1 x).2;have eR:∀x,(Qaa b).need x<=100000:=λx=>(oX.1.2 x).2;have ez:∀x,8<=x->chH ch x=0:=λx hx=>by
   unfold chH;rw[Q0 (g:=λ_=>0) λt ht=>?_,Qal];rw[if_neg (λq=>by have:=S.lt t x q; omega)]
  have em:∀x,8<=x->chN ch x=0:=λx hx=>by
   unfold chN;cases q:ch x with
   | none=>simp
   | some y=>have:=S.lt x y q; omega
  have eh:(Sup.of h m noN).h=λx=>(Qaa b).has x - chH ch x:=by
   funext x;rw[QA5];split
   .exact S.hh x
   .rename_i hx;rw[ez x (by omega)]
    show(0:Int)=Qem (Qac b) x - 0;rw[QiF (by omega)]; rfl
  have en:(Sup.of h m noN).n=λx=>(Qaa b).need x - chN ch x:=by
   funext x;rw[Qzw];split
   .exact S.mm x
   .rename_i hx;rw[em x (by omega)]
    show(0:Int)=QaM (Qac b) x - 0;rw[QdW (by omega)]; rfl
  have ev:(Sup.of h m noN).v=noN:=by
   funext x t;rw[Qzy]; split<;>rfl
  have hE:EdgOk b more:=by
   refine⟨λt q hq=>?_,λe he=>?_⟩
   .by_cases ht:t < b.length
    .rw[Qbf ht]at hq;exact(hb.ok.at ht).fr q hq
    .rw[Qbc (by omega)]at hq
     cases hq
   .obtain⟨x,t,rfl,h2⟩:=S.ed e he;have:=S.lt t x h2;simp only; omega
  have dN:∀x t,Qom b more x t↔Qke (Qaa b) ch x t:=λx t=>by
   unfold Qom Qke;refine or_congr Iff.rfl ⟨λhe=>?_,λhc=>S.cc t x hc⟩;obtain⟨y,u,e1,e2⟩:=S.ed _ he;simp only[Edg.mk.injEq,Int.natCast_inj]at e1;rw[e1.1,e1.2]; exact e2
  rw[QpW,QdM,eh,en,ev,QnJ hE hk];constructor
  .rintro⟨⟨⟨h1,h2⟩,h3⟩,h4⟩;refine⟨ch,λ_ _=>rfl,⟨λt x hc=>?_,λx=>(h1 x).1,λt=>(h2 t).1,h3⟩,Qgy (λx t=>(dN x t).1) h4⟩;have:=S.lt t x hc;exact⟨this.1,this.2.1,by omega⟩
  .rintro⟨c,h1,h2,h3⟩;have:c=ch:=funext λt=>h1 t (by simp)
   subst this;refine⟨⟨⟨λx=>⟨h2.has x,?_⟩,λt=>⟨h2.need t,?_⟩⟩,h2.hall⟩,Qgy (λx t=>(dN x t).2) h3⟩
   .show(Qaa b).has x - chH c x<=100000;have:=eD x; have:=(QyV c x).1; omega
   .show(Qaa b).need t - chN c t<=100000;have:=eR t; have:=(Qzp c t).1; omega
 | to::r,cB,hl,ch,h,m,more,S,h0=>by
  have aX:=hb.ok.le;obtain⟨pA,lK⟩:=List.nodup_cons.1 cB;have qI:=hl to (by simp)
  have hlr:∀t∈r,t < b.length/\Qfv b t=true:=λt ht=>hl t (by simp[ht])
  rw[QpW,Qly hb hk r lK hlr ch h m more S λt ht=>h0 t (by simp[ht])]
  have hx:∀x,x < to->(QpW b i k r (QbW h x) (QbW m to) (more++[⟨(x:Nat),(to:Nat)⟩])↔_):=λx hx=>Qly hb hk r lK hlr (Q2 ch to (some x)) (QbW h x) (QbW m to) (more++[⟨(x:Nat),(to:Nat)⟩]) (S.next aX qI.1 qI.2 hx (h0 to (by simp))) λt ht=>by
   rw[Q3 _ _ (λq=>pA (by rw[<-q]; exact ht))]; exact h0 t (by simp[ht])
  constructor
  .rintro(⟨c,h1,h2⟩ | ⟨x,vU,h1⟩)
   .exact⟨c,λt ht=>h1 t (λq=>ht (by simp[q])),h2⟩
   .obtain⟨c,h2,h3⟩:=(hx x vU).1 h1;refine⟨c,λt ht=>?_,h3⟩;rw[h2 t (λq=>ht (by simp[q])),Q3 _ _ (λq=>ht (by simp[q]))]
  .rintro⟨c,h1,h2,h3⟩;cases hc:c to with
   | none=>
    refine .inl ⟨c,λt ht=>?_,h2,h3⟩;by_cases q:t=to
    .rw[q,hc,h0 to (by simp)]
    .exact h1 t (by simp[q,ht])
   | some x=>
    have aR:=h2.lt to x hc;refine .inr ⟨x,aR.2.1,(hx x aR.2.1).2 ⟨c,λt ht=>?_,h2,h3⟩⟩;by_cases q:t=to
    .rw[q,hc,Qae]
    .rw[Q3 _ _ q]; exact h1 t (by simp[q,ht])
noncomputable def QmE (b:List Bat) (i k:Nat):Bool:=decide (k < b.length)&&QoL b i k
theorem Qg8 (b:List Bat) (i:Nat) (more:List Edg) {x:Nat} :∀m,m<=x->Qao b i more m x=false
 | 0,_=>rfl
 | m+1,h=>by rw[Qao,Q3 _ _ (by omega),Qg8 b i more m (by omega)]
theorem Qh4 {b:List Bat} {i k:Nat} (hk:b.length<=k):∀(l:List Nat) (h n:Nat->Int) (more:List Edg),¬QpW b i k l h n more
 | [],h,n,more,q=>by
  rw[QpW,Qg8 _ _ _ _ hk]at q;exact absurd q.2 (by simp)
 | to::r,h,n,more,q=>by
  rw[QpW]at q;rcases q with q | ⟨x,_,q⟩
  .exact Qh4 hk r _ _ _ q
  .exact Qh4 hk r _ _ _ q
theorem QA9 {b:List Bat} (h:ValidB b) {i:Nat} (hi:i < b.length):Qoj b i (Qq b) (Qem (Qac b)) (QaM (Qac b)) [] (λ_=>false)=QmE b i:=by
 funext k;have aX:=h.ok.le;rw[Bool.eq_iff_iff,Qin];by_cases hk:k < b.length
 .unfold QmE;rw[decide_eq_true hk,Bool.true_and,Qli,QvZ (Qg0 h) (by omega) (by omega)]
  have S:TrySt (Qaa b) b.length (λ_=>none) (Qem (Qac b)) (QaM (Qac b)) []:=by
   refine⟨λx=>?_,λx=>?_,λe he=>(by cases he),λt x hc=>(by cases hc),λt x hc=>(by cases hc)⟩
   .unfold chH;rw[Q0 (g:=λ_=>0) λt _=>by simp,Qal]
    show _=Qem (Qac b) x - 0;omega
   .unfold chN;rw[if_pos rfl];show _=QaM (Qac b) x - 0;omega
  rw[Qly h hk (Qq b) (Qef b) (λt ht=>Qb8.1 ht) (λ_=>none) _ _ [] S λ_ _=>rfl];constructor
  .rintro(q | ⟨c,_,h2⟩)
   .cases q
   .exact⟨c,h2⟩
  .rintro⟨c,h2,h3⟩;refine .inr ⟨c,λt ht=>?_,h2,h3⟩;cases q:c t with
   | none=>rfl
   | some x=>
    have h4:Qfv b t=true:=(h2.lt t x q).1;exact absurd (Qb8.2 ⟨Qix h4,h4⟩) ht
 .have:QmE b i k=false:=by unfold QmE; rw[decide_eq_false hk]; rfl
  rw[this];constructor
  .rintro(q | q)
   .cases q
   .exact absurd q (Qh4 (by omega) _ _ _ _)
  .intro q; cases q
end Go.Proofs.YtnfeakhkfehkhaaGreatDoor
