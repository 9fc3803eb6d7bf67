/-
  Who takes how much of whom: a search that finds as much as can be found, and what it says of all lists of takers. Plain; no program here. Conditions: none.
-/
import Derived.WalkKit
set_option linter.unusedSimpArgs false
set_option linter.unusedVariables false
namespace Go.Proofs.YticoemblgkemiaaGreatDoor
def QK:Nat->(Nat->Int)->Int
 | 0,_=>0
 | n+1,f=>QK n f+f n
theorem QB {f g:Nat->Int} :∀{n:Nat},(∀i,i < n->f i=g i)->QK n f=QK n g
 | 0,_=>rfl
 | n+1,h=>by rw[QK,QK,QB λi hi=>h i (by omega),h n (by omega)]
theorem Qax (f g:Nat->Int):∀n,QK n (λi=>f i+g i)=QK n f+QK n g
 | 0=>rfl
 | n+1=>by rw[QK,QK,QK,Qax f g n]; omega
theorem Qd6 (f g:Nat->Int):∀n,QK n (λi=>f i - g i)=QK n f - QK n g
 | 0=>rfl
 | n+1=>by rw[QK,QK,QK,Qd6 f g n]; omega
theorem Qa2 {f g:Nat->Int} :∀{n:Nat},(∀i,i < n->f i<=g i)->QK n f<=QK n g
 | 0,_=>Int.le_refl _
 | n+1,h=>by
  have h1:=Qa2 (n:=n) λi hi=>h i (by omega)
  have h2:=h n (by omega)
  rw[QK,QK]; omega
theorem Qaa:∀n,QK n (λ_=>0)=0
 | 0=>rfl
 | n+1=>by rw[QK,Qaa n]; rfl
theorem QaH {f:Nat->Int} {n:Nat} (h:∀i,i < n->0<=f i):0<=QK n f:=by
 have:=Qa2 (f:=λ_=>0) (g:=f) h
 rwa [Qaa]at this
theorem Qbg {v:Int} {i:Nat} :∀n,QK n (λj=>if j=i then v else 0)=if i < n then v else 0
 | 0=>by rw[QK,if_neg (by omega)]
 | n+1=>by
  rw[QK,Qbg n];by_cases h:n=i
  .subst h; rw[if_neg (by omega),if_pos rfl,if_pos (by omega)]; omega
  .rw[if_neg h];by_cases h2:i < n
   .rw[if_pos h2,if_pos (by omega)]; omega
   .rw[if_neg h2,if_neg (by omega)]; omega
theorem Qg4 (f:Nat->Nat->Int) (m:Nat):∀n,QK n (λi=>QK m (λj=>f i j))=QK m (λj=>QK n (λi=>f i j))
 | 0=>by rw[QK]; exact(Qaa m).symm
 | n+1=>by
  rw[QK,Qg4 f m n,<-Qax];rfl
theorem Qfr {f:Nat->Int} {i:Nat} :∀{n:Nat},(∀j,j < n->0<=f j)->i < n->f i<=QK n f
 | 0,_,h=>by omega
 | n+1,h,hi=>by
  rw[QK];by_cases e:i=n
  .subst e;have:=QaH (n:=i) λj hj=>h j (by omega)
   omega
  .have h1:=Qfr (f:=f) (i:=i) (n:=n) (λj hj=>h j (by omega)) (by omega)
   have h2:=h n (by omega)
   omega
theorem Qmv {f:Nat->Int} :∀{n:Nat},0 < QK n f->∃i,i < n/\0 < f i
 | 0,h=>by rw[QK]at h; omega
 | n+1,h=>by
  rw[QK]at h;by_cases h1:0 < f n
  .exact⟨n,by omega,h1⟩
  .obtain⟨i,hi,h2⟩:=Qmv (f:=f) (n:=n) (by omega)
   exact⟨i,by omega,h2⟩
def QZ {α:Type} (f:Nat->α) (i:Nat) (v:α):Nat->α:=λj=>if j=i then v else f j
theorem Qac {α:Type} (f:Nat->α) (i:Nat) (v:α):QZ f i v i=v:=if_pos rfl
theorem Q2 {α:Type} (f:Nat->α) {i j:Nat} (v:α) (h:¬j=i):QZ f i v j=f j:=if_neg h
theorem QfV (f:Nat->Int) {i n:Nat} (v:Int) (hi:i < n):QK n (QZ f i v)=QK n f - f i+v:=by
 have:QK n (QZ f i v)=QK n (λj=>f j+(if j=i then v - f i else 0)):=QB λj _=>by
  unfold QZ;by_cases h:j=i
  .subst h; rw[if_pos rfl,if_pos rfl]; omega
  .rw[if_neg h,if_neg h]; omega
 rw[this,Qax,Qbg,if_pos hi]; omega
structure Fl where
 has:Nat->Int
 g:Nat->Nat->Int
def Fl.more (s:Fl) (x t:Nat) (n:Int):Fl:=⟨s.has,λy=>if y=x then QZ (s.g x) t (s.g x t+n)else s.g y⟩
def Fl.take (s:Fl) (x t:Nat) (n:Int):Fl:=Fl.more ⟨QZ s.has x (s.has x - n),s.g⟩ x t n
def Fl.turn (s:Fl) (x o t:Nat) (n:Int):Fl:=(s.more x o (0 - n)).more x t n
abbrev Qn3:=Int×(Nat->Bool)×Fl
def QhH (rec:Nat->Int->(Nat->Bool)->Fl->Qn3) (t x:Nat) (most:Int) (row:Nat->Int):Nat->(Nat->Bool)->Fl->Qn3
 | 0,seen,s=>(0,seen,s)
 | k+1,seen,s=>
  if 7 - k=t\/row (7 - k)=0 then QhH rec t x most row k seen s else
  if 0 < (rec (7 - k) (min most (row (7 - k))) seen s).1 then((rec (7 - k) (min most (row (7 - k))) seen s).1,(rec (7 - k) (min most (row (7 - k))) seen s).2.1,(rec (7 - k) (min most (row (7 - k))) seen s).2.2.turn x (7 - k) t (rec (7 - k) (min most (row (7 - k))) seen s).1)
  else QhH rec t x most row k (rec (7 - k) (min most (row (7 - k))) seen s).2.1 (rec (7 - k) (min most (row (7 - k))) seen s).2.2
def Qoa (rec:Nat->Int->(Nat->Bool)->Fl->Qn3) (nv:Nat->Nat->Bool) (t:Nat) (most:Int):Nat->(Nat->Bool)->Fl->Qn3
 | 0,seen,s=>(0,seen,s)
 | k+1,seen,s=>
  if seen (t - (k+1))=true\/nv (t - (k+1)) t=true then Qoa rec nv t most k seen s else
  if 0 < min most (s.has (t - (k+1)))then(min most (s.has (t - (k+1))),QZ seen (t - (k+1)) true,s.take (t - (k+1)) t (min most (s.has (t - (k+1)))))else
  if 0 < (QhH rec t (t - (k+1)) most (s.g (t - (k+1))) 8 (QZ seen (t - (k+1)) true) s).1 then QhH rec t (t - (k+1)) most (s.g (t - (k+1))) 8 (QZ seen (t - (k+1)) true) s
  else Qoa rec nv t most k (QhH rec t (t - (k+1)) most (s.g (t - (k+1))) 8 (QZ seen (t - (k+1)) true) s).2.1 (QhH rec t (t - (k+1)) most (s.g (t - (k+1))) 8 (QZ seen (t - (k+1)) true) s).2.2
def Q1 (nv:Nat->Nat->Bool):Nat->Nat->Int->(Nat->Bool)->Fl->Qn3
 | 0,_,_,seen,s=>(0,seen,s)
 | f+1,t,most,seen,s=>Qoa (Q1 nv f) nv t most t seen s
def cnB (nv:Nat->Nat->Bool) (x t:Nat):Prop:=x < t/\nv x t=false
structure FlOk (nv:Nat->Nat->Bool) (s:Fl):Prop where
 has:∀x,0<=s.has x
 g:∀x t,0<=s.g x t
 sup:∀x t,0 < s.g x t->cnB nv x t/\t < 8
def ClosedX (nv:Nat->Nat->Bool) (s:Fl) (seen lZ:Nat->Bool) (but:Nat->Prop) (x:Nat):Prop:=s.has x=0/\∀o,¬but o->0 < s.g x o->∀y,cnB nv y o->lZ y=true
structure Found (nv:Nat->Nat->Bool) (t:Nat) (most:Int) (seen:Nat->Bool) (s:Fl) (r:Qn3):Prop where
 mono:∀x,seen x=true->r.2.1 x=true
 keep:∀x,seen x=true->r.2.2.has x=s.has x/\r.2.2.g x=s.g x
 pos:0<=r.1
 le:r.1<=most
 no:r.1=0->r.2.2=s/\(∀x,cnB nv x t->r.2.1 x=true)/\∀x,r.2.1 x=true->¬seen x=true->ClosedX nv s seen r.2.1 (λ_=>False) x
 ok:FlOk nv r.2.2
 row:0 < r.1->∀x,r.2.2.has x+QK 8 (r.2.2.g x)=s.has x+QK 8 (s.g x)
 col:0 < r.1->∀o,QK 8 (λx=>r.2.2.g x o)=QK 8 (λx=>s.g x o)+if o=t then r.1 else 0
theorem ClosedX.mono {nv:Nat->Nat->Bool} {s:Fl} {a b c:Nat->Bool} {p q:Nat->Prop} {x:Nat} (h:ClosedX nv s a b p x) (hb:∀y,b y=true->c y=true) (hp:∀o,p o->q o):ClosedX nv s a c q x:=
 ⟨h.1,λo ho hg y hy=>hb y (h.2 o (λoD=>ho (hp o oD)) hg y hy)⟩
theorem QdC (s:Fl) (x t:Nat) (n:Int) (y o:Nat):(s.more x t n).g y o=if y=x/\o=t then s.g y o+n else s.g y o:=by
 unfold Fl.more;simp only;by_cases h:y=x
 .subst h;rw[if_pos rfl];unfold QZ;by_cases h2:o=t
  .subst h2; simp
  .simp[h2]
 .rw[if_neg h,if_neg (λq=>h q.1)]
theorem QmJ (s:Fl) {x t:Nat} (n:Int) (ht:t < 8) (y:Nat):QK 8 ((s.more x t n).g y)=QK 8 (s.g y)+if y=x then n else 0:=by
 have:QK 8 ((s.more x t n).g y)=QK 8 (λo=>s.g y o+(if o=t then(if y=x then n else 0)else 0)):=QB λo _=>by
  rw[QdC];by_cases h:y=x<;>by_cases h2:o=t<;>simp[h,h2]
 rw[this,Qax,Qbg,if_pos ht]
theorem QmD (s:Fl) {x t:Nat} (n:Int) (hx:x < 8) (o:Nat):QK 8 (λy=>(s.more x t n).g y o)=QK 8 (λy=>s.g y o)+if o=t then n else 0:=by
 have:QK 8 (λy=>(s.more x t n).g y o)=QK 8 (λy=>s.g y o+(if y=x then(if o=t then n else 0)else 0)):=QB λy _=>by
  rw[QdC];by_cases h:y=x<;>by_cases h2:o=t<;>simp[h,h2]
 rw[this,Qax,Qbg,if_pos hx]
theorem Qsl (s:Fl) (x t:Nat) (n:Int):(s.more x t n).has=s.has:=rfl
structure FoundO (nv:Nat->Nat->Bool) (t x:Nat) (most:Int) (row:Nat->Int) (k:Nat) (seen:Nat->Bool) (s:Fl) (r:Qn3):Prop where
 mono:∀y,seen y=true->r.2.1 y=true
 keep:∀y,seen y=true->¬y=x->r.2.2.has y=s.has y/\r.2.2.g y=s.g y
 pos:0<=r.1
 le:r.1<=most
 no:r.1=0->r.2.2=s/\(∀o,8 - k<=o->o < 8->¬o=t->0 < row o->∀y,cnB nv y o->r.2.1 y=true)/\∀y,r.2.1 y=true->¬seen y=true->ClosedX nv s seen r.2.1 (λ_=>False) y
 ok:FlOk nv r.2.2
 row:0 < r.1->∀y,r.2.2.has y+QK 8 (r.2.2.g y)=s.has y+QK 8 (s.g y)
 col:0 < r.1->∀o,QK 8 (λy=>r.2.2.g y o)=QK 8 (λy=>s.g y o)+if o=t then r.1 else 0
def Qi6 (seen:Nat->Bool):Int:=QK 8 λx=>if seen x=true then 0 else 1
theorem Qgo {a b:Nat->Bool} (h:∀y,a y=true->b y=true):Qi6 b<=Qi6 a:=Qa2 λi _=>by
 by_cases q:a i=true
 .rw[if_pos q,if_pos (h i q)]; exact Int.le_refl _
 .rw[if_neg q]; split<;>omega
theorem Qm5 {a:Nat->Bool} {x:Nat} (hx:x < 8) (h:¬a x=true):Qi6 (QZ a x true)=Qi6 a - 1:=by
 have:Qi6 (QZ a x true)=QK 8 (QZ (λx=>if a x=true then 0 else 1) x 0):=QB λi _=>by
  unfold QZ;by_cases e:i=x
  .rw[if_pos e,if_pos e,if_pos rfl]
  .rw[if_neg e,if_neg e]
 rw[this,QfV _ _ hx];unfold Qi6;rw[if_neg h]; omega
theorem Qr1 {a:Nat->Bool} (h:Qi6 a<=0) {x:Nat} (hx:x < 8):a x=true:=by
 by_cases q:a x=true
 .exact q
 .have h2:(if a x=true then(0:Int)else 1)<=Qi6 a:=Qfr (f:=λx=>if a x=true then 0 else 1) (i:=x) (n:=8) (λj _=>by show(0:Int)<=if a j=true then 0 else 1; split<;>omega) hx
  rw[if_neg q]at h2;omega
def QpU (nv:Nat->Nat->Bool) (f:Int) (rec:Nat->Int->(Nat->Bool)->Fl->Qn3):Prop:=∀o most seen s,o < 8->0 < most->Qi6 seen<=f->FlOk nv s->Found nv o most seen s (rec o most seen s)
theorem Qku {nv:Nat->Nat->Bool} {f:Int} {rec:Nat->Int->(Nat->Bool)->Fl->Qn3} (hr:QpU nv f rec) {t x:Nat} {most:Int} (hm:0 < most) (ht:t < 8) (hx:cnB nv x t) {s:Fl} (hs:FlOk nv s):∀k,k<=8->∀seen:Nat->Bool,seen x=true->Qi6 seen<=f->FoundO nv t x most (s.g x) k seen s (QhH rec t x most (s.g x) k seen s)
 | 0,_,seen,pS,dU=>by
  rw[QhH];exact⟨λ_ h=>h,λ_ _ _=>⟨rfl,rfl⟩,Int.le_refl _,by show(0:Int)<=most; omega,λ_=>⟨rfl,λo h1 h2=>by omega,λy h1 h2=>absurd h1 h2⟩,hs,λh=>absurd h (by simp),λh=>absurd h (by simp)⟩
 | k+1,hk,seen,pS,dU=>by
  rw[QhH];by_cases c:7 - k=t\/s.g x (7 - k)=0
  .rw[if_pos c];obtain⟨a1,a2,a3,a4,a5,a6,a7,a8⟩:=Qku hr hm ht hx hs k (by omega) seen pS dU
   refine⟨a1,a2,a3,a4,λh0=>?_,a6,a7,a8⟩;obtain⟨b1,b2,b3⟩:=a5 h0;refine⟨b1,λo h1 h2 h3 h4=>?_,b3⟩;by_cases e:o=7 - k
   .subst e; rcases c with c | c
    .exact absurd c h3
    .omega
   .exact b2 o (by omega) h2 h3 h4
  .rw[if_neg c];have hg:=hs.g x (7 - k);have eA:0 < s.g x (7 - k):=by omega
   have F:=hr (7 - k) (min most (s.g x (7 - k))) seen s (by omega) (by omega) dU hs
   generalize rec (7 - k) (min most (s.g x (7 - k))) seen s=r at*;by_cases c2:0 < r.1
   .rw[if_pos c2];have kx:=F.keep x pS;have bE:=F.le;have hx8:x < 8:=by have:=hx.1; omega
    have hgx:r.2.2.g x (7 - k)=s.g x (7 - k):=by rw[kx.2]
    have aS:¬t=7 - k:=by omega
    refine⟨F.mono,λy hy nK=>?_,by simp only; omega,by simp only; omega,λh0=>by simp only at h0; omega,⟨λy=>?_,λy o=>?_,λy o h=>?_⟩,λ_ y=>?_,λ_ o=>?_⟩
    .obtain⟨q1,q2⟩:=F.keep y hy;refine⟨q1,?_⟩;rw[<-q2];funext o;show(r.2.2.turn x (7 - k) t r.1).g y o=_;unfold Fl.turn;rw[QdC,QdC,if_neg (λq=>nK q.1),if_neg (λq=>nK q.1)]
    .exact F.ok.has y
    .show 0<=(r.2.2.turn x (7 - k) t r.1).g y o;unfold Fl.turn;have:=F.ok.g y o;rw[QdC,QdC];by_cases e1:y=x/\o=t
     .rw[if_pos e1,if_neg (λq=>aS (by omega))]; omega
     .rw[if_neg e1];by_cases e2:y=x/\o=7 - k
      .obtain⟨rfl,rfl⟩:=e2;rw[if_pos ⟨rfl,rfl⟩]; omega
      .rw[if_neg e2]; exact this
    .have h:0 < (r.2.2.turn x (7 - k) t r.1).g y o:=h;unfold Fl.turn at h;rw[QdC,QdC]at h;by_cases e1:y=x/\o=t
     .obtain⟨rfl,rfl⟩:=e1;exact⟨hx,ht⟩
     .rw[if_neg e1]at h;by_cases e2:y=x/\o=7 - k
      .rw[if_pos e2]at h;exact F.ok.sup y o (by omega)
      .rw[if_neg e2]at h;exact F.ok.sup y o h
    .show(r.2.2.turn x (7 - k) t r.1).has y+QK 8 ((r.2.2.turn x (7 - k) t r.1).g y)=_;unfold Fl.turn;rw[QmJ _ _ ht,QmJ _ _ (by omega),Qsl,Qsl]
     have:=F.row c2 y;by_cases e:y=x
     .rw[if_pos e,if_pos e]; omega
     .rw[if_neg e,if_neg e]; omega
    .show QK 8 (λy=>(r.2.2.turn x (7 - k) t r.1).g y o)=_;unfold Fl.turn;rw[QmD _ _ hx8,QmD _ _ hx8];have:=F.col c2 o;simp only;by_cases e1:o=t
     .rw[if_neg (by omega)]at this
      rw[if_pos e1,if_neg (by omega),this]; omega
     .rw[if_neg e1];by_cases e2:o=7 - k
      .rw[if_pos e2]at this;rw[if_pos e2,this]; omega
      .rw[if_neg e2]at this;rw[if_neg e2,this]; omega
   .rw[if_neg c2];have h0:r.1=0:=by have:=F.pos; omega
    obtain⟨n1,n2,n3⟩:=F.no h0;rw[n1];obtain⟨a1,a2,a3,a4,a5,a6,a7,a8⟩:=Qku hr hm ht hx hs k (by omega) r.2.1 (F.mono x pS) (Int.le_trans (Qgo F.mono) dU)
    refine⟨λy hy=>a1 y (F.mono y hy),λy hy nK=>a2 y (F.mono y hy) nK,a3,a4,λh0=>?_,a6,a7,a8⟩;obtain⟨b1,b2,b3⟩:=a5 h0;refine⟨b1,λo h1 h2 h3 h4 y hy=>?_,λy hy hny=>?_⟩
    .by_cases e:o=7 - k
     .subst e; exact a1 y (n2 y hy)
     .exact b2 o (by omega) h2 h3 h4 y hy
    .by_cases e:r.2.1 y=true
     .exact(n3 y e hny).mono a1 λ_ h=>h
     .exact b3 y hy e
structure FoundX (nv:Nat->Nat->Bool) (t:Nat) (most:Int) (k:Nat) (seen:Nat->Bool) (s:Fl) (r:Qn3):Prop where
 mono:∀y,seen y=true->r.2.1 y=true
 keep:∀y,seen y=true->r.2.2.has y=s.has y/\r.2.2.g y=s.g y
 pos:0<=r.1
 le:r.1<=most
 no:r.1=0->r.2.2=s/\(∀y,t - k<=y->cnB nv y t->r.2.1 y=true)/\∀y,r.2.1 y=true->¬seen y=true->ClosedX nv s seen r.2.1 (λo=>o=t) y
 ok:FlOk nv r.2.2
 row:0 < r.1->∀y,r.2.2.has y+QK 8 (r.2.2.g y)=s.has y+QK 8 (s.g y)
 col:0 < r.1->∀o,QK 8 (λy=>r.2.2.g y o)=QK 8 (λy=>s.g y o)+if o=t then r.1 else 0
theorem QqY {nv:Nat->Nat->Bool} {f:Int} {rec:Nat->Int->(Nat->Bool)->Fl->Qn3} (hr:QpU nv f rec) {t:Nat} {most:Int} (hm:0 < most) (ht:t < 8) {s:Fl} (hs:FlOk nv s):∀k,k<=t->∀seen:Nat->Bool,Qi6 seen<=f+1->FoundX nv t most k seen s (Qoa rec nv t most k seen s)
 | 0,_,seen,dU=>by
  rw[Qoa];exact⟨λ_ h=>h,λ_ _=>⟨rfl,rfl⟩,Int.le_refl _,by simp only; omega,λ_=>⟨rfl,λy h1 h2=>by have:=h2.1; omega,λy h1 h2=>absurd h1 h2⟩,hs,λh=>absurd h (by simp),λh=>absurd h (by simp)⟩
 | k+1,hk,seen,dU=>by
  rw[Qoa];generalize hx:t - (k+1)=x;have uN:x < t:=by omega
  by_cases c:seen x=true\/nv x t=true
  .rw[if_pos c];obtain⟨a1,a2,a3,a4,a5,a6,a7,a8⟩:=QqY hr hm ht hs k (by omega) seen dU
   refine⟨a1,a2,a3,a4,λh0=>?_,a6,a7,a8⟩;obtain⟨b1,b2,b3⟩:=a5 h0;refine⟨b1,λy h1 h2=>?_,b3⟩;by_cases e:y=x
   .subst e;rcases c with c | c
    .exact a1 y c
    .rw[h2.2]at c; cases c
   .exact b2 y (by omega) h2
  .rw[if_neg c];have pS:¬seen x=true:=λh=>c (.inl h);have pT:nv x t=false:=by
    cases q:nv x t with
    | false=>rfl
    | true=>exact absurd (.inr q) c
   have hc:cnB nv x t:=⟨uN,pT⟩;have h0:=hs.has x;have gO:∀y,seen y=true->QZ seen x true y=true:=λy hy=>by
    unfold QZ;split
    .rfl
    .exact hy
   by_cases c2:0 < min most (s.has x)
   .rw[if_pos c2];have key:∀y,¬y=x->(s.take x t (min most (s.has x))).has y=s.has y/\(s.take x t (min most (s.has x))).g y=s.g y:=λy hy=>by
     constructor
     .exact Q2 _ _ hy
     .funext o;unfold Fl.take;rw[QdC,if_neg (λq=>hy q.1)]
    refine⟨gO,λy hy=>key y (λe=>pS (by rw[<-e]; exact hy)),by simp only; omega,by simp only; omega,λh=>by simp only at h; omega,⟨λy=>?_,λy o=>?_,λy o h=>?_⟩,λ_ y=>?_,λ_ o=>?_⟩
    .show 0<=QZ s.has x (s.has x - min most (s.has x)) y;unfold QZ;have:=hs.has y;split<;>omega
    .show 0<=(s.take x t (min most (s.has x))).g y o;unfold Fl.take;have:=hs.g y o;rw[QdC];split<;>simp only<;>omega
    .have h:0 < (s.take x t (min most (s.has x))).g y o:=h;unfold Fl.take at h;rw[QdC]at h;by_cases e1:y=x/\o=t
     .obtain⟨rfl,rfl⟩:=e1;exact⟨hc,ht⟩
     .rw[if_neg e1]at h;exact hs.sup y o h
    .show QZ s.has x (s.has x - min most (s.has x)) y+QK 8 ((s.take x t (min most (s.has x))).g y)=_;unfold Fl.take;rw[QmJ _ _ ht];simp only;by_cases e:y=x
     .subst e; rw[Qac,if_pos rfl]; omega
     .rw[Q2 _ _ e,if_neg e]; omega
    .show QK 8 (λy=>(s.take x t (min most (s.has x))).g y o)=_;unfold Fl.take;rw[QmD _ _ (by omega)]
   .rw[if_neg c2];have hz:s.has x=0:=by omega
    have O:=Qku hr hm ht hc hs 8 (by omega) (QZ seen x true) (Qac _ _ _) (by rw[Qm5 (by omega) pS]; omega)
    generalize QhH rec t x most (s.g x) 8 (QZ seen x true) s=r at*;have hky:∀y,seen y=true->¬y=x:=λy hy e=>pS (by rw[<-e]; exact hy)
    by_cases c3:0 < r.1
    .rw[if_pos c3];exact⟨λy hy=>O.mono y (gO y hy),λy hy=>O.keep y (gO y hy) (hky y hy),O.pos,O.le,λh=>by omega,O.ok,O.row,O.col⟩
    .rw[if_neg c3];have hr0:r.1=0:=by have:=O.pos; omega
     obtain⟨n1,n2,n3⟩:=O.no hr0;rw[n1];obtain⟨a1,a2,a3,a4,a5,a6,a7,a8⟩:=QqY hr hm ht hs k (by omega) r.2.1 (by have:=Qgo (λy hy=>O.mono y (gO y hy)); omega)
     refine⟨λy hy=>a1 y (O.mono y (gO y hy)),λy hy=>a2 y (O.mono y (gO y hy)),a3,a4,λh0=>?_,a6,a7,a8⟩;obtain⟨b1,b2,b3⟩:=a5 h0;have yR:r.2.1 x=true:=O.mono x (Qac _ _ _);refine⟨b1,λy h1 h2=>?_,λy hy hny=>?_⟩
     .by_cases e:y=x
      .subst e; exact a1 y yR
      .exact b2 y (by omega) h2
     .by_cases e:y=x
      .subst e;exact⟨hz,λo ho hg z hz=>a1 z (n2 o (by omega) (hs.sup y o hg).2 ho hg z hz)⟩
      .by_cases e2:r.2.1 y=true
       .exact(n3 y e2 (by rw[Q2 _ _ e]; exact hny)).mono a1 λ_ h=>h.elim
       .exact b3 y hy e2
theorem Qi4 (nv:Nat->Nat->Bool):∀f:Nat,QpU nv f (Q1 nv f)
 | 0=>by
  intro t most seen s ht hm dU hs;rw[Q1];exact⟨λ_ h=>h,λ_ _=>⟨rfl,rfl⟩,Int.le_refl _,by simp only; omega,λ_=>⟨rfl,λx hx=>Qr1 dU (by have:=hx.1; omega),λx h1 h2=>absurd h1 h2⟩,hs,λh=>absurd h (by simp),λh=>absurd h (by simp)⟩
 | f+1=>by
  intro t most seen s ht hm dU hs;rw[Q1];obtain⟨a1,a2,a3,a4,a5,a6,a7,a8⟩:=QqY (Qi4 nv f) hm ht hs t (Nat.le_refl _) seen (by push_cast at dU; omega)
  refine⟨a1,a2,a3,a4,λh0=>?_,a6,a7,a8⟩;obtain⟨b1,b2,b3⟩:=a5 h0;refine⟨b1,λx hx=>b2 x (by omega) hx,λx h1 h2=>?_⟩
  obtain⟨c1,c2⟩:=b3 x h1 h2;refine⟨c1,λo _ hg y hy=>?_⟩;by_cases e:o=t
  .subst e; exact b2 y (by omega) hy
  .exact c2 o e hg y hy
structure Dead (nv:Nat->Nat->Bool) (s:Fl) (A B:Nat->Prop):Prop where
 pre:∀o,B o->∀y,cnB nv y o->A y
 has:∀x,A x->s.has x=0
 g:∀x,A x->∀o,0<=s.g x o
 out:∀x,A x->∀o,0 < s.g x o->B o
structure DeadR (A B:Nat->Prop) (t:Nat) (s:Fl) (r:Qn3):Prop where
 no:B t->r.1<=0
 keep:∀x,A x->r.2.2.has x=s.has x/\r.2.2.g x=s.g x
theorem Dead.of {nv:Nat->Nat->Bool} {s s':Fl} {A B:Nat->Prop} (h:Dead nv s A B) (k:∀x,A x->s'.has x=s.has x/\s'.g x=s.g x):Dead nv s' A B:=
 ⟨h.pre,λx hx=>by rw[(k x hx).1]; exact h.has x hx,λx hx o=>by rw[(k x hx).2]; exact h.g x hx o,λx hx o ho=>h.out x hx o (by rw[(k x hx).2]at ho; exact ho)⟩
def Qq5 (nv:Nat->Nat->Bool) (A B:Nat->Prop) (rec:Nat->Int->(Nat->Bool)->Fl->Qn3):Prop:=∀o most seen s,Dead nv s A B->DeadR A B o s (rec o most seen s)
theorem QjC {nv:Nat->Nat->Bool} {A B:Nat->Prop} {rec:Nat->Int->(Nat->Bool)->Fl->Qn3} (hr:Qq5 nv A B rec) (t x:Nat) (most:Int) (row:Nat->Int) (cV:A x->∀o,¬row o=0->B o):∀(k:Nat) (seen:Nat->Bool) (s:Fl),Dead nv s A B->(A x->(QhH rec t x most row k seen s).1<=0)/\∀y,A y->(QhH rec t x most row k seen s).2.2.has y=s.has y/\(QhH rec t x most row k seen s).2.2.g y=s.g y
 | 0,seen,s,hs=>by
  rw[QhH]; exact⟨λ_=>Int.le_refl _,λ_ _=>⟨rfl,rfl⟩⟩
 | k+1,seen,s,hs=>by
  rw[QhH];by_cases c:7 - k=t\/row (7 - k)=0
  .rw[if_pos c]; exact QjC hr t x most row cV k seen s hs
  .rw[if_neg c];obtain⟨d1,d2⟩:=hr (7 - k) (min most (row (7 - k))) seen s hs;generalize rec (7 - k) (min most (row (7 - k))) seen s=r at*;by_cases c2:0 < r.1
   .rw[if_pos c2];have hx:¬A x:=λha=>by
     have:=d1 (cV ha (7 - k) (λe=>c (.inr e)));omega
    refine⟨λha=>absurd ha hx,λy hy=>?_⟩;obtain⟨q1,q2⟩:=d2 y hy;have nK:¬y=x:=λe=>hx (by rw[<-e]; exact hy)
    refine⟨q1,?_⟩;rw[<-q2];funext o;show(r.2.2.turn x (7 - k) t r.1).g y o=_;unfold Fl.turn;rw[QdC,QdC,if_neg (λq=>nK q.1),if_neg (λq=>nK q.1)]
   .rw[if_neg c2];obtain⟨e1,e2⟩:=QjC hr t x most row cV k r.2.1 r.2.2 (hs.of d2);exact⟨e1,λy hy=>⟨(e2 y hy).1.trans (d2 y hy).1,(e2 y hy).2.trans (d2 y hy).2⟩⟩
theorem QjZ {nv:Nat->Nat->Bool} {A B:Nat->Prop} {rec:Nat->Int->(Nat->Bool)->Fl->Qn3} (hr:Qq5 nv A B rec) (t:Nat) (most:Int):∀(k:Nat),k<=t->∀(seen:Nat->Bool) (s:Fl),Dead nv s A B->DeadR A B t s (Qoa rec nv t most k seen s)
 | 0,_,seen,s,hs=>by
  rw[Qoa]; exact⟨λ_=>Int.le_refl _,λ_ _=>⟨rfl,rfl⟩⟩
 | k+1,hk,seen,s,hs=>by
  rw[Qoa];generalize hx:t - (k+1)=x;have uN:x < t:=by omega
  by_cases c:seen x=true\/nv x t=true
  .rw[if_pos c]; exact QjZ hr t most k (by omega) seen s hs
  .rw[if_neg c];have pT:nv x t=false:=by
    cases q:nv x t with
    | false=>rfl
    | true=>exact absurd (.inr q) c
   have yS:B t->A x:=λhb=>hs.pre t hb x ⟨uN,pT⟩;by_cases c2:0 < min most (s.has x)
   .rw[if_pos c2];have kH:¬A x:=λha=>by have:=hs.has x ha; omega
    refine⟨λhb=>absurd (yS hb) kH,λy hy=>?_⟩;have nK:¬y=x:=λe=>kH (by rw[<-e]; exact hy)
    constructor
    .exact Q2 _ _ nK
    .funext o;show(s.take x t (min most (s.has x))).g y o=_;unfold Fl.take;rw[QdC,if_neg (λq=>nK q.1)]
   .rw[if_neg c2];obtain⟨o1,o2⟩:=QjC hr t x most (s.g x) (λha o ho=>hs.out x ha o (by have:=hs.g x ha o; omega)) 8 (QZ seen x true) s hs
    generalize QhH rec t x most (s.g x) 8 (QZ seen x true) s=r at*;by_cases c3:0 < r.1
    .rw[if_pos c3];exact⟨λhb=>o1 (yS hb),o2⟩
    .rw[if_neg c3];obtain⟨d1,d2⟩:=QjZ hr t most k (by omega) r.2.1 r.2.2 (hs.of o2)
     exact⟨d1,λy hy=>⟨(d2 y hy).1.trans (o2 y hy).1,(d2 y hy).2.trans (o2 y hy).2⟩⟩
theorem Qmb (nv:Nat->Nat->Bool) (A B:Nat->Prop):∀f:Nat,Qq5 nv A B (Q1 nv f)
 | 0=>λt most seen s hs=>by
  rw[Q1]; exact⟨λ_=>Int.le_refl _,λ_ _=>⟨rfl,rfl⟩⟩
 | f+1=>λt most seen s hs=>by
  rw[Q1]; exact QjZ (Qmb nv A B f) t most t (Nat.le_refl _) seen s hs
def Qka (nv:Nat->Nat->Bool) (t:Nat):Nat->Int->Fl->Int×Fl
 | 0,need,s=>(need,s)
 | k+1,need,s=>
  if need<=0 then(0,s)else
  if(Q1 nv 8 t need (λ_=>false) s).1=0 then(need,(Q1 nv 8 t need (λ_=>false) s).2.2)
  else Qka nv t k (need - (Q1 nv 8 t need (λ_=>false) s).1) (Q1 nv 8 t need (λ_=>false) s).2.2
def Qbq (nv:Nat->Nat->Bool) (needs:Nat->Int) (s:Fl):Nat->Int×Fl
 | 0=>(0,s)
 | t+1=>((Qbq nv needs s t).1+(Qka nv t ((needs t).toNat+1) (needs t) (Qbq nv needs s t).2).1,(Qka nv t ((needs t).toNat+1) (needs t) (Qbq nv needs s t).2).2)
def Qd2 (nv:Nat->Nat->Bool) (has needs:Nat->Int):Int:=(Qbq nv needs ⟨has,λ_ _=>0⟩ 8).1
structure Mid (nv:Nat->Nat->Bool) (has needs:Nat->Int) (t:Nat) (u:Int) (s:Fl) (lack:Nat->Int) (A B:Nat->Prop):Prop where
 ok:FlOk nv s
 row:∀x,s.has x+QK 8 (s.g x)=has x
 col:∀o,o < t->QK 8 (λx=>s.g x o)+lack o=needs o
 col0:∀o,t<=o->QK 8 (λx=>s.g x o)=0
 nn:∀o,0<=lack o
 sum:QK 8 lack=u
 l0:∀o,t<=o->lack o=0
 dead:Dead nv s A B
 bad:∀o,0 < lack o->B o
theorem Qmw:Qi6 (λ_=>false)<=(8:Nat):=by decide
structure Fill (nv:Nat->Nat->Bool) (t:Nat) (need:Int) (s:Fl) (A B:Nat->Prop) (r:Int×Fl):Prop where
 ok:FlOk nv r.2
 nn:0<=r.1
 row:∀x,r.2.has x+QK 8 (r.2.g x)=s.has x+QK 8 (s.g x)
 col:∀o,QK 8 (λx=>r.2.g x o)=QK 8 (λx=>s.g x o)+if o=t then need - r.1 else 0
 dead:∃A' B',Dead nv r.2 A' B'/\(∀o,B o->B' o)/\(0 < r.1->B' t)
theorem QxX {nv:Nat->Nat->Bool} {t:Nat} (ht:t < 8) {A B:Nat->Prop} :∀(k:Nat) (need:Int) (s:Fl),0<=need->need < k->FlOk nv s->Dead nv s A B->Fill nv t need s A B (Qka nv t k need s)
 | 0,need,s,h0,h1,hs,hd=>by omega
 | k+1,need,s,h0,h1,hs,hd=>by
  rw[Qka];by_cases c:need<=0
  .rw[if_pos c];have:need=0:=by omega
   exact⟨hs,Int.le_refl _,λ_=>rfl,λo=>by simp only; split<;>omega,A,B,hd,λ_ h=>h,λh=>by simp only at h; omega⟩
  .rw[if_neg c];have F:=Qi4 nv 8 t need (λ_=>false) s ht (by omega) Qmw hs
   have E:=Qmb nv A B 8 t need (λ_=>false) s hd;generalize Q1 nv 8 t need (λ_=>false) s=r at*;by_cases c2:r.1=0
   .rw[if_pos c2];obtain⟨n1,n2,n3⟩:=F.no c2;rw[n1];refine⟨hs,h0,λ_=>rfl,λo=>by simp only; split<;>omega,λx=>A x\/r.2.1 x=true,λo=>B o\/o=t\/∃x,r.2.1 x=true/\0 < s.g x o,⟨?_,?_,?_,?_⟩,λo h=> .inl h,λ_=> .inr (.inl rfl)⟩
    .rintro o (h | rfl | ⟨x,h1,h2⟩) y hy
     .exact .inl (hd.pre o h y hy)
     .exact .inr (n2 y hy)
     .exact .inr ((n3 x h1 (by simp)).2 o (λq=>q) h2 y hy)
    .rintro x (h | h)
     .exact hd.has x h
     .exact(n3 x h (by simp)).1
    .exact λx _ o=>hs.g x o
    .rintro x (h | h) o ho
     .exact .inl (hd.out x h o ho)
     .exact .inr (.inr ⟨x,h,ho⟩)
   .rw[if_neg c2];have hp:0 < r.1:=by have:=F.pos; omega
    have bE:=F.le;obtain⟨a1,a2,a3,a4,A',B',a5,a6,a7⟩:=QxX ht k (need - r.1) r.2.2 (by omega) (by omega) F.ok (hd.of E.keep)
    refine⟨a1,a2,λx=>(a3 x).trans (F.row hp x),λo=>?_,A',B',a5,a6,a7⟩;rw[a4,F.col hp];split<;>omega
theorem QfI {nv:Nat->Nat->Bool} {has needs:Nat->Int} (hh:∀x,0<=has x) (hn:∀t,0<=needs t):∀t,t<=8->∃lack A B,Mid nv has needs t (Qbq nv needs ⟨has,λ_ _=>0⟩ t).1 (Qbq nv needs ⟨has,λ_ _=>0⟩ t).2 lack A B
 | 0,_=>by
  refine⟨λ_=>0,λ_=>False,λ_=>False,⟨hh,λ_ _=>Int.le_refl _,λx t h=>absurd h (by simp[Qbq])⟩,λx=>?_,λo h=>by omega,λo _=>Qaa 8,λ_=>Int.le_refl _,Qaa 8,λ_ _=>rfl,⟨λ_ h=>h.elim,λ_ h=>h.elim,λ_ h=>h.elim,λ_ h=>h.elim⟩,λo h=>absurd h (by simp)⟩
  show has x+QK 8 (λ_=>0)=has x;rw[Qaa]; omega
 | t+1,ht=>by
  obtain⟨lack,A,B,M⟩:=QfI hh hn t (by omega)
  rw[Qbq];generalize Qbq nv needs ⟨has,λ_ _=>0⟩ t=q at*;obtain⟨F1,F2,F3,F4,A',B',F5,F6,F7⟩:=QxX (nv:=nv) (t:=t) (by omega) ((needs t).toNat+1) (needs t) q.2 (hn t) (by have:=hn t; omega) M.ok M.dead
  generalize Qka nv t ((needs t).toNat+1) (needs t) q.2=r at*;have hl0:=M.l0 t (Nat.le_refl _);refine⟨QZ lack t r.1,A',B',F1,λx=>(F3 x).trans (M.row x),λo ho=>?_,λo ho=>?_,λo=>?_,?_,λo ho=>?_,F5,λo ho=>?_⟩
  .simp only;rw[F4];by_cases e:o=t
   .subst e;have:=M.col0 o (Nat.le_refl _);rw[Qac,if_pos rfl]; omega
   .have:=M.col o (by omega)
    rw[Q2 _ _ e,if_neg e]; omega
  .simp only;rw[F4,if_neg (by omega),M.col0 o (by omega)]; rfl
  .unfold QZ;have:=M.nn o;split
   .exact F2
   .exact this
  .simp only;rw[QfV _ _ (by omega),M.sum,hl0]; omega
  .rw[Q2 _ _ (by omega)]; exact M.l0 o (by omega)
  .by_cases e:o=t
   .subst e;rw[Qac]at ho;exact F7 ho
   .rw[Q2 _ _ e]at ho;exact F6 o (M.bad o ho)
def nbB (nv:Nat->Nat->Bool) (S:Nat->Bool) (x:Nat):Bool:=(List.range 8).any λt=>S t&&(decide (x < t)&&!nv x t)
theorem Qa8 {nv:Nat->Nat->Bool} {S:Nat->Bool} {x:Nat} :nbB nv S x=true↔∃t,t < 8/\S t=true/\cnB nv x t:=by
 unfold nbB cnB;rw[List.any_eq_true];constructor
 .rintro⟨t,h1,h2⟩;simp only[Bool.and_eq_true,decide_eq_true_eq,Bool.not_eq_true']at h2;exact⟨t,List.mem_range.1 h1,h2.1,h2.2⟩
 .rintro⟨t,h1,h2,h3⟩;refine⟨t,List.mem_range.2 h1,?_⟩;simp only[Bool.and_eq_true,decide_eq_true_eq,Bool.not_eq_true'];exact⟨h2,h3⟩
def inN (S:Nat->Bool) (f:Nat->Int):Int:=QK 8 λi=>if S i=true then f i else 0
def QhK (nv:Nat->Nat->Bool) (has needs:Nat->Int) (S:Nat->Bool):Int:=inN S needs - inN (nbB nv S) has
theorem Qyx {p:Prop} [Decidable p] (f:Nat->Int) (n:Nat):(if p then QK n f else 0)=QK n (λi=>if p then f i else 0):=by
 by_cases h:p
 .simp[h]
 .simp[h,Qaa]
theorem QfC {nv:Nat->Nat->Bool} {has needs:Nat->Int} (hh:∀x,0<=has x) (hn:∀t,0<=needs t):(∀S,QhK nv has needs S<=Qd2 nv has needs)/\∃S,QhK nv has needs S=Qd2 nv has needs:=by
 obtain⟨lack,A,B,M⟩:=QfI (nv:=nv) hh hn 8 (Nat.le_refl _);have hu:(Qbq nv needs ⟨has,λ_ _=>0⟩ 8).1=Qd2 nv has needs:=rfl;rw[hu]at M;generalize(Qbq nv needs ⟨has,λ_ _=>0⟩ 8).2=s at*;have pU:∀S,QhK nv has needs S<=Qd2 nv has needs:=λS=>by
  have h1:inN S (λo=>QK 8 (λx=>s.g x o))<=inN (nbB nv S) has:=by
   have e1:inN S (λo=>QK 8 (λx=>s.g x o))=QK 8 (λx=>QK 8 (λo=>if S o=true then s.g x o else 0)):=by
    unfold inN;rw[<-Qg4];exact QB λo _=>Qyx _ _
   rw[e1];unfold inN;refine Qa2 λx hx=>?_;by_cases c:nbB nv S x=true
   .rw[if_pos c];have:=M.row x;have h2:QK 8 (λo=>if S o=true then s.g x o else 0)<=QK 8 (s.g x):=Qa2 λo _=>by
     have:=M.ok.g x o;split<;>omega
    have:=M.ok.has x;omega
   .rw[if_neg c];have:QK 8 (λo=>if S o=true then s.g x o else 0)=QK 8 (λ_=>0):=QB λo ho=>by
     by_cases q:S o=true
     .rw[if_pos q];have h3:=M.ok.g x o;by_cases h4:0 < s.g x o
      .exact absurd (Qa8.2 ⟨o,ho,q,(M.ok.sup x o h4).1⟩) c
      .omega
     .rw[if_neg q]
    rw[this,Qaa]; exact Int.le_refl _
  have h2:inN S needs<=inN S (λo=>QK 8 (λx=>s.g x o))+Qd2 nv has needs:=by
   rw[<-M.sum];unfold inN;rw[<-Qax];refine Qa2 λo ho=>?_;have h5:=M.col o ho;have h6:=M.nn o;show(if S o=true then needs o else 0)<=(if S o=true then QK 8 (λx=>s.g x o)else 0)+lack o;split<;>omega
  unfold QhK;omega
 refine⟨pU,?_⟩;obtain⟨S,hS⟩:∃S:Nat->Bool,∀o,S o=true↔B o:=by
  refine⟨λo=> @decide (B o) (Classical.propDecidable _),λo=>?_⟩;simp
 refine⟨S,Int.le_antisymm (pU S) ?_⟩;have h1:inN (nbB nv S) has<=inN S (λo=>QK 8 (λx=>s.g x o)):=by
  have e1:inN S (λo=>QK 8 (λx=>s.g x o))=QK 8 (λx=>QK 8 (λo=>if S o=true then s.g x o else 0)):=by
   unfold inN;rw[<-Qg4];exact QB λo _=>Qyx _ _
  rw[e1];unfold inN;refine Qa2 λx hx=>?_;by_cases c:nbB nv S x=true
  .rw[if_pos c];obtain⟨t,ht,h2,h3⟩:=Qa8.1 c;have hA:=M.dead.pre t ((hS t).1 h2) x h3;have h4:=M.dead.has x hA;have h5:=M.row x;have h6:QK 8 (s.g x)=QK 8 (λo=>if S o=true then s.g x o else 0):=QB λo _=>by
    by_cases q:S o=true
    .rw[if_pos q]
    .rw[if_neg q];have:=M.ok.g x o;by_cases h7:0 < s.g x o
     .exact absurd ((hS o).2 (M.dead.out x hA o h7)) q
     .omega
   omega
  .rw[if_neg c];exact QaH λo _=>by
    have:=M.ok.g x o;split<;>omega
 have h2:inN S (λo=>QK 8 (λx=>s.g x o))+Qd2 nv has needs<=inN S needs:=by
  rw[<-M.sum];unfold inN;rw[<-Qax];refine Qa2 λo ho=>?_;have h3:=M.col o ho;have h4:=M.nn o;show(if S o=true then QK 8 (λx=>s.g x o)else 0)+lack o<=(if S o=true then needs o else 0);by_cases q:S o=true
  .rw[if_pos q,if_pos q]; omega
  .rw[if_neg q,if_neg q];by_cases h5:0 < lack o
   .exact absurd ((hS o).2 (M.bad o h5)) q
   .omega
 unfold QhK;omega
structure Flow (nv:Nat->Nat->Bool) (has needs:Nat->Int) (g:Nat->Nat->Int):Prop where
 nn:∀x t,0<=g x t
 sup:∀x t,0 < g x t->cnB nv x t/\t < 8
 row:∀x,x < 8->QK 8 (g x)<=has x
 col:∀t,t < 8->QK 8 (λx=>g x t)=needs t
def QjX (nv:Nat->Nat->Bool) (has needs:Nat->Int):Prop:=∀S,QhK nv has needs S<=0
theorem Qdv {nv:Nat->Nat->Bool} {has needs:Nat->Int} (hh:∀x,0<=has x) (hn:∀t,0<=needs t):QjX nv has needs↔Qd2 nv has needs=0:=by
 obtain⟨h1,S,h2⟩:=QfC (nv:=nv) hh hn;have h0:QhK nv has needs (λ_=>false)=0:=by
  unfold QhK inN;have e:∀x,nbB nv (λ_=>false) x=false:=λx=>by
   cases q:nbB nv (λ_=>false) x with
   | false=>rfl
   | true=>obtain⟨t,_,h,_⟩:=Qa8.1 q; cases h
  rw[QB (g:=λ_=>0) λi _=>by simp,QB (f:=λi=>if nbB nv (λ_=>false) i=true then has i else 0) (g:=λ_=>0) λi _=>by simp[e],Qaa]; rfl
 have h3:=h1 (λ_=>false);constructor
 .intro h;have:=h S;omega
 .intro h T;have:=h1 T;omega
theorem Qng {nv:Nat->Nat->Bool} {has needs:Nat->Int} (hh:∀x,0<=has x) (hn:∀t,0<=needs t) (h:Qd2 nv has needs=0):∃g,Flow nv has needs g:=by
 obtain⟨lack,A,B,M⟩:=QfI (nv:=nv) hh hn 8 (Nat.le_refl _);have hu:(Qbq nv needs ⟨has,λ_ _=>0⟩ 8).1=Qd2 nv has needs:=rfl;rw[hu,h]at M;generalize(Qbq nv needs ⟨has,λ_ _=>0⟩ 8).2=s at*;refine⟨s.g,M.ok.g,M.ok.sup,λx _=>?_,λt ht=>?_⟩
 .have:=M.row x;have:=M.ok.has x;omega
 .have h1:=M.col t ht;have h2:=Qfr (λj _=>M.nn j) ht;have h3:=M.nn t;rw[M.sum]at h2;omega
theorem QhN {nv:Nat->Nat->Bool} {has needs:Nat->Int} {g:Nat->Nat->Int} (hh:∀x,0<=has x) (h:Flow nv has needs g):QjX nv has needs:=by
 intro S;have h1:inN S needs<=inN (nbB nv S) has:=by
  have e1:inN S needs=QK 8 (λx=>QK 8 (λo=>if S o=true then g x o else 0)):=by
   unfold inN;rw[<-Qg4];exact QB λo ho=>by rw[<-h.col o ho]; exact Qyx _ _
  rw[e1];unfold inN;refine Qa2 λx hx=>?_;by_cases c:nbB nv S x=true
  .rw[if_pos c];have h2:QK 8 (λo=>if S o=true then g x o else 0)<=QK 8 (g x):=Qa2 λo _=>by
    have:=h.nn x o;split<;>omega
   have:=h.row x hx;omega
  .rw[if_neg c];have:QK 8 (λo=>if S o=true then g x o else 0)=QK 8 (λ_=>0):=QB λo ho=>by
    by_cases q:S o=true
    .rw[if_pos q];have h3:=h.nn x o;by_cases h4:0 < g x o
     .exact absurd (Qa8.2 ⟨o,ho,q,(h.sup x o h4).1⟩) c
     .omega
    .rw[if_neg q]
   rw[this,Qaa]; exact Int.le_refl _
 unfold QhK;omega
structure Prb where
 has:Nat->Int
 need:Nat->Int
 fix:Nat->Nat->Bool
 lost:Nat->Bool
structure PrbOk (P:Prb):Prop where
 has:∀x,0<=P.has x
 need:∀t,0<=P.need t
 fixl:∀x t,P.fix x t=true->x < t/\t < 8
 lostn:∀t,0 < P.need t->P.lost t=true
def noN:Nat->Nat->Bool:=λ_ _=>false
def Qew (P:Prb) (g:Nat->Nat->Int) (x t:Nat):Prop:=P.fix x t=true\/0 < g x t
inductive Rch (E:Nat->Nat->Prop) (i:Nat):Nat->Prop
 | self:Rch E i i
 | step {x t:Nat} :Rch E i x->E x t->Rch E i t
abbrev Tru (P:Prb) (g:Nat->Nat->Int):Prop:=Flow noN P.has P.need g
def QwN (P:Prb) (i k:Nat):Prop:=∀g,Tru P g->Rch (Qew P g) i k
def QIo (P:Prb) (i k:Nat):Prop:=∃g,Tru P g/\Rch (Qew P g) i k
theorem Qnj {P:Prb} (hP:PrbOk P) {g:Nat->Nat->Int} (h:Tru P g) {x t:Nat} (e:Qew P g x t):x < t/\t < 8:=by
 rcases e with e | e
 .exact hP.fixl x t e
 .obtain⟨h1,h2⟩:=h.sup x t e;exact⟨h1.1,h2⟩
theorem QmO {P:Prb} {g:Nat->Nat->Int} {nv:Nat->Nat->Bool} (h:Flow nv P.has P.need g) {x t:Nat} (e:0 < g x t):0 < P.need t:=by
 obtain⟨h1,h2⟩:=h.sup x t e;rw[<-h.col t h2];have h3:g x t<=QK 8 (λx=>g x t):=Qfr (f:=λx=>g x t) (i:=x) (n:=8) (λj _=>h.nn j t) (by have:=h1.1; omega)
 omega
def QcA (P:Prb) (i:Nat) (clean:Nat->Bool):Nat->Nat->Bool
 | 0=>λ_=>false
 | t+1=>QZ (QcA P i clean t) t (decide (t=i)||(P.lost t&&!clean t)||(List.range t).any λx=>P.fix x t&&QcA P i clean t x)
theorem Qez (P:Prb) (i:Nat) (clean:Nat->Bool) {x:Nat} :∀{k m:Nat},x < k->k<=m->QcA P i clean m x=QcA P i clean k x
 | k,0,h1,h2=>by omega
 | k,m+1,h1,h2=>by
  by_cases e:k=m+1
  .rw[e]
  .rw[QcA,Q2 _ _ (by omega),Qez P i clean h1 (by omega:k<=m)]
theorem Qkt (P:Prb) (i:Nat) (clean:Nat->Bool) {t m:Nat} (h:t < m):QcA P i clean m t=true↔t=i\/(P.lost t=true/\clean t=false)\/∃x,x < t/\P.fix x t=true/\QcA P i clean m x=true:=by
 rw[Qez P i clean (show t < t+1 by omega) (by omega:t+1<=m),QcA,Qac]
 simp only[Bool.or_eq_true,Bool.and_eq_true,decide_eq_true_eq,Bool.not_eq_true',List.any_eq_true,List.mem_range,or_assoc];constructor
 .rintro(q | q | ⟨x,h1,h2,h3⟩)
  .exact .inl q
  .exact .inr (.inl q)
  .exact .inr (.inr ⟨x,h1,h2,by rw[Qez P i clean h1 (by omega:t<=m)]; exact h3⟩)
 .rintro(q | q | ⟨x,h1,h2,h3⟩)
  .exact .inl q
  .exact .inr (.inl q)
  .exact .inr (.inr ⟨x,h1,h2,by rw[Qez P i clean h1 (by omega:t<=m)]at h3; exact h3⟩)
def QdK (P:Prb) (i:Nat) (clean:Nat->Bool):Nat->Bool:=QcA P i clean 8
def nvD (P:Prb) (i:Nat) (clean:Nat->Bool) (x t:Nat):Bool:=QdK P i clean x&&!QdK P i clean t
theorem QCA {P:Prb} (hP:PrbOk P) {i k:Nat} (hi:i < 8) (hk:k < 8):QwN P i k↔∀clean,QjX (nvD P i clean) P.has P.need->QdK P i clean k=true:=by
 constructor
 .intro h clean hH;obtain⟨g,hg⟩:=Qng hP.has hP.need ((Qdv hP.has hP.need).1 hH);have hT:Tru P g:=⟨hg.nn,λx t e=>⟨⟨(hg.sup x t e).1.1,rfl⟩,(hg.sup x t e).2⟩,hg.row,hg.col⟩;have key:∀t,Rch (Qew P g) i t->t < 8->QdK P i clean t=true:=by
   intro t hr
   induction hr with
   | self=>exact λh8=>(Qkt P i clean h8).2 (.inl rfl)
   | @step x t hx e ih=>
    intro h8;have aQ:=(Qnj hP hT e).1;have hd:=ih (by omega)
    rcases e with e | e
    .exact(Qkt P i clean h8).2 (.inr (.inr ⟨x,aQ,e,hd⟩))
    .have:=(hg.sup x t e).1.2;unfold nvD at this;rw[hd]at this;simpa using this
  exact key k (h g hT) hk
 .intro h g hg;apply Classical.byContradiction;intro hn
  let clean:Nat->Bool:=λt=> @decide (¬Rch (Qew P g) i t) (Classical.propDecidable _)
  have hc:∀t,clean t=false↔Rch (Qew P g) i t:=λt=>by simp[clean]
  have hd:∀t,t < 8->(QdK P i clean t=true↔Rch (Qew P g) i t):=by
   intro t
   induction t using Nat.strongRecOn with
   | _ t ih=>
    intro h8;unfold QdK;rw[Qkt P i clean h8];constructor
    .rintro(rfl | ⟨h1,h2⟩ | ⟨x,h1,h2,h3⟩)
     .exact .self
     .exact(hc t).1 h2
     .exact .step ((ih x h1 (by omega)).1 h3) (.inl h2)
    .intro hr;cases hr with
     | self=>exact .inl rfl
     | @step x _ hx e=>
      have aQ:=(Qnj hP hg e).1;rcases e with e | e
      .exact .inr (.inr ⟨x,aQ,e,(ih x aQ (by omega)).2 hx⟩)
      .exact .inr (.inl ⟨hP.lostn t (QmO hg e),(hc t).2 (.step hx (.inr e))⟩)
  have hF:Flow (nvD P i clean) P.has P.need g:=⟨hg.nn,λx t e=>⟨⟨(hg.sup x t e).1.1,?_⟩,(hg.sup x t e).2⟩,hg.row,hg.col⟩
  .exact hn ((hd k hk).1 (h clean (QhN hP.has hF)))
  .have h8:=(hg.sup x t e).2;have aQ:=(hg.sup x t e).1.1;unfold nvD;by_cases q:QdK P i clean x=true
   .have:QdK P i clean t=true:=(hd t h8).2 (.step ((hd x (by omega)).1 q) (.inr e))
    rw[this]; simp
   .rw[Bool.not_eq_true]at q;rw[q]; rfl
def chH (ch:Nat->Option Nat) (x:Nat):Int:=QK 8 λt=>if ch t=some x then 1 else 0
def chN (ch:Nat->Option Nat) (t:Nat):Int:=if ch t=none then 0 else 1
structure ChOk (P:Prb) (ch:Nat->Option Nat):Prop where
 lt:∀t x,ch t=some x->P.lost t=true/\x < t/\t < 8
 has:∀x,0<=P.has x - chH ch x
 need:∀t,0<=P.need t - chN ch t
 hall:QjX noN (λx=>P.has x - chH ch x) (λt=>P.need t - chN ch t)
def Qln (P:Prb) (ch:Nat->Option Nat) (x t:Nat):Prop:=P.fix x t=true\/ch t=some x
theorem QDG {ch:Nat->Option Nat} (h:∀t x,ch t=some x->x < t/\t < 8) (t:Nat):QK 8 (λx=>if ch t=some x then 1 else 0)=chN ch t:=by
 unfold chN;cases q:ch t with
 | none=>rw[if_pos rfl,QB (g:=λ_=>0) λx _=>by simp,Qaa]
 | some y=>
  have:=h t y q;rw[if_neg (by simp),QB (g:=λx=>if x=y then 1 else 0) λx _=>?_,Qbg,if_pos (by omega)]
  by_cases e:x=y
  .subst e; simp
  .rw[if_neg (λq=>e (Option.some.inj q).symm),if_neg e]
theorem QzB {P:Prb} (hP:PrbOk P) {i k:Nat} (hi:i < 8) (hk:k < 8):QIo P i k↔∃ch,ChOk P ch/\Rch (Qln P ch) i k:=by
 constructor
 .rintro⟨g,hg,hr⟩;have rN:∀t,∃o:Option Nat,(∀x,o=some x->0 < g x t/\Rch (Qew P g) i x)/\((∃x,0 < g x t/\Rch (Qew P g) i x)->o≠none):=λt=>by
   by_cases q:∃x,0 < g x t/\Rch (Qew P g) i x
   .obtain⟨x,h1,h2⟩:=q;exact⟨some x,λy e=>by obtain rfl:=Option.some.inj e; exact⟨h1,h2⟩,λ_=>by simp⟩
   .exact⟨none,λy e=>(by cases e),λh=>absurd h q⟩
  obtain⟨ch,rO⟩:∃ch:Nat->Option Nat,∀t,(∀x,ch t=some x->0 < g x t/\Rch (Qew P g) i x)/\((∃x,0 < g x t/\Rch (Qew P g) i x)->ch t≠none):=⟨λt=>Classical.choose (rN t),λt=>Classical.choose_spec (rN t)⟩;have aQ:∀t x,ch t=some x->x < t/\t < 8:=λt x e=>by
   have:=(hg.sup x t ((rO t).1 x e).1);exact⟨this.1.1,this.2⟩
  have hF:Flow noN (λx=>P.has x - chH ch x) (λt=>P.need t - chN ch t) (λx t=>g x t - if ch t=some x then 1 else 0):=by
   refine⟨λx t=>?_,λx t e=>?_,λx hx=>?_,λt ht=>?_⟩
   .have:=hg.nn x t;by_cases q:ch t=some x
    .have:=((rO t).1 x q).1;rw[if_pos q]; omega
    .rw[if_neg q]; omega
   .have:0 < g x t:=by
     by_cases q:ch t=some x
     .rw[if_pos q]at e; omega
     .rw[if_neg q]at e; omega
    exact hg.sup x t this
   .rw[Qd6];have:=hg.row x hx;unfold chH;omega
   .rw[Qd6,hg.col t ht,QDG aQ]
  have hH:∀x,0<=P.has x - chH ch x:=λx=>by
   by_cases hx:x < 8
   .have h1:=hF.row x hx;have h2:=QaH (n:=8) λt _=>hF.nn x t;exact Int.le_trans h2 h1
   .have:chH ch x=0:=by
     unfold chH;rw[QB (g:=λ_=>0) λt ht=>?_,Qaa];rw[if_neg (λq=>by have:=aQ t x q; omega)]
    have:=hP.has x;omega
  have hN:∀t,0<=P.need t - chN ch t:=λt=>by
   by_cases ht:t < 8
   .have h1:=hF.col t ht;have h2:=QaH (n:=8) λx _=>hF.nn x t;exact h1 ▸ h2
   .have:chN ch t=0:=by
     unfold chN;cases q:ch t with
     | none=>simp
     | some x=>have:=aQ t x q; omega
    have:=hP.need t;omega
  refine⟨ch,⟨λt x e=>⟨hP.lostn t (QmO hg ((rO t).1 x e).1),aQ t x e⟩,hH,hN,QhN hH hF⟩,?_⟩;have key:∀t,Rch (Qew P g) i t->Rch (Qln P ch) i t:=by
   intro t
   induction t using Nat.strongRecOn with
   | _ t ih=>
    intro hr;cases hr with
    | self=>exact .self
    | @step x _ hx e=>
     have l6:=(Qnj hP hg e).1;rcases e with e | e
     .exact .step (ih x l6 hx) (.inl e)
     .cases q:ch t with
      | none=>exact absurd q ((rO t).2 ⟨x,e,hx⟩)
      | some y=>
       obtain⟨h1,h2⟩:=(rO t).1 y q;exact .step (ih y (aQ t y q).1 h2) (.inr q)
  exact key k hr
 .rintro⟨ch,hc,hr⟩;have aQ:∀t x,ch t=some x->x < t/\t < 8:=λt x e=>(hc.lt t x e).2;obtain⟨g,hg⟩:=Qng (nv:=noN) hc.has hc.need ((Qdv hc.has hc.need).1 hc.hall);have hF:Tru P (λx t=>g x t+if ch t=some x then 1 else 0):=by
   refine⟨λx t=>?_,λx t e=>?_,λx hx=>?_,λt ht=>?_⟩
   .have:=hg.nn x t;split<;>omega
   .by_cases q:ch t=some x
    .exact⟨⟨(aQ t x q).1,rfl⟩,(aQ t x q).2⟩
    .rw[if_neg q]at e;exact hg.sup x t (by omega)
   .rw[Qax];have h1:QK 8 (g x)<=P.has x - chH ch x:=hg.row x hx;have:chH ch x=QK 8 λt=>if ch t=some x then 1 else 0:=rfl;have e:QK 8 (λt=>g x t)=QK 8 (g x):=rfl;omega
   .rw[Qax,hg.col t ht,QDG aQ];show P.need t - chN ch t+chN ch t=P.need t;omega
  refine⟨_,hF,?_⟩;have key:∀t,Rch (Qln P ch) i t->Rch (Qew P λx t=>g x t+if ch t=some x then 1 else 0) i t:=by
   intro t hr
   induction hr with
   | self=>exact .self
   | @step x t hx e ih=>
    refine .step ih ?_;rcases e with e | e
    .exact .inl e
    .refine .inr ?_;have:=hg.nn x t;show 0 < g x t+if ch t=some x then 1 else 0;rw[if_pos e]; omega
  exact key k hr
def QnS (P:Prb) (g:Nat->Nat->Int) (i:Nat):Int:=P.has i - QK 8 (g i)
def Qgy (P:Prb) (i:Nat):Int:=QK 8 λt=>if i < t then P.need t else 0
def QqH (P:Prb) (i:Nat):Int:=Qd2 noN (QZ P.has i 0) P.need
theorem QmE {P:Prb} {g:Nat->Nat->Int} (h:Tru P g) {i:Nat} (hi:i < 8):QK 8 (g i)<=P.has i/\QK 8 (g i)<=Qgy P i:=by
 refine⟨h.row i hi,Qa2 λt ht=>?_⟩;by_cases q:i < t
 .rw[if_pos q,<-h.col t ht];exact Qfr (f:=λx=>g x t) (λj _=>h.nn j t) hi
 .rw[if_neg q];have:=h.nn i t;by_cases e:0 < g i t
  .exact absurd (h.sup i t e).1.1 q
  .omega
theorem QyF {P:Prb} (hP:PrbOk P) {g:Nat->Nat->Int} (h:Tru P g) {i:Nat} (hi:i < 8):QqH P i<=QK 8 (g i):=by
 have hh:∀x,0<=QZ P.has i 0 x:=λx=>by
  unfold QZ;have:=hP.has x;split<;>omega
 obtain⟨_,S,hS⟩:=QfC (nv:=noN) hh hP.need;unfold QqH;rw[<-hS];have h2:∀x,0<=QZ P.has i (QK 8 (g i)) x:=λx=>by
  unfold QZ;have:=hP.has x;have:=QaH (n:=8) λt _=>h.nn i t;split<;>omega
 have hF:Flow noN (QZ P.has i (QK 8 (g i))) P.need g:=⟨h.nn,h.sup,λx hx=>by
  by_cases e:x=i
  .subst e; rw[Qac]; exact Int.le_refl _
  .rw[Q2 _ _ e]; exact h.row x hx,h.col⟩
 have h3:=QhN h2 hF S;have h4:inN (nbB noN S) (QZ P.has i (QK 8 (g i)))<=inN (nbB noN S) (QZ P.has i 0)+QK 8 (g i):=by
  have h5:=QaH (n:=8) λt _=>h.nn i t;have e1:QK 8 (g i)=QK 8 (λx=>if x=i then QK 8 (g i)else 0):=by rw[Qbg,if_pos hi]
  unfold inN;rw[e1,<-Qax];refine Qa2 λx _=>?_;rw[<-e1];unfold QZ;by_cases q:nbB noN S x=true
  .rw[if_pos q,if_pos q];by_cases e:x=i
   .rw[if_pos e,if_pos e,if_pos e]; omega
   .rw[if_neg e,if_neg e,if_neg e]; omega
  .rw[if_neg q,if_neg q];split<;>omega
 unfold QhK at h3|-;omega
theorem Qr7 {P:Prb} (hP:PrbOk P) {i:Nat} (hi:i < 8) {m:Int} (hm:0<=m) (hH:QjX noN P.has P.need) (hmi:m<=P.has i):QjX noN (QZ P.has i m) P.need↔QqH P i<=m:=by
 have hh:∀x,0<=QZ P.has i 0 x:=λx=>by
  unfold QZ;have:=hP.has x;split<;>omega
 obtain⟨s1,S,s2⟩:=QfC (nv:=noN) hh hP.need;have key:∀S v,inN (nbB noN S) (QZ P.has i v)=inN (nbB noN S) (QZ P.has i 0)+if nbB noN S i=true then v else 0:=λS v=>by
  have e1:(if nbB noN S i=true then v else 0)=QK 8 (λx=>if x=i then(if nbB noN S i=true then v else 0)else 0):=by rw[Qbg,if_pos hi]
  unfold inN;rw[e1,<-Qax];refine QB λx _=>?_;unfold QZ;by_cases e:x=i
  .subst e;rw[if_pos rfl,if_pos rfl,if_pos rfl];split<;>omega
  .rw[if_neg e,if_neg e,if_neg e]; omega
 constructor
 .intro h;have h1:=h S;unfold QqH;rw[<-s2];unfold QhK at h1|-;rw[key]at h1;split at h1<;>omega
 .intro h T;have h1:=s1 T;have h2:=hH T;have e0:QZ P.has i (P.has i)=P.has:=by
   funext x;unfold QZ;split
   .rename_i e; rw[e]
   .rfl
  rw[<-e0]at h2;unfold QqH at h;unfold QhK at h1 h2|-;rw[key]at h2|-;split at h2
  .rename_i q; rw[if_pos q]; omega
  .rename_i q; rw[if_neg q]; omega
theorem QBK {P:Prb} (hP:PrbOk P) {i:Nat} (hi:i < 8) (hH:QjX noN P.has P.need):∃g,Tru P g/\QK 8 (g i)=QqH P i:=by
 obtain⟨g0,h0⟩:=Qng (nv:=noN) hP.has hP.need ((Qdv hP.has hP.need).1 hH);have hl0:=QyF hP h0 hi;have hr0:=h0.row i hi;have hh:∀x,0<=QZ P.has i 0 x:=λx=>by
  unfold QZ;have:=hP.has x;split<;>omega
 have gD:0<=QqH P i:=by
  have:=(QfC (nv:=noN) hh hP.need).1 (λ_=>false);have e:QhK noN (QZ P.has i 0) P.need (λ_=>false)=0:=by
   unfold QhK inN;have e2:∀x,nbB noN (λ_=>false) x=false:=λx=>by
    cases q:nbB noN (λ_=>false) x with
    | false=>rfl
    | true=>obtain⟨t,_,h,_⟩:=Qa8.1 q; cases h
   rw[QB (g:=λ_=>0) λi _=>by simp,QB (f:=λj=>if nbB noN (λ_=>false) j=true then QZ P.has i 0 j else 0) (g:=λ_=>0) λj _=>by simp[e2],Qaa]; rfl
  unfold QqH;omega
 have hH2:=(Qr7 hP hi gD hH (by omega)).2 (Int.le_refl _)
 have hh2:∀x,0<=QZ P.has i (QqH P i) x:=λx=>by
  unfold QZ;have:=hP.has x;split<;>omega
 obtain⟨g,hg⟩:=Qng hh2 hP.need ((Qdv hh2 hP.need).1 hH2);have hT:Tru P g:=⟨hg.nn,hg.sup,λx hx=>by
  have:=hg.row x hx;by_cases e:x=i
  .subst e; rw[Qac]at this; omega
  .rw[Q2 _ _ e]at this; exact this,hg.col⟩
 refine⟨g,hT,?_⟩;have h1:=hg.row i hi;rw[Qac]at h1;have h2:=QyF hP hT hi;omega
theorem QpK {P:Prb} (hP:PrbOk P) {i:Nat} (hi:i < 8):∀(n:Nat) (g:Nat->Nat->Int),Tru P g->min (P.has i) (Qgy P i) - QK 8 (g i)<=n->∃g,Tru P g/\QK 8 (g i)=min (P.has i) (Qgy P i)
 | 0,g,hg,hn=>by
  have:=QmE hg hi;exact⟨g,hg,by omega⟩
 | n+1,g,hg,hn=>by
  have ht:=QmE hg hi;by_cases e:QK 8 (g i)=min (P.has i) (Qgy P i)
  .exact⟨g,hg,e⟩
  ·
   have aQ:QK 8 (g i) < Qgy P i:=by omega
   have h1:0 < QK 8 (λt=>(if i < t then P.need t else 0) - g i t):=by
    rw[Qd6];have:Qgy P i=QK 8 λt=>if i < t then P.need t else 0:=rfl;omega
   obtain⟨t,h8,h2⟩:=Qmv h1;have hit:i < t:=by
    apply Classical.byContradiction;intro q;rw[if_neg q]at h2;have:=hg.nn i t;omega
   rw[if_pos hit,<-hg.col t h8]at h2;have h3:0 < QK 8 (QZ (λx=>g x t) i 0):=by
    rw[QfV _ _ hi];omega
   obtain⟨y,hy,h4⟩:=Qmv h3;have yU:¬y=i:=λq=>by
    subst q;rw[Qac]at h4; omega
   rw[Q2 _ _ yU]at h4;refine QpK hP hi n (λx o=>g x o+((if x=i then(if o=t then 1 else 0)else 0) - (if x=y then(if o=t then 1 else 0)else 0))) ?_ ?_
   .refine⟨λx o=>?_,λx o e=>?_,λx hx=>?_,λo ho=>?_⟩
    .have:=hg.nn x o;by_cases q:x=y/\o=t
     .obtain⟨rfl,rfl⟩:=q;simp[yU]; omega
     .by_cases q1:x=y
      .have q2:¬o=t:=λz=>q ⟨q1,z⟩;simp[q2]; omega
      .simp only[q1,if_false];split
       .split<;>omega
       .omega
    .by_cases q:x=i/\o=t
     .obtain⟨rfl,rfl⟩:=q;exact⟨⟨hit,rfl⟩,h8⟩
     .refine hg.sup x o ?_;by_cases q1:x=i
      .have q2:¬o=t:=λz=>q ⟨q1,z⟩;simp[q2]at e; exact e
      .simp only[q1,if_false]at e;split at e
       .split at e<;>omega
       .omega
    .rw[Qax,Qd6];have hr:=hg.row x hx;have a1:QK 8 (λo=>if x=i then(if o=t then(1:Int)else 0)else 0)=if x=i then 1 else 0:=by
      by_cases q:x=i
      .simp only[q,if_true]; rw[Qbg,if_pos h8]
      .simp only[q,if_false]; exact Qaa 8
     have a2:QK 8 (λo=>if x=y then(if o=t then(1:Int)else 0)else 0)=if x=y then 1 else 0:=by
      by_cases q:x=y
      .simp only[q,if_true]; rw[Qbg,if_pos h8]
      .simp only[q,if_false]; exact Qaa 8
     rw[a1,a2];by_cases q:x=i
     .subst q;rw[if_pos rfl,if_neg (λz=>yU z.symm)]; omega
     .rw[if_neg q];split<;>omega
    .rw[Qax,Qd6,hg.col o ho];have a1:QK 8 (λx=>if x=i then(if o=t then(1:Int)else 0)else 0)=if o=t then 1 else 0:=by rw[Qbg,if_pos hi]
     have a2:QK 8 (λx=>if x=y then(if o=t then(1:Int)else 0)else 0)=if o=t then 1 else 0:=by rw[Qbg,if_pos hy]
     rw[a1,a2]; omega
   .rw[Qax,Qd6];have a1:QK 8 (λo=>if i=i then(if o=t then(1:Int)else 0)else 0)=1:=by simp only[if_true]; rw[Qbg,if_pos h8]
    have a2:QK 8 (λo=>if i=y then(if o=t then(1:Int)else 0)else 0)=0:=by
     have:¬i=y:=λq=>yU q.symm;simp only[this,if_false]; exact Qaa 8
    rw[a1,a2]
    push_cast at hn
    omega
def nvM (nv:Nat->Nat->Bool) (f t:Nat):Nat->Nat->Bool:=λx o=>nv x o||(decide (x=f)&&decide (o=t))
theorem Qc7 {nv:Nat->Nat->Bool} {f t x o:Nat} :nvM nv f t x o=false↔nv x o=false/\¬(x=f/\o=t):=by
 unfold nvM;simp only[Bool.or_eq_false_iff,Bool.and_eq_false_iff,decide_eq_false_iff_not];constructor
 .rintro⟨h1,h2⟩; exact⟨h1,λq=>by rcases h2 with h | h; exact h q.1; exact h q.2⟩
 .rintro⟨h1,h2⟩;refine⟨h1,?_⟩;by_cases q:x=f
  .exact .inr λq2=>h2 ⟨q,q2⟩
  .exact .inl q
theorem Qv4 {nv:Nat->Nat->Bool} {f t:Nat} {S:Nat->Bool} {x:Nat} (h:nbB (nvM nv f t) S x=true):nbB nv S x=true:=by
 obtain⟨o,h1,h2,h3,h4⟩:=Qa8.1 h;exact Qa8.2 ⟨o,h1,h2,h3,(Qc7.1 h4).1⟩
theorem Qsu {nv:Nat->Nat->Bool} {f t:Nat} {S:Nat->Bool} {x:Nat} (hx:¬x=f) (h:nbB nv S x=true):nbB (nvM nv f t) S x=true:=by
 obtain⟨o,h1,h2,h3,h4⟩:=Qa8.1 h;exact Qa8.2 ⟨o,h1,h2,h3,Qc7.2 ⟨h4,λq=>hx q.1⟩⟩
theorem QDA {nv:Nat->Nat->Bool} {f t:Nat} {S:Nat->Bool} (hS:S t=false):nbB (nvM nv f t) S=nbB nv S:=by
 funext x;rw[Bool.eq_iff_iff];constructor
 .exact Qv4
 .intro h;obtain⟨o,h1,h2,h3,h4⟩:=Qa8.1 h;refine Qa8.2 ⟨o,h1,h2,h3,Qc7.2 ⟨h4,λq=>?_⟩⟩;rw[q.2,hS]at h2; cases h2
theorem QEf {nv:Nat->Nat->Bool} {f t:Nat} {S:Nat->Bool} (h:nbB (nvM nv f t) S f=true):nbB (nvM nv f t) S=nbB nv S:=by
 funext x;rw[Bool.eq_iff_iff];refine⟨Qv4,λq=>?_⟩;by_cases e:x=f
 .rw[e]; exact h
 .exact Qsu e q
theorem QxS {S:Nat->Bool} {f:Nat->Int} {i:Nat} {v:Int} (hi:i < 8):inN S (QZ f i v)=inN S f+if S i=true then v - f i else 0:=by
 have e1:(if S i=true then v - f i else 0)=QK 8 (λx=>if x=i then(if S i=true then v - f i else 0)else 0):=by rw[Qbg,if_pos hi]
 unfold inN;rw[e1,<-Qax];refine QB λx _=>?_;unfold QZ;by_cases e:x=i
 .subst e;rw[if_pos rfl,if_pos rfl];split<;>omega
 .rw[if_neg e,if_neg e]; omega
theorem QmT {A B:Nat->Bool} {f:Nat->Int} (hf:∀x,0<=f x) (h:∀x,A x=true->B x=true):inN A f<=inN B f:=Qa2 λx _=>by
 have:=hf x;by_cases q:A x=true
 .rw[if_pos q,if_pos (h x q)]; exact Int.le_refl _
 .rw[if_neg q]; split<;>omega
theorem Qzs {nv:Nat->Nat->Bool} {has needs:Nat->Int} {f t:Nat} {n:Int} (hf:f < 8) (ht:t < 8) (hH:QjX nv has needs) (kZ:∀S,S t=true->nbB (nvM nv f t) S f=false->inN S needs - inN (nbB (nvM nv f t) S) has<=n) (uO:∀S,S t=false->nbB (nvM nv f t) S f=true->n<=inN (nbB (nvM nv f t) S) has - inN S needs):
  QjX (nvM nv f t) (QZ has f (has f - n)) (QZ needs t (needs t - n)):=by
 intro S;unfold QhK;rw[QxS hf,QxS ht];have h0:=hH S;unfold QhK at h0;cases q1:S t with
 | false=>
  cases q2:nbB (nvM nv f t) S f with
  | false=>
   rw[QDA q1];simp; omega
  | true=>
   have:=uO S q1 q2;simp; omega
 | true=>
  cases q2:nbB (nvM nv f t) S f with
  | false=>
   have:=kZ S q1 q2;simp; omega
  | true=>
   rw[QEf q2];simp; omega
theorem Qq2 {nv:Nat->Nat->Bool} {has needs:Nat->Int} {f t:Nat} (hh:∀x,0<=has x) (hn:∀x,0<=needs x) (hH:QjX nv has needs) {S T:Nat->Bool} (s1:S t=true) (s2:nbB (nvM nv f t) S f=false) (t1:T t=false) (t2:nbB (nvM nv f t) T f=true):
  inN S needs - inN (nbB (nvM nv f t) S) has<=inN (nbB (nvM nv f t) T) has - inN T needs:=by
 have hU:=hH λx=>S x||T x
 have hI:=hH λx=>S x&&T x;unfold QhK at hU hI;have e1:inN (λx=>S x||T x) needs+inN (λx=>S x&&T x) needs=inN S needs+inN T needs:=by
  unfold inN;rw[<-Qax,<-Qax];refine QB λx _=>?_;cases a:S x<;>cases b:T x<;>simp[a,b]
 have e2:inN (nbB nv λx=>S x||T x) has+inN (nbB nv λx=>S x&&T x) has<=inN (nbB (nvM nv f t) S) has+inN (nbB (nvM nv f t) T) has:=by
  unfold inN;rw[<-Qax,<-Qax];refine Qa2 λx _=>?_;have h1:=hh x;have a1:nbB nv (λx=>S x||T x) x=true->nbB (nvM nv f t) S x=true\/nbB (nvM nv f t) T x=true:=λh=>by
   by_cases e:x=f
   .rw[e]; exact .inr t2
   .obtain⟨o,h2,h3,h4⟩:=Qa8.1 h;simp only[Bool.or_eq_true]at h3;rcases h3 with h3 | h3
    .exact .inl (Qsu e (Qa8.2 ⟨o,h2,h3,h4⟩))
    .exact .inr (Qsu e (Qa8.2 ⟨o,h2,h3,h4⟩))
  have a2:nbB nv (λx=>S x&&T x) x=true->nbB (nvM nv f t) S x=true/\nbB (nvM nv f t) T x=true:=λh=>by
   obtain⟨o,h2,h3,h4,h5⟩:=Qa8.1 h;simp only[Bool.and_eq_true]at h3;have hot:¬o=t:=λq=>by rw[q,t1]at h3; cases h3.2
   exact⟨Qa8.2 ⟨o,h2,h3.1,h4,Qc7.2 ⟨h5,λq=>hot q.2⟩⟩,Qa8.2 ⟨o,h2,h3.2,h4,Qc7.2 ⟨h5,λq=>hot q.2⟩⟩⟩
  cases b1:nbB (nvM nv f t) S x<;>cases b2:nbB (nvM nv f t) T x<;>cases b3:nbB nv (λx=>S x||T x) x<;>cases b4:nbB nv (λx=>S x&&T x) x<;>simp[b1,b2,b3,b4]at a1 a2|- <;>omega
 omega
theorem QHx {nv:Nat->Nat->Bool} {has needs:Nat->Int} {f t:Nat} (hf:f < 8) (hh:∀x,0<=has x) (hH:QjX nv has needs) {S:Nat->Bool} (s2:nbB (nvM nv f t) S f=false):inN S needs - inN (nbB (nvM nv f t) S) has<=has f:=by
 have h0:=hH S;unfold QhK at h0;have e:inN (nbB nv S) has<=inN (nbB (nvM nv f t) S) has+has f:=by
  have e1:has f=QK 8 (λx=>if x=f then has f else 0):=by rw[Qbg,if_pos hf]
  unfold inN;rw[e1,<-Qax];refine Qa2 λx _=>?_;have h1:=hh x;by_cases q:nbB nv S x=true
  .rw[if_pos q];by_cases e:x=f
   .have h2:=hh f;rw[if_pos e,e]; split<;>omega
   .rw[if_neg e,if_pos (Qsu e q)]; omega
  .rw[if_neg q];have:=hh f;split<;>split<;>omega
 omega
theorem QAi {nv:Nat->Nat->Bool} {has needs:Nat->Int} {f t:Nat} (ht:t < 8) (hh:∀x,0<=has x) (hH:QjX nv has needs) {S:Nat->Bool} (s1:S t=true):inN S needs - inN (nbB (nvM nv f t) S) has<=needs t:=by
 have h0:=hH (QZ S t false);unfold QhK at h0;have e1:inN (QZ S t false) needs=inN S needs - needs t:=by
  have e2:needs t=QK 8 (λx=>if x=t then needs t else 0):=by rw[Qbg,if_pos ht]
  unfold inN;rw[e2,<-Qd6];refine QB λx _=>?_;unfold QZ;by_cases q:x=t
  .subst q;rw[if_pos rfl,if_pos rfl,s1]; simp
  .rw[if_neg q,if_neg q]; omega
 have e2:inN (nbB nv (QZ S t false)) has<=inN (nbB (nvM nv f t) S) has:=QmT hh λx h=>by
  obtain⟨o,h1,h2,h3,h4⟩:=Qa8.1 h;have ho:¬o=t:=λq=>by rw[q,Qac]at h2; cases h2
  rw[Q2 _ _ ho]at h2;exact Qa8.2 ⟨o,h1,h2,h3,Qc7.2 ⟨h4,λq=>ho q.2⟩⟩
 omega
theorem Qz1 {nv:Nat->Nat->Bool} {has needs:Nat->Int} {f t:Nat} (hH:QjX nv has needs) {T:Nat->Bool} (t1:T t=false):0<=inN (nbB (nvM nv f t) T) has - inN T needs:=by
 have h0:=hH T;unfold QhK at h0;rw[QDA t1]; omega
theorem QwP {nv:Nat->Nat->Bool} {has needs:Nat->Int} {t:Nat} (ht:t < 8) (hH:QjX nv has needs) (h:∀x,x < t->nv x t=true):needs t<=0:=by
 have h0:=hH (λx=>decide (x=t));unfold QhK at h0;have e1:inN (λx=>decide (x=t)) needs=needs t:=by
  unfold inN;rw[QB (g:=λx=>if x=t then needs t else 0) λx _=>?_,Qbg,if_pos ht];by_cases q:x=t
  .subst q; simp
  .simp[q]
 have e2:inN (nbB nv λx=>decide (x=t)) has=0:=by
  unfold inN;rw[QB (g:=λ_=>0) λx _=>?_,Qaa];rw[if_neg];intro q;obtain⟨o,h1,h2,h3,h4⟩:=Qa8.1 q;simp only[decide_eq_true_eq]at h2;subst h2;rw[h x h3]at h4; cases h4
 omega
end Go.Proofs.YticoemblgkemiaaGreatDoor
