/-
  A truth of a book, as the law draws it: how much one takes of another one, at least and at most, and the book with all cards. Plain; no program here. Conditions: none.
-/
import Derived.Test.YtnfeakhkfehkhaaGreatDoorZPlan
import Derived.Test.YtnfeakhkfehkhaaGreatDoorZBook
import Derived.Test.YtnfeakhkfehkhaaGreatDoorZPrD
import Derived.Test.YtnfeakhkfehkhaaGreatDoorZMyp
set_option linter.unusedSimpArgs false
set_option linter.unusedVariables false
namespace Go.Proofs.YtnfeakhkfehkhaaGreatDoor
def QuK (p:Pro) (s n:Nat):Int:=QY n fun k=>if QeB s k=true then QaM p k else 0
def Qwf (p:Pro) (f t s i k:Nat):Bool:=decide (i < k)&&(QeB s k&&(decide (0 < QaM p k)&&(!nvP p i k&&!(decide (i=f)&&decide (k=t)))))
def Qpq (p:Pro) (f t s i:Nat):Bool:=(List.range p.needs.length).any (Qwf p f t s i)
def Qze (p:Pro) (f t s n:Nat):Int:=QY n fun i=>if Qpq p f t s i=true then Qem p i else 0
def QA8 (p:Pro) (f t s:Nat) (r:Int×Int):Int×Int:=
 (if QeB s t=true∧Qpq p f t s f=false then max r.1 (QuK p s p.needs.length - Qze p f t s p.has.length)else r.1,
  if QeB s t=false∧Qpq p f t s f=true then min r.2 (Qze p f t s p.has.length - QuK p s p.needs.length)else r.2)
def bndK (p:Pro) (f t:Nat):Nat→Int×Int
 | 0=>(0,min (Qem p f) (QaM p t))
 | k+1=>QA8 p f t (k+1) (bndK p f t k)
def QxQ (p:Pro) (f t:Nat):Int×Int:=bndK p f t (2 ^ p.needs.length - 1)
structure PLen (p:Pro) (n:Nat):Prop where
 h:p.has.length=n
 m:p.needs.length=n
 le:n≤8
structure BndOk (p:Pro) (f t:Nat):Prop where
 nn:0≤(QxQ p f t).1
 le:(QxQ p f t).1≤(QxQ p f t).2
 has:(QxQ p f t).2≤Qem p f
 need:(QxQ p f t).2≤QaM p t
 hall:∀n,(QxQ p f t).1≤n→n≤(QxQ p f t).2→Qpf (nvM (nvP p) f t) (Q2 (Qem p) f (Qem p f - n)) (Q2 (QaM p) t (QaM p t - n))
structure FI (P:Prb) (N:Nat) (p:Pro) (g:Nat→Nat→Int) (t f:Nat):Prop where
 len:PLen p N
 nn:∀x o,0≤g x o
 sup:∀x o,0 < g x o→x < o∧o < N∧P.lost o=true∧(o < t∨(o=t∧x < f))
 has:∀x,Qem p x=P.has x - QY 8 (g x)
 need:∀o,QaM p o=P.need o - QY 8 (fun x=>g x o)
 h0:∀x,0≤Qem p x
 n0:∀o,0≤QaM p o
 hall:Qpf (nvP p) (Qem p) (QaM p)
 nv:∀x o,nvP p x o=true↔x < o∧((o < t∧P.lost o=true)∨(o=t∧x < f))
theorem Qus (h n:List Int) (l:List Edg) (f t:Nat) (h' n':List Int):nvP ⟨h',n',l++[⟨(f:Nat),(t:Nat)⟩]⟩=nvM (nvP ⟨h,n,l⟩) f t:=by
 funext x o;unfold nvP nvM;rw[List.any_append,List.any_cons,List.any_nil,Bool.or_false];congr 1;rw[Bool.eq_iff_iff];simp only[Bool.and_eq_true,beq_iff_eq,decide_eq_true_eq];omega
theorem Qp4 {l:List Int} {f:Nat} {z:Int} (h:f < l.length) (x:Nat):(l.set f z).getD x 0=if x=f then z else l.getD x 0:=by
 simp only[List.getD_eq_getElem?_getD,List.getElem?_set];by_cases e:x=f
 ·subst e; simp[h]
 ·rw[if_neg (fun q=>e q.symm),if_neg e]
theorem FI.step {P:Prb} {N:Nat} {p:Pro} {g:Nat→Nat→Int} {t f:Nat} (I:FI P N p g t f) (ht:t < N) (hl:P.lost t=true) (hf:f < t) {n:Int} (hn:(QxQ p f t).1≤n∧n≤(QxQ p f t).2) (B:BndOk p f t):
  FI P N (if 0 < n then⟨p.has.set f (Qem p f - n),p.needs.set t (QaM p t - n),p.never++[⟨(f:Nat),(t:Nat)⟩]⟩else⟨p.has,p.needs,p.never++[⟨(f:Nat),(t:Nat)⟩]⟩) (QhG g f t n) t (f+1):=by
 have hle:=I.len.le;have hn0:0≤n:=by have:=B.nn; omega
 have hg0:g f t=0:=by
  have h1:=I.nn f t;by_cases q:0 < g f t
  ·have:=I.sup f t q; omega
  ·omega
 have key:∀q:Pro,Qem q=Q2 (Qem p) f (Qem p f - n)→QaM q=Q2 (QaM p) t (QaM p t - n)→nvP q=nvM (nvP p) f t→PLen q N→FI P N q (QhG g f t n) t (f+1):=by
  intro q e1 e2 e3 e4;have hrow:∀x,QY 8 (QhG g f t n x)=QY 8 (g x)+if x=f then n else 0:=fun x=>by
   unfold QhG;by_cases q:x=f
   ·subst q;rw[if_pos rfl,if_pos rfl,Qfu _ _ (by omega),hg0]; omega
   ·rw[if_neg q,if_neg q]; omega
  have hcol:∀o,QY 8 (fun x=>QhG g f t n x o)=QY 8 (fun x=>g x o)+if o=t then n else 0:=fun o=>by
   by_cases q:o=t
   ·subst q;have:(fun x=>QhG g f o n x o)=Q2 (fun x=>g x o) f n:=by
     funext x;unfold QhG Q2;by_cases q:x=f
     ·subst q; simp
     ·simp[q]
    rw[this,Qfu _ _ (by omega),hg0,if_pos rfl]; omega
   ·rw[if_neg q];have:(fun x=>QhG g f t n x o)=fun x=>g x o:=by
     funext x;unfold QhG Q2;by_cases q':x=f
     ·subst q'; simp[q]
     ·simp[q']
    rw[this]; omega
  refine⟨e4,fun x o=>?_,fun x o ho=>?_,fun x=>?_,fun o=>?_,fun x=>?_,fun o=>?_,?_,fun x o=>?_⟩
  ·unfold QhG Q2;by_cases q1:x=f
   ·rw[if_pos q1];show 0≤if o=t then n else g x o;split
    ·exact hn0
    ·exact I.nn _ _
   ·rw[if_neg q1]; exact I.nn _ _
  ·unfold QhG Q2 at ho;by_cases q1:x=f
   ·rw[if_pos q1]at ho;by_cases q2:o=t
    ·subst q1; subst q2;exact⟨hf,ht,hl,.inr ⟨rfl,by omega⟩⟩
    ·rw[if_neg q2]at ho;have:=I.sup x o ho;exact⟨this.1,this.2.1,this.2.2.1,by have:=this.2.2.2; omega⟩
   ·rw[if_neg q1]at ho;have:=I.sup x o ho;exact⟨this.1,this.2.1,this.2.2.1,by have:=this.2.2.2; omega⟩
  ·rw[e1,hrow];unfold Q2;by_cases q:x=f
   ·subst q; rw[if_pos rfl,if_pos rfl,I.has]; omega
   ·rw[if_neg q,if_neg q,I.has]; omega
  ·rw[e2,hcol];unfold Q2;by_cases q:o=t
   ·subst q; rw[if_pos rfl,if_pos rfl,I.need]; omega
   ·rw[if_neg q,if_neg q,I.need]; omega
  ·rw[e1];unfold Q2;split
   ·have:=B.has; omega
   ·exact I.h0 x
  ·rw[e2];unfold Q2;split
   ·have:=B.need; omega
   ·exact I.n0 o
  ·rw[e1,e2,e3]; exact B.hall n hn.1 hn.2
  ·rw[e3];unfold nvM;rw[Bool.or_eq_true,I.nv,Bool.and_eq_true,decide_eq_true_eq,decide_eq_true_eq];by_cases q:P.lost o=true
   ·simp only[q,and_true]; omega
   ·have q':(P.lost o=true)=False:=eq_false q;simp only[q',and_false,false_or]; omega
 by_cases q:0 < n
 ·rw[if_pos q];refine key _ ?_ ?_ ?_ ⟨by simp[I.len.h],by simp[I.len.m],hle⟩
  ·funext x;exact Qp4 (by rw[I.len.h]; omega) x
  ·funext x;exact Qp4 (by rw[I.len.m]; omega) x
  ·exact Qus p.has p.needs p.never f t _ _
 ·rw[if_neg q];have e0:n=0:=by omega
  refine key _ ?_ ?_ ?_ ⟨I.len.h,I.len.m,hle⟩
  ·funext x;unfold Q2;split
   ·rename_i e; subst e; rw[e0]; show Qem p x=_; omega
   ·rfl
  ·funext x;unfold Q2;split
   ·rename_i e; subst e; rw[e0]; show QaM p x=_; omega
   ·rfl
  ·exact Qus p.has p.needs p.never f t _ _
theorem FI.next {P:Prb} {N:Nat} {p:Pro} {g:Nat→Nat→Int} {t:Nat} (I:FI P N p g t t) (hl:P.lost t=true):FI P N p g (t+1) 0:=by
 refine⟨I.len,I.nn,fun x o h=>?_,I.has,I.need,I.h0,I.n0,I.hall,fun x o=>?_⟩
 ·have:=I.sup x o h;exact⟨this.1,this.2.1,this.2.2.1,.inl (by have:=this.2.2.2; omega)⟩
 ·rw[I.nv];constructor
  ·rintro⟨h1,⟨h2,h3⟩ | ⟨h2,h3⟩⟩
   ·exact⟨h1,.inl ⟨by omega,h3⟩⟩
   ·exact⟨h1,.inl ⟨by omega,by rw[h2]; exact hl⟩⟩
  ·rintro⟨h1,⟨h2,h3⟩ | ⟨h2,h3⟩⟩
   ·by_cases q:o=t
    ·exact⟨h1,.inr ⟨q,by omega⟩⟩
    ·exact⟨h1,.inl ⟨by omega,h3⟩⟩
   ·omega
theorem FI.skip {P:Prb} {N:Nat} {p:Pro} {g:Nat→Nat→Int} {t:Nat} (I:FI P N p g t 0) (hl:P.lost t=false):FI P N p g (t+1) 0:=by
 refine⟨I.len,I.nn,fun x o h=>?_,I.has,I.need,I.h0,I.n0,I.hall,fun x o=>?_⟩
 ·have:=I.sup x o h;exact⟨this.1,this.2.1,this.2.2.1,.inl (by have:=this.2.2.2; omega)⟩
 ·rw[I.nv];constructor
  ·rintro⟨h1,⟨h2,h3⟩ | ⟨h2,h3⟩⟩
   ·exact⟨h1,.inl ⟨by omega,h3⟩⟩
   ·omega
  ·rintro⟨h1,⟨h2,h3⟩ | ⟨h2,h3⟩⟩
   ·by_cases q:o=t
    ·rw[q,hl]at h3; cases h3
    ·exact⟨h1,.inl ⟨by omega,h3⟩⟩
   ·omega
end Go.Proofs.YtnfeakhkfehkhaaGreatDoor
namespace Go.Proofs.YtnfeakhkfehkhaaGreatDoor
section
variable {b:List Bat} {g:Nat→Nat→Int} {C:Nat→Bool}
end
theorem Quk {b:List Bat} (h:ValidB b) {i:Nat} (hi:i < b.length):(∃g,Tru (Qaa b) g∧Qxl (Qaa b) g i=(Qj7 b i).lo)∧∃g,Tru (Qaa b) g∧Qxl (Qaa b) g i=(Qj7 b i).hi:=by
 have hle:=h.ok.le;have hP:=Qg0 h;have e:(Qaa b).has i=QfE b i:=QmQ hi;obtain⟨g,hg,hgl⟩:=QwF hP (by omega:i < 8) (Qla h)
 obtain⟨g',hg',hgl'⟩:=QmX hP (by omega:i < 8) (min ((Qaa b).has i) (QfK (Qaa b) i) - QY 8 (g i)).toNat g hg (by omega)
 refine⟨⟨g',hg',?_⟩,g,hg,?_⟩
 ·unfold Qj7 Qxl;rw[hgl',e]
 ·unfold Qj7 Qxl;rw[hgl,e]
theorem Qwv {b:List Bat} (h:ValidB b):∃g,Tru (Qaa b) g:=by
 obtain⟨⟨g,hg,_⟩,_⟩:=Quk h (show 0 < b.length from h.ok.pos);exact⟨g,hg⟩
theorem QCF {P:Prb} (hP:PrbOk P) {g:Nat→Nat→Int} (hg:Tru P g) {i k:Nat} (h:Rch (QfZ P g) i k):i≤k:=by
 induction h with
 | self=>exact Nat.le_refl _
 | step _ e ih=>have:=(QlG hP hg e).1; omega
theorem QxY {b:List Bat} (h:ValidB b) {i k:Nat} (hm:Qs9 (Qaa b) i k):QCw (Qaa b) i k:=by
 obtain⟨g,hg⟩:=Qwv h;exact⟨g,hg,hm g hg⟩
theorem Qzn {b:List Bat} (h:ValidB b) {i k:Nat} (hm:QCw (Qaa b) i k):i≤k:=by
 obtain⟨g,hg,hr⟩:=hm;exact QCF (Qg0 h) hg hr
end Go.Proofs.YtnfeakhkfehkhaaGreatDoor
