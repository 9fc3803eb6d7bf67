/-
  What the program of the wax chapter comes to is what the reference comes to: parts, Mixed, Detect, Sets, Within, Sold. Plain. Conditions: none.
-/
import Derived.Test.YticoemblgkemiaaGreatDoorZWxPrI
set_option linter.unusedSimpArgs false
set_option linter.unusedVariables false
namespace Go.Proofs.YticoemblgkemiaaGreatDoor
open Go.RowKit
def inS (s:Spn) (n:Int):Prop:=s.lo≤n∧n≤s.hi
theorem QUP (s:Spn) (b:Int×Int) (n:Int):inS (QQr s b) n↔inS s n∧n*b.1+b.2≤0:=by
 unfold QQr inS;split
 ·rename_i h;have:=Int.le_ediv_iff_mul_le (a:=n) (b:= -b.2) h;simp only;omega
 ·split
  ·rename_i h1 h;have hp:0 < -b.1:=by omega
   have:=Int.le_ediv_iff_mul_le (a:= -n) (b:= -b.2) hp;rw[Int.neg_mul_neg]at this;simp only;omega
  ·rename_i h1 h2;have h0:b.1=0:=by omega
   rw[h0,Int.mul_zero];split
   ·simp only; omega
   ·omega
theorem QZ3 (x:Tbl) (a b p:Nat) (s:Spn) (v n:Int):inS (QRC ⟨s,QQe x a p,QQe x b p,v,QQ5 x p⟩) n↔inS s n∧¬(1000*(v+QQ5 x p) < (QUc x p a b n).lo)∧¬((QUc x p a b n).hi < 1000*(v - QQ5 x p)):=by
 unfold QRC;rw[QUP,QUP];unfold Bds.least Bds.most QUc;simp only;generalize(QQe x a p).lo=al;generalize(QQe x a p).hi=ah;generalize(QQe x b p).lo=bl;generalize(QQe x b p).hi=bh;generalize QQ5 x p=e;have e1:n*(al - bl)=n*al - n*bl:=Int.mul_sub _ _ _;have e2:n*(bh - ah)=n*bh - n*ah:=Int.mul_sub _ _ _;have e3:(1000 - n)*bl=1000*bl - n*bl:=Int.sub_mul _ _ _;have e4:(1000 - n)*bh=1000*bh - n*bh:=Int.sub_mul _ _ _;rw[e1,e2,e3,e4];constructor
 ·rintro⟨⟨h1,h2⟩,h3⟩; exact⟨h1,by omega,by omega⟩
 ·rintro⟨h1,h2,h3⟩; exact⟨⟨h1,by omega⟩,by omega⟩
theorem QU6 {x:Tbl} {a b p:Nat} {n v:Int} :QRs x a b n p v=true↔v= -1∨(¬(1000*(v+QQ5 x p) < (QUc x p a b n).lo)∧¬((QUc x p a b n).hi < 1000*(v - QQ5 x p))):=by
 unfold QRs;simp
theorem QXm (x:Tbl) (l:List Int) (a b:Nat) (s:Spn) (n:Int):∀k,inS (QUy x l a b s k) n↔inS s n∧∀p,p < k→QRs x a b n p (l.getD p 0)=true
 | 0=>⟨fun h=>⟨h,fun p hp=>by omega⟩,fun h=>h.1⟩
 | k+1=>by
  have ih:=QXm x l a b s n k;rw[QUy];have step:(∀p,p < k+1→QRs x a b n p (l.getD p 0)=true)↔(∀p,p < k→QRs x a b n p (l.getD p 0)=true)∧QRs x a b n k (l.getD k 0)=true:=
   ⟨fun h=>⟨fun p hp=>h p (by omega),h k (by omega)⟩,fun h p hp=>by
    by_cases e:p=k
    ·subst e; exact h.2
    ·exact h.1 p (by omega)⟩
  rw[step];split
  ·rename_i h;rw[ih,h];have:QRs x a b n k (-1)=true:=QU6.2 (.inl rfl);simp[this]
  ·rename_i h;rw[QZ3,ih,QU6];constructor
   ·rintro⟨⟨h1,h2⟩,h3⟩; exact⟨h1,h2,.inr h3⟩
   ·rintro⟨h1,h2,h3⟩; exact⟨⟨h1,h2⟩,h3.resolve_left h⟩
theorem QUa {x:Tbl} {l:List Int} {a b:Nat} {lo hi n:Int} :inS (QRU x l a b lo hi) n↔(lo≤n∧n≤hi)∧QQ9 x l a b n=true:=by
 unfold QRU;rw[QXm,QUD]; exact Iff.rfl
theorem QX5 (x:Tbl) (l:List Int) (a b:Nat) (lo hi:Int):((QRc x l a b lo hi).2=true∧QRc x l a b lo hi=(QRU x l a b lo hi,true)∧(QRU x l a b lo hi).lo≤(QRU x l a b lo hi).hi)∨((QRc x l a b lo hi).2=false∧(QRU x l a b lo hi).hi < (QRU x l a b lo hi).lo):=by
 have key:∀n,inS (QRU x l a b lo hi) n↔_:=fun n=>QUa;generalize QRU x l a b lo hi=s at*;obtain⟨sl,sh⟩:=s;unfold inS at key;simp only at key⊢;rcases QVU x l a b lo hi with⟨h1,h2⟩ | ⟨u,v,q1,q2,q3,q4,q5,q6,q7,q8⟩
 ·refine .inr ⟨h1,?_⟩;by_cases h:sl≤sh
  ·obtain⟨⟨k1,k2⟩,k3⟩:=(key sl).1 ⟨Int.le_refl _,h⟩;rw[h2 sl k1 k2]at k3; cases k3
  ·omega
 ·have hu:=(key u).2 ⟨⟨q1,by omega⟩,q5⟩
  have hv:=(key v).2 ⟨⟨by omega,q3⟩,q6⟩
  obtain⟨⟨k1,k2⟩,k3⟩:=(key sl).1 ⟨Int.le_refl _,by omega⟩
  obtain⟨⟨k4,k5⟩,k6⟩:=(key sh).1 ⟨by omega,Int.le_refl _⟩
  have e1:sl=u:=by
   by_cases h:sl < u
   ·rw[q7 sl k1 h]at k3; cases k3
   ·omega
  have e2:sh=v:=by
   by_cases h:v < sh
   ·rw[q8 sh h k5]at k6; cases k6
   ·omega
  subst e1; subst e2;exact .inl ⟨by rw[q4],q4,q2⟩
theorem Q82 (x:Tbl) (l:List Int) (a b:Int):Q2d x l a b=Q4N x l a b:=by
 unfold Q2d Q4N;split
 ·rfl
 ·rcases QX5 x l a.toNat b.toNat 0 1000 with⟨h1,h2,h3⟩ | ⟨h1,h2⟩
  ·rw[if_neg (by omega),if_pos h1,h2]
  ·rw[if_pos h2,if_neg (by simp[h1])]
end Go.Proofs.YticoemblgkemiaaGreatDoor
namespace Go.Proofs.YticoemblgkemiaaGreatDoor
open Go.RowKit
end Go.Proofs.YticoemblgkemiaaGreatDoor
