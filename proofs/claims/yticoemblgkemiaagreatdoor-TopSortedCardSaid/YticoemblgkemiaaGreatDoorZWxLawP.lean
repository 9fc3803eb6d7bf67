/-
  What the program of the wax chapter comes to is what the reference comes to: parts, Mixed, Detect, Sets, Within, Sold. Plain. Conditions: none.
-/
import Derived.Test.YticoemblgkemiaaGreatDoorZWxPrI
set_option linter.unusedSimpArgs false
set_option linter.unusedVariables false
namespace Go.Proofs.YticoemblgkemiaaGreatDoor
open Go.RowKit
def inS (s:Spn) (n:Int):Prop:=s.lo≤n∧n≤s.hi
theorem QUP (s:Spn) (b:Int×Int) (n:Int):inS (QQr s b) n↔inS s n∧n*b.1+b.2≤0:=by
 unfold QQr inS;split
 ·rename_i h;have:=Int.le_ediv_iff_mul_le (a:=n) (b:= -b.2) h;simp only;omega
 ·split
  ·rename_i h1 h;have hp:0 < -b.1:=by omega
   have:=Int.le_ediv_iff_mul_le (a:= -n) (b:= -b.2) hp;rw[Int.neg_mul_neg]at this;simp only;omega
  ·rename_i h1 h2;have h0:b.1=0:=by omega
   rw[h0,Int.mul_zero];split
   ·simp only; omega
   ·omega
theorem QZ3 (x:Tbl) (a b p:Nat) (s:Spn) (v n:Int):inS (QRC ⟨s,QQe x a p,QQe x b p,v,QQ5 x p⟩) n↔inS s n∧¬(1000*(v+QQ5 x p) < (QUc x p a b n).lo)∧¬((QUc x p a b n).hi < 1000*(v - QQ5 x p)):=by
 unfold QRC;rw[QUP,QUP];unfold Bds.least Bds.most QUc;simp only;generalize(QQe x a p).lo=al;generalize(QQe x a p).hi=ah;generalize(QQe x b p).lo=bl;generalize(QQe x b p).hi=bh;generalize QQ5 x p=e;have e1:n*(al - bl)=n*al - n*bl:=Int.mul_sub _ _ _;have e2:n*(bh - ah)=n*bh - n*ah:=Int.mul_sub _ _ _;have e3:(1000 - n)*bl=1000*bl - n*bl:=Int.sub_mul _ _ _;have e4:(1000 - n)*bh=1000*bh - n*bh:=Int.sub_mul _ _ _;rw[e1,e2,e3,e4];constructor
 ·rintro⟨⟨h1,h2⟩,h3⟩; exact⟨h1,by omega,by omega⟩
 ·rintro⟨h1,h2,h3⟩; exact⟨⟨h1,by omega⟩,by omega⟩
theorem QU6 {x:Tbl} {a b p:Nat} {n v:Int} :QRs x a b n p v=true↔v= -1∨(¬(1000*(v+QQ5 x p) < (QUc x p a b n).lo)∧¬((QUc x p a b n).hi < 1000*(v - QQ5 x p))):=by
 unfold QRs;simp
theorem QXm (x:Tbl) (l:List Int) (a b:Nat) (s:Spn) (n:Int):∀k,inS (QUy x l a b s k) n↔inS s n∧∀p,p < k→QRs x a b n p (l.getD p 0)=true
 | 0=>⟨fun h=>⟨h,fun p hp=>by omega⟩,fun h=>h.1⟩
 | k+1=>by
  have ih:=QXm x l a b s n k;rw[QUy];have step:(∀p,p < k+1→QRs x a b n p (l.getD p 0)=true)↔(∀p,p < k→QRs x a b n p (l.getD p 0)=true)∧QRs x a b n k (l.getD k 0)=true:=
   ⟨fun h=>⟨fun p hp=>h p (by omega),h k (by omega)⟩,fun h p hp=>by
    by_cases e:p=k
    ·subst e; exact h.2
    ·exact h.1 p (by omega)⟩
  rw[step];split
  ·rename_i h;rw[ih,h];have:QRs x a b n k (-1)=true:=QU6.2 (.inl rfl);simp[this]
  ·rename_i h;rw[QZ3,ih,QU6];constructor
   ·rintro⟨⟨h1,h2⟩,h3⟩; exact⟨h1,h2,.inr h3⟩
   ·rintro⟨h1,h2,h3⟩; exact⟨⟨h1,h2⟩,h3.resolve_left h⟩
theorem QUa {x:Tbl} {l:List Int} {a b:Nat} {lo hi n:Int} :inS (QRU x l a b lo hi) n↔(lo≤n∧n≤hi)∧QQ9 x l a b n=true:=by
 unfold QRU;rw[QXm,QUD]; exact Iff.rfl
theorem QX5 (x:Tbl) (l:List Int) (a b:Nat) (lo hi:Int):((QRc x l a b lo hi).2=true∧QRc x l a b lo hi=(QRU x l a b lo hi,true)∧(QRU x l a b lo hi).lo≤(QRU x l a b lo hi).hi)∨((QRc x l a b lo hi).2=false∧(QRU x l a b lo hi).hi < (QRU x l a b lo hi).lo):=by
 have key:∀n,inS (QRU x l a b lo hi) n↔_:=fun n=>QUa;generalize QRU x l a b lo hi=s at*;obtain⟨sl,sh⟩:=s;unfold inS at key;simp only at key⊢;rcases QVU x l a b lo hi with⟨h1,h2⟩ | ⟨u,v,q1,q2,q3,q4,q5,q6,q7,q8⟩
 ·refine .inr ⟨h1,?_⟩;by_cases h:sl≤sh
  ·obtain⟨⟨k1,k2⟩,k3⟩:=(key sl).1 ⟨Int.le_refl _,h⟩;rw[h2 sl k1 k2]at k3; cases k3
  ·omega
 ·have hu:=(key u).2 ⟨⟨q1,by omega⟩,q5⟩
  have hv:=(key v).2 ⟨⟨by omega,q3⟩,q6⟩
  obtain⟨⟨k1,k2⟩,k3⟩:=(key sl).1 ⟨Int.le_refl _,by omega⟩
  obtain⟨⟨k4,k5⟩,k6⟩:=(key sh).1 ⟨by omega,Int.le_refl _⟩
  have e1:sl=u:=by
   by_cases h:sl < u
   ·rw[q7 sl k1 h]at k3; cases k3
   ·omega
  have e2:sh=v:=by
   by_cases h:v < sh
   ·rw[q8 sh h k5]at k6; cases k6
   ·omega
  subst e1; subst e2;exact .inl ⟨by rw[q4],q4,q2⟩
theorem QZy {x:Tbl} {l:List Int} {a b:Nat} :(∃m,m∈QRi x l a b)↔(QRU x l a b (QQ2 a b) (QQ3 a b)).lo≤(QRU x l a b (QQ2 a b) (QQ3 a b)).hi:=by
 unfold QRi;split
 ·rename_i h; exact⟨fun _=>h,fun _=>⟨_,List.mem_singleton.2 rfl⟩⟩
 ·rename_i h; exact⟨fun⟨m,hm⟩=>(by cases hm),fun h'=>absurd h' h⟩
def okP (x:Tbl) (l:List Int) (a b:Nat):Prop:=(QRU x l a b (QQ2 a b) (QQ3 a b)).lo≤(QRU x l a b (QQ2 a b) (QQ3 a b)).hi
theorem QTJ {x:Tbl} {l:List Int} {a b:Nat} :okP x l a b↔∃n,(QQ2 a b≤n∧n≤QQ3 a b)∧QQ9 x l a b n=true:=by
 unfold okP;constructor
 ·intro h;exact⟨_,QUa.1 ⟨Int.le_refl _,h⟩⟩
 ·rintro⟨n,h⟩;have:=QUa.2 h;exact Int.le_trans this.1 this.2
theorem QYo {x:Tbl} {l:List Int} {a b:Nat} (h:b < a):(QRc x l a b 1 999).2=true↔okP x l a b:=by
 have e1:QQ2 a b=1:=if_neg (by omega)
 have e2:QQ3 a b=999:=if_neg (by omega)
 unfold okP;rw[e1,e2];rcases QX5 x l a b 1 999 with⟨h1,_,h3⟩ | ⟨h1,h2⟩
 ·rw[h1]; simpa using h3
 ·rw[h1]; simp; omega
theorem QZ0 {x:Tbl} {l:List Int} {a:Nat} :QQ9 x l a a 1000=true↔okP x l a a:=by
 rw[QTJ,show QQ2 a a=1000 from if_pos rfl,show QQ3 a a=1000 from if_pos rfl];constructor
 ·intro h; exact⟨1000,⟨by omega,by omega⟩,h⟩
 ·rintro⟨n,⟨h1,h2⟩,h⟩;obtain rfl:n=1000:=by omega
  exact h
def QQP (a b:Nat):Int:=((2 ^ a||| 2 ^ b:Nat):Int)
theorem QWV:∀a:Nat,a < 8→∀b:Nat,b < a→(2 ^ a+2 ^ b:Nat)=(2 ^ a||| 2 ^ b):=by decide
theorem QTN {a b:Nat} (ha:a < 8) (h:b < a):QRJ a+QRJ b=QQP a b:=by
 unfold QQP;rw[QSB,QSB,←QWV a ha b h]; omega
theorem QUL (a:Nat):QRJ a=QQP a a:=by
 unfold QQP; rw[QSB,Nat.or_self]
theorem QR3 {a b c d:Nat} (h1:b≤a) (h2:d≤c) (h:QQP a b=QQP c d):a=c∧b=d:=by
 have h:(2 ^ a||| 2 ^ b)=(2 ^ c||| 2 ^ d):=by unfold QQP at h; omega
 have t:∀k,(decide (a=k)||decide (b=k))=(decide (c=k)||decide (d=k)):=fun k=>by
  have:=congrArg (fun n=>Nat.testBit n k) h;simpa only[Nat.testBit_or,Nat.testBit_two_pow]using this
 have ta:=t a;have tb:=t b;have tc:=t c;have td:=t d;simp at ta tb tc td;omega
theorem QTl {x:Tbl} {l:List Int} {s:Int} {a:Nat} (ha:a < 8):∀k,k≤a→(QT7 x l s a k=[]∧∀b,b < k→¬(okP x l a b∧s=QQP a b))∨(QT7 x l s a k=[s]∧∃b,b < k∧okP x l a b∧s=QQP a b)
 | 0,_=> .inl ⟨rfl,fun b hb=>by omega⟩
 | k+1,hk=>by
  have hlt:k < a:=by omega
  rw[QT7];have hc:((QRc x l a k 1 999).2=true∧s=QRJ a+QRJ k)↔(okP x l a k∧s=QQP a k):=by rw[QYo hlt,QTN ha hlt]
  rcases QTl (x:=x) (l:=l) (s:=s) ha k (by omega)with⟨h1,h2⟩ | ⟨h1,b,hb,h2,h3⟩
  ·by_cases h:okP x l a k∧s=QQP a k
   ·exact .inr ⟨by rw[h1,if_pos (hc.2 h)]; rfl,k,by omega,h⟩
   ·refine .inl ⟨by rw[h1,if_neg (mt hc.1 h)]; rfl,fun b hb=>?_⟩
    by_cases e:b=k
    ·subst e; exact h
    ·exact h2 b (by omega)
  ·refine .inr ⟨?_,b,by omega,h2,h3⟩
   rw[h1,if_neg (mt hc.1 ?_)]
   ·rfl
   ·rintro⟨_,h⟩;have:=QR3 (by omega) (by omega) (h3.symm.trans h)
    omega
theorem QTo {x:Tbl} {l:List Int} {s:Int} :∀k,k≤8→(QUQ x l s k=[]∧∀a b,a < k→b≤a→¬(okP x l a b∧s=QQP a b))∨(QUQ x l s k=[s]∧∃a b,a < k∧b≤a∧okP x l a b∧s=QQP a b)
 | 0,_=> .inl ⟨rfl,fun a b ha=>by omega⟩
 | k+1,hk=>by
  rw[QUQ];have hc:(s=QRJ k∧QQ9 x l k k 1000=true)↔(s=QQP k k∧okP x l k k):=by rw[QZ0,QUL]
  have hp:=QTl (x:=x) (l:=l) (s:=s) (a:=k) (by omega) k (Nat.le_refl _)
  rcases QTo (x:=x) (l:=l) (s:=s) k (by omega)with⟨h1,h2⟩ | ⟨h1,a,b,ha,hb,h2,h3⟩
  ·rcases hp with⟨p1Wx,QR9⟩ | ⟨p1Wx,b,hb,QR9,QUb⟩
   ·by_cases h:s=QQP k k∧okP x l k k
    ·exact .inr ⟨by rw[h1,p1Wx,if_pos (hc.2 h)]; rfl,k,k,by omega,by omega,h.2,h.1⟩
    ·refine .inl ⟨by rw[h1,p1Wx,if_neg (mt hc.1 h)]; rfl,fun a b ha hb=>?_⟩
     by_cases e:a=k
     ·subst e;by_cases e2:b=a
      ·subst e2; exact fun q=>h ⟨q.2,q.1⟩
      ·exact QR9 b (by omega)
     ·exact h2 a b (by omega) hb
   ·refine .inr ⟨?_,k,b,by omega,by omega,QR9,QUb⟩
    rw[h1,p1Wx,if_neg (mt hc.1 ?_)]
    ·rfl
    ·rintro⟨h,_⟩;have:=QR3 (by omega) (by omega) (QUb.symm.trans h)
     omega
  ·have e1:QT7 x l s k k=[]:=by
    rcases hp with⟨p1Wx,_⟩ | ⟨_,b',hb',_,QUb⟩
    ·exact p1Wx
    ·have:=QR3 hb (by omega) (h3.symm.trans QUb); omega
   refine .inr ⟨?_,a,b,by omega,hb,h2,h3⟩
   rw[h1,e1,if_neg (mt hc.1 ?_)]
   ·rfl
   ·rintro⟨h,_⟩;have:=QR3 hb (by omega) (h3.symm.trans h)
    omega
theorem QVh {x:Tbl} {l:List Int} (h8:x.kinds.length≤8):∀k,(QSk x l k).Pairwise (· < ·)∧∀s,s∈QSk x l k↔(1≤s∧s≤k)∧∃a b,a < x.kinds.length∧b≤a∧okP x l a b∧s=QQP a b
 | 0=>⟨List.Pairwise.nil,fun s=>by simp; omega⟩
 | k+1=>by
  obtain⟨h1,h2⟩:=QVh h8 k;rw[QSk];rcases QTo (x:=x) (l:=l) (s:=(k:Int)+1) x.kinds.length h8 with⟨p1Wx,QR9⟩ | ⟨p1Wx,QR9⟩
  ·rw[p1Wx,List.append_nil];refine⟨h1,fun s=>?_⟩;rw[h2];constructor
   ·rintro⟨⟨q0,q1⟩,q⟩; exact⟨⟨q0,by omega⟩,q⟩
   ·rintro⟨⟨q0,q1⟩,a,b,ha,hb,q,e⟩;refine⟨⟨q0,?_⟩,a,b,ha,hb,q,e⟩;by_cases e2:s=(k:Int)+1
    ·subst e2; exact absurd ⟨q,e⟩ (QR9 a b ha hb)
    ·omega
  ·rw[p1Wx];refine⟨List.pairwise_append.2 ⟨h1,List.pairwise_singleton _ _,fun a ha b hb=>?_⟩,fun s=>?_⟩
   ·have:=(QVm a ha).2;rw[List.mem_singleton]at hb; omega
   ·rw[List.mem_append,h2,List.mem_singleton];constructor
    ·rintro(⟨⟨q0,q1⟩,q⟩ | rfl)
     ·exact⟨⟨q0,by omega⟩,q⟩
     ·exact⟨⟨by omega,by omega⟩,QR9⟩
    ·rintro⟨⟨q0,q1⟩,q⟩;by_cases e2:s=(k:Int)+1
     ·exact .inr e2
     ·exact .inl ⟨⟨q0,by omega⟩,q⟩
theorem QVi {x:Tbl} {l:List Int} (h8:x.kinds.length≤8) (s:Int):s∈QQA (QRp x l)↔∃a b,a < x.kinds.length∧b≤a∧okP x l a b∧s=QQP a b:=by
 have hmask:∀m∈QRp x l,∃a b:Nat,a < x.kinds.length∧b≤a∧okP x l a b∧QQQ m=QQP a b:=fun m hm=>by
  obtain⟨a,b,ha,hb,h⟩:=QUW.1 hm;refine⟨a,b,ha,hb,QZy.1 ⟨m,h⟩,?_⟩;obtain⟨rfl,_⟩:=QW7 h;rfl
 rw[QTU fun m hm=>by
  obtain⟨a,b,ha,hb,_,e⟩:=hmask m hm;have:=(QXI a (by omega) b (by omega)).2
  rw[e]; unfold QQP; omega]
 rw[List.mem_map];constructor
 ·rintro⟨m,hm,rfl⟩;exact hmask m hm
 ·rintro⟨a,b,ha,hb,h,rfl⟩;obtain⟨m,hm⟩:=QZy.2 h;refine⟨m,QUW.2 ⟨a,b,ha,hb,hm⟩,?_⟩;obtain⟨rfl,_⟩:=QW7 hm;rfl
theorem QX1 {n a b:Nat} (hn:n≤8) (ha:a < n) (hb:b≤a):1≤QQP a b∧QQP a b≤((2 ^ n - 1:Nat):Int):=by
 have h1:2 ^ a < 2 ^ n:=Nat.pow_lt_pow_right (by omega) ha
 have h2:2 ^ b < 2 ^ n:=Nat.pow_lt_pow_right (by omega) (show b < n by omega)
 have h3:=Nat.or_lt_two_pow (n:=n) h1 h2;have h4:2 ^ a≤(2 ^ a||| 2 ^ b):=Nat.left_le_or
 have h5:1≤2 ^ a:=Nat.one_le_two_pow;unfold QQP; omega
theorem QZE {x:Tbl} {l:List Int} (h8:x.kinds.length≤8):QQA (QRp x l)=QT3 x l:=by
 obtain⟨h1,h2⟩:=QVh (x:=x) (l:=l) h8 (2 ^ x.kinds.length - 1);have hp:=QUv (QRp x l);have hperm:(QQA (QRp x l)).Perm (QT3 x l):=(List.perm_ext_iff_of_nodup (hp.imp fun h e=>by omega) (h1.imp fun h e=>by omega)).2 fun s=>by
  rw[QVi h8];rw[h2];constructor
  ·rintro⟨a,b,ha,hb,h,rfl⟩;exact⟨QX1 h8 ha hb,a,b,ha,hb,h,rfl⟩
  ·exact fun h=>h.2
 exact List.Perm.eq_of_pairwise (le:=fun a b:Int=>a < b) (fun a b _ _ h1 h2=>by omega) hp h1 hperm
theorem QZL (x:Tbl) (l:List Int):QVV x l=QUC x l:=by
 unfold QVV QUC;split
 ·rfl
 ·rename_i h;rw[QZE (QQv (QRQ (show okR x l by unfold okR; omega)).1).k8]
end Go.Proofs.YticoemblgkemiaaGreatDoor
namespace Go.Proofs.YticoemblgkemiaaGreatDoor
open Go.RowKit
theorem QXK (x:Tbl) (p a b:Nat) (n:Int):QUc x p b a (1000 - n)=QUc x p a b n:=by
 unfold QUc;rw[show(1000:Int) - (1000 - n)=n by omega]
 rw[Int.add_comm (n*(QQe x a p).lo),Int.add_comm (n*(QQe x a p).hi)]
theorem QWu {x:Tbl} {l:List Int} {a b:Nat} {n:Int} :QQ9 x l b a (1000 - n)=QQ9 x l a b n:=by
 unfold QQ9 QRs;simp only[QXK]
theorem QXB (x:Tbl) (p a b:Nat):QUc x p a b 1000=QUc x p a a 1000:=by
 unfold QUc; simp
theorem QWQ {x:Tbl} {l:List Int} {a b:Nat} :QQ9 x l a b 1000=QQ9 x l a a 1000:=by
 unfold QQ9 QRs;simp only[QXB x _ a b]
end Go.Proofs.YticoemblgkemiaaGreatDoor
