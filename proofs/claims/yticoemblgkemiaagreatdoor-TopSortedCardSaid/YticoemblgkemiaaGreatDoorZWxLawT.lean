/-
  Plain laws of the rows that do not compare: mixtures, sets, parts. No walk here. Conditions: none.
-/
import Derived.Test.YticoemblgkemiaaGreatDoorZWxAwake
set_option linter.unusedSimpArgs false
set_option linter.unusedVariables false
namespace Go.Proofs.YticoemblgkemiaaGreatDoor
open Go.RowKit
theorem QZi (a b k:Nat):QRP (QQP a b) k=(decide (a=k)||decide (b=k)):=by
 have h:QRP (QQP a b) k=Nat.testBit (2 ^ a||| 2 ^ b) k:=by
  unfold QRP QQP;rw[QSB,Nat.testBit_eq_decide_div_mod_eq];have e:((2 ^ a||| 2 ^ b:Nat):Int) / ((2 ^ k:Nat):Int) % 2=(((2 ^ a||| 2 ^ b) / 2 ^ k % 2:Nat):Int):=by
   rw[Int.natCast_emod,Int.natCast_ediv]; rfl
  rw[e];rcases Nat.mod_two_eq_zero_or_one ((2 ^ a||| 2 ^ b) / 2 ^ k)with q | q
  ·rw[q]; rfl
  ·rw[q]; rfl
 rw[h,Nat.testBit_or,Nat.testBit_two_pow,Nat.testBit_two_pow]
theorem QZV {x:Tbl} {l:List Int} (h8:x.kinds.length≤8) (s:Int):s∈QT3 x l↔∃a b,a < x.kinds.length∧b≤a∧okP x l a b∧s=QQP a b:=by
 rw[←QZE h8,QVi h8]
structure MixOk (x:Tbl) (l:List Int) (a b:Nat) (n:Int):Prop where
 ha:a < x.kinds.length
 hb:b < x.kinds.length
 n1:1≤n
 n2:n≤1000
 he:a=b→n=1000
 ex:QQ9 x l a b n=true
def QSU (a b:Nat) (n:Int):Int:=if n < 1000 then QRJ a+QRJ b else QRJ a
theorem Q0D {x:Tbl} {l:List Int} {a b:Nat} {n:Int} (h8:x.kinds.length≤8) (m:MixOk x l a b n):QSU a b n∈QT3 x l∧∀k,QRP (QSU a b n) k=true↔(k=a∨(n < 1000∧k=b)):=by
 obtain⟨ha,hb,n1,n2,he,ex⟩:=m;have key:∃c d,c < x.kinds.length∧d≤c∧okP x l c d∧QSU a b n=QQP c d∧∀k,(c=k∨d=k)↔(k=a∨(n < 1000∧k=b)):=by
  by_cases hn:n < 1000
  ·unfold QSU;rw[if_pos hn];rcases Nat.lt_trichotomy a b with q | q | q
   ·refine⟨b,a,hb,by omega,QTJ.2 ⟨1000 - n,?_,by rw[QWu]; exact ex⟩,by rw[Int.add_comm]; exact QTN (by omega) q,fun k=>by omega⟩
    unfold QQ2 QQ3;rw[if_neg (by omega),if_neg (by omega)]; omega
   ·have:=he q; omega
   ·refine⟨a,b,ha,by omega,QTJ.2 ⟨n,?_,ex⟩,QTN (by omega) q,fun k=>by omega⟩
    unfold QQ2 QQ3;rw[if_neg (by omega),if_neg (by omega)]; omega
  ·unfold QSU;rw[if_neg hn];obtain rfl:n=1000:=by omega
   refine⟨a,a,ha,by omega,QTJ.2 ⟨1000,?_,by rw[←QWQ (b:=b)]; exact ex⟩,QUL a,fun k=>by omega⟩
   unfold QQ2 QQ3;rw[if_pos rfl,if_pos rfl]; omega
 obtain⟨c,d,hc,hd,hok,e,hk⟩:=key;refine⟨(QZV h8 _).2 ⟨c,d,hc,hd,hok,e⟩,fun k=>?_⟩;rw[e,QZi,Bool.or_eq_true,decide_eq_true_eq,decide_eq_true_eq];exact hk k
theorem QRB {q:Nat→Bool} {n:Int} :∀{k:Nat},n∈QQu q k↔∃i:Nat,i < k∧q i=true∧n=i
 | 0=>by simp
 | k+1=>by
  rw[QQu,List.mem_append,QRB (k:=k)];constructor
  ·rintro(⟨i,h1,h2,rfl⟩ | h)
   ·exact⟨i,by omega,h2,rfl⟩
   ·split at h
    ·rename_i hq;rw[List.mem_singleton]at h;exact⟨k,by omega,hq,h⟩
    ·cases h
  ·rintro⟨i,h1,h2,rfl⟩;by_cases e:i=k
   ·subst e; rw[if_pos h2]; exact .inr (by simp)
   ·exact .inl ⟨i,by omega,h2,rfl⟩
theorem QT6 {l:List Int} {n:Int} :inB l n=true↔n∈l:=by
 unfold inB;rw[List.any_eq_true];constructor
 ·rintro⟨a,h1,h2⟩;obtain rfl:a=n:=by simpa using h2
  exact h1
 ·exact fun h=>⟨n,h,by simp⟩
theorem QWa {x:Tbl} {l:List Int} {a b:Nat} {n:Int} (hR:okR x l) (m:MixOk x l a b n):∃must may:List Int,QUC x l=(must,may,0)∧inB may a=true∧(n < 1000→inB may b=true)∧∀i,i∈must→(i=a∨(n < 1000∧i=b))∧inB may i=true:=by
 have h8:=(QQv (QRQ hR).1).k8;obtain⟨h1,h2⟩:=Q0D h8 m;have hR0:QQj x l=0:=hR;have hne:¬(QT3 x l).length=0:=fun q=>by rw[List.length_eq_zero_iff.1 q]at h1; cases h1
 have may:∀k:Nat,k < x.kinds.length→QRP (QSU a b n) k=true→(k:Int)∈QQu (QRj (QT3 x l)) x.kinds.length:=fun k hk h=>QRB.2 ⟨k,hk,List.any_eq_true.2 ⟨_,h1,h⟩,rfl⟩;refine⟨_,_,by unfold QUC; rw[if_neg (by simp[hR0]),if_neg hne],QT6.2 (may a m.ha ((h2 a).2 (.inl rfl))),fun h=>QT6.2 (may b m.hb ((h2 b).2 (.inr ⟨h,rfl⟩))),fun i hi=>?_⟩
 obtain⟨k,hk,hq,rfl⟩:=QRB.1 hi;have hs:QRP (QSU a b n) k=true:=List.all_eq_true.1 hq _ h1;refine⟨?_,QT6.2 (may k hk hs)⟩;rcases(h2 k).1 hs with rfl | ⟨h,rfl⟩
 ·exact .inl rfl
 ·exact .inr ⟨h,rfl⟩
end Go.Proofs.YticoemblgkemiaaGreatDoor
namespace Go.Proofs.YticoemblgkemiaaGreatDoor
open Go.RowKit
structure Mlt where
 a:Int
 b:Int
 parts:Int
 numbers:List Int
 errors:List Int
 read:Int
def Qpy (n:Int):Prop:=0≤n∧n≤255
instance (n:Int):Decidable (Qpy n):=inferInstanceAs (Decidable (_∧_))
def QRx (m:Mlt):Prop:=Qpy m.a∧Qpy m.b∧(0≤m.parts∧m.parts≤65535)∧QQZ m.numbers∧QQZ m.errors∧Qpy m.read
instance (m:Mlt):Decidable (QRx m):=inferInstanceAs (Decidable (_∧_))
def QQ6 (x:Tbl) (m:Mlt):Nat:=m.a.toNat % x.kinds.length
def QQ7 (x:Tbl) (m:Mlt):Nat:=m.b.toNat % x.kinds.length
def QQB (x:Tbl) (m:Mlt):Int:=if QQ6 x m=QQ7 x m then 1000 else 1+m.parts % 1000
def QWk (x:Tbl) (m:Mlt) (p:Nat):Int:=QQB x m*QQo (QQe x (QQ6 x m) p) (QQk m.numbers (2*p))+(1000 - QQB x m)*QQo (QQe x (QQ7 x m) p) (QQk m.numbers (2*p+1))
def QTr (v e:Int):Int:=if v < 1000*e then 0 else(v - 1000*e+999) / 1000
def QRO (v e:Int):Int:=min 100000 ((v+1000*e) / 1000)
def QS8 (v e t:Int):Int:=if e=0 then(if 0 < v % 1000 then -1 else v / 1000)else QQo ⟨QTr v e,QRO v e⟩ t
def QTK (n:Int) (p:Nat):Int:=n / 2 ^ p % 2
def QXx (x:Tbl) (m:Mlt) (p:Nat):Int:=if QTK m.read p=1 then -1 else QS8 (QWk x m p) (QQ5 x p) (QQk m.errors p)
def QRN (x:Tbl) (m:Mlt) (k:Nat):List Int:=(List.range k).map (QXx x m)
theorem QTY (x:Tbl) (m:Mlt) (k:Nat):(QRN x m k).length=k:=by simp[QRN]
@[simp] theorem mltK_zero (x : Tbl) (m : Mlt) : QRN x m 0 = [] := rfl
theorem QUk (x:Tbl) (m:Mlt) (k:Nat):QRN x m (k+1)=QRN x m k++[QXx x m k]:=by simp[QRN,List.range_succ]
theorem QTS {v e:Int} (v0:0≤v) (v1:v≤100000000) (e0:1≤e) (e1:e≤10000):0≤QTr v e∧QTr v e≤QRO v e∧QRO v e≤100000∧v≤1000*(QTr v e+e)∧1000*(QRO v e - e)≤v:=by
 unfold QTr QRO;split<;>omega
theorem Q01 {v e t:Int} (v0:0≤v) (v1:v≤100000000) (e0:0≤e) (e1:e≤10000):QS8 v e t= -1∨((0≤QS8 v e t∧QS8 v e t≤100000)∧v≤1000*(QS8 v e t+e)∧1000*(QS8 v e t - e)≤v):=by
 unfold QS8;by_cases h:e=0
 ·rw[if_pos h];split
  ·exact .inl rfl
  ·right; omega
 ·rw[if_neg h];obtain⟨h1,h2,h3,h4,h5⟩:=QTS v0 v1 (show 1≤e by omega) e1
  have:=QQ8 (s:=⟨QTr v e,QRO v e⟩) (n:=t) h2;simp only at this;right; omega
theorem QVR {x:Tbl} (f:Fine x) (m:Mlt):QQ6 x m < x.kinds.length:=Nat.mod_lt _ f.k1
theorem QWp {x:Tbl} (f:Fine x) (m:Mlt):QQ7 x m < x.kinds.length:=Nat.mod_lt _ f.k1
theorem QVb (x:Tbl) {m:Mlt} (h:QRx m):1≤QQB x m∧QQB x m≤1000:=by
 obtain⟨_,_,h1,_⟩:=h;unfold QQB;split<;>omega
theorem QZJ {x:Tbl} (f:Fine x) {m:Mlt} (h:QRx m) {p:Nat} (hp:p < x.props.length):((QUc x p (QQ6 x m) (QQ7 x m) (QQB x m)).lo≤QWk x m p∧QWk x m p≤(QUc x p (QQ6 x m) (QQ7 x m) (QQB x m)).hi)∧0≤QWk x m p∧QWk x m p≤100000000:=by
 have ha:=QVR f m;have hb:=QWp f m;obtain⟨n1,n2⟩:=QVb x h;obtain⟨_,_,a1,a2,a3⟩:=f.rng ha hp;obtain⟨_,_,b1,b2,b3⟩:=f.rng hb hp;have qa:=QQ8 (n:=QQk m.numbers (2*p)) a2;have qb:=QQ8 (n:=QQk m.numbers (2*p+1)) b2;unfold QWk QUc;simp only;generalize QQo (QQe x (QQ6 x m) p) (QQk m.numbers (2*p))=u at*;generalize QQo (QQe x (QQ7 x m) p) (QQk m.numbers (2*p+1))=w at*;generalize QQB x m=n at*;have QQ1:=Int.mul_le_mul_of_nonneg_left qa.1 (show 0≤n by omega)
 have QWC:=Int.mul_le_mul_of_nonneg_left qa.2 (show 0≤n by omega)
 have QWZ:=Int.mul_le_mul_of_nonneg_left qb.1 (show 0≤1000 - n by omega)
 have QTL:=Int.mul_le_mul_of_nonneg_left qb.2 (show 0≤1000 - n by omega)
 have l5:=Int.mul_nonneg (show 0≤n by omega) (show 0≤u by omega)
 have l6:=Int.mul_nonneg (show 0≤1000 - n by omega) (show 0≤w by omega)
 have l7:=Int.mul_le_mul_of_nonneg_left (show u≤100000 by omega) (show 0≤n by omega)
 have l8:=Int.mul_le_mul_of_nonneg_left (show w≤100000 by omega) (show 0≤1000 - n by omega)
 omega
theorem QWX {x:Tbl} (f:Fine x) {m:Mlt} (h:QRx m) {p:Nat} (hp:p < x.props.length):(QXx x m p= -1∨(0≤QXx x m p∧QXx x m p≤100000))∧QRs x (QQ6 x m) (QQ7 x m) (QQB x m) p (QXx x m p)=true:=by
 obtain⟨⟨h1,h2⟩,h3,h4⟩:=QZJ f h hp;have he:=f.errv hp;rw[QU6];unfold QXx;split
 ·exact⟨.inl rfl,.inl rfl⟩
 ·rcases Q01 (t:=QQk m.errors p) h3 h4 he.1 he.2 with q | ⟨q1,q2,q3⟩
  ·rw[q]; exact⟨.inl rfl,.inl rfl⟩
  ·exact⟨.inr q1,.inr (by omega)⟩
theorem Q1W {x:Tbl} (hT:okT x) {m:Mlt} (h:QRx m):okR x (QRN x m x.props.length)∧MixOk x (QRN x m x.props.length) (QQ6 x m) (QQ7 x m) (QQB x m):=by
 have f:=QQv hT;have hl:=QTY x m x.props.length;have hg:∀p (hp:p < (QRN x m x.props.length).length),(QRN x m x.props.length)[p]=QXx x m p:=fun p hp=>by simp[QRN]
 refine⟨Q0S hT hl fun p hp=>?_,QVR f m,QWp f m,(QVb x h).1,(QVb x h).2,fun e=>?_,QUD.2 fun p hp=>?_⟩
 ·rw[hg]; exact(QWX f h (by omega)).1
 ·unfold QQB; rw[if_pos e]
 ·rw[Ql _ _ _ hp,hg]; exact(QWX f h (by omega)).2
end Go.Proofs.YticoemblgkemiaaGreatDoor
namespace Go.Proofs.YticoemblgkemiaaGreatDoor
open Go.RowKit
theorem QQf (l:List Int):(QJ (rK .u16)).dec (.sl 1 (l.map (rK .u16).enc))=some l:=Qbd (rK .u16) l 1 rfl
def QTF:Row Mlt:=⟨6,fun x=>[.v (.int .u8 x.a),.v (.int .u8 x.b),.v (.int .u16 x.parts),.sl 1 (x.numbers.map (rK .u16).enc),.sl 1 (x.errors.map (rK .u16).enc),.v (.int .u8 x.read)],fun d=>match d with
 | [.v (.int .u8 a),.v (.int .u8 b),.v (.int .u16 c),n,e,.v (.int .u8 r)]=>((QJ (rK .u16)).dec n).bind fun n=>((QJ (rK .u16)).dec e).map fun e=>⟨a,b,c,n,e,r⟩
 | _=>none,fun x=>by simp[QQf],fun d x h=>by
 split at h
 ·simp only[Option.bind_eq_some_iff,Option.map_eq_some_iff]at h;obtain⟨p,hp,w,hw,rfl⟩:=h;exact QaX (DImp.refl _) (QaX (DImp.refl _) (QaX (DImp.refl _) (QaX ((QJ (rK .u16)).ed _ _ hp) (QaX ((QJ (rK .u16)).ed _ _ hw) (LImp.refl _)))))
 ·cases h⟩
theorem QQb (x:Mlt):QTF.enc x=[.v (.int .u8 x.a),.v (.int .u8 x.b),.v (.int .u16 x.parts),.sl 1 (x.numbers.map (rK .u16).enc),.sl 1 (x.errors.map (rK .u16).enc),.v (.int .u8 x.read)]:=rfl
end Go.Proofs.YticoemblgkemiaaGreatDoor
namespace Go.Proofs.YticoemblgkemiaaGreatDoor
open Go.RowKit
theorem QW0 {n:Int} {k:Nat} (h:0≤n):n.tmod k=((n.toNat % k:Nat):Int):=by
 rw[Int.tmod_eq_emod_of_nonneg h,Int.natCast_emod,Int.toNat_of_nonneg h]
end Go.Proofs.YticoemblgkemiaaGreatDoor
