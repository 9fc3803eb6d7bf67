/-
  Reference functions of the wax chapter: Sold, Detect. Conditions: none.
-/
import Derived.Test.YticoemblgkemiaaGreatDoorZWxRefB
import Derived.Lib.ItoaNum
set_option linter.unusedSimpArgs false
set_option linter.unusedVariables false
namespace Go.Proofs.YticoemblgkemiaaGreatDoor
open Go.RowKit
theorem QSe (q:Int→Bool) (lo:Int):∀k,((QSg q lo k).2=false∧∀j:Nat,j < k→q (lo+j)=false)∨∃i j:Nat,i≤j∧j < k∧QSg q lo k=(⟨lo+i,lo+j⟩,true)∧q (lo+i)=true∧q (lo+j)=true∧(∀n:Nat,n < i→q (lo+n)=false)∧∀n:Nat,j < n→n < k→q (lo+n)=false
 | 0=> .inl ⟨rfl,fun j h=>absurd h (by omega)⟩
 | k+1=>by
  cases hq:q (lo+k)with
  | false=>
   have e:QSg q lo (k+1)=QSg q lo k:=by rw[QSg,hq]; rfl
   rw[e];rcases QSe q lo k with⟨h1,h2⟩ | ⟨i,j,h1,h2,h3,h4,h5,h6,h7⟩
   ·refine .inl ⟨h1,fun j hj=>?_⟩;by_cases hjk:j=k
    ·subst hjk; exact hq
    ·exact h2 j (by omega)
   ·refine .inr ⟨i,j,h1,by omega,h3,h4,h5,h6,fun n hn1 hn2=>?_⟩
    by_cases hnk:n=k
    ·subst hnk; exact hq
    ·exact h7 n hn1 (by omega)
  | true=>
   have e:QSg q lo (k+1)=(⟨if(QSg q lo k).2 then(QSg q lo k).1.lo else lo+k,lo+k⟩,true):=by rw[QSg,hq]; rfl
   rcases QSe q lo k with⟨h1,h2⟩ | ⟨i,j,h1,h2,h3,h4,h5,h6,h7⟩
   ·refine .inr ⟨k,k,Nat.le_refl _,by omega,by rw[e,h1]; rfl,hq,hq,fun n hn=>h2 n hn,fun n h1 h2=>by omega⟩
   ·refine .inr ⟨i,k,by omega,by omega,by rw[e,h3]; rfl,h4,hq,h6,fun n h1 h2=>by omega⟩
theorem QVU (x:Tbl) (l:List Int) (a b:Nat) (lo hi:Int):((QRc x l a b lo hi).2=false∧∀n:Int,lo≤n→n≤hi→QQ9 x l a b n=false)∨∃u v:Int,lo≤u∧u≤v∧v≤hi∧QRc x l a b lo hi=(⟨u,v⟩,true)∧QQ9 x l a b u=true∧QQ9 x l a b v=true∧(∀n:Int,lo≤n→n < u→QQ9 x l a b n=false)∧∀n:Int,v < n→n≤hi→QQ9 x l a b n=false:=by
 unfold QRc;rcases QSe (QQ9 x l a b) lo (hi+1 - lo).toNat with⟨h1,h2⟩ | ⟨i,j,h1,h2,h3,h4,h5,h6,h7⟩
 ·refine .inl ⟨h1,fun n hn1 hn2=>?_⟩;have:=h2 (n - lo).toNat (by omega)
  rwa [show lo+((n - lo).toNat:Int)=n by omega]at this
 ·refine .inr ⟨lo+i,lo+j,by omega,by omega,by omega,h3,h4,h5,fun n hn1 hn2=>?_,fun n hn1 hn2=>?_⟩
  ·have:=h6 (n - lo).toNat (by omega)
   rwa [show lo+((n - lo).toNat:Int)=n by omega]at this
  ·have:=h7 (n - lo).toNat (by omega) (by omega)
   rwa [show lo+((n - lo).toNat:Int)=n by omega]at this
def adjV (kind:Int) (a b:Nat) (s:Spn):Spn:=
 if ¬(a:Int)=kind∧(¬(b:Int)=kind∨a=b)then⟨0,0⟩else if ¬(a:Int)=kind then⟨1000 - s.hi,1000 - s.lo⟩else if(b:Int)=kind then⟨1000,1000⟩else s
def Q2v (o s:Spn):Spn:=⟨if s.lo < o.lo then s.lo else o.lo,if o.hi < s.hi then s.hi else o.hi⟩
def QXS (x:Tbl) (l:List Int) (kind:Int) (a:Nat) (o:Spn):Nat→Spn
 | 0=>o
 | b+1=>if(QRc x l a b 1 1000).2=true then Q2v (QXS x l kind a o b) (adjV kind a b (QRc x l a b 1 1000).1)else QXS x l kind a o b
def QZZ (x:Tbl) (l:List Int) (kind:Int):Nat→Spn
 | 0=>⟨1001,-1⟩
 | a+1=>QXS x l kind a (QZZ x l kind a) x.kinds.length
@[simp] theorem soldB_zero (x : Tbl) (l : List Int) (kind : Int) (a : Nat) (o : Spn) : QXS x l kind a o 0 = o := rfl
@[simp] theorem soldA_zero (x : Tbl) (l : List Int) (kind : Int) : QZZ x l kind 0 = ⟨1001, -1⟩ := rfl
def Q0y (x:Tbl) (o:Spn):Spn×Int×Int:=if o.hi < 0 then(⟨0,0⟩,0,9)else if x.purity≤o.lo then(o,1,0)else if o.hi < x.purity then(o,0,0)else(o,2,0)
def Q1Q (x:Tbl) (e kind:Int):Int:=if ¬e=0 then e else if inR kind 0 ((x.kinds.length:Int) - 1)=false then 4 else 0
def Q2V (x:Tbl) (l:List Int) (kind:Int):Spn×Int×Int:=
 if ¬Q1Q x (QQj x l) kind=0 then(⟨0,0⟩,0,Q1Q x (QQj x l) kind)else Q0y x (QZZ x l kind x.kinds.length)
def s31:List D→Option D:=sp3 (Qcf QRf) (QJ QH) QaY (Qmy (Qcf QP7) QaY QaY) fun x l kind=>some (Q2V x l kind)
def Q1a (x:Tbl) (pu ot:Nat) (n:Int) (p:Nat):Bool:=
 decide (1000*((QQe x pu p).hi+QQ5 x p) < (QUc x p ot pu n).lo - 1000*QQ5 x p)||decide ((QUc x p ot pu n).hi+1000*QQ5 x p < 1000*((QQe x pu p).lo - QQ5 x p))
def Q2B (x:Tbl) (pu ot:Nat) (n:Int):Bool:=(List.range x.props.length).any fun p=>Q1a x pu ot n p
def QZG (q:Int→Bool):Nat→Option Int
 | 0=>none
 | k+1=>match QZG q k with
  | some n=>some n
  | none=>if q ((k:Int)+1)=true then some ((k:Int)+1)else none
def detR (x:Tbl) (a b:Int):Int×Int:=
 if ¬QXA x (chk x).2.2 a b=0 then(0,QXA x (chk x).2.2 a b)else match QZG (Q2B x a.toNat b.toNat) 1000 with
 | some n=>(n,0)
 | none=>(0,9)
def s24:List D→Option D:=sp3 (Qcf QRf) QaY QaY (Qgw QaY QaY) fun x a b=>some (detR x a b)
end Go.Proofs.YticoemblgkemiaaGreatDoor
namespace Go.Proofs.YticoemblgkemiaaGreatDoor
open Go.RowKit
def tsB:ByteArray:=⟨#[116,101,115,116,115]⟩
def puB:ByteArray:=⟨#[10,112,117,114,101,32]⟩
theorem z_ts:tsB.size=5:=rfl
theorem z_pu:puB.size=6:=rfl
def QS7 (x:Tbl):Nat→ByteArray
 | 0=>tsB
 | p+1=>QS7 x p++spB++(x.props.getD p default).name++spB++QDz (QQ5 x p).toNat
def QU7 (x:Tbl) (k:Nat) (o:ByteArray):Nat→ByteArray
 | 0=>o
 | p+1=>QU7 x k o p++spB++QDz (QQe x k p).lo.toNat++spB++QDz (QQe x k p).hi.toNat
def QQC (x:Tbl):Nat→ByteArray
 | 0=>QS7 x x.props.length++puB++QDz x.purity.toNat++nlB
 | k+1=>QU7 x k (QQC x k++(x.kinds.getD k default).name) x.props.length++nlB
def QQy (x:Tbl):ByteArray:=QQC x x.kinds.length
@[simp] theorem textP_zero (x : Tbl) : QS7 x 0 = tsB := rfl
@[simp] theorem textQ_zero (x : Tbl) (k : Nat) (o : ByteArray) : QU7 x k o 0 = o := rfl
theorem QSy {s:ByteArray} {l:List ByteArray} (h:QQi s l=0):Qbz s=true:=by
 unfold QQi at h;cases q:Qbz s with
 | true=>rfl
 | false=>rw[q]at h; simp at h
theorem Fine.pname {x:Tbl} (f:Fine x) {p:Nat} (h:p < x.props.length):x.props[p].name.size≤20:=QvU (QSy (QQJ (f.pr p h)).1)
theorem Fine.kname {x:Tbl} (f:Fine x) {k:Nat} (h:k < x.kinds.length):x.kinds[k].name.size≤20:=QvU (QSy (QQ4 (f.kn k h)).1)
theorem QS5 {x:Tbl} {p:Nat} (h:p < x.props.length):x.props[p].err=QQ5 x p:=by unfold QQ5; rw[Ql _ _ _ h]
theorem Fine.errv {x:Tbl} (f:Fine x) {p:Nat} (h:p < x.props.length):0≤QQ5 x p∧QQ5 x p≤10000:=by rw[←QS5 h]; exact f.err p h
theorem QSd {x:Tbl} (f:Fine x):∀k,k≤x.props.length→(QS7 x k).size≤5+28*k
 | 0,_=>by simp[z_ts]
 | k+1,hk=>by
  have h1:=QSd f k (by omega)
  have h2:=f.pname (p:=k) (by omega)
  have h3:=QOf (n:=QQ5 x k) (by have:=f.errv (p:=k) (by omega); omega)
  rw[QS7,Ql _ _ _ (by omega)]
  simp only[ByteArray.size_append,Q2R];omega
theorem QTA {x:Tbl} (f:Fine x) {k:Nat} (hk:k < x.kinds.length) (o:ByteArray):∀p,p≤x.props.length→(QU7 x k o p).size≤o.size+14*p
 | 0,_=>by simp
 | p+1,hp=>by
  have h1:=QTA f hk o p (by omega)
  obtain⟨_,_,r1,r2,r3⟩:=f.rng hk (p:=p) (by omega)
  have h2:=QOf (n:=(QQe x k p).lo) (by omega)
  have h3:=QOf (n:=(QQe x k p).hi) (by omega)
  rw[QU7];simp only[ByteArray.size_append,Q2R];omega
theorem QRy {x:Tbl} (f:Fine x):∀k,k≤x.kinds.length→(QQC x k).size≤200+100*k
 | 0,_=>by
  have h1:=QSd f x.props.length (Nat.le_refl _);have h2:=f.p5;have h3:=QOf (n:=x.purity) (by have:=f.u2; omega)
  simp only[QQC,ByteArray.size_append,z_pu,Q2E];omega
 | k+1,hk=>by
  have h1:=QRy f k (by omega)
  have h2:=f.kname (k:=k) (by omega)
  have h3:=QTA f (k:=k) (by omega) (QQC x k++x.kinds[k].name) x.props.length (Nat.le_refl _)
  have h4:=f.p5;rw[QQC,Ql _ _ _ (by omega)]
  simp only[ByteArray.size_append,Q2E]at h3⊢;omega
def QiQ (x:Tbl):ByteArray×Int:=if okT x then(QQy x,0)else(⟨#[]⟩,(chk x).2.2)
def Q2u:List D→Option D:=sp1 (Qcf QRf) (Qgw Qoe QaY) fun x=>some (QiQ x)
end Go.Proofs.YticoemblgkemiaaGreatDoor
