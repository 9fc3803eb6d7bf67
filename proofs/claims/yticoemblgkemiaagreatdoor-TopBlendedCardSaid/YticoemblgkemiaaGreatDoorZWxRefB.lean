/-
  Reference functions of the wax chapter: readings, parts, Mixed, sets of kinds. Conditions: none.
-/
import Derived.Test.YticoemblgkemiaaGreatDoorZWxRefA
set_option linter.unusedSimpArgs false
set_option linter.unusedVariables false
namespace Go.Proofs.YticoemblgkemiaaGreatDoor
open Go.RowKit
def QSg (q:Int→Bool) (lo:Int):Nat→Spn×Bool
 | 0=>(⟨0,0⟩,false)
 | k+1=>if q (lo+k)then(⟨if(QSg q lo k).2 then(QSg q lo k).1.lo else lo+k,lo+k⟩,true)else QSg q lo k
def QRc (x:Tbl) (l:List Int) (a b:Nat) (lo hi:Int):Spn×Bool:=QSg (QQ9 x l a b) lo (hi+1 - lo).toNat
def QXo (lo hi:Int):Prop:=0≤lo∧lo≤1000∧0≤hi∧hi≤1000
instance (lo hi:Int):Decidable (QXo lo hi):=inferInstanceAs (Decidable (_∧_))
def QXA (x:Tbl) (e a b:Int):Int:=if ¬e=0 then e else if inR a 0 ((x.kinds.length:Int) - 1)=false∨inR b 0 ((x.kinds.length:Int) - 1)=false then 4 else if a=b then 2 else 0
def Q4N (x:Tbl) (l:List Int) (a b:Int):Spn×Int:=
 if ¬QXA x (QQj x l) a b=0 then(⟨0,0⟩,QXA x (QQj x l) a b)else if(QRc x l a.toNat b.toNat 0 1000).2 then((QRc x l a.toNat b.toNat 0 1000).1,0)else(⟨0,0⟩,9)
theorem QY4 {x:Tbl} {a:Int} (h:inR a 0 ((x.kinds.length:Int) - 1)=true):QXy x a:=by
 have:=Qal.1 h;exact⟨this.1,by omega⟩
def s22:List D→Option D:=sp4 (Qcf QRf) (QJ QH) QaY QaY (Qgw (Qcf QP7) QaY) fun x l a b=>some (Q4N x l a b)
def Q1p (n:Int):Prop:=0≤n∧n≤40
instance (n:Int):Decidable (Q1p n):=inferInstanceAs (Decidable (_∧_))
def QRJ (k:Nat):Int:=2 ^ k
def QRP (s:Int) (k:Nat):Bool:=s / QRJ k % 2==1
end Go.Proofs.YticoemblgkemiaaGreatDoor
namespace Go.Proofs.YticoemblgkemiaaGreatDoor
open Go.RowKit
def QT7 (x:Tbl) (l:List Int) (s:Int) (a:Nat):Nat→List Int
 | 0=>[]
 | b+1=>QT7 x l s a b++(if(QRc x l a b 1 999).2=true∧s=QRJ a+QRJ b then [s]else [])
def QUQ (x:Tbl) (l:List Int) (s:Int):Nat→List Int
 | 0=>[]
 | a+1=>QUQ x l s a++QT7 x l s a a++(if s=QRJ a∧QQ9 x l a a 1000=true then [s]else [])
def QSk (x:Tbl) (l:List Int):Nat→List Int
 | 0=>[]
 | k+1=>QSk x l k++QUQ x l ((k:Int)+1) x.kinds.length
def QT3 (x:Tbl) (l:List Int):List Int:=QSk x l (2 ^ x.kinds.length - 1)
@[simp] theorem pairK_zero (x : Tbl) (l : List Int) (s : Int) (a : Nat) : QT7 x l s a 0 = [] := rfl
@[simp] theorem kindK_zero (x : Tbl) (l : List Int) (s : Int) : QUQ x l s 0 = [] := rfl
@[simp] theorem setK_zeroWx (x : Tbl) (l : List Int) : QSk x l 0 = [] := rfl
def Q2z (x:Tbl) (l:List Int):List Int×Int:=if ¬QQj x l=0 then([],QQj x l)else(QT3 x l,0)
def s26:List D→Option D:=sp2 (Qcf QRf) (QJ QH) (Qgw (QJ QH) QaY) fun x l=>some (Q2z x l)
def QSj (l:List Int) (k:Nat):Bool:=l.all fun s=>QRP s k
def QRj (l:List Int) (k:Nat):Bool:=l.any fun s=>QRP s k
def QQu (q:Nat→Bool):Nat→List Int
 | 0=>[]
 | k+1=>QQu q k++(if q k=true then [(k:Int)]else [])
@[simp] theorem whereK_zero (q : Nat → Bool) : QQu q 0 = [] := rfl
theorem QRH (q:Nat→Bool):∀k,(QQu q k).length≤k
 | 0=>by simp
 | k+1=>by
  have:=QRH q k;unfold QQu;rw[List.length_append];split<;>simp<;>omega
def QUC (x:Tbl) (l:List Int):List Int×List Int×Int:=
 if ¬QQj x l=0 then([],[],QQj x l)else if(QT3 x l).length=0 then([],[],9)else(QQu (QSj (QT3 x l)) x.kinds.length,QQu (QRj (QT3 x l)) x.kinds.length,0)
def s29:List D→Option D:=sp2 (Qcf QRf) (QJ QH) (Qmy (QJ QH) (QJ QH) QaY) fun x l=>some (QUC x l)
end Go.Proofs.YticoemblgkemiaaGreatDoor
