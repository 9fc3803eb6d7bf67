/-
  Reference functions of the wax chapter: readings, parts, Mixed, sets of kinds. Conditions: none.
-/
import Derived.Test.YticoemblgkemiaaGreatDoorZWxRefA
set_option linter.unusedSimpArgs false
set_option linter.unusedVariables false
namespace Go.Proofs.YticoemblgkemiaaGreatDoor
open Go.RowKit
def Q2c (r:Nat):List (Nat×Option Nat):=match r with
 | 0=>[(0,none)]
 | 1=>kpn [0,3]
 | 2=>kpn [0,3,4]
 | 3=>kpn [0,3,4,7]
 | 4=>kpn [0,3,4]
 | 5=>kpn [0,3,4]
 | 6=>[(2,none)]
 | _=>[]
def QSg (q:Int→Bool) (lo:Int):Nat→Spn×Bool
 | 0=>(⟨0,0⟩,false)
 | k+1=>if q (lo+k)then(⟨if(QSg q lo k).2 then(QSg q lo k).1.lo else lo+k,lo+k⟩,true)else QSg q lo k
def QRc (x:Tbl) (l:List Int) (a b:Nat) (lo hi:Int):Spn×Bool:=QSg (QQ9 x l a b) lo (hi+1 - lo).toNat
def QXo (lo hi:Int):Prop:=0≤lo∧lo≤1000∧0≤hi∧hi≤1000
instance (lo hi:Int):Decidable (QXo lo hi):=inferInstanceAs (Decidable (_∧_))
def QXA (x:Tbl) (e a b:Int):Int:=if ¬e=0 then e else if inR a 0 ((x.kinds.length:Int) - 1)=false∨inR b 0 ((x.kinds.length:Int) - 1)=false then 4 else if a=b then 2 else 0
def mixR (x:Tbl) (l:List Int) (a b:Int):Spn×Int:=
 if ¬QXA x (QQj x l) a b=0 then(⟨0,0⟩,QXA x (QQj x l) a b)else if(QRc x l a.toNat b.toNat 0 1000).2 then((QRc x l a.toNat b.toNat 0 1000).1,0)else(⟨0,0⟩,9)
theorem QY4 {x:Tbl} {a:Int} (h:inR a 0 ((x.kinds.length:Int) - 1)=true):QXy x a:=by
 have:=Qal.1 h;exact⟨this.1,by omega⟩
def s22:List D→Option D:=sp4 (Qcf QRf) (QJ QH) QaY QaY (Qgw (Qcf QP7) QaY) fun x l a b=>some (mixR x l a b)
def Q1p (n:Int):Prop:=0≤n∧n≤40
instance (n:Int):Decidable (Q1p n):=inferInstanceAs (Decidable (_∧_))
def QRJ (k:Nat):Int:=2 ^ k
theorem QXg (k:Nat):QRJ (k+1)=2*QRJ k:=by unfold QRJ; rw[Int.pow_succ,Int.mul_comm]
theorem QXd:∀{k:Nat},k≤40→1≤QRJ k∧QRJ k≤1099511627776:=by
 intro k hk;have h1:QRJ k=((2 ^ k:Nat):Int):=by unfold QRJ; simp
 have h2:2 ^ k≤2 ^ 40:=Nat.pow_le_pow_right (by omega) hk
 have h3:0 < 2 ^ k:=Nat.pow_pos (by omega)
 rw[h1];have:(2:Nat) ^ 40=1099511627776:=by decide
 omega
def s42:List D→Option D:=sp1 QaY QaY fun k=>if Q1p k then some (QRJ k.toNat)else none
theorem ok42:∀ds d,s42 ds=some d→PureC Tryz.prog 22 ds d:=Qbr fun k r hr=>by
 split at hr
 ·rename_i hc;cases hr;obtain⟨h0,h1⟩:=hc;obtain⟨K,rfl⟩:∃K:Nat,k=K:=⟨k.toNat,by omega⟩
  simp only[Int.toNat_natCast];refine Qf (QP1 Qs 13 Q2c []) Tryz.func22 rfl rfl (Nat.le_of_ble_eq_true rfl) (by kernel_rfl) ?_
  rw[Tryz.results22];simp[Q2c]
  (generalize hLoopQ:Cx.loop _ _ _=rLoopQ; apply Qi hLoopQ (fun j=>⟨[(0,.d (DI K)),(3,.d (DI (QRJ j))),(4,.d (DI j))],[],[],[]⟩) K rfl; rotate_left; (show _ < 281474976710656; omega); rfl; rotate_left; all_goals clear hLoopQ)
  ·intro j hj;have w1:=Qa ((j:Int)+1) (by omega) (by omega)
   have hjl:(j:Int) < K:=by omega
   have hb:=QXd (k:=j) (by omega)
   have w2:=Qa (2*QRJ j) (by omega) (by omega)
   rw[QXg];simp[Q2c,hj,hjl,w1,w2]
  ·simp[Q2c]
 ·cases hr
theorem Q0Q (xs:Array Value) (w:World):(callFunc 22 xs).run Tryz.prog w= .ok (.enter 22 xs) w:=by kernel_rfl
def QRP (s:Int) (k:Nat):Bool:=s / QRJ k % 2==1
end Go.Proofs.YticoemblgkemiaaGreatDoor
namespace Go.Proofs.YticoemblgkemiaaGreatDoor
open Go.RowKit
def QT7 (x:Tbl) (l:List Int) (s:Int) (a:Nat):Nat→List Int
 | 0=>[]
 | b+1=>QT7 x l s a b++(if(QRc x l a b 1 999).2=true∧s=QRJ a+QRJ b then [s]else [])
def QUQ (x:Tbl) (l:List Int) (s:Int):Nat→List Int
 | 0=>[]
 | a+1=>QUQ x l s a++QT7 x l s a a++(if s=QRJ a∧QQ9 x l a a 1000=true then [s]else [])
def QSk (x:Tbl) (l:List Int):Nat→List Int
 | 0=>[]
 | k+1=>QSk x l k++QUQ x l ((k:Int)+1) x.kinds.length
def QT3 (x:Tbl) (l:List Int):List Int:=QSk x l (2 ^ x.kinds.length - 1)
@[simp] theorem pairK_zero (x : Tbl) (l : List Int) (s : Int) (a : Nat) : QT7 x l s a 0 = [] := rfl
@[simp] theorem kindK_zero (x : Tbl) (l : List Int) (s : Int) : QUQ x l s 0 = [] := rfl
@[simp] theorem setK_zeroWx (x : Tbl) (l : List Int) : QSk x l 0 = [] := rfl
theorem QUI {x:Tbl} {l:List Int} {s:Int} {a:Nat} :∀{k:Nat},∀t∈QT7 x l s a k,t=s
 | 0,t,h=>by cases h
 | k+1,t,h=>by
  unfold QT7 at h;rcases List.mem_append.1 h with h | h
  ·exact QUI t h
  ·split at h
   ·simpa using h
   ·cases h
theorem QUd {x:Tbl} {l:List Int} {s:Int} :∀{k:Nat},∀t∈QUQ x l s k,t=s
 | 0,t,h=>by cases h
 | k+1,t,h=>by
  unfold QUQ at h;rcases List.mem_append.1 h with h | h
  ·rcases List.mem_append.1 h with h | h
   ·exact QUd t h
   ·exact QUI t h
  ·split at h
   ·simpa using h
   ·cases h
theorem QVm {x:Tbl} {l:List Int} :∀{k:Nat},∀t∈QSk x l k,1≤t∧t≤k
 | 0,t,h=>by cases h
 | k+1,t,h=>by
  unfold QSk at h;rcases List.mem_append.1 h with h | h
  ·have:=QVm t h; omega
  ·have:=QUd t h; omega
theorem QSB (k:Nat):QRJ k=((2 ^ k:Nat):Int):=by unfold QRJ; simp
def Q2z (x:Tbl) (l:List Int):List Int×Int:=if ¬QQj x l=0 then([],QQj x l)else(QT3 x l,0)
def s26:List D→Option D:=sp2 (Qcf QRf) (QJ QH) (Qgw (QJ QH) QaY) fun x l=>some (Q2z x l)
def QSj (l:List Int) (k:Nat):Bool:=l.all fun s=>QRP s k
def QRj (l:List Int) (k:Nat):Bool:=l.any fun s=>QRP s k
def QQu (q:Nat→Bool):Nat→List Int
 | 0=>[]
 | k+1=>QQu q k++(if q k=true then [(k:Int)]else [])
@[simp] theorem whereK_zero (q : Nat → Bool) : QQu q 0 = [] := rfl
theorem QRH (q:Nat→Bool):∀k,(QQu q k).length≤k
 | 0=>by simp
 | k+1=>by
  have:=QRH q k;unfold QQu;rw[List.length_append];split<;>simp<;>omega
def QUC (x:Tbl) (l:List Int):List Int×List Int×Int:=
 if ¬QQj x l=0 then([],[],QQj x l)else if(QT3 x l).length=0 then([],[],9)else(QQu (QSj (QT3 x l)) x.kinds.length,QQu (QRj (QT3 x l)) x.kinds.length,0)
def s29:List D→Option D:=sp2 (Qcf QRf) (QJ QH) (Qmy (QJ QH) (QJ QH) QaY) fun x l=>some (QUC x l)
end Go.Proofs.YticoemblgkemiaaGreatDoor
