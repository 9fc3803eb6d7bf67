/-
  Sums over bags, some of which may be foreign; kinds by bits. Plain; no program here. Conditions: none.
-/
import Derived.Test.YticoemblgkemiaaGreatDoorZTrB
import Derived.Test.YticoemblgkemiaaGreatDoorZStJ
set_option linter.unusedSimpArgs false
set_option linter.unusedVariables false
namespace Go.Proofs.YticoemblgkemiaaGreatDoor
theorem QGD {N:Nat} {lo hi left:Nat→Int} {F s:Nat→Bool} (hb:∀i,i < N→0≤lo i∧lo i≤left i∧left i≤hi i) (hs:∀i,i < N→s i=true→F i=true) {fo:Int} (h0:0≤fo∧fo≤1000)
  (hsure:(QK N fun i=>if F i=true then hi i else 0)*1000≤fo*(QK N fun i=>if F i=true then hi i else lo i)):(QK N fun i=>if s i=true then left i else 0)*1000≤fo*QK N left:=by
 have e1:(QK N fun i=>if F i=true then hi i else lo i)=(QK N fun i=>if F i=true then hi i else 0)+QK N fun i=>if F i=true then 0 else lo i:=by
  rw[←Qax];exact QB fun i _=>by split<;>omega
 have e2:QK N left=(QK N fun i=>if F i=true then left i else 0)+QK N fun i=>if F i=true then 0 else left i:=by
  rw[←Qax];exact QB fun i _=>by split<;>omega
 have l1:(QK N fun i=>if s i=true then left i else 0)≤QK N fun i=>if F i=true then left i else 0:=Qa2 fun i hi=>by
  have h1:=hb i hi;have h2:=hs i hi;cases q:s i with
  | true=>rw[h2 q]; exact Int.le_refl _
  | false=>
   rw[if_neg (by simp)]
   split<;>omega
 have l2:(QK N fun i=>if F i=true then left i else 0)≤QK N fun i=>if F i=true then hi i else 0:=Qa2 fun i hi=>by
  have h1:=hb i hi;split<;>omega
 have l3:(QK N fun i=>if F i=true then 0 else lo i)≤QK N fun i=>if F i=true then 0 else left i:=Qa2 fun i hi=>by
  have h1:=hb i hi;split<;>omega
 rw[e1]at hsure;rw[e2];generalize(QK N fun i=>if F i=true then hi i else 0)=B at*;generalize(QK N fun i=>if F i=true then 0 else lo i)=A at*;generalize(QK N fun i=>if F i=true then left i else 0)=B2 at*;generalize(QK N fun i=>if F i=true then 0 else left i)=A2 at*;generalize(QK N fun i=>if s i=true then left i else 0)=C at*;have m1:(1000 - fo)*B2≤(1000 - fo)*B:=Int.mul_le_mul_of_nonneg_left l2 (by omega)
 have m2:fo*A≤fo*A2:=Int.mul_le_mul_of_nonneg_left l3 h0.1;rw[Int.mul_add]at hsure⊢;rw[Int.sub_mul,Int.sub_mul]at m1;omega
def Qeg (H:Nat→Bool) (n:Nat):Int:=QK n fun k=>if H k=true then 2 ^ k else 0
theorem QnP (H:Nat→Bool):∀n,0≤Qeg H n∧Qeg H n < 2 ^ n
 | 0=>by unfold Qeg QK; decide
 | n+1=>by
  have ih:=QnP H n;have e:Qeg H (n+1)=Qeg H n+if H n=true then 2 ^ n else 0:=rfl;rw[e,Int.pow_succ];split<;>omega
end Go.Proofs.YticoemblgkemiaaGreatDoor
namespace Go.Proofs.YticoemblgkemiaaGreatDoor
open Go.RowKit
theorem Qu0 (x y:Nat) (hx:x < 9223372036854775808) (hy:y < 9223372036854775808):∃z:Nat,bits .andNot .i64 (x:Int) (y:Int)=(z:Int)∧∀j,z.testBit j=(x.testBit j&&!y.testBit j):=by
 refine⟨x&&& (2 ^ 64 - (y+1)),?_,?_⟩
 ·have h1:x&&& (2 ^ 64 - (y+1)) < 9223372036854775808:=Nat.lt_of_le_of_lt Nat.and_le_left hx;have e:bits .andNot .i64 (x:Int) (y:Int)=IntKind.i64.wrap ((BitVec.ofNat 64 x&&& ~~~BitVec.ofNat 64 y).toNat:Int):=rfl;rw[e,BitVec.toNat_and,BitVec.toNat_not,BitVec.toNat_ofNat,BitVec.toNat_ofNat,Nat.mod_eq_of_lt (by omega),Nat.mod_eq_of_lt (by omega),show 2 ^ 64 - 1 - y=2 ^ 64 - (y+1)from by omega]
  exact Qa _ (by omega) (by omega)
 ·intro j;rw[Nat.testBit_and,Nat.testBit_two_pow_sub_succ (by omega)]
  by_cases hj:j < 64
  ·simp[hj]
  ·have:x.testBit j=false:=Nat.testBit_lt_two_pow (Nat.lt_of_lt_of_le (Nat.lt_trans hx (by decide)) (Nat.pow_le_pow_right (n:=2) (by decide) (show 64≤j by omega)))
   simp[this]
def Qfj (H:Nat→Bool):Nat→Nat
 | 0=>0
 | n+1=>Qfj H n+if H n=true then 2 ^ n else 0
theorem QnJ (H:Nat→Bool):∀n,Qfj H n < 2 ^ n
 | 0=>by simp[Qfj]
 | n+1=>by
  have ih:=QnJ H n;have e:Qfj H (n+1)=Qfj H n+if H n=true then 2 ^ n else 0:=rfl;rw[e,Nat.pow_succ];split<;>omega
theorem Qrr (H:Nat→Bool):∀n,Qeg H n=(Qfj H n:Int)
 | 0=>rfl
 | n+1=>by
  have ih:=Qrr H n;have e:Qeg H (n+1)=Qeg H n+if H n=true then 2 ^ n else 0:=rfl;have e2:Qfj H (n+1)=Qfj H n+if H n=true then 2 ^ n else 0:=rfl;rw[e,e2,ih];split<;>simp
theorem Qgf (H:Nat→Bool):∀n k,(Qfj H n).testBit k=(decide (k < n)&&H k)
 | 0,k=>by simp[Qfj]
 | n+1,k=>by
  have ih:=Qgf H n k;have hl:=QnJ H n;cases e:H n with
  | false=>
   have:Qfj H (n+1)=Qfj H n:=by simp[Qfj,e]
   rw[this,ih];by_cases hk:k=n
   ·subst hk; simp[e]
   ·have:(k < n+1)=(k < n):=by simp only[eq_iff_iff]; omega
    simp only[this]
  | true=>
   have:Qfj H (n+1)=2 ^ n*1+Qfj H n:=by simp[Qfj,e]; omega
   rw[this,Nat.testBit_two_pow_mul_add _ hl];by_cases hk:k < n
   ·rw[if_pos hk,ih,decide_eq_true hk,decide_eq_true (show k < n+1 by omega)]
   ·rw[if_neg hk];by_cases hk2:k=n
    ·subst hk2; simp[e]
    ·rw[decide_eq_false (show ¬k < n+1 by omega),Bool.false_and,show(1:Nat)=2 ^ 0 from rfl,Nat.testBit_two_pow]
     simp; omega
theorem Qo9 (y k:Nat):QzO (y:Int) k=y.testBit k:=by
 unfold QzO;rw[Int.tdiv_eq_ediv_of_nonneg (by omega)]
 have e:((y:Int) / 2 ^ k)=((y / 2 ^ k:Nat):Int):=by push_cast; rfl
 rw[e,Nat.testBit_eq_decide_div_mod_eq];generalize y / 2 ^ k=n;rw[Int.tmod_eq_emod_of_nonneg (by omega)]
 rcases Nat.mod_two_eq_zero_or_one n with h | h
 ·have:((n:Int) % 2)=0:=by omega
  rw[this,h]; rfl
 ·have:((n:Int) % 2)=1:=by omega
  rw[this,h]; rfl
theorem QAk {S:Int} (h1:0≤S) (h2:S≤255) (H:Nat→Bool):(bits .andNot .i64 (Qeg H 8) S != 0)=true↔∃k,k < 8∧H k=true∧QzO S k=false:=by
 obtain⟨y,rfl⟩:∃y:Nat,S=y:=⟨S.toNat,by omega⟩
 have hl:=QnJ H 8;obtain⟨z,hz,hb⟩:=Qu0 (Qfj H 8) y (by omega) (by omega)
 rw[Qrr,hz,bne_iff_ne];constructor
 ·intro hne;have hz0:z≠0:=by omega
  obtain⟨k,hk⟩:∃k,z.testBit k=true:=by
   refine Classical.byContradiction fun hno=>hz0 (Nat.eq_of_testBit_eq fun k=>?_);rw[Nat.zero_testBit];cases e:z.testBit k with
   | false=>rfl
   | true=>exact absurd ⟨k,e⟩ hno
  rw[hb,Qgf]at hk;simp only[Bool.and_eq_true,decide_eq_true_eq,Bool.not_eq_true']at hk;exact⟨k,hk.1.1,hk.1.2,by rw[Qo9]; exact hk.2⟩
 ·rintro⟨k,h3,h4,h5⟩ h0;have hz0:z=0:=by omega
  have:=hb k;rw[hz0,Nat.zero_testBit,Qgf,h4,decide_eq_true h3,←Qo9,h5]at this;cases this
end Go.Proofs.YticoemblgkemiaaGreatDoor
