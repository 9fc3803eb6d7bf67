/-
  Reference functions of the trace chapter: where wax must be. Conditions: none.
-/
import Derived.Test.YtnfeakhkfehkhaaGreatDoorZRefH
set_option linter.unusedSimpArgs false
set_option linter.unusedVariables false
namespace Go.Proofs.YtnfeakhkfehkhaaGreatDoor
open Go.RowKit
theorem hr0 (s a:Nat):((dv s a).tmod 2==0)=!QeB s a:=by
 unfold dv QeB;rw[show((2:Int))=((2:Nat):Int)from rfl,<-Int.ofNat_tmod];rcases Nat.mod_two_eq_zero_or_one (s / 2 ^ a)with h | h<;>simp[h]
noncomputable instance (b:List Bat):Decidable (ValidB b):=Classical.propDecidable _
noncomputable def Qgj (b:List Bat) (i k:Nat):Bool:= @decide (Qs9 (Qaa b) i k) (Classical.propDecidable _)
theorem Qnh {b:List Bat} {i k:Nat} :Qgj b i k=true↔Qs9 (Qaa b) i k:=by unfold Qgj; simp
theorem Qi6 {b:List Bat} (h:ValidB b) {i k:Nat} (hi:i < b.length) (hk:k < b.length):Qgj b i k=Qjz b i k:=by
 rw[Bool.eq_iff_iff,Qnh,Qxk h hi hk]
theorem Qya (R:Nat->Bool):mid R 0 false=λ_=>DB false:=by
 funext t; unfold mid; simp
theorem QpE (d:Nat->Bool):QaE d 0=[]:=rfl
attribute [local simp] Qya QpE
def Qdi (d:Nat->Bool) (t x:Nat):List Edg:=QaE d t++((List.range x).filter d).map λ(y:Nat)=>⟨(y:Int),(t:Int)⟩
theorem Qo5 (d:Nat->Bool) (t:Nat):Qdi d t 0=QaE d t:=by simp[Qdi]
attribute [local simp] Qo5
end Go.Proofs.YtnfeakhkfehkhaaGreatDoor
namespace Go.Proofs.YtnfeakhkfehkhaaGreatDoor
open Go.RowKit
theorem QHg {b:List Bat} (h:BookOk b):bkB b=true:=by
 unfold bkB;rw[Zl];intro x hx;obtain⟨i,hi,rfl⟩:=List.getElem_of_mem hx;have h1:=h.at hi;have:=Qdy h1.asc h1.fr;have:=h.le;simp; omega
noncomputable def QoL (b:List Bat) (i k:Nat):Bool:= @decide (QCw (Qaa b) i k) (Classical.propDecidable _)
theorem Qli {b:List Bat} {i k:Nat} :QoL b i k=true↔QCw (Qaa b) i k:=by unfold QoL; simp
theorem Qq9 {b:List Bat} (h:ValidB b) {i k:Nat} (hi:i < b.length) (hk:k < b.length):QoL b i k=QvJ b i k:=by
 rw[Bool.eq_iff_iff,Qli,Qxw h hi hk]
theorem Qyb (n:Nat) (l v:List Nat) (has needs:List Int):chK n l v has needs 0=⟨has,needs,[],true⟩:=rfl
attribute [local simp] Qyb
end Go.Proofs.YtnfeakhkfehkhaaGreatDoor
