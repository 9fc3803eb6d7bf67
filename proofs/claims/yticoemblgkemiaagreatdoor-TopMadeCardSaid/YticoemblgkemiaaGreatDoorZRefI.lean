/-
  Reference functions of the trace chapter: where wax must be. Conditions: none.
-/
import Derived.Test.YticoemblgkemiaaGreatDoorZRefH
set_option linter.unusedSimpArgs false
set_option linter.unusedVariables false
namespace Go.Proofs.YticoemblgkemiaaGreatDoor
open Go.RowKit
theorem hr0 (s a:Nat):((dv s a).tmod 2==0)=!Qc9 s a:=by
 unfold dv Qc9;rw[show((2:Int))=((2:Nat):Int)from rfl,<-Int.ofNat_tmod];rcases Nat.mod_two_eq_zero_or_one (s / 2 ^ a)with h | h<;>simp[h]
noncomputable instance (b:List Bat):Decidable (ValidB b):=Classical.propDecidable _
noncomputable def Qrc (b:List Bat) (i k:Nat):Bool:= @decide (QwN (QM b) i k) (Classical.propDecidable _)
theorem Qo7 {b:List Bat} {i k:Nat} :Qrc b i k=true↔QwN (QM b) i k:=by unfold Qrc; simp
theorem QnC {b:List Bat} (h:ValidB b) {i k:Nat} (hi:i < b.length) (hk:k < b.length):Qrc b i k=Qlp b i k:=by
 rw[Bool.eq_iff_iff,Qo7,QAI h hi hk]
theorem QAn (R:Nat->Bool):mid R 0 false=λ_=>DB false:=by
 funext t; unfold mid; simp
theorem Qri (d:Nat->Bool):QcB d 0=[]:=rfl
attribute [local simp] QAn Qri
def QCX (d:Nat->Bool) (t x:Nat):List Edg:=QcB d t++((List.range x).filter d).map λ(y:Nat)=>⟨(y:Int),(t:Int)⟩
theorem Qrd (d:Nat->Bool) (t:Nat):QCX d t 0=QcB d t:=by simp[QCX]
attribute [local simp] Qrd
end Go.Proofs.YticoemblgkemiaaGreatDoor
namespace Go.Proofs.YticoemblgkemiaaGreatDoor
open Go.RowKit
theorem QOw {b:List Bat} (h:BookOk b):bkB b=true:=by
 unfold bkB;rw[Zl];intro x hx;obtain⟨i,hi,rfl⟩:=List.getElem_of_mem hx;have h1:=h.at hi;have:=QeX h1.asc h1.fr;have:=h.le;simp; omega
noncomputable def Qve (b:List Bat) (i k:Nat):Bool:= @decide (QIo (QM b) i k) (Classical.propDecidable _)
theorem Qgb {b:List Bat} {i k:Nat} :Qve b i k=true↔QIo (QM b) i k:=by unfold Qve; simp
theorem Qwq {b:List Bat} (h:ValidB b) {i k:Nat} (hi:i < b.length) (hk:k < b.length):Qve b i k=QCH b i k:=by
 rw[Bool.eq_iff_iff,Qgb,QB7 h hi hk]
theorem QCk (n:Nat) (l v:List Nat) (has needs:List Int):chK n l v has needs 0=⟨has,needs,[],true⟩:=rfl
attribute [local simp] QCk
end Go.Proofs.YticoemblgkemiaaGreatDoor
