/-
  Reference functions of the trace chapter: Comes, Holds. Conditions: none.
-/
import Derived.Test.YticoemblgkemiaaGreatDoorZRefI
set_option linter.unusedSimpArgs false
set_option linter.unusedVariables false
namespace Go.Proofs.YticoemblgkemiaaGreatDoor
open Go.RowKit
def QcE (f:Nat->Bool) (k:Nat):List Int:=((List.range k).filter f).map λ(x:Nat)=>(x:Int)
theorem Qv0 (f:Nat->Bool):QcE f 0=[]:=rfl
attribute [simp] Qv0
theorem Qgi {f:Nat->Bool} {k:Nat} (h:f k=true):QcE f (k+1)=QcE f k++[(k:Int)]:=by
 simp[QcE,List.range_succ,List.filter_append,h]
theorem QfL {f:Nat->Bool} {k:Nat} (h:f k=false):QcE f (k+1)=QcE f k:=by
 simp[QcE,List.range_succ,List.filter_append,h]
theorem Qju (f:Nat->Bool) (k:Nat):(QcE f k).length<=k:=by
 unfold QcE;rw[List.length_map];exact Nat.le_trans (List.length_filter_le _ _) (by simp)
theorem Qsx {f:Nat->Bool} {k:Nat} {x:Int} :x∈QcE f k↔∃a:Nat,x=a/\a < k/\f a=true:=by
 simp only[QcE,List.mem_map,List.mem_filter,Zm];constructor
 .rintro⟨a,⟨h1,h2⟩,rfl⟩; exact⟨a,rfl,h1,h2⟩
 .rintro⟨a,rfl,h1,h2⟩; exact⟨a,⟨h1,h2⟩,rfl⟩
theorem QhI (b:List Bat) (i:Int):QbB b i=0↔ValidB b/\0<=i/\i < b.length:=by
 unfold QbB;by_cases h:(Qaf b).2.2=0
 .rw[if_pos h];have hv:=(QbQ b).1 h;cases h2:inR i 0 ((b.length:Int) - 1)with
  | true=>
   have:=Qal.1 h2;simp[hv]; omega
  | false=>
   have:=QFm.1 h2;simp[hv]; omega
 .rw[if_neg h];have hv:¬ValidB b:=λhv=>h ((QbQ b).2 hv);simp[h,hv]
noncomputable def Qe6 (b:List Bat) (i k:Nat):Bool:=k != i&&Qrc b k i
noncomputable def Qb3 (b:List Bat) (i k:Nat):Bool:=k != i&&Qve b k i
noncomputable def Qgz (b:List Bat) (i:Int):List Int×List Int×Int:=if QbB b i=0 then(QcE (Qe6 b i.toNat) b.length,QcE (Qb3 b i.toNat) b.length,0)else([],[],QbB b i)
def rLi:Row (List Int):=⟨1,λx=>[.sl 1 (x.map QH.enc)],λd=>match d with | [y]=>(QJ QH).dec y | _=>none,λx=>by simp[Qap],λd x h=>by
 split at h
 .exact QaX ((QJ QH).ed _ _ h) (LImp.refl _)
 .cases h⟩
theorem Qwv (x:List Int):rLi.enc x=[.sl 1 (x.map QH.enc)]:=rfl
theorem Qxs:rLi.k=1:=rfl
def Qin (g:List Int):Nat:=if 0 < g.length then(g.getD (g.length - 1) 0).toNat+1 else 0
theorem QjN:Qin []=0:=rfl
attribute [local simp] QjN
end Go.Proofs.YticoemblgkemiaaGreatDoor
namespace Go.Proofs.YticoemblgkemiaaGreatDoor
open Go.RowKit
def Qnn (b:List Bat) (i:Int):Spn×Int:=if QbB b i=0 then(QbH b i.toNat,0)else(⟨0,0⟩,QbB b i)
def xK (c h:Int):Nat->Int
 | 0=>h
 | k+1=>((bsK c 0 h k).1+(bsK c 0 h k).2) / 2
theorem QCD (c l h:Int):bsK c l h 0=(l,h):=rfl
theorem QHD (c h:Int):xK c h 0=h:=rfl
attribute [local simp] QCD QHD
end Go.Proofs.YticoemblgkemiaaGreatDoor
namespace Go.Proofs.YticoemblgkemiaaGreatDoor
open Go.RowKit
end Go.Proofs.YticoemblgkemiaaGreatDoor
