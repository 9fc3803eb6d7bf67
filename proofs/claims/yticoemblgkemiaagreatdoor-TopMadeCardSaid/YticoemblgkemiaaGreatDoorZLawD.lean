/-
  What the laws of the trace chapter that draw a truth have in common. Conditions: none.
-/
import Derived.Test.YticoemblgkemiaaGreatDoorZFndC
set_option linter.unusedSimpArgs false
set_option linter.unusedVariables false
namespace Go.Proofs.YticoemblgkemiaaGreatDoor
open Go.RowKit
theorem QEq {T:List Bat} (h:BookOk T):EdgOk T []:=by
 refine⟨λt q hq=>?_,λe he=>by cases he⟩
 by_cases ht:t < T.length
 .rw[Qao ht]at hq;exact(h.at ht).fr q hq
 .rw[Qau (by omega)]at hq
  cases hq
theorem QJi {b:List Bat} (h:ValidB b) {y:List Int} (hy:Qlg y):s37 [.sl 5 (b.map QQ.enc),.sl 1 (y.map (rK .u32).enc)]=some (.sl 5 ((Ql9 b y).map QQ.enc)):=by
 simp only[s37,sp2,Q9,Qnf];rw[if_pos ⟨h,hy⟩]; rfl
theorem QJd {T:List Bat} (h:BookOk T) {i:Nat} (hi:i < T.length):s38 [.sl 5 (T.map QQ.enc),DI i,.sl 0 []]=some (.sl 1 (((List.range T.length).map (Qam T i [] T.length)).map rBl.enc)):=by
 simp only[s38,sp3,Q9,Qak,Qb9];rw[if_pos ⟨by omega,by omega,h.le,QOw h,by simp,QEq h⟩,Int.toNat_natCast]; rfl
theorem QK2 {T:List Bat} (h:BookOk T):s40 [.sl 5 (T.map QQ.enc)]=some (.sl 1 ((QT T).map QH.enc)):=by
 simp only[s40,sp1,Q9];rw[if_pos h]; rfl
theorem QFF {b:List Bat} (h:Qpr b=true) {i:Nat} (hi:i < b.length):Qnn b i=(QbH b i,0):=by
 unfold Qnn;rw[if_pos ((Qze h).2.2.2 i hi),Int.toNat_natCast]
theorem Qxf (b:List Bat) (g:Nat->Nat->Int):(QdY b g).length=b.length:=by simp[QdY]
end Go.Proofs.YticoemblgkemiaaGreatDoor
