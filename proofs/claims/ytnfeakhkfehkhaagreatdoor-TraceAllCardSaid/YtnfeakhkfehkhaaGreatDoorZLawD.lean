/-
  What the laws of the trace chapter that draw a truth have in common. Conditions: none.
-/
import Derived.Test.YtnfeakhkfehkhaaGreatDoorZFndC
set_option linter.unusedSimpArgs false
set_option linter.unusedVariables false
namespace Go.Proofs.YtnfeakhkfehkhaaGreatDoor
open Go.RowKit
theorem QNG {T:List Bat} (h:BookOk T):EdgOk T []:=by
 refine⟨λt q hq=>?_,λe he=>by cases he⟩
 by_cases ht:t < T.length
 .rw[Qbf ht]at hq;exact(h.at ht).fr q hq
 .rw[Qbc (by omega)]at hq
  cases hq
theorem QNP {T:List Bat} (h:BookOk T) {i:Nat} (hi:i < T.length):s38 [.sl 5 (T.map QO.enc),DI i,.sl 0 []]=some (.sl 1 (((List.range T.length).map (Qao T i [] T.length)).map rBl.enc)):=by
 simp only[s38,sp3,QR,Qam,Qar];rw[if_pos ⟨by omega,by omega,h.le,QHg h,by simp,QNG h⟩,Int.toNat_natCast]; rfl
theorem QNV {T:List Bat} (h:BookOk T):s40 [.sl 5 (T.map QO.enc)]=some (.sl 1 ((QI T).map Qt.enc)):=by
 simp only[s40,sp1,QR];rw[if_pos h]; rfl
theorem QNK {b:List Bat} (h:QLq b=true) {i:Nat} (hi:i < b.length):Qo4 b i=(Qj7 b i,0):=by
 unfold Qo4;rw[if_pos ((QLJ h).2.2.2 i hi),Int.toNat_natCast]
theorem QMM (b:List Bat) (g:Nat->Nat->Int):(QLx b g).length=b.length:=by simp[QLx]
theorem QML {w:Int} (h:QLK w) {n:Nat} (hn:0 < n) (h8:n<=1000):∃i:Nat,i < n/\w.tmod (n:Int)=i/\IntKind.i64.wrap w=w/\IntKind.i64.wrap (i:Int)=i:=by
 unfold QLK at h;have h1:=Int.emod_nonneg w (show(n:Int)≠0 by omega)
 have h2:=Int.emod_lt_of_pos w (show(0:Int) < n by omega)
 obtain⟨i,hi⟩:∃i:Nat,w % (n:Int)=i:=⟨(w % (n:Int)).toNat,by omega⟩
 exact⟨i,by omega,by rw[Int.tmod_eq_emod_of_nonneg h.1,hi],Qa w (by omega) (by omega),Qa _ (by omega) (by omega)⟩
end Go.Proofs.YtnfeakhkfehkhaaGreatDoor
