/-
  What the laws of the trace chapter that draw a truth have in common. Conditions: none.
-/
import Derived.Test.YtnfeakhkfehkhaaGreatDoorZFndC
set_option linter.unusedSimpArgs false
set_option linter.unusedVariables false
namespace Go.Proofs.YtnfeakhkfehkhaaGreatDoor
open Go.RowKit
theorem QNI {T:List Bat} (h:BookOk T):QcC T:=by
 have aX:=h.le;have ht:∀x∈T,x.takes.length<=8/\x.name.size<=20:=λx hx=>by
  obtain⟨k,hk,rfl⟩:=List.getElem_of_mem hx;have hb:=h.at hk;have h1:=Qdy hb.asc hb.fr;exact⟨by omega,QvR hb.name⟩
 refine⟨?_,λx hx=>?_,by omega⟩
 .unfold bkB;rw[Zl];intro x hx;have:=(ht x hx).1;rw[decide_eq_true_eq]; omega
 .have:=(ht x hx).2;unfold Qxi;omega
theorem QNK {b:List Bat} (h:QLq b=true) {i:Nat} (hi:i < b.length):Qo4 b i=(Qj7 b i,0):=by
 unfold Qo4;rw[if_pos ((QLJ h).2.2.2 i hi),Int.toNat_natCast]
theorem QM5 {T:List Bat} (h:ValidB T):QLq T=true:=by
 unfold QLq;rw[(Qbl T).2 h]; rfl
theorem QML {w:Int} (h:QLK w) {n:Nat} (hn:0 < n) (h8:n<=1000):∃i:Nat,i < n/\w.tmod (n:Int)=i/\IntKind.i64.wrap w=w/\IntKind.i64.wrap (i:Int)=i:=by
 unfold QLK at h;have h1:=Int.emod_nonneg w (show(n:Int)≠0 by omega)
 have h2:=Int.emod_lt_of_pos w (show(0:Int) < n by omega)
 obtain⟨i,hi⟩:∃i:Nat,w % (n:Int)=i:=⟨(w % (n:Int)).toNat,by omega⟩
 exact⟨i,by omega,by rw[Int.tmod_eq_emod_of_nonneg h.1,hi],Qa w (by omega) (by omega),Qa _ (by omega) (by omega)⟩
end Go.Proofs.YtnfeakhkfehkhaaGreatDoor
