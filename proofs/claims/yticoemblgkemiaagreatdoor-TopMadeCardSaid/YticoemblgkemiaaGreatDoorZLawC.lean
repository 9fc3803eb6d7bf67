/-
  What the laws of the trace chapter that do not compare have in common. Conditions: none.
-/
import Derived.Test.YticoemblgkemiaaGreatDoorZLawA
set_option linter.unusedSimpArgs false
set_option linter.unusedVariables false
namespace Go.Proofs.YticoemblgkemiaaGreatDoor
open Go.RowKit
def Qpy (n:Int):Prop:=0<=n/\n<=255
instance (n:Int):Decidable (Qpy n):=inferInstanceAs (Decidable (_/\_))
theorem Qze {b:List Bat} (h:Qpr b=true):ValidB b/\b.length<=8/\1<=b.length/\∀i:Nat,i < b.length->QbB b i=0:=by
 unfold Qpr at h;have h0:(Qaf b).2.2=0:=beq_iff_eq.1 h;have hv:=(QbQ b).1 h0;refine⟨hv,hv.ok.le,hv.ok.pos,λi hi=>?_⟩;unfold QbB;rw[if_pos h0,if_pos (Qal.2 (by omega))]
end Go.Proofs.YticoemblgkemiaaGreatDoor
