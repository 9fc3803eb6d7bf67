/-
  What the laws of Fewest are handed reads as plain data. Conditions: none.
-/
import Derived.Test.YtnfeakhkfehkhaaGreatDoorZRowsB
import Derived.Test.YtnfeakhkfehkhaaGreatDoorZLaw11
set_option linter.unusedSimpArgs false
set_option linter.unusedVariables false
namespace Go.Proofs.YtnfeakhkfehkhaaGreatDoor
open Go Go.ChangeShapes Go.WideShapes Go.ChangeAt Go.RowKit
theorem QOu:Reads Tryz.prog 26 (Qwq Qt) (λl=>l.length < 17592186044416):=
 (QiZ (P:=Tryz.prog) (t:=26) 17592186044414 (by omega) Tryz.underlying26 (by kernel_rfl) Qtg (by decide) (λn hn=>by
  have hb:8<=Tryz.prog.bytesOf 3:=Zb (by kernel_rfl)
  have:n*8<=reachBytes:=Nat.le_trans (Nat.mul_le_mul_left _ hb) hn;unfold reachBytes at this; omega)).mono λl h=>by have:=h.2; omega
theorem QON:Reads Tryz.prog 69 QOM (λx=>x.comp.length < 17592186044416/\x.good.length < 17592186044416/\QLK x.list):=(Qrl (P:=Tryz.prog) (t:=69) QOM (λx:List Int×List Int×Int×Unit=>⟨x.1,x.2.1,x.2.2.1⟩) Tryz.underlying69 (QbV QOu rfl (QbV QOu rfl (QbV QN2 rfl (QkJ _)))) (by kernel_rfl) rfl (λ_=>rfl)).mono (by rintro _ ⟨x,rfl,h1,h2,h3,_⟩; exact⟨h1,h2,wf8 h3⟩)
end Go.Proofs.YtnfeakhkfehkhaaGreatDoor
