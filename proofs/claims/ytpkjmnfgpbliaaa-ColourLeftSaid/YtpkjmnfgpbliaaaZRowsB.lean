/-
  What the laws that compare orders are handed reads as plain data. Conditions: none.
-/
import Derived.Test.YtpkjmnfgpbliaaaZLaw4
import Derived.Test.YtpkjmnfgpbliaaaZRowsA
import Derived.ProofKit
import Derived.OpenShut
import Derived.ChangeOld
namespace Go.Proofs.Ytpkjmnfgpbliaaa
open Go.RowKit
set_option linter.unusedSimpArgs false
set_option linter.unusedVariables false

theorem ownK : ownKnob Try.prog.godebug = none := by kernel_rfl
theorem laidOutP : laidOutB Try.prog = true := by kernel_rfl
theorem cBats_de (l : List Bat) : (cList rBat).dec ((cList rBat).enc l) = some l := cList_dec rBat l _ rfl
theorem list2 {α : Type} {l : List α} (h : l.length = 2) : ∃ a b, l = [a, b] := by
  match l, h with
  | [a, b], _ => exact ⟨a, b, rfl⟩
def mkTwo (l : List Int) : Int × Int := (l.getD 0 0, l.getD 1 0)
theorem readTwo : Reads Try.prog 41 rTwo (fun _ => True) := (reads_arr (P := Try.prog) (t := 41) rTwo mkTwo Try.underlying41 readI (by kernel_rfl) rfl (fun l h => by obtain ⟨a, b, rfl⟩ := list2 h; rfl)).mono fun _ _ => trivial
theorem readPlnd : Reads Try.prog 44 rPlnd (fun _ => True) := (reads_st (P := Try.prog) (t := 44) rPlnd (fun x : (Int × Int) × List Int × List Int × Bat × Unit => ⟨x.1, x.2.1, x.2.2.1, x.2.2.2.1⟩) Try.underlying44 (fields_cons readTwo rfl (fields_cons readInts rfl (fields_cons readInts rfl (fields_cons readBat rfl (fields_nil _))))) (by kernel_rfl) rfl (fun _ => rfl)).mono fun _ _ => trivial
end Go.Proofs.Ytpkjmnfgpbliaaa
