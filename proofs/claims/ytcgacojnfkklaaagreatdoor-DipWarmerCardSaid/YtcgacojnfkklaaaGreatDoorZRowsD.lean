/-
  What DipWarmer is handed reads as plain data. Conditions: none.
-/
import Derived.Test.YtcgacojnfkklaaaGreatDoorZLaw13
import Derived.Test.YtcgacojnfkklaaaGreatDoorZRowsB
namespace Go.Proofs.YtcgacojnfkklaaaGreatDoor
open Go Go.ChangeShapes Go.WideShapes Go.ChangeAt Go.RowKit
set_option linter.unusedSimpArgs false
set_option linter.unusedVariables false
theorem list4 {α : Type} {l : List α} (h : l.length = 4) : ∃ a b c d, l = [a, b, c, d] := by
  match l, h with
  | [a, b, c, d], _ => exact ⟨a, b, c, d, rfl⟩
def mkFour (l : List Int) : Four := ⟨l.getD 0 0, l.getD 1 0, l.getD 2 0, l.getD 3 0⟩
theorem readFour : Reads Tryz.prog 86 rFour fourOk := (reads_arr (P := Tryz.prog) (t := 86) rFour mkFour Tryz.underlying86 read16 (by kernel_rfl) rfl (fun l h => by obtain ⟨a, b, c, d, rfl⟩ := list4 h; rfl)).mono (by
  rintro _ ⟨l, rfl, hl, hk⟩
  obtain ⟨a, b, c, d, rfl⟩ := list4 hl
  exact ⟨wf16 (hk a (by simp)), wf16 (hk b (by simp)), wf16 (hk c (by simp)), wf16 (hk d (by simp))⟩)
end Go.Proofs.YtcgacojnfkklaaaGreatDoor
