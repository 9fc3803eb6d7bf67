/-
  What the law of less that stays is handed reads as plain data. Conditions: none.
-/
import Derived.Test.YtpkjmnfgpbliaaaZLaw13
import Derived.Test.YtpkjmnfgpbliaaaZRowsC
namespace Go.Proofs.Ytpkjmnfgpbliaaa
open Go.RowKit
set_option linter.unusedSimpArgs false
set_option linter.unusedVariables false

theorem list6 {α : Type} {l : List α} (h : l.length = 6) : ∃ a b c d e f, l = [a, b, c, d, e, f] := by
  match l, h with
  | [a, b, c, d, e, f], _ => exact ⟨a, b, c, d, e, f, rfl⟩
def mkSix (l : List Int) : Six := ⟨l.getD 0 0, l.getD 1 0, l.getD 2 0, l.getD 3 0, l.getD 4 0, l.getD 5 0⟩
theorem readSix : Reads Try.prog 89 rSix sixOk := (reads_arr (P := Try.prog) (t := 89) rSix mkSix Try.underlying89 read16 (by kernel_rfl) rfl (fun l h => by obtain ⟨a, b, c, d, e, f, rfl⟩ := list6 h; rfl)).mono (by
  rintro _ ⟨l, rfl, hl, hk⟩
  obtain ⟨a, b, c, d, e, f, rfl⟩ := list6 hl
  exact ⟨wf16 (hk a (by simp)), wf16 (hk b (by simp)), wf16 (hk c (by simp)), wf16 (hk d (by simp)), wf16 (hk e (by simp)), wf16 (hk f (by simp))⟩)
end Go.Proofs.Ytpkjmnfgpbliaaa
