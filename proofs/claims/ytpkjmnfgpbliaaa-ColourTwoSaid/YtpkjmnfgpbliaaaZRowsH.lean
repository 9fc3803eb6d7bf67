/-
  What the law of two machines is handed reads as plain data. Conditions: none.
-/
import Derived.Test.YtpkjmnfgpbliaaaZLaw11
import Derived.Test.YtpkjmnfgpbliaaaZRowsD
namespace Go.Proofs.Ytpkjmnfgpbliaaa
open Go.RowKit
set_option linter.unusedSimpArgs false
set_option linter.unusedVariables false

theorem two8 {α : Type} {l : List α} (h : l.length = 2) : ∃ a b, l = [a, b] := by
  match l, h with
  | [a, b], _ => exact ⟨a, b, rfl⟩
/-- Two numbers of 8 bits. -/
def rEight : Row (Int × Int) := ⟨2, fun x => [.v (.int .u8 x.1), .v (.int .u8 x.2)], fun d => match d with | [.v (.int .u8 a), .v (.int .u8 b)] => some (a, b) | _ => none, fun _ => rfl, fun d x h => by
  split at h
  · cases h; exact LImp.refl _
  · cases h⟩
def mkEight (l : List Int) : Int × Int := (l.getD 0 0, l.getD 1 0)
theorem readEight : Reads Try.prog 84 rEight (fun y => ∃ l : List Int, y = mkEight l ∧ l.length = 2 ∧ ∀ x ∈ l, (Lit.int .u8 x).wf = true) := reads_arr (P := Try.prog) (t := 84) rEight mkEight Try.underlying84 read8 (by kernel_rfl) rfl (fun l h => by obtain ⟨a, b, rfl⟩ := two8 h; rfl)
theorem readShr : Reads Try.prog 86 rShr shrOk := (reads_st (P := Try.prog) (t := 86) rShr (fun x : (Int × Int) × Int × List Int × Unit => ⟨x.1.1, x.1.2, x.2.1, x.2.2.1⟩) Try.underlying86 (fields_cons readEight rfl (fields_cons read8 rfl (fields_cons readBytes rfl (fields_nil _)))) (by kernel_rfl) rfl (fun _ => rfl)).mono (by
  rintro _ ⟨x, rfl, ⟨l, hl, hl2, hk⟩, h1, h2, _⟩
  obtain ⟨a, b, rfl⟩ := two8 hl2
  have e : x.1 = (a, b) := hl
  have ka := wf8 (hk a (by simp))
  have kb := wf8 (hk b (by simp))
  refine ⟨?_, ?_, wf8 h1, h2⟩
  · rw [e]; exact ka
  · rw [e]; exact kb)
end Go.Proofs.Ytpkjmnfgpbliaaa
