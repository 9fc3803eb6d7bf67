/-
  What DipFewest is handed reads as plain data. Conditions: none.
-/
import Derived.Test.YtcgacojnfkklaaaGreatDoorZLaw11
import Derived.Test.YtcgacojnfkklaaaGreatDoorZRowsA
namespace Go.Proofs.YtcgacojnfkklaaaGreatDoor
open Go Go.ChangeShapes Go.WideShapes Go.ChangeAt Go.RowKit
set_option linter.unusedSimpArgs false
set_option linter.unusedVariables false
theorem read8 : Reads Tryz.prog 5 (rK .u8) (fun n => (Lit.int .u8 n).wf = true) := reads_k Tryz.underlying5 (by kernel_rfl)
theorem wf8 {n : Int} (h : (Lit.int .u8 n).wf = true) : 0 ≤ n ∧ n ≤ 255 := by
  have e : IntKind.u8.min = 0 := by decide
  have e2 : IntKind.u8.max = 255 := by decide
  simpa only [Lit.wf, e, e2, Bool.and_eq_true, decide_eq_true_eq] using h
theorem readOcts : Reads Tryz.prog 77 (slRow (rK .u8)) octOk :=
  (reads_slN (P := Tryz.prog) (t := 77) 140737488355328 (by omega) Tryz.underlying77 (by kernel_rfl) read8 (by decide) (fun n hn => by
    have hb : 1 ≤ Tryz.prog.bytesOf 5 := Nat.le_of_ble_eq_true (by kernel_rfl)
    have : n * 1 ≤ reachBytes := Nat.le_trans (Nat.mul_le_mul_left _ hb) hn
    unfold reachBytes at this; omega)).mono fun l h => fun x hx => wf8 (h.1 x hx)
theorem readCho : Reads Tryz.prog 79 rCho (fun y => i64Ok y.of.bound ∧ octOk y.dips) := (reads_st (P := Tryz.prog) (t := 79) rCho (fun x : Wnt × List Int × Unit => ⟨x.1, x.2.1⟩) Tryz.underlying79 (fields_cons readWnt rfl (fields_cons readOcts rfl (fields_nil _))) (by kernel_rfl) rfl (fun _ => rfl)).mono (by rintro _ ⟨x, rfl, h1, h2, _⟩; exact ⟨h1, h2⟩)
end Go.Proofs.YtcgacojnfkklaaaGreatDoor
