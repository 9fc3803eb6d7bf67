/-
  What the outright laws of the dip chapter are handed reads as plain data. Conditions: none.
-/
import Derived.Test.YtcgacojnfkklaaaGreatDoorZLawB
import Derived.Test.YtcgacojnfkklaaaGreatDoorZRowsA
namespace Go.Proofs.YtcgacojnfkklaaaGreatDoor
open Go Go.ChangeShapes Go.WideShapes Go.ChangeAt Go.RowKit
set_option linter.unusedSimpArgs false
set_option linter.unusedVariables false
theorem read16 : Reads Tryz.prog 85 (rK .u16) (fun n => (Lit.int .u16 n).wf = true) := reads_k Tryz.underlying85 (by kernel_rfl)
theorem wf16 {n : Int} (h : (Lit.int .u16 n).wf = true) : 0 ≤ n ∧ n ≤ 65535 := by
  have e : IntKind.u16.min = 0 := by decide
  have e2 : IntKind.u16.max = 65535 := by decide
  simpa only [Lit.wf, e, e2, Bool.and_eq_true, decide_eq_true_eq] using h
theorem readWords : Reads Tryz.prog 64 (slRow (rK .u16)) wordOk :=
  (reads_slN (P := Tryz.prog) (t := 64) 140737488355328 (by omega) Tryz.underlying64 (by kernel_rfl) read16 (by decide) (fun n hn => by
    have hb : 1 ≤ Tryz.prog.bytesOf 85 := Nat.le_of_ble_eq_true (by kernel_rfl)
    have : n * 1 ≤ reachBytes := Nat.le_trans (Nat.mul_le_mul_left _ hb) hn
    unfold reachBytes at this; omega)).mono fun l h => fun x hx => wf16 (h.1 x hx)
theorem readTrn : Reads Tryz.prog 66 rTrn (fun y => wordOk y.warm) := (reads_st (P := Tryz.prog) (t := 66) rTrn (fun x : List Dip × List Int × Unit => ⟨x.1, x.2.1⟩) Tryz.underlying66 (fields_cons readDips rfl (fields_cons readWords rfl (fields_nil _))) (by kernel_rfl) rfl (fun _ => rfl)).mono (by rintro _ ⟨x, rfl, _, h, _⟩; exact h)
end Go.Proofs.YtcgacojnfkklaaaGreatDoor
