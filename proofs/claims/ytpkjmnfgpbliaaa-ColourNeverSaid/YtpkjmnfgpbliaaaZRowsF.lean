/-
  What the law of what never shows is handed reads as plain data. Conditions: none.
-/
import Derived.Test.YtpkjmnfgpbliaaaZLaw9
import Derived.Test.YtpkjmnfgpbliaaaZRowsC
namespace Go.Proofs.Ytpkjmnfgpbliaaa
open Go.RowKit
set_option linter.unusedSimpArgs false
set_option linter.unusedVariables false

theorem cBytes_de (l : List Int) : (cList (rK .u8)).dec ((cList (rK .u8)).enc l) = some l := cList_dec (rK .u8) l _ rfl
theorem readBytes : Reads Try.prog 70 (slRow (rK .u8)) byteOk :=
  (reads_slN (P := Try.prog) (t := 70) 140737488355328 (by omega) Try.underlying70 (by kernel_rfl) read8 (by decide) (fun n hn => by
    have hb : 1 ≤ Try.prog.bytesOf 5 := Nat.le_of_ble_eq_true (by kernel_rfl)
    have : n * 1 ≤ reachBytes := Nat.le_trans (Nat.mul_le_mul_left _ hb) hn
    unfold reachBytes at this; omega)).mono fun l h => fun x hx => wf8 (h.1 x hx)
theorem readTri : Reads Try.prog 78 rTri triOk := (reads_st (P := Try.prog) (t := 78) rTri (fun x : List Int × List Int × Sty × Unit => ⟨x.1, x.2.1, x.2.2.1⟩) Try.underlying78 (fields_cons readBytes rfl (fields_cons readBytes rfl (fields_cons readSty rfl (fields_nil _)))) (by kernel_rfl) rfl (fun _ => rfl)).mono (by
  rintro _ ⟨x, rfl, h0, h1, h2, _⟩
  exact ⟨h0, h1, h2⟩)
end Go.Proofs.Ytpkjmnfgpbliaaa
