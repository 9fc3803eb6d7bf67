/-
  What the law of the further batch is handed reads as plain data. Conditions: none.
-/
import Derived.Test.YtpkjmnfgpbliaaaZLaw10
import Derived.Test.YtpkjmnfgpbliaaaZRowsD
namespace Go.Proofs.Ytpkjmnfgpbliaaa
open Go.RowKit
set_option linter.unusedSimpArgs false
set_option linter.unusedVariables false

theorem readBatsN : Reads Try.prog 40 (slRow rBat) batsFit :=
  (reads_slN (P := Try.prog) (t := 40) 8796093021952 (by omega) Try.underlying40 (by kernel_rfl) readBat (by decide) (fun n hn => by
    have hb : 16 ≤ Try.prog.bytesOf 28 := Nat.le_of_ble_eq_true (by kernel_rfl)
    have : n * 16 ≤ reachBytes := Nat.le_trans (Nat.mul_le_mul_left _ hb) hn
    unfold reachBytes at this; omega)).mono fun l h => by have := h.2; unfold batsFit; omega
theorem readRsh : Reads Try.prog 81 rRsh rshOk := (reads_st (P := Try.prog) (t := 81) rRsh (fun x : Bat × List Int × Int × Unit => ⟨x.1, x.2.1, x.2.2.1⟩) Try.underlying81 (fields_cons readBat rfl (fields_cons readBytes rfl (fields_cons read8 rfl (fields_nil _)))) (by kernel_rfl) rfl (fun _ => rfl)).mono (by
  rintro _ ⟨x, rfl, _, h1, h2, _⟩
  exact ⟨h1, wf8 h2⟩)
end Go.Proofs.Ytpkjmnfgpbliaaa
