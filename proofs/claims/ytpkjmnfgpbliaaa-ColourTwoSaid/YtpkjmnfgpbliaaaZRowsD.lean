/-
  What the laws that take an order are handed reads as plain data: bytes. Conditions: none.
-/
import Derived.Test.YtpkjmnfgpbliaaaZLaw8
import Derived.Test.YtpkjmnfgpbliaaaZRowsA
import Derived.ProofKit
import Derived.OpenShut
import Derived.ChangeOld
namespace Go.Proofs.Ytpkjmnfgpbliaaa
open Go.RowKit
set_option linter.unusedSimpArgs false
set_option linter.unusedVariables false

theorem ownK : ownKnob Try.prog.godebug = none := by kernel_rfl
theorem laidOutP : laidOutB Try.prog = true := by kernel_rfl
theorem cBats_de (l : List Bat) : (cList rBat).dec ((cList rBat).enc l) = some l := cList_dec rBat l _ rfl
theorem cBytes_de (l : List Int) : (cList (rK .u8)).dec ((cList (rK .u8)).enc l) = some l := cList_dec (rK .u8) l _ rfl
theorem read8 : Reads Try.prog 5 (rK .u8) (fun n => (Lit.int .u8 n).wf = true) := reads_k Try.underlying5 (by kernel_rfl)
theorem wf8 {n : Int} (h : (Lit.int .u8 n).wf = true) : 0 ≤ n ∧ n ≤ 255 := by
  have e : IntKind.u8.min = 0 := by decide
  have e2 : IntKind.u8.max = 255 := by decide
  simpa only [Lit.wf, e, e2, Bool.and_eq_true, decide_eq_true_eq] using h
theorem readBytes : Reads Try.prog 70 (slRow (rK .u8)) byteOk :=
  (reads_slN (P := Try.prog) (t := 70) 140737488355328 (by omega) Try.underlying70 (by kernel_rfl) read8 (by decide) (fun n hn => by
    have hb : 1 ≤ Try.prog.bytesOf 5 := Nat.le_of_ble_eq_true (by kernel_rfl)
    have : n * 1 ≤ reachBytes := Nat.le_trans (Nat.mul_le_mul_left _ hb) hn
    unfold reachBytes at this; omega)).mono fun l h => fun x hx => wf8 (h.1 x hx)
end Go.Proofs.Ytpkjmnfgpbliaaa
