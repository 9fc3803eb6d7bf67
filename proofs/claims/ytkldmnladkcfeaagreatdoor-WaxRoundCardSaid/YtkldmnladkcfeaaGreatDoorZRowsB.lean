/-
  What the laws that do not compare are handed reads as plain data. Conditions: none.
-/
import Derived.Test.YtkldmnladkcfeaaGreatDoorZRowsA
import Derived.Test.YtkldmnladkcfeaaGreatDoorZLawT
namespace Go.Proofs.YtkldmnladkcfeaaGreatDoor
open Go Go.ChangeShapes Go.WideShapes Go.ChangeAt Go.RowKit
set_option linter.unusedSimpArgs false
set_option linter.unusedVariables false
theorem read8 : Reads Tryz.prog 5 (rK .u8) (fun n => (Lit.int .u8 n).wf = true) := reads_k Tryz.underlying5 (by kernel_rfl)
theorem wf8 {n : Int} (h : (Lit.int .u8 n).wf = true) : 0 ≤ n ∧ n ≤ 255 := by
  have e : IntKind.u8.min = 0 := by decide
  have e2 : IntKind.u8.max = 255 := by decide
  simpa only [Lit.wf, e, e2, Bool.and_eq_true, decide_eq_true_eq] using h
theorem read16 : Reads Tryz.prog 57 (rK .u16) (fun n => (Lit.int .u16 n).wf = true) := reads_k Tryz.underlying57 (by kernel_rfl)
theorem wf16 {n : Int} (h : (Lit.int .u16 n).wf = true) : 0 ≤ n ∧ n ≤ 65535 := by
  have e : IntKind.u16.min = 0 := by decide
  have e2 : IntKind.u16.max = 65535 := by decide
  simpa only [Lit.wf, e, e2, Bool.and_eq_true, decide_eq_true_eq] using h
theorem read32 : Reads Tryz.prog 80 (rK .u32) (fun n => (Lit.int .u32 n).wf = true) := reads_k Tryz.underlying80 (by kernel_rfl)
theorem wf32 {n : Int} (h : (Lit.int .u32 n).wf = true) : 0 ≤ n ∧ n ≤ 4294967295 := by
  have e : IntKind.u32.min = 0 := by decide
  have e2 : IntKind.u32.max = 4294967295 := by decide
  simpa only [Lit.wf, e, e2, Bool.and_eq_true, decide_eq_true_eq] using h
theorem readWords : Reads Tryz.prog 58 (slRow (rK .u16)) wordOk :=
  (reads_slN (P := Tryz.prog) (t := 58) 140737488355328 (by omega) Tryz.underlying58 (by kernel_rfl) read16 (by decide) (fun n hn => by
    have hb : 1 ≤ Tryz.prog.bytesOf 57 := Nat.le_of_ble_eq_true (by kernel_rfl)
    have : n * 1 ≤ reachBytes := Nat.le_trans (Nat.mul_le_mul_left _ hb) hn
    unfold reachBytes at this; omega)).mono fun l h => fun x hx => wf16 (h.1 x hx)
theorem readMlt : Reads Tryz.prog 60 rMlt mltOk := (reads_st (P := Tryz.prog) (t := 60) rMlt (fun x : Int × Int × Int × List Int × List Int × Int × Unit => ⟨x.1, x.2.1, x.2.2.1, x.2.2.2.1, x.2.2.2.2.1, x.2.2.2.2.2.1⟩) Tryz.underlying60 (fields_cons read8 rfl (fields_cons read8 rfl (fields_cons read16 rfl (fields_cons readWords rfl (fields_cons readWords rfl (fields_cons read8 rfl (fields_nil _))))))) (by kernel_rfl) rfl (fun _ => rfl)).mono (by
  rintro _ ⟨x, rfl, h1, h2, h3, h4, h5, h6, _⟩
  exact ⟨wf8 h1, wf8 h2, wf16 h3, h4, h5, wf8 h6⟩)
theorem readMor : Reads Tryz.prog 82 rMor morOk := (reads_st (P := Tryz.prog) (t := 82) rMor (fun x : Int × Int × Int × List Int × Unit => ⟨x.1, x.2.1, x.2.2.1, x.2.2.2.1⟩) Tryz.underlying82 (fields_cons read8 rfl (fields_cons read8 rfl (fields_cons read32 rfl (fields_cons readWords rfl (fields_nil _))))) (by kernel_rfl) rfl (fun _ => rfl)).mono (by
  rintro _ ⟨x, rfl, h1, h2, h3, h4, _⟩
  exact ⟨wf8 h1, wf8 h2, wf32 h3, h4⟩)
theorem list3 {α : Type} {l : List α} (h : l.length = 3) : ∃ a b c, l = [a, b, c] := by
  match l, h with
  | [a, b, c], _ => exact ⟨a, b, c, rfl⟩
def mkThr (l : List Int) : Thr := ⟨l.getD 0 0, l.getD 1 0, l.getD 2 0⟩
theorem readThr16 : Reads Tryz.prog 68 (rThr .u16) (thrOk 65535) := (reads_arr (P := Tryz.prog) (t := 68) (rThr .u16) mkThr Tryz.underlying68 read16 (by kernel_rfl) rfl (fun l h => by obtain ⟨a, b, c, rfl⟩ := list3 h; rfl)).mono (by
  rintro _ ⟨l, rfl, hl, hk⟩
  obtain ⟨a, b, c, rfl⟩ := list3 hl
  exact ⟨wf16 (hk a (by simp)), wf16 (hk b (by simp)), wf16 (hk c (by simp))⟩)
theorem readThr8 : Reads Tryz.prog 86 (rThr .u8) (thrOk 255) := (reads_arr (P := Tryz.prog) (t := 86) (rThr .u8) mkThr Tryz.underlying86 read8 (by kernel_rfl) rfl (fun l h => by obtain ⟨a, b, c, rfl⟩ := list3 h; rfl)).mono (by
  rintro _ ⟨l, rfl, hl, hk⟩
  obtain ⟨a, b, c, rfl⟩ := list3 hl
  exact ⟨wf8 (hk a (by simp)), wf8 (hk b (by simp)), wf8 (hk c (by simp))⟩)
end Go.Proofs.YtkldmnladkcfeaaGreatDoor
