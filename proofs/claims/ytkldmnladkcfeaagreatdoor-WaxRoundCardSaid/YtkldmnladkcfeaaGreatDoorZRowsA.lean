/-
  What the laws of the wax chapter are handed reads as plain data. Conditions: none.
-/
import Derived.Test.YtkldmnladkcfeaaGreatDoorZAwake
import Derived.Test.YtkldmnladkcfeaaGreatDoorZGlobIn
import Derived.Test.YtkldmnladkcfeaaGreatDoorZAmE
import Derived.ChangeOld
import Derived.SevenTiedAt
import Derived.Stop.Joined
namespace Go.Proofs.YtkldmnladkcfeaaGreatDoor
open Go Go.ChangeShapes Go.WideShapes Go.ChangeAt Go.RowKit
set_option linter.unusedSimpArgs false
set_option linter.unusedVariables false
theorem ownK : ownKnob Tryz.prog.godebug = none := by kernel_rfl
theorem laidOutP : laidOutB Tryz.prog = true := by kernel_rfl
theorem readI : Reads Tryz.prog 3 rInt (fun n => (Lit.int .i64 n).wf = true) := reads_i Tryz.underlying3 (by kernel_rfl)
theorem readS : Reads Tryz.prog 9 rStr (fun s => s.size ≤ reachBytes) := reads_s Tryz.underlying9 (by kernel_rfl)
theorem readSpn : Reads Tryz.prog 35 rSpn (fun _ => True) := (reads_st (P := Tryz.prog) (t := 35) rSpn (fun x : Int × Int × Unit => ⟨x.1, x.2.1⟩) Tryz.underlying35 (fields_cons readI rfl (fields_cons readI rfl (fields_nil _))) (by kernel_rfl) rfl (fun _ => rfl)).mono fun _ _ => trivial
theorem readSpns : Reads Tryz.prog 75 (slRow rSpn) (fun _ => True) := (reads_sl (P := Tryz.prog) (t := 75) Tryz.underlying75 (by kernel_rfl) readSpn (by decide) (Nat.le_of_ble_eq_true (by kernel_rfl))).mono fun _ _ => trivial
theorem readPrp : Reads Tryz.prog 79 rPrp (fun b => b.name.size ≤ reachBytes) := (reads_st (P := Tryz.prog) (t := 79) rPrp (fun x : ByteArray × Int × Unit => ⟨x.1, x.2.1⟩) Tryz.underlying79 (fields_cons readS rfl (fields_cons readI rfl (fields_nil _))) (by kernel_rfl) rfl (fun _ => rfl)).mono (by rintro _ ⟨x, rfl, h, _⟩; exact h)
theorem readPrps : Reads Tryz.prog 22 (slRow rPrp) (fun l => ∀ c ∈ l, c.name.size ≤ reachBytes) := (reads_sl (P := Tryz.prog) (t := 22) Tryz.underlying22 (by kernel_rfl) readPrp (by decide) (Nat.le_of_ble_eq_true (by kernel_rfl))).mono fun _ h => h.1
theorem readKnd : Reads Tryz.prog 77 rKnd (fun b => b.name.size ≤ reachBytes) := (reads_st (P := Tryz.prog) (t := 77) rKnd (fun x : ByteArray × List Spn × Unit => ⟨x.1, x.2.1⟩) Tryz.underlying77 (fields_cons readS rfl (fields_cons readSpns rfl (fields_nil _))) (by kernel_rfl) rfl (fun _ => rfl)).mono (by rintro _ ⟨x, rfl, h, _⟩; exact h)
theorem readKnds : Reads Tryz.prog 23 (slRow rKnd) (fun l => ∀ c ∈ l, c.name.size ≤ reachBytes) := (reads_sl (P := Tryz.prog) (t := 23) Tryz.underlying23 (by kernel_rfl) readKnd (by decide) (Nat.le_of_ble_eq_true (by kernel_rfl))).mono fun _ h => h.1
theorem readTbl : Reads Tryz.prog 25 rTbl namesOk := (reads_st (P := Tryz.prog) (t := 25) rTbl (fun x : List Prp × List Knd × Int × Unit => ⟨x.1, x.2.1, x.2.2.1⟩) Tryz.underlying25 (fields_cons readPrps rfl (fields_cons readKnds rfl (fields_cons readI rfl (fields_nil _)))) (by kernel_rfl) rfl (fun _ => rfl)).mono (by
  rintro _ ⟨x, rfl, h, h2, _⟩
  exact ⟨fun c hc => Nat.le_trans (h c hc) (by decide), fun c hc => Nat.le_trans (h2 c hc) (by decide)⟩)
theorem readInts : Reads Tryz.prog 32 (slRow rInt) (fun _ => True) := (reads_sl (P := Tryz.prog) (t := 32) Tryz.underlying32 (by kernel_rfl) readI (by decide) (Nat.le_of_ble_eq_true (by kernel_rfl))).mono fun _ _ => trivial
theorem cStr_de (s : ByteArray) : cStr.dec (cStr.enc s) = some s := rfl
theorem cInts_en (l : List Int) : (cList rInt).dec ((cList rInt).enc l) = some l := cList_dec rInt l _ rfl
noncomputable def startW (os : Os) : World := World.laidAll Tryz.prog os Rows.waxChecksRow.laid
theorem start_met (os : Os) (args : Array Value) : laidMetH Tryz.prog Rows.waxChecksRow.laid ((startW os).forCall (fun _ _ => 0) ⟨#[], args, []⟩).memory := by
  rw [MakeChecks.laidMetH_plain _ _ _ (by kernel_rfl)]
  exact laidMet_laidAll _ (by kernel_rfl) (by kernel_rfl)
theorem start_shaped (os : Os) (args : Array Value) : ((startW os).forCall (fun _ _ => 0) ⟨#[], args, []⟩).Shaped Tryz.prog := World.shaped_of_ZipB (by kernel_rfl) (by kernel_rfl)
end Go.Proofs.YtkldmnladkcfeaaGreatDoor
