/-
  What the laws of the colour chapter are handed reads as shops, batches and the like. Conditions: none.
-/
import Derived.Test.YtpkjmnfgpbliaaaZAwake
import Derived.Test.YtpkjmnfgpbliaaaZAmC
namespace Go.Proofs.Ytpkjmnfgpbliaaa
open Go.RowKit
set_option linter.unusedSimpArgs false
set_option linter.unusedVariables false

theorem readI : Reads Try.prog 3 rInt (fun n => (Lit.int .i64 n).wf = true) := reads_i Try.underlying3 (by kernel_rfl)
theorem readS : Reads Try.prog 9 rStr (fun s => s.size ≤ reachBytes) := reads_s Try.underlying9 (by kernel_rfl)
theorem readSpn : Reads Try.prog 24 rSpn (fun _ => True) := (reads_st (P := Try.prog) (t := 24) rSpn (fun x : Int × Int × Unit => ⟨x.1, x.2.1⟩) Try.underlying24 (fields_cons readI rfl (fields_cons readI rfl (fields_nil _))) (by kernel_rfl) rfl (fun _ => rfl)).mono fun _ _ => trivial
theorem readBat : Reads Try.prog 28 rBat (fun _ => True) := (reads_st (P := Try.prog) (t := 28) rBat (fun x : Int × Int × Unit => ⟨x.1, x.2.1⟩) Try.underlying28 (fields_cons readI rfl (fields_cons readI rfl (fields_nil _))) (by kernel_rfl) rfl (fun _ => rfl)).mono fun _ _ => trivial
theorem readInts : Reads Try.prog 42 (slRow rInt) (fun _ => True) := (reads_sl (P := Try.prog) (t := 42) Try.underlying42 (by kernel_rfl) readI (by decide) (Nat.le_of_ble_eq_true (by kernel_rfl))).mono fun _ _ => trivial
theorem readCol : Reads Try.prog 67 rCol (fun c => c.name.size ≤ reachBytes) := (reads_st (P := Try.prog) (t := 67) rCol (fun x : ByteArray × Spn × List Int × Unit => ⟨x.1, x.2.1, x.2.2.1⟩) Try.underlying67 (fields_cons readS rfl (fields_cons readSpn rfl (fields_cons readInts rfl (fields_nil _)))) (by kernel_rfl) rfl (fun _ => rfl)).mono (by rintro _ ⟨x, rfl, h, _⟩; exact h)
theorem readCols : Reads Try.prog 22 (slRow rCol) (fun l => ∀ c ∈ l, c.name.size ≤ reachBytes) := (reads_sl (P := Try.prog) (t := 22) Try.underlying22 (by kernel_rfl) readCol (by decide) (Nat.le_of_ble_eq_true (by kernel_rfl))).mono fun _ h => h.1
theorem readBats : Reads Try.prog 40 (slRow rBat) (fun _ => True) := (reads_sl (P := Try.prog) (t := 40) Try.underlying40 (by kernel_rfl) readBat (by decide) (Nat.le_of_ble_eq_true (by kernel_rfl))).mono fun _ _ => trivial
theorem readShp : Reads Try.prog 26 rShp namesOk := (reads_st (P := Try.prog) (t := 26) rShp (fun x : List Col × Spn × Int × Unit => ⟨x.1, x.2.1, x.2.2.1⟩) Try.underlying26 (fields_cons readCols rfl (fields_cons readSpn rfl (fields_cons readI rfl (fields_nil _)))) (by kernel_rfl) rfl (fun _ => rfl)).mono (by rintro _ ⟨x, rfl, h, _⟩; exact fun c hc => Nat.le_trans (h c hc) (by decide))
/-- A shop that came in. -/
theorem arg_shop {H : Type} {enc : TypeId × Value → H} {w : World} {v : Value} {d : DataW H} {p : List MemPlace} (ht : DataW.Trod enc Try.prog w 0 (fun _ => true) true 26 v d p) (hw : ∀ n ∈ d.weights Try.prog 26, n ≤ reachBytes) :
    ∃ s, namesOk s ∧ Rel (oldM w) w ((cAgg rShp).enc s) v := by
  exact arg_agg readShp (by decide) ht hw
theorem readChg : Reads Try.prog 30 rChg (fun _ => True) := (reads_st (P := Try.prog) (t := 30) rChg (fun x : Int × Int × Bat × Unit => ⟨x.1, x.2.1, x.2.2.1⟩) Try.underlying30 (fields_cons readI rfl (fields_cons readI rfl (fields_cons readBat rfl (fields_nil _)))) (by kernel_rfl) rfl (fun _ => rfl)).mono fun _ _ => trivial
end Go.Proofs.Ytpkjmnfgpbliaaa
