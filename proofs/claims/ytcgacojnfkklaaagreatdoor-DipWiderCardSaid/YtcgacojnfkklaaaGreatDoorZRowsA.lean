/-
  What the laws of the dip chapter are handed reads as plain data. Conditions: none.
-/
import Derived.Test.YtcgacojnfkklaaaGreatDoorZLawR
import Derived.Test.YtcgacojnfkklaaaGreatDoorZGlobIn
import Derived.Test.YtcgacojnfkklaaaGreatDoorZAmE
import Derived.ChangeOld
import Derived.SevenTiedAt
import Derived.Stop.Joined
namespace Go.Proofs.YtcgacojnfkklaaaGreatDoor
open Go Go.ChangeShapes Go.WideShapes Go.ChangeAt Go.RowKit
set_option linter.unusedSimpArgs false
set_option linter.unusedVariables false
theorem ownK : ownKnob Tryz.prog.godebug = none := by kernel_rfl
theorem laidOutP : laidOutB Tryz.prog = true := by kernel_rfl
theorem readI : Reads Tryz.prog 3 rInt (fun n => (Lit.int .i64 n).wf = true) := reads_i Tryz.underlying3 (by kernel_rfl)
theorem readS : Reads Tryz.prog 9 rStr (fun s => s.size ≤ reachBytes) := reads_s Tryz.underlying9 (by kernel_rfl)
def rBoo : Row Bool := ⟨1, fun b => [DB b], fun d => match d with | [.v (.bool b)] => some b | _ => none, fun _ => rfl, fun d x h => by
  split at h
  · cases h; exact LImp.refl _
  · cases h⟩
theorem readB : Reads Tryz.prog 4 rBoo (fun _ => True) := by
  refine ⟨by kernel_rfl, fun enc w fuel cs d ps h hw => ?_⟩
  cases fuel with
  | zero => simp [DataW.trod] at h
  | succ fuel =>
    simp only [DataW.trod, Tryz.underlying4] at h
    obtain ⟨b, rfl⟩ : ∃ b, cs = [Value.bool b] := by split at h <;> simp_all
    exact ⟨b, trivial, rfl, ⟨_, _, rfl, by simp [Rel, DB], rfl⟩, by simp [Value.oneCell']⟩
theorem readSpn : Reads Tryz.prog 49 rSpn (fun _ => True) := (reads_st (P := Tryz.prog) (t := 49) rSpn (fun x : Int × Int × Unit => ⟨x.1, x.2.1⟩) Tryz.underlying49 (fields_cons readI rfl (fields_cons readI rfl (fields_nil _))) (by kernel_rfl) rfl (fun _ => rfl)).mono fun _ _ => trivial
theorem readBth : Reads Tryz.prog 90 rBth (fun b => b.name.size ≤ reachBytes) := (reads_st (P := Tryz.prog) (t := 90) rBth (fun x : ByteArray × Spn × Unit => ⟨x.1, x.2.1⟩) Tryz.underlying90 (fields_cons readS rfl (fields_cons readSpn rfl (fields_nil _))) (by kernel_rfl) rfl (fun _ => rfl)).mono (by rintro _ ⟨x, rfl, h, _⟩; exact h)
theorem readBths : Reads Tryz.prog 22 (slRow rBth) (fun l => ∀ c ∈ l, c.name.size ≤ reachBytes) := (reads_sl (P := Tryz.prog) (t := 22) Tryz.underlying22 (by kernel_rfl) readBth (by decide) (Nat.le_of_ble_eq_true (by kernel_rfl))).mono fun _ h => h.1
theorem readDsh : Reads Tryz.prog 24 rDsh namesOk := (reads_st (P := Tryz.prog) (t := 24) rDsh (fun x : Int × Int × Int × Int × Int × Int × Int × Int × List Bth × Unit => ⟨x.1, x.2.1, x.2.2.1, x.2.2.2.1, x.2.2.2.2.1, x.2.2.2.2.2.1, x.2.2.2.2.2.2.1, x.2.2.2.2.2.2.2.1, x.2.2.2.2.2.2.2.2.1⟩) Tryz.underlying24 (fields_cons readI rfl (fields_cons readI rfl (fields_cons readI rfl (fields_cons readI rfl (fields_cons readI rfl (fields_cons readI rfl (fields_cons readI rfl (fields_cons readI rfl (fields_cons readBths rfl (fields_nil _)))))))))) (by kernel_rfl) rfl (fun _ => rfl)).mono (by rintro _ ⟨x, rfl, _, _, _, _, _, _, _, _, h, _⟩; exact fun c hc => Nat.le_trans (h c hc) (by decide))
theorem readTap : Reads Tryz.prog 26 rTap (fun _ => True) := (reads_st (P := Tryz.prog) (t := 26) rTap (fun x : Int × Int × Int × Unit => ⟨x.1, x.2.1, x.2.2.1⟩) Tryz.underlying26 (fields_cons readI rfl (fields_cons readI rfl (fields_cons readI rfl (fields_nil _)))) (by kernel_rfl) rfl (fun _ => rfl)).mono fun _ _ => trivial
theorem readDip : Reads Tryz.prog 81 rDip (fun _ => True) := (reads_st (P := Tryz.prog) (t := 81) rDip (fun x : Int × Int × Int × Bool × Unit => ⟨x.1, x.2.1, x.2.2.1, x.2.2.2.1⟩) Tryz.underlying81 (fields_cons readI rfl (fields_cons readI rfl (fields_cons readI rfl (fields_cons readB rfl (fields_nil _))))) (by kernel_rfl) rfl (fun _ => rfl)).mono fun _ _ => trivial
def dipsOk (l : List Dip) : Prop := l.length ≤ 4398046511103
instance (l : List Dip) : Decidable (dipsOk l) := inferInstanceAs (Decidable (_ ≤ _))
theorem readDips : Reads Tryz.prog 27 (slRow rDip) dipsOk :=
  (reads_slN (P := Tryz.prog) (t := 27) 4398046511103 (by omega) Tryz.underlying27 (by kernel_rfl) readDip (by decide) (fun n hn => by
    have hb : 32 ≤ Tryz.prog.bytesOf 81 := Nat.le_of_ble_eq_true (by kernel_rfl)
    have : n * 32 ≤ reachBytes := Nat.le_trans (Nat.mul_le_mul_left _ hb) hn
    unfold reachBytes at this; omega)).mono fun l h => h.2
noncomputable def startW (os : Os) : World := World.laidAll Tryz.prog os Rows.dipFollowsRow.laid
theorem start_met (os : Os) (args : Array Value) : laidMetH Tryz.prog Rows.dipFollowsRow.laid ((startW os).forCall (fun _ _ => 0) ⟨#[], args, []⟩).memory := by
  rw [MakeChecks.laidMetH_plain _ _ _ (by kernel_rfl)]
  exact laidMet_laidAll _ (by kernel_rfl) (by kernel_rfl)
theorem start_shaped (os : Os) (args : Array Value) : ((startW os).forCall (fun _ _ => 0) ⟨#[], args, []⟩).Shaped Tryz.prog := World.shaped_of_ZipB (by kernel_rfl) (by kernel_rfl)
end Go.Proofs.YtcgacojnfkklaaaGreatDoor
