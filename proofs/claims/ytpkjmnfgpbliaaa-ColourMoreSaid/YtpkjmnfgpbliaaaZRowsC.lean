/-
  What the laws of truths are handed reads as plain data. Conditions: none.
-/
import Derived.Test.YtpkjmnfgpbliaaaZLaw12
import Derived.Test.YtpkjmnfgpbliaaaZRowsA
import Derived.ProofKit
import Derived.OpenShut
import Derived.ChangeOld
namespace Go.Proofs.Ytpkjmnfgpbliaaa
open Go.RowKit
set_option linter.unusedSimpArgs false
set_option linter.unusedVariables false

theorem ownK : ownKnob Try.prog.godebug = none := by kernel_rfl
theorem laidOutP : laidOutB Try.prog = true := by kernel_rfl
theorem cBats_de (l : List Bat) : (cList rBat).dec ((cList rBat).enc l) = some l := cList_dec rBat l _ rfl
theorem list3 {α : Type} {l : List α} (h : l.length = 3) : ∃ a b c, l = [a, b, c] := by
  match l, h with
  | [a, b, c], _ => exact ⟨a, b, c, rfl⟩
theorem read8 : Reads Try.prog 5 (rK .u8) (fun n => (Lit.int .u8 n).wf = true) := reads_k Try.underlying5 (by kernel_rfl)
theorem read16 : Reads Try.prog 59 (rK .u16) (fun n => (Lit.int .u16 n).wf = true) := reads_k Try.underlying59 (by kernel_rfl)
/-- Three numbers of 16 bits. -/
def rThree : Row (Int × Int × Int) := ⟨3, fun x => [.v (.int .u16 x.1), .v (.int .u16 x.2.1), .v (.int .u16 x.2.2)], fun d => match d with | [.v (.int .u16 a), .v (.int .u16 b), .v (.int .u16 c)] => some (a, b, c) | _ => none, fun _ => rfl, fun d x h => by
  split at h
  · cases h; exact LImp.refl _
  · cases h⟩
def mkThree (l : List Int) : Int × Int × Int := (l.getD 0 0, l.getD 1 0, l.getD 2 0)
theorem readThree : Reads Try.prog 60 rThree (fun y => ∃ l : List Int, y = mkThree l ∧ l.length = 3 ∧ ∀ x ∈ l, (Lit.int .u16 x).wf = true) := reads_arr (P := Try.prog) (t := 60) rThree mkThree Try.underlying60 read16 (by kernel_rfl) rfl (fun l h => by obtain ⟨a, b, c, rfl⟩ := list3 h; rfl)
theorem wf8 {n : Int} (h : (Lit.int .u8 n).wf = true) : 0 ≤ n ∧ n ≤ 255 := by
  have e : IntKind.u8.min = 0 := by decide
  have e2 : IntKind.u8.max = 255 := by decide
  simpa only [Lit.wf, e, e2, Bool.and_eq_true, decide_eq_true_eq] using h
theorem wf16 {n : Int} (h : (Lit.int .u16 n).wf = true) : 0 ≤ n ∧ n ≤ 65535 := by
  have e : IntKind.u16.min = 0 := by decide
  have e2 : IntKind.u16.max = 65535 := by decide
  simpa only [Lit.wf, e, e2, Bool.and_eq_true, decide_eq_true_eq] using h
theorem readSty : Reads Try.prog 62 rSty styOk := (reads_st (P := Try.prog) (t := 62) rSty (fun x : Int × Int × (Int × Int × Int) × Int × Unit => ⟨x.1, x.2.1, x.2.2.1.1, x.2.2.1.2.1, x.2.2.1.2.2, x.2.2.2.1⟩) Try.underlying62 (fields_cons read8 rfl (fields_cons read16 rfl (fields_cons readThree rfl (fields_cons read8 rfl (fields_nil _))))) (by kernel_rfl) rfl (fun _ => rfl)).mono (by
  rintro _ ⟨x, rfl, h0, h1, ⟨l, hl, hl3, hk⟩, h3, _⟩
  obtain ⟨a, b, c, rfl⟩ := list3 hl3
  have e : x.2.2.1 = (a, b, c) := hl
  have ka := wf16 (hk a (by simp))
  have kb := wf16 (hk b (by simp))
  have kc := wf16 (hk c (by simp))
  refine ⟨wf8 h0, wf16 h1, ?_, ?_, ?_, wf8 h3⟩
  · rw [e]; exact ka
  · rw [e]; exact kb
  · rw [e]; exact kc)
theorem arg_stays {H : Type} {enc : TypeId × Value → H} {w : World} {v : Value} {d : DataW H} {p : List MemPlace} (ht : DataW.Trod enc Try.prog w 0 (fun _ => true) true 62 v d p) (hw : ∀ n ∈ d.weights Try.prog 62, n ≤ reachBytes) :
    ∃ s, styOk s ∧ Rel (oldM w) w ((cAgg rSty).enc s) v := by
  exact arg_agg readSty (by decide) ht hw
end Go.Proofs.Ytpkjmnfgpbliaaa
