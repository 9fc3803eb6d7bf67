/-
  What the laws of the dip chapter are handed, as plain data. Conditions: none.
-/
import Derived.Test.YtcgacojnfkklaaaGreatDoorZLawA
namespace Go.Proofs.YtcgacojnfkklaaaGreatDoor
open Go.RowKit
set_option linter.unusedSimpArgs false
set_option linter.unusedVariables false
structure Wnt where
  kinds : List Dip
  want : Spn
  bound : Int
theorem cDips_de (l : List Dip) : (cList rDip).dec (.sl 4 (l.map rDip.enc)) = some l := cList_dec rDip l 4 rfl
def rWnt : Row Wnt := ⟨4, fun x => [.sl 4 (x.kinds.map rDip.enc), DI x.want.lo, DI x.want.hi, DI x.bound], fun d => match d with
  | [a, .v (.int .i64 l), .v (.int .i64 h), .v (.int .i64 b)] => ((cList rDip).dec a).map fun p => ⟨p, ⟨l, h⟩, b⟩
  | _ => none, fun x => by simp [cDips_de, DI], fun d x h => by
  split at h
  · simp only [Option.map_eq_some_iff] at h
    obtain ⟨p, hp, rfl⟩ := h
    exact limp_cons ((cList rDip).ed _ _ hp) (limp_cons (DImp.refl _) (limp_cons (DImp.refl _) (limp_cons (DImp.refl _) (LImp.refl _))))
  · cases h⟩
end Go.Proofs.YtcgacojnfkklaaaGreatDoor
