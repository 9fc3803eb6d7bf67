/-
  What the outright laws of the dip chapter call. Conditions: none.
-/
import Derived.Test.YtcgacojnfkklaaaGreatDoorZAwake
import Derived.Test.YtcgacojnfkklaaaGreatDoorZLawR
import Derived.Test.YtcgacojnfkklaaaGreatDoorZMon
namespace Go.Proofs.YtcgacojnfkklaaaGreatDoor
open Go.RowKit
set_option linter.unusedSimpArgs false
set_option linter.unusedVariables false
def tb : List (Nat × (List D → Option D)) := (22, s22) :: (20, s20) :: (23, s23) :: (26, s26) :: (40, s40) :: (41, s41) :: (42, s42) :: (43, s43) :: (44, s44) :: (39, s39) :: []
theorem dtb : DelOk Tryz.prog (delOf tb) := del_cons (del_cons (del_cons (del_cons (del_cons (del_cons (del_cons (del_cons (del_cons (del_cons del_nil call39 ok39) call44 ok44) call43 ok43) call42 ok42) call41 ok41) call40 ok40) call26 ok26) call23 ok23) call20 ok20) call22 ok22
theorem rW_decL (l : List Int) : (cList (rK .u16)).dec (.sl 1 (l.map (rK .u16).enc)) = some l := cList_dec (rK .u16) l 1 rfl
structure Trn where
  plan : List Dip
  warm : List Int
def rTrn : Row Trn := ⟨2, fun x => [.sl 4 (x.plan.map rDip.enc), .sl 1 (x.warm.map (rK .u16).enc)], fun d => match d with
  | [a, b] => ((cList rDip).dec a).bind fun p => ((cList (rK .u16)).dec b).map fun w => ⟨p, w⟩
  | _ => none, fun x => by simp [rW_decL, cDips_de], fun d x h => by
  split at h
  · simp only [Option.bind_eq_some_iff, Option.map_eq_some_iff] at h
    obtain ⟨p, hp, w, hw, rfl⟩ := h
    exact limp_cons ((cList rDip).ed _ _ hp) (limp_cons ((cList (rK .u16)).ed _ _ hw) (LImp.refl _))
  · cases h⟩
theorem rTrn_enc (x : Trn) : rTrn.enc x = [.sl 4 (x.plan.map rDip.enc), .sl 1 (x.warm.map (rK .u16).enc)] := rfl
end Go.Proofs.YtcgacojnfkklaaaGreatDoor
