/-
  What the outright laws of the dip chapter call. Conditions: none.
-/
import Derived.Test.YtcgacojnfkklaaaGreatDoorZAwake
import Derived.Test.YtcgacojnfkklaaaGreatDoorZLawR
import Derived.Test.YtcgacojnfkklaaaGreatDoorZMon
namespace Go.Proofs.YtcgacojnfkklaaaGreatDoor
open Go.RowKit
set_option linter.unusedSimpArgs false
set_option linter.unusedVariables false
def tb : List (Nat × (List D → Option D)) := (22, s22) :: (20, s20) :: (23, s23) :: (26, s26) :: (40, s40) :: (41, s41) :: (42, s42) :: (43, s43) :: (44, s44) :: (39, s39) :: []
theorem dtb : DelOk Tryz.prog (delOf tb) := del_cons (del_cons (del_cons (del_cons (del_cons (del_cons (del_cons (del_cons (del_cons (del_cons del_nil call39 ok39) call44 ok44) call43 ok43) call42 ok42) call41 ok41) call40 ok40) call26 ok26) call23 ok23) call20 ok20) call22 ok22
theorem rDip_decT (l : List Dip) (n : Nat) : (cList rDip).dec (.sl 4 ((l.map rDip.enc).take n)) = some (l.take n) := by rw [← List.map_take]; exact rDip_decL _
theorem rDip_decD (l : List Dip) (n : Nat) : (cList rDip).dec (.sl 4 ((l.map rDip.enc).drop n)) = some (l.drop n) := by rw [← List.map_drop]; exact rDip_decL _
theorem rInt_decT (l : List Int) (n : Nat) : (cList rInt).dec (.sl 1 ((l.map rInt.enc).take n)) = some (l.take n) := by rw [← List.map_take]; exact rInt_decL _
theorem rInt_decD (l : List Int) (n : Nat) : (cList rInt).dec (.sl 1 ((l.map rInt.enc).drop n)) = some (l.drop n) := by rw [← List.map_drop]; exact rInt_decL _
theorem rW_decL (l : List Int) : (cList (rK .u16)).dec (.sl 1 (l.map (rK .u16).enc)) = some l := cList_dec (rK .u16) l 1 rfl
theorem warmed_in {x : Dsh} {l : List Dip} {y : List Int} (hl : okL x l) : wIn x l (warmedV x l y) := by
  refine ⟨by simp [warmedV, warmedK], fun k hk => ?_⟩
  obtain ⟨B, hB, e1, e2, b0, b1, b2⟩ := okL_bath hl k hk
  have hlen : k < (warmedV x l y).length := by simp [warmedV, warmedK]; exact hk
  rw [getD_at _ _ _ hlen]
  simp only [warmedV, warmedK, List.getElem_map, List.getElem_range]
  rw [getD_at _ _ _ hk, e2]
  exact among_bd b1
structure Trn where
  plan : List Dip
  warm : List Int
def rTrn : Row Trn := ⟨2, fun x => [.sl 4 (x.plan.map rDip.enc), .sl 1 (x.warm.map (rK .u16).enc)], fun d => match d with
  | [a, b] => ((cList rDip).dec a).bind fun p => ((cList (rK .u16)).dec b).map fun w => ⟨p, w⟩
  | _ => none, fun x => by simp [rW_decL, cDips_de], fun d x h => by
  split at h
  · simp only [Option.bind_eq_some_iff, Option.map_eq_some_iff] at h
    obtain ⟨p, hp, w, hw, rfl⟩ := h
    exact limp_cons ((cList rDip).ed _ _ hp) (limp_cons ((cList (rK .u16)).ed _ _ hw) (LImp.refl _))
  · cases h⟩
theorem rTrn_enc (x : Trn) : rTrn.enc x = [.sl 4 (x.plan.map rDip.enc), .sl 1 (x.warm.map (rK .u16).enc)] := rfl
structure Ask where
  plan : List Dip
  bound : Int
  warm : List Int
def rAsk : Row Ask := ⟨3, fun x => [.sl 4 (x.plan.map rDip.enc), DI x.bound, .sl 1 (x.warm.map (rK .u16).enc)], fun d => match d with
  | [a, .v (.int .i64 n), b] => ((cList rDip).dec a).bind fun p => ((cList (rK .u16)).dec b).map fun w => ⟨p, n, w⟩
  | _ => none, fun x => by simp [rW_decL, cDips_de, DI], fun d x h => by
  split at h
  · simp only [Option.bind_eq_some_iff, Option.map_eq_some_iff] at h
    obtain ⟨p, hp, w, hw, rfl⟩ := h
    exact limp_cons ((cList rDip).ed _ _ hp) (limp_cons (DImp.refl _) (limp_cons ((cList (rK .u16)).ed _ _ hw) (LImp.refl _)))
  · cases h⟩
theorem rAsk_enc (x : Ask) : rAsk.enc x = [.sl 4 (x.plan.map rDip.enc), DI x.bound, .sl 1 (x.warm.map (rK .u16).enc)] := rfl
end Go.Proofs.YtcgacojnfkklaaaGreatDoor
