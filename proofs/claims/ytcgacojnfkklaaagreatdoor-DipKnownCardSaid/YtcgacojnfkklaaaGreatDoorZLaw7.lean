/-
  A law of the dip chapter that compares. Conditions: none.
-/
import Derived.Test.YtcgacojnfkklaaaGreatDoorZAwake
import Derived.Test.YtcgacojnfkklaaaGreatDoorZLawR
namespace Go.Proofs.YtcgacojnfkklaaaGreatDoor
open Go.RowKit
set_option linter.unusedSimpArgs false
set_option linter.unusedVariables false
def kp7 (r : Nat) : List (Nat × Option Nat) := match r with
  | 0 => []
  | 1 => [(1, none), (2, none)]
  | 2 => [(1, none), (2, none), (3, none), (4, none)]
  | 3 => [(1, none), (2, none), (3, none), (4, none), (5, none), (6, none)]
  | 4 => [(1, none), (2, none), (3, none), (4, none), (5, none), (6, none), (7, none), (8, none)]
  | 5 => [(1, none), (2, none), (3, none), (4, none), (5, none), (6, none), (7, none), (8, none), (10, none)]
  | 6 => [(0, none)]
  | _ => []
theorem kA : followR shopV taperV [⟨0, 3, 40, false⟩] [610] = (⟨2000, 2900, 2900⟩, 0) := by kernel_rfl
theorem kB : followR shopV taperV [⟨0, 3, 40, false⟩] [630] = (⟨2000, 2700, 2700⟩, 0) := by kernel_rfl
theorem kW : worstR shopV taperV [⟨0, 7, 40, false⟩] 120 = ([], 0) := by kernel_rfl
theorem kP : fewR shopV taperV [⟨0, 3, 30, false⟩, ⟨0, 3, 30, true⟩] ⟨3400, 3800⟩ 0 = ([0, 1], 0) := by kernel_rfl
theorem kD : fewR shopV taperV [⟨0, 3, 30, false⟩] ⟨3400, 3800⟩ 50 = ([], 9) := by kernel_rfl
theorem i64_0 : i64Ok 0 := by decide
def t7l : List (Nat × (List D → Option D)) := (22, s22) :: a2
theorem dt7 : DelOk Tryz.prog (delOf t7l) := del_cons da2 call22 ok22
def s7 : List D → Option D := sp0 cBool (some true)
set_option maxRecDepth 100000 in
set_option maxHeartbeats 4000000 in
theorem ok7 : ∀ ds d, s7 ds = some d → PureC Tryz.prog 7 ds d := ok_sp0 fun r hr => by
  cases hr
  refine pure_of_call (mkCx_ok dt7 96 kp7 []) Tryz.func7 rfl rfl (Nat.le_of_ble_eq_true rfl) (by kernel_rfl) ?_
  rw [Tryz.results7]
  have hN := names0
  have h1 := kA
  have h2 := kB
  have h3 := kW
  have h4 := kP
  have h5 := kD
  simp [kp7, t7l, a2, a1, s22, s36, s37, s38, s20, s26, s29, s28, s39, List.append_eq, List.cons_append, List.nil_append, rDsh_enc, rDsh_dec, rTap_enc, rTap_dec, rDip_enc, rDip_dec, rDip_k, rDip_decL, rSpn_enc, rSpn_dec, tap_mk', spn_mk', ints1', ints2', dips1', dips2', i64_50, i64_0, ints2'', eqBy, dips1'', dips2'', ints1'', spn_mk'', dipsV_enc, dipsV_dec, dipsV_len, hN, h1, h2, h3, h4, h5]
end Go.Proofs.YtcgacojnfkklaaaGreatDoor
