/-
  A law of the dip chapter that compares. Conditions: none.
-/
import Derived.Test.YtcgacojnfkklaaaGreatDoorZAwake
import Derived.Test.YtcgacojnfkklaaaGreatDoorZLawR
import Derived.Test.YtcgacojnfkklaaaGreatDoorZRefG
namespace Go.Proofs.YtcgacojnfkklaaaGreatDoor
open Go.RowKit
set_option linter.unusedSimpArgs false
set_option linter.unusedVariables false
def kp3 (r : Nat) : List (Nat × Option Nat) := match r with
  | 0 => [(3, none), (4, none), (5, none)]
  | 1 => [(3, none), (4, none), (5, none), (7, none), (8, none), (9, none)]
  | 2 => [(3, none), (4, none), (5, none), (7, none), (8, none), (9, none), (10, none), (11, none), (12, none)]
  | 3 => [(3, none), (4, none), (5, none), (39, none)]
  | 4 => [(6, none)]
  | 5 => [(3, none), (4, none), (5, none), (9, none), (13, none)]
  | 6 => [(9, none), (12, none), (13, none), (14, none)]
  | 7 => [(6, none)]
  | _ => []
theorem call19' (xs : Array Value) (w : World) : (callFunc 19 xs).run Tryz.prog w = .ok (.enter 19 xs) w := by kernel_rfl
theorem call21' (xs : Array Value) (w : World) : (callFunc 21 xs).run Tryz.prog w = .ok (.enter 21 xs) w := by kernel_rfl
def t3l : List (Nat × (List D → Option D)) := (22, s22) :: (20, s20) :: (18, s18) :: (19, s19) :: (21, s21) :: []
theorem dt3l : DelOk Tryz.prog (delOf t3l) := del_cons (del_cons (del_cons (del_cons (del_cons del_nil call21' ok21) call19' ok19) call18 ok18) call20 ok20) call22 ok22
def s3 : List D → Option D := sp3 (cAgg rDsh) (cAgg rTap) (cAgg rFol) cBool fun x t y => if namesOk x then some true else none
theorem ok3 : ∀ ds d, s3 ds = some d → PureC Tryz.prog 3 ds d := ok_sp3 fun x t y r hr => by
  split at hr
  · rename_i hs
    cases hr
    refine pure_of_call (mkCx_ok dt3l 71 kp3 []) Tryz.func3 rfl rfl (Nat.le_of_ble_eq_true rfl) (by kernel_rfl) ?_
    rw [Tryz.results3]
    simp [kp3, rDsh_enc, rDsh_dec, rTap_enc, rTap_dec, rFol_enc, rDip_k, rDip_decL, rInt_decL, t3l, s22, s18, s19, s20, s21, hs]
  · cases hr
end Go.Proofs.YtcgacojnfkklaaaGreatDoor
