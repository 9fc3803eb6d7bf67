/-
  The laws of the colour chapter that compare: what they return, Awake being known. Conditions: Awake returns true.
-/
import Derived.Test.YtpkjmnfgpbliaaaZLawA
namespace Go.Proofs.Ytpkjmnfgpbliaaa
open Go.RowKit
set_option linter.unusedSimpArgs false
set_option linter.unusedVariables false

def kp3 (r : Nat) : List (Nat × Option Nat) := match r with
  | 0 => [(2, none), (3, none)]
  | 1 => [(2, none), (3, none), (5, none), (6, none), (7, none)]
  | 2 => [(2, none), (3, none), (5, none), (6, none), (7, none), (8, none), (9, none), (10, none)]
  | 3 => [(2, none), (3, none), (39, none)]
  | 4 => [(4, none)]
  | 5 => [(2, none), (3, none), (7, none), (11, none)]
  | 6 => [(2, none), (3, none), (7, none), (10, none), (11, none), (12, none)]
  | 7 => [(2, none), (3, none), (65, none)]
  | 8 => [(4, none)]
  | 9 => [(2, none), (3, none), (7, none), (13, none)]
  | 10 => [(7, none), (10, none), (13, none), (14, none)]
  | 11 => [(4, none)]
  | _ => []
def sAwake : List D → Option D := sp0 cBool (some true)
def AwakeOk : Prop := ∀ ds d, sAwake ds = some d → PureC Try.prog 21 ds d
theorem call21 (xs : Array Value) (w : World) : (callFunc 21 xs).run Try.prog w = .ok (.enter 21 xs) w := by kernel_rfl
theorem call15 (xs : Array Value) (w : World) : (callFunc 15 xs).run Try.prog w = .ok (.enter 15 xs) w := by kernel_rfl
theorem call17 (xs : Array Value) (w : World) : (callFunc 17 xs).run Try.prog w = .ok (.enter 17 xs) w := by kernel_rfl
theorem call19 (xs : Array Value) (w : World) : (callFunc 19 xs).run Try.prog w = .ok (.enter 19 xs) w := by kernel_rfl
theorem call18 (xs : Array Value) (w : World) : (callFunc 18 xs).run Try.prog w = .ok (.enter 18 xs) w := by kernel_rfl
theorem call20 (xs : Array Value) (w : World) : (callFunc 20 xs).run Try.prog w = .ok (.enter 20 xs) w := by kernel_rfl
def p3 : List (Nat × (List D → Option D)) := (21, sAwake) :: (15, sCheck) :: (17, sLeft) :: (19, sRinses) :: (18, s18) :: (20, s20) :: l4
theorem dep3 (h : AwakeOk) : DelOk Try.prog (delOf p3) := del_cons (del_cons (del_cons (del_cons (del_cons (del_cons del4 call20 ok20) call18 ok18) call19 okRinses) call17 okLeft) call15 okCheck) call21 h
structure Chg where
  before : Int
  rinses : Int
  batch : Bat
def rChg : Row Chg := ⟨4, fun x => [DI x.before, DI x.rinses, DI x.batch.c, DI x.batch.g], fun d => match d with
  | [.v (.int .i64 a), .v (.int .i64 b), .v (.int .i64 c), .v (.int .i64 e)] => some ⟨a, b, ⟨c, e⟩⟩ | _ => none, fun _ => rfl, fun d x h => by
  split at h
  · cases h; exact LImp.refl _
  · cases h⟩
theorem rChg_enc (x : Chg) : rChg.enc x = [DI x.before, DI x.rinses, DI x.batch.c, DI x.batch.g] := rfl
def s3 : List D → Option D := sp2 (cAgg rShp) (cAgg rChg) cBool fun s x => if namesOk s then some true else none
theorem ok3 (hA : AwakeOk) : ∀ ds d, s3 ds = some d → PureC Try.prog 3 ds d := ok_sp2 fun s x r hr => by
  split at hr
  · rename_i hs
    cases hr
    refine pure_of_call (mkCx_ok (dep3 hA) 95 kp3 []) Try.func3 rfl rfl (Nat.le_of_ble_eq_true rfl) (by kernel_rfl) ?_
    rw [Try.results3]
    simp [kp3, rShp_enc, rShp_dec, rChg_enc, rSpn_enc, rBat_dec, p3, l4, sAwake, sCheck, sLeft, sRinses, s16, s18, s20, hs]
  · cases hr
end Go.Proofs.Ytpkjmnfgpbliaaa
