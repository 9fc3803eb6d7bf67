/-
  Helpers of the laws of the dip chapter. Conditions: none.
-/
import Derived.Test.YtcgacojnfkklaaaGreatDoorZRdM
import Derived.Test.YtcgacojnfkklaaaGreatDoorZFewE
import Derived.Test.YtcgacojnfkklaaaGreatDoorZPrH
import Derived.Test.YtcgacojnfkklaaaGreatDoorZWr
namespace Go.Proofs.YtcgacojnfkklaaaGreatDoor
open Go.RowKit
set_option linter.unusedSimpArgs false
set_option linter.unusedVariables false
def kp36 (r : Nat) : List (Nat × Option Nat) := match r with
  | 0 => [(0, none)]
  | 1 => [(0, none)]
  | _ => []
def kp37 (r : Nat) : List (Nat × Option Nat) := match r with
  | 0 => [(0, none)]
  | 1 => [(0, none)]
  | _ => []
def kp38 (r : Nat) : List (Nat × Option Nat) := match r with
  | 0 => []
  | 1 => [(0, none)]
  | _ => []
def kp39 (r : Nat) : List (Nat × Option Nat) := match r with
  | 0 => [(0, none), (1, none), (4, none)]
  | 1 => [(4, none)]
  | _ => []
def s39 : List D → Option D := sp2 cInt cInt (cAgg rSpn) fun a b => some ⟨a, b⟩
theorem ok39 : ∀ ds d, s39 ds = some d → PureC Tryz.prog 39 ds d := ok_sp2 fun a b r hr => by
  cases hr
  refine pure_of_call (mkCx_ok del_nil 8 kp39 []) Tryz.func39 rfl rfl (Nat.le_of_ble_eq_true rfl) (by kernel_rfl) ?_
  rw [Tryz.results39]
  simp [kp39, rSpn_enc]
theorem call39 (xs : Array Value) (w : World) : (callFunc 39 xs).run Tryz.prog w = .ok (.enter 39 xs) w := by kernel_rfl
def a1 : List (Nat × (List D → Option D)) := [(39, s39)]
theorem da1 : DelOk Tryz.prog (delOf a1) := del_cons del_nil call39 ok39
def lowV : ByteArray := ⟨#[108, 111, 119]⟩
def highV : ByteArray := ⟨#[104, 105, 103, 104]⟩
def shopV : Dsh := ⟨600, 500, 5, 4, 1, 2, 40, 2, [⟨lowV, ⟨610, 630⟩⟩, ⟨highV, ⟨660, 680⟩⟩]⟩
def taperV : Tap := ⟨2000, 2000, 2000⟩
def dipsV : List Dip := [⟨0, 3, 40, false⟩, ⟨0, 7, 40, false⟩, ⟨0, 3, 30, false⟩, ⟨0, 3, 30, true⟩]
def s36 : List D → Option D := sp0 (cAgg rDsh) (some shopV)
theorem ok36 : ∀ ds d, s36 ds = some d → PureC Tryz.prog 36 ds d := ok_sp0 fun r hr => by
  cases hr
  refine pure_of_call (mkCx_ok da1 7 kp36 []) Tryz.func36 rfl rfl (Nat.le_of_ble_eq_true rfl) (by kernel_rfl) ?_
  rw [Tryz.results36]
  simp [kp36, a1, s39, rSpn_enc, shopV, rDsh_enc, rBth_enc, lowV, highV]
def s37 : List D → Option D := sp0 (cAgg rTap) (some taperV)
theorem ok37 : ∀ ds d, s37 ds = some d → PureC Tryz.prog 37 ds d := ok_sp0 fun r hr => by
  cases hr
  refine pure_of_call (mkCx_ok da1 2 kp37 []) Tryz.func37 rfl rfl (Nat.le_of_ble_eq_true rfl) (by kernel_rfl) ?_
  rw [Tryz.results37]
  simp [kp37, taperV, rTap_enc]
def s38 : List D → Option D := sp0 (cList rDip) (some dipsV)
theorem ok38 : ∀ ds d, s38 ds = some d → PureC Tryz.prog 38 ds d := ok_sp0 fun r hr => by
  cases hr
  refine pure_of_call (mkCx_ok da1 6 kp38 []) Tryz.func38 rfl rfl (Nat.le_of_ble_eq_true rfl) (by kernel_rfl) ?_
  rw [Tryz.results38]
  simp [kp38, dipsV, rDip_enc, rDip_k]
theorem call36 (xs : Array Value) (w : World) : (callFunc 36 xs).run Tryz.prog w = .ok (.enter 36 xs) w := by kernel_rfl
theorem call37 (xs : Array Value) (w : World) : (callFunc 37 xs).run Tryz.prog w = .ok (.enter 37 xs) w := by kernel_rfl
theorem call38 (xs : Array Value) (w : World) : (callFunc 38 xs).run Tryz.prog w = .ok (.enter 38 xs) w := by kernel_rfl
def wordOk (l : List Int) : Prop := ∀ x ∈ l, 0 ≤ x ∧ x ≤ 65535
instance (l : List Int) : Decidable (wordOk l) := inferInstanceAs (Decidable (∀ x ∈ l, _))
end Go.Proofs.YtcgacojnfkklaaaGreatDoor
