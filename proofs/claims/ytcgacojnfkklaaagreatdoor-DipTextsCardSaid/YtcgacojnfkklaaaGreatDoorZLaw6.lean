/-
  A law of the dip chapter that compares. Conditions: none.
-/
import Derived.Test.YtcgacojnfkklaaaGreatDoorZAwake
import Derived.Test.YtcgacojnfkklaaaGreatDoorZLawR
import Derived.Test.YtcgacojnfkklaaaGreatDoorZRefT
namespace Go.Proofs.YtcgacojnfkklaaaGreatDoor
open Go.RowKit
set_option linter.unusedSimpArgs false
set_option linter.unusedVariables false
def kp6 (r : Nat) : List (Nat × Option Nat) := match r with
  | 0 => [(1, none), (2, none), (3, none)]
  | 1 => [(1, none), (2, none), (3, none), (7, none), (8, none)]
  | 2 => [(2, none), (3, none), (7, none), (8, none), (9, none), (10, none)]
  | 3 => [(2, none), (3, none), (32, none)]
  | 4 => [(6, none)]
  | 5 => [(2, none), (3, none), (8, none), (11, none)]
  | 6 => [(8, none), (10, none), (11, none), (12, none)]
  | 7 => [(6, none)]
  | _ => []
theorem call32' (xs : Array Value) (w : World) : (callFunc 32 xs).run Tryz.prog w = .ok (.enter 32 xs) w := by kernel_rfl
theorem call34' (xs : Array Value) (w : World) : (callFunc 34 xs).run Tryz.prog w = .ok (.enter 34 xs) w := by kernel_rfl
def t6l : List (Nat × (List D → Option D)) := (22, s22) :: (31, s31) :: (33, s33) :: (35, s35) :: (32, s32) :: (34, s34) :: []
theorem dt6l : DelOk Tryz.prog (delOf t6l) := del_cons (del_cons (del_cons (del_cons (del_cons (del_cons del_nil call34' ok34) call32' ok32) call35 ok35) call33 ok33) call31 ok31) call22 ok22
theorem read_len (x : Dsh) (s : ByteArray) : (readR x s).1.length < 1000000 := by
  unfold readR
  split
  · simp
  · split
    · simp
    · split
      · rename_i h
        have h1 := h.1
        simp only
        unfold planE at h1
        split at h1
        · cases h1
        · omega
      · simp
def s6 : List D → Option D := sp3 (cAgg rDsh) (cList rDip) cStr cBool fun x l s => if namesOk x then some true else none
theorem ok6 : ∀ ds d, s6 ds = some d → PureC Tryz.prog 6 ds d := ok_sp3 fun x l s r hr => by
  split at hr
  · rename_i hs
    cases hr
    have n1 := read_len x s
    refine pure_of_call (mkCx_ok dt6l 56 kp6 []) Tryz.func6 rfl rfl (Nat.le_of_ble_eq_true rfl) (by kernel_rfl) ?_
    rw [Tryz.results6]
    simp [kp6, rDsh_enc, rDsh_dec, rDip_k, rDip_decL, t6l, s22, s31, s32, s33, s34, s35, hs, eqBy_same, n1]
  · cases hr
end Go.Proofs.YtcgacojnfkklaaaGreatDoor
