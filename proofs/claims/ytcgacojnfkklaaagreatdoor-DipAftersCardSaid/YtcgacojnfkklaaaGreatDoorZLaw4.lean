/-
  A law of the dip chapter that compares. Conditions: none.
-/
import Derived.Test.YtcgacojnfkklaaaGreatDoorZAwake
import Derived.Test.YtcgacojnfkklaaaGreatDoorZLawR
import Derived.Test.YtcgacojnfkklaaaGreatDoorZRefH
namespace Go.Proofs.YtcgacojnfkklaaaGreatDoor
open Go.RowKit
set_option linter.unusedSimpArgs false
set_option linter.unusedVariables false
def kp4 (r : Nat) : List (Nat × Option Nat) := match r with
  | 0 => [(3, none), (4, none), (5, none)]
  | 1 => [(3, none), (4, none), (5, none), (7, none), (8, none)]
  | 2 => [(3, none), (4, none), (5, none), (7, none), (8, none), (9, none), (10, none)]
  | 3 => [(3, none), (4, none), (5, none), (37, none)]
  | 4 => [(6, none)]
  | 5 => [(3, none), (4, none), (5, none), (8, none), (11, none)]
  | 6 => [(8, none), (10, none), (11, none), (12, none)]
  | 7 => [(6, none)]
  | _ => []
theorem call24' (xs : Array Value) (w : World) : (callFunc 24 xs).run Tryz.prog w = .ok (.enter 24 xs) w := by kernel_rfl
theorem call27' (xs : Array Value) (w : World) : (callFunc 27 xs).run Tryz.prog w = .ok (.enter 27 xs) w := by kernel_rfl
def t4l : List (Nat × (List D → Option D)) := (22, s22) :: (23, s23) :: (26, s26) :: (25, s25) :: (28, s28) :: (24, s24) :: (27, s27) :: []
theorem dt4l : DelOk Tryz.prog (delOf t4l) := del_cons (del_cons (del_cons (del_cons (del_cons (del_cons (del_cons del_nil call27' ok27) call24' ok24) call28 ok28) call25 ok25) call26 ok26) call23 ok23) call22 ok22
theorem after_len (x : Dsh) (t : Tap) (l : List Dip) : (afterE x t l).1.length ≤ 30 := by
  by_cases h : (afterE x t l).2 = 0
  · have ha := after_asked h
    have hl := (asked_ok ha).2.2.2.1
    have := afterR_len x t l
    unfold afterE
    rw [if_neg (by simpa using ha)]
    cases hq : afterR x t l with
    | none => simp
    | some r => rw [hq, Option.getD_some] at this; simp only; omega
  · unfold afterE at h ⊢
    split
    · simp
    · rename_i h1
      rw [if_neg h1] at h
      revert h
      cases afterR x t l <;> simp
theorem worst_len (x : Dsh) (t : Tap) (l : List Dip) (b : Int) : (worstR x t l b).1.length ≤ 30 := by
  unfold worstR
  by_cases h : (afterE x t l).2 = 0
  · have hl := (asked_ok (after_asked h)).2.2.2.1
    rw [if_neg (by simpa using h)]
    split
    · simp
    · split
      · simp
      · simp [worstL]; omega
  · rw [if_pos h]; simp
def s4 : List D → Option D := sp3 (cAgg rDsh) (cAgg rTap) (cAgg rBnd) cBool fun x t y => if namesOk x then some true else none
theorem ok4 : ∀ ds d, s4 ds = some d → PureC Tryz.prog 4 ds d := ok_sp3 fun x t y r hr => by
  split at hr
  · rename_i hs
    cases hr
    have n1 : (afterE x t y.plan).1.length < 1000000 := Nat.lt_of_le_of_lt (after_len x t y.plan) (by decide)
    have n2 : (worstR x t y.plan y.bound).1.length < 1000000 := Nat.lt_of_le_of_lt (worst_len x t y.plan y.bound) (by decide)
    refine pure_of_call (mkCx_ok dt4l 69 kp4 []) Tryz.func4 rfl rfl (Nat.le_of_ble_eq_true rfl) (by kernel_rfl) ?_
    rw [Tryz.results4]
    simp [kp4, rDsh_enc, rDsh_dec, rTap_enc, rTap_dec, rBnd_enc, rDip_k, rDip_decL, rRng_k, rRng_decL, rInt_decL, t4l, s22, s23, s24, s25, s26, s27, s28, hs, eqBy_same, n1, n2]
  · cases hr
end Go.Proofs.YtcgacojnfkklaaaGreatDoor
