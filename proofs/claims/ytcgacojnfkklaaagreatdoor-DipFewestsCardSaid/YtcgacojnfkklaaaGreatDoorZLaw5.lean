/-
  A law of the dip chapter that compares. Conditions: none.
-/
import Derived.Test.YtcgacojnfkklaaaGreatDoorZAwake
import Derived.Test.YtcgacojnfkklaaaGreatDoorZLawR
import Derived.Test.YtcgacojnfkklaaaGreatDoorZFewI
namespace Go.Proofs.YtcgacojnfkklaaaGreatDoor
open Go.RowKit
set_option linter.unusedSimpArgs false
set_option linter.unusedVariables false
def kp5 (r : Nat) : List (Nat × Option Nat) := match r with
  | 0 => [(3, none), (4, none), (5, none)]
  | 1 => [(3, none), (4, none), (5, none), (7, none), (8, none)]
  | 2 => [(7, none), (8, none), (9, none), (10, none)]
  | 3 => [(6, none)]
  | _ => []
theorem call30' (xs : Array Value) (w : World) : (callFunc 30 xs).run Tryz.prog w = .ok (.enter 30 xs) w := by kernel_rfl
def t5l : List (Nat × (List D → Option D)) := (22, s22) :: (29, s29) :: (28, s28) :: (30, s30) :: []
theorem dt5l : DelOk Tryz.prog (delOf t5l) := del_cons (del_cons (del_cons (del_cons del_nil call30' ok30) call28 ok28) call29 ok29) call22 ok22
theorem tryP_len (x : Dsh) (t : Tap) (kinds : List Dip) (want : Spn) (bound : Int) : ∀ (n : Nat) (p a : List Nat), tryP x t kinds want bound n p = some a → a.length = p.length + n
  | 0, p, a, h => by
    unfold tryP at h
    split at h
    · cases h
    · split at h
      · cases h; rfl
      · cases h
  | n + 1, p, a, h => by
    unfold tryP at h
    split at h
    · cases h
    · have key : ∀ (f : Nat → Option (List Nat)) (m i : Nat), (∀ k a, f k = some a → a.length = p.length + (n + 1)) → firstK f i m = some a → a.length = p.length + (n + 1) := by
        intro f m
        induction m with
        | zero => intro i _ h; cases h
        | succ m ih =>
          intro i hf h
          unfold firstK at h
          split at h
          · rename_i hq; cases h; exact hf _ _ hq
          · exact ih _ hf h
      refine key _ _ _ (fun k a hk => ?_) h
      have := tryP_len x t kinds want bound n (p ++ [k]) a hk
      rw [List.length_append, List.length_singleton] at this
      omega
theorem few_len (x : Dsh) (t : Tap) (kinds : List Dip) (want : Spn) (bound : Int) : (fewR x t kinds want bound).1.length < 1000000 := by
  unfold fewR
  split
  · cases hq : fewP x t kinds want bound with
    | none => simp
    | some a =>
      have key : ∀ (m i : Nat), i + m ≤ 11 → firstK (fun many => tryP x t kinds want bound many []) i m = some a → a.length ≤ 11 := by
        intro m
        induction m with
        | zero => intro i _ h; cases h
        | succ m ih =>
          intro i hi h
          unfold firstK at h
          split at h
          · rename_i hq'; cases h
            have := tryP_len x t kinds want bound i [] _ hq'
            rw [List.length_nil] at this
            omega
          · exact ih _ (by omega) h
      have := key 11 0 (by omega) hq
      simp only [List.length_map]
      omega
  · simp
def s5 : List D → Option D := sp3 (cAgg rDsh) (cAgg rTap) (cAgg rWnt) cBool fun x t y => if namesOk x ∧ i64Ok y.bound then some true else none
theorem ok5 : ∀ ds d, s5 ds = some d → PureC Tryz.prog 5 ds d := ok_sp3 fun x t y r hr => by
  split at hr
  · rename_i hc
    cases hr
    obtain ⟨hs, hb⟩ := hc
    have n1 := few_len x t y.kinds y.want y.bound
    refine pure_of_call (mkCx_ok dt5l 46 kp5 []) Tryz.func5 rfl rfl (Nat.le_of_ble_eq_true rfl) (by kernel_rfl) ?_
    rw [Tryz.results5]
    simp [kp5, rDsh_enc, rDsh_dec, rTap_enc, rTap_dec, rWnt_enc, rSpn_dec, rDip_k, rDip_decL, rInt_decL, t5l, s22, s28, s29, s30, hs, hb, eqBy_same, n1]
  · cases hr
end Go.Proofs.YtcgacojnfkklaaaGreatDoor
