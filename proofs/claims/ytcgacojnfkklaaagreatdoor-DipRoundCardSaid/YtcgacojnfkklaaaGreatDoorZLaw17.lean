/-
  The law DipRound: reading undoes writing, and writing reading. Conditions: none.
-/
import Derived.Test.YtcgacojnfkklaaaGreatDoorZAwake
import Derived.Test.YtcgacojnfkklaaaGreatDoorZLawR
namespace Go.Proofs.YtcgacojnfkklaaaGreatDoor
open Go.RowKit
set_option linter.unusedSimpArgs false
set_option linter.unusedVariables false
def kp17 (r : Nat) : List (Nat × Option Nat) := match r with
  | 0 => [(1, none), (2, none), (3, none)]
  | 1 => [(1, none), (2, none), (3, none), (7, none), (8, none)]
  | 2 => [(1, none), (2, none), (3, none), (7, none), (19, none)]
  | 3 => [(1, none), (2, none), (3, none), (7, none), (9, none), (10, none)]
  | 4 => [(2, none), (3, none), (38, none)]
  | 5 => [(6, none)]
  | 6 => [(2, none), (3, none), (8, none), (11, none)]
  | 7 => [(2, none), (3, none), (11, none), (46, none)]
  | 8 => [(6, none)]
  | 9 => [(2, none), (7, none), (8, none)]
  | 10 => [(6, none)]
  | _ => []
theorem tap_zero : tapE ⟨0, 0, 0⟩ = 0 := by decide
theorem asked_zero (x : Dsh) (l : List Dip) : askedE x ⟨0, 0, 0⟩ l = if (dchk x).2.2 = 0 then planE x l else (dchk x).2.2 := by
  unfold askedE
  by_cases h : (dchk x).2.2 = 0
  · rw [if_neg (by simpa using h), if_pos h, if_neg (by simpa using tap_zero)]
  · rw [if_pos h, if_neg h]
theorem write_read {x : Dsh} {l : List Dip} (h : okL x l) : readR x (textV x l) = (l, 0) ∧ (textV x l).size ≤ 2000 := by
  have hsz : (textV x l).size ≤ 2000 := by
    have := textL_size h l.length (Nat.le_refl _)
    have h30 := h.2.1
    have : (textL x l l.length).size ≤ 2000 := by omega
    exact this
  refine ⟨?_, hsz⟩
  rw [← read_same]
  exact readP_fwd h (text_bytes h) (by omega)
theorem read_write {x : Dsh} {t : ByteArray} (h : (readR x t).2 = 0) : okL x (readR x t).1 ∧ (textV x (readR x t).1).toList = t.toList := by
  unfold readR at h ⊢
  by_cases h1 : (dchk x).2.2 = 0
  · rw [if_neg (by simpa using h1)] at h ⊢
    by_cases h2 : 2000 < t.size
    · rw [if_pos h2] at h; cases h
    · rw [if_neg h2] at h ⊢
      by_cases h3 : planE x (candR x t) = 0 ∧ (textV x (candR x t)).toList = t.toList
      · rw [if_pos h3]
        exact ⟨(plan_zero h1).1 h3.1, h3.2⟩
      · rw [if_neg h3] at h; cases h
  · rw [if_pos h1] at h; exact absurd h h1
theorem read_bad {x : Dsh} {t : ByteArray} (h : ¬ (readR x t).2 = 0) : readR x t = ([], (readR x t).2) := by
  unfold readR at h ⊢
  split
  · rfl
  · rename_i h1
    rw [if_neg h1] at h
    split
    · rfl
    · rename_i h2
      rw [if_neg h2] at h
      split
      · rename_i h3
        rw [if_pos h3] at h; exact absurd rfl h
      · rfl
theorem write_ok {x : Dsh} {l : List Dip} (h : okL x l) : writeR x l = (textV x l, 0) := by
  unfold writeR
  rw [if_pos (by rw [asked_zero, if_pos h.1]; exact (plan_zero h.1).2 h)]
theorem write_bad {x : Dsh} {l : List Dip} (h : ¬ okL x l) : writeR x l = (⟨#[]⟩, askedE x ⟨0, 0, 0⟩ l) ∧ ¬ askedE x ⟨0, 0, 0⟩ l = 0 := by
  have : ¬ askedE x ⟨0, 0, 0⟩ l = 0 := fun h' => h (asked_ok h').2.2
  unfold writeR
  rw [if_neg this]
  exact ⟨rfl, this⟩
def t17l : List (Nat × (List D → Option D)) := (22, s22) :: (31, s31) :: (33, s33) :: (35, s35) :: []
theorem dt17l : DelOk Tryz.prog (delOf t17l) := del_cons (del_cons (del_cons (del_cons del_nil call35 ok35) call33 ok33) call31 ok31) call22 ok22
def s17 : List D → Option D := sp3 (cAgg rDsh) (cList rDip) cStr cBool fun x l s => if namesOk x then some true else none
set_option maxHeartbeats 4000000 in
theorem ok17 : ∀ ds d, s17 ds = some d → PureC Tryz.prog 17 ds d := ok_sp3 fun x l s r hr => by
  split at hr
  · rename_i hs
    cases hr
    refine pure_of_call (mkCx_ok dt17l 69 kp17 []) Tryz.func17 rfl rfl (Nat.le_of_ble_eq_true rfl) (by kernel_rfl) ?_
    rw [Tryz.results17]
    have second : (¬ (readR x s).2 = 0 ∧ readR x s = ([], (readR x s).2)) ∨ ∃ m, readR x s = (m, 0) ∧ writeR x m = (textV x m, 0) ∧ ((textV x m).toList == s.toList) = true := by
      by_cases h : (readR x s).2 = 0
      · obtain ⟨h1, h2⟩ := read_write h
        refine .inr ⟨(readR x s).1, ?_, write_ok h1, by rw [h2]; simp⟩
        rw [← h]
      · exact .inl ⟨h, read_bad h⟩
    generalize hR : readR x s = R at *
    by_cases h : okL x l
    · have hw := write_ok h
      obtain ⟨hr, hsz⟩ := write_read h
      have hl30 := h.2.1
      have hlm : l.length < 1000000 := by omega
      have hsz1 : ¬ (2000 : Int) < (textV x l).size := by omega
      have hsz2 : ¬ 2000 < (textV x l).size := by omega
      generalize textV x l = V at *
      rcases second with ⟨h1, h2⟩ | ⟨m, h2, h3, h4⟩
      · obtain ⟨R1, e⟩ := R
        simp only at h1 h2
        have h1' : (e != 0) = true := by simpa using h1
        have h2' : R1 = [] := congrArg Prod.fst h2
        subst h2'
        simp [kp17, rDsh_enc, rDsh_dec, rDip_k, rDip_decL, t17l, s22, s31, s33, s35, hs, hR, hw, hr, hlm, hsz1, hsz2, eqBy_same, h1, h1']
      · subst h2
        simp [kp17, rDsh_enc, rDsh_dec, rDip_k, rDip_decL, t17l, s22, s31, s33, s35, hs, hR, hw, hr, hlm, hsz1, hsz2, eqBy_same, h3, h4]
    · obtain ⟨hw, hne⟩ := write_bad h
      have hne' : (askedE x ⟨0, 0, 0⟩ l == 0) = false := by simpa using hne
      generalize askedE x ⟨0, 0, 0⟩ l = f at *
      rcases second with ⟨h1, h2⟩ | ⟨m, h2, h3, h4⟩
      · obtain ⟨R1, e⟩ := R
        simp only at h1 h2
        have h1' : (e != 0) = true := by simpa using h1
        have h2' : R1 = [] := congrArg Prod.fst h2
        subst h2'
        simp [kp17, rDsh_enc, rDsh_dec, rDip_k, rDip_decL, t17l, s22, s31, s33, s35, hs, hR, hw, hne, hne', h1, h1']
      · subst h2
        simp [kp17, rDsh_enc, rDsh_dec, rDip_k, rDip_decL, t17l, s22, s31, s33, s35, hs, hR, hw, hne, hne', h3, h4]
  · cases hr
end Go.Proofs.YtcgacojnfkklaaaGreatDoor
