/-
  Plain laws of the dip chapter: how ends grow with the warmth, the seconds, the pause; what the ranges mean. Conditions: none.
-/
import Derived.Test.YtcgacojnfkklaaaGreatDoorZRefH
namespace Go.Proofs.YtcgacojnfkklaaaGreatDoor
open Go.RowKit
set_option linter.unusedSimpArgs false
set_option linter.unusedVariables false
theorem after_ok {x : Dsh} {t : Tap} {l : List Dip} : (afterE x t l).2 = 0 ↔ askedE x t l = 0 ∧ ∀ k, k < l.length → lostB (stA x t l (k + 1)).2.1 = false := by
  unfold afterE afterR
  by_cases h1 : askedE x t l = 0
  · rw [if_neg (by simpa using h1)]
    by_cases h2 : (List.range l.length).any (lostAt x t l) = true
    · rw [if_pos h2]
      simp only [List.any_eq_true, List.mem_range] at h2
      obtain ⟨k, hk, h3⟩ := h2
      refine ⟨fun h => (by cases h), fun h => ?_⟩
      have := h.2 k hk
      unfold lostAt at h3
      rw [this] at h3; cases h3
    · rw [if_neg h2]
      refine ⟨fun _ => ⟨h1, fun k hk => ?_⟩, fun _ => rfl⟩
      simp only [List.any_eq_true, List.mem_range, not_exists, not_and] at h2
      have := h2 k hk
      simpa [lostAt] using this
  · rw [if_pos h1]
    exact ⟨fun h => absurd h h1, fun h => absurd h.1 h1⟩
theorem after_val {x : Dsh} {t : Tap} {l : List Dip} (h : (afterE x t l).2 = 0) : afterE x t l = (afterL x t l l.length, 0) := by
  have h' := h
  rw [after_ok] at h'
  unfold afterE afterR
  rw [if_neg (by simpa using h'.1), if_neg]
  simp only [List.any_eq_true, List.mem_range, not_exists, not_and]
  intro k hk
  have := h'.2 k hk
  simp [lostAt, this]
theorem after_err {x : Dsh} {t : Tap} {l : List Dip} (h1 : askedE x t l = 0) (h : ¬ (afterE x t l).2 = 0) : (afterE x t l).2 = 9 := by
  unfold afterE at h ⊢
  rw [if_neg (by simpa using h1)] at h ⊢
  revert h
  cases afterR x t l <;> simp
theorem plan_zero' {x : Dsh} {l : List Dip} (h : okL x l) : planE x l = 0 := by
  unfold planE
  rw [if_neg (by have := h.2.1; omega)]
  rcases findI_cases (fun _ d => dipE x d) l with ⟨e, _⟩ | ⟨k, hk, e, hbad, _⟩
  · rw [e]
  · exact absurd (h.2.2 _ (List.getElem_mem hk)) hbad
theorem asked_of {x : Dsh} {t : Tap} {l : List Dip} (ht : tapE t = 0) (h : okL x l) : askedE x t l = 0 := by
  unfold askedE
  rw [if_neg (by simpa using h.1), if_neg (by simpa using ht)]
  exact plan_zero' h
theorem afterL_at (x : Dsh) (t : Tap) (l : List Dip) (n : Nat) (k : Nat) (hk : k < n) : (afterL x t l n).getD k default = rngOf (stA x t l (k + 1)) := by
  rw [getD_at _ _ _ (by simpa [afterL] using hk)]
  simp [afterL]
theorem last_val {x : Dsh} {t : Tap} {l : List Dip} (h : (afterE x t l).2 = 0) : lastV x t l = rngOf (stA x t l l.length) := by
  have hv : afterR x t l = some (afterL x t l l.length) := by
    have := after_val h
    obtain ⟨h1, _⟩ := after_ok.1 h
    unfold afterE at this h
    rw [if_neg (by simpa using h1)] at this h
    cases hq : afterR x t l with
    | none => rw [hq] at h; cases h
    | some r => rw [hq] at this; cases this; rfl
  unfold lastV
  rw [hv, Option.getD_some, afterL_len]
  by_cases h0 : l.length = 0
  · rw [if_pos h0, h0]; rfl
  · rw [if_neg h0, afterL_at _ _ _ _ _ (by omega), Nat.sub_add_cancel (by omega)]
end Go.Proofs.YtcgacojnfkklaaaGreatDoor
