/-
  The reference's search for the fewest dips, plainly: what a taper can be after dips of some kinds. No program here. Conditions: none.
-/
import Derived.Test.YtcgacojnfkklaaaGreatDoorZFewC
namespace Go.Proofs.YtcgacojnfkklaaaGreatDoor
open Go.RowKit
set_option linter.unusedSimpArgs false
set_option linter.unusedVariables false
def planP (kinds : List Dip) (p : List Nat) : List Dip := p.map (kindAt kinds)
theorem stA_rP (x : Dsh) (t : Tap) (kinds : List Dip) (p : List Nat) : ∀ k, k ≤ p.length → rngOf (stA x t (planP kinds p) k) = rP x t kinds (p.take k) ∧ (stA x t (planP kinds p) k).2.1.wick = t.wick
  | 0, _ => ⟨rfl, rfl⟩
  | k + 1, hk => by
    obtain ⟨h1, h2⟩ := stA_rP x t kinds p k (by omega)
    have hk' : k < p.length := by omega
    have e : p.take (k + 1) = p.take k ++ [p[k]] := by rw [List.take_add_one, List.getElem?_eq_getElem hk']; rfl
    have e2 : (planP kinds p).getD k default = kindAt kinds p[k] := by
      rw [getD_at _ _ _ (by simp [planP]; exact hk')]; simp [planP]
    rw [e, rP_app, ← h1, next_eq, stA, e2]
    exact ⟨rfl, h2⟩
def aliveP (x : Dsh) (t : Tap) (kinds : List Dip) (p : List Nat) : Prop := ∀ k, 0 < k → k < p.length → lostR t (rP x t kinds (p.take k)) = false
theorem lost_min (a b w : Int) : (decide (a < w) || decide (b < w)) = decide (min a b < w) := by
  rw [Bool.eq_iff_iff, Bool.or_eq_true, decide_eq_true_eq, decide_eq_true_eq, decide_eq_true_eq]
  omega
theorem lost_rP (x : Dsh) (t : Tap) (kinds : List Dip) (p : List Nat) (k : Nat) (hk : k < p.length) : lostAt x t (planP kinds p) k = lostR t (rP x t kinds (p.take (k + 1))) := by
  obtain ⟨h1, h2⟩ := stA_rP x t kinds p (k + 1) (by omega)
  unfold lostAt lostB
  rw [h2, ← h1]
  exact lost_min _ _ _
theorem after_rP {x : Dsh} {t : Tap} {kinds : List Dip} {p : List Nat} (h : aliveP x t kinds p) : (afterR x t (planP kinds p)).isSome = !deadP x t kinds p := by
  unfold afterR
  have hlen : (planP kinds p).length = p.length := by simp [planP]
  rw [hlen]
  by_cases hd : deadP x t kinds p = true
  · rw [hd, if_pos]
    · rfl
    · unfold deadP at hd
      simp only [Bool.and_eq_true, Bool.not_eq_true', List.isEmpty_eq_false_iff] at hd
      have hp : 0 < p.length := List.length_pos_iff.2 hd.2
      refine List.any_eq_true.2 ⟨p.length - 1, by simp; omega, ?_⟩
      rw [lost_rP x t kinds p _ (by omega), show p.length - 1 + 1 = p.length by omega, List.take_length]
      exact hd.1
  · rw [if_neg]
    · simp [hd]
    · intro ha
      obtain ⟨k, hk, hl⟩ := List.any_eq_true.1 ha
      have hk : k < p.length := by simpa using hk
      rw [lost_rP x t kinds p k hk] at hl
      by_cases e : k + 1 < p.length
      · rw [h (k + 1) (by omega) e] at hl; cases hl
      · rw [show k + 1 = p.length by omega, List.take_length] at hl
        refine hd ?_
        unfold deadP
        rw [hl]
        cases p with
        | nil => simp at hk
        | cons a q => rfl
theorem last_rP {x : Dsh} {t : Tap} {kinds : List Dip} {p : List Nat} (h : aliveP x t kinds p) (hd : deadP x t kinds p = false) : lastV x t (planP kinds p) = rP x t kinds p := by
  have hs := after_rP h
  rw [hd] at hs
  have hlen : (planP kinds p).length = p.length := by simp [planP]
  have ha : afterR x t (planP kinds p) = some (afterL x t (planP kinds p) p.length) := by
    unfold afterR at hs ⊢
    rw [hlen] at hs ⊢
    split at hs
    · cases hs
    · rename_i hn; rw [if_neg hn]
  unfold lastV
  rw [ha, Option.getD_some, afterL_len]
  by_cases hp : p.length = 0
  · rw [if_pos hp]
    have := List.length_eq_zero_iff.1 hp
    subst this; rfl
  · rw [if_neg hp, getD_at _ _ _ (by rw [afterL_len]; omega)]
    have : (afterL x t (planP kinds p) p.length)[p.length - 1]'(by rw [afterL_len]; omega) = rngOf (stA x t (planP kinds p) p.length) := by
      simp only [afterL, List.getElem_map, List.getElem_range]
      rw [show p.length - 1 + 1 = p.length by omega]
    rw [this, (stA_rP x t kinds p p.length (Nat.le_refl _)).1, List.take_length]
theorem alive_app {x : Dsh} {t : Tap} {kinds : List Dip} {p : List Nat} (h : aliveP x t kinds p) (hd : deadP x t kinds p = false) (k : Nat) : aliveP x t kinds (p ++ [k]) := by
  intro j h0 hj
  simp only [List.length_append, List.length_cons, List.length_nil] at hj
  rw [List.take_append_of_le_length (by omega)]
  by_cases e : j < p.length
  · exact h j h0 e
  · rw [List.take_of_length_le (by omega)]
    unfold deadP at hd
    have : p ≠ [] := by
      rintro rfl
      simp at hj; omega
    cases hl : lostR t (rP x t kinds p) with
    | false => rfl
    | true =>
      rw [hl] at hd
      cases p with
      | nil => exact absurd rfl this
      | cons a q => simp at hd
theorem planP_app (kinds : List Dip) (p : List Nat) (k : Nat) : planP kinds (p ++ [k]) = planP kinds p ++ [kindAt kinds k] := by simp [planP]
theorem asked_plan {x : Dsh} {t : Tap} {kinds : List Dip} (hl : okL x kinds) (ht : tapE t = 0) {p : List Nat} (hp : ∀ k ∈ p, k < kinds.length) (hn : p.length ≤ 30) : askedE x t (planP kinds p) = 0 := by
  unfold askedE
  rw [if_neg (by simp [hl.1]), if_neg (by simp [ht])]
  unfold planE
  rw [if_neg (by simp [planP]; omega)]
  rcases findI_cases (fun _ d => dipE x d) (planP kinds p) with ⟨e, _⟩ | ⟨k, hk, e1, hbad, _⟩
  · rw [e]
  · exfalso
    refine hbad ?_
    have hk' : k < p.length := by simpa [planP] using hk
    have hkk := hp p[k] (List.getElem_mem hk')
    have : (planP kinds p)[k] = kinds[p[k]] := by simp only [planP, List.getElem_map]; exact getD_at _ _ _ hkk
    rw [this]
    exact hl.2.2 _ (List.getElem_mem hkk)
end Go.Proofs.YtcgacojnfkklaaaGreatDoor
