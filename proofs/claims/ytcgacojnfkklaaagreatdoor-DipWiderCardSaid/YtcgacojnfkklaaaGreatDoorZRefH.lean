/-
  Reference functions of the dip chapter: Worst. Conditions: none.
-/
import Derived.Test.YtcgacojnfkklaaaGreatDoorZRefG
namespace Go.Proofs.YtcgacojnfkklaaaGreatDoor
open Go.RowKit
set_option linter.unusedSimpArgs false
set_option linter.unusedVariables false
theorem last_bd {x : Dsh} {t : Tap} {l : List Dip} (ha : askedE x t l = 0) : (-2000000000 ≤ (lastV x t l).skew.lo ∧ (lastV x t l).skew.lo ≤ 2000000000) ∧ -2000000000 ≤ (lastV x t l).skew.hi ∧ (lastV x t l).skew.hi ≤ 2000000000 := by
  obtain ⟨hc, ht, hl⟩ := asked_ok ha
  have tb := tapE_bd ht
  have hl30 := hl.2.1
  unfold lastV
  by_cases h0 : ((afterR x t l).getD []).length = 0
  · rw [if_pos h0]; unfold begR; dsimp only; omega
  · rw [if_neg h0]
    have hlt : ((afterR x t l).getD []).length - 1 < ((afterR x t l).getD []).length := by omega
    rw [getD_at _ _ _ hlt]
    have key : ∀ r ∈ (afterR x t l).getD [], (-2000000000 ≤ r.skew.lo ∧ r.skew.lo ≤ 2000000000) ∧ -2000000000 ≤ r.skew.hi ∧ r.skew.hi ≤ 2000000000 := by
      intro r hr
      unfold afterR at hr
      split at hr
      · simp at hr
      · simp only [Option.getD_some, afterL, List.mem_map, List.mem_range] at hr
        obtain ⟨k, hk, rfl⟩ := hr
        have := (stA_bd hl ht (k + 1) (by omega)).2.2.1
        simp only [rngOf]
        push_cast at this
        omega
    exact key _ (List.getElem_mem hlt)
def worstL (x : Dsh) (s : Spn) (l : List Dip) : List Int := l.map fun d => if s.hi ≤ -s.lo then (endsV x d).1 else (endsV x d).2
def worstR (x : Dsh) (t : Tap) (l : List Dip) (b : Int) : List Int × Int :=
  if ¬ (afterE x t l).2 = 0 then ([], (afterE x t l).2) else if b < 0 then ([], 7) else
    if max (-(lastV x t l).skew.lo) (lastV x t l).skew.hi ≤ b then ([], 0) else (worstL x (lastV x t l).skew l, 0)
theorem after_asked {x : Dsh} {t : Tap} {l : List Dip} (h : (afterE x t l).2 = 0) : askedE x t l = 0 := by
  unfold afterE at h
  by_cases h1 : askedE x t l = 0
  · exact h1
  · rw [if_pos h1] at h; exact absurd h h1
end Go.Proofs.YtcgacojnfkklaaaGreatDoor
