/-
  The reference's search for the fewest dips, plainly: what a taper can be after dips of some kinds. No program here. Conditions: none.
-/
import Derived.Test.YtcgacojnfkklaaaGreatDoorZFewC
namespace Go.Proofs.YtcgacojnfkklaaaGreatDoor
open Go.RowKit
set_option linter.unusedSimpArgs false
set_option linter.unusedVariables false
def planP (kinds : List Dip) (p : List Nat) : List Dip := p.map (kindAt kinds)
theorem stA_rP (x : Dsh) (t : Tap) (kinds : List Dip) (p : List Nat) : ∀ k, k ≤ p.length → rngOf (stA x t (planP kinds p) k) = rP x t kinds (p.take k) ∧ (stA x t (planP kinds p) k).2.1.wick = t.wick
  | 0, _ => ⟨rfl, rfl⟩
  | k + 1, hk => by
    obtain ⟨h1, h2⟩ := stA_rP x t kinds p k (by omega)
    have hk' : k < p.length := by omega
    have e : p.take (k + 1) = p.take k ++ [p[k]] := by rw [List.take_add_one, List.getElem?_eq_getElem hk']; rfl
    have e2 : (planP kinds p).getD k default = kindAt kinds p[k] := by
      rw [getD_at _ _ _ (by simp [planP]; exact hk')]; simp [planP]
    rw [e, rP_app, ← h1, next_eq, stA, e2]
    exact ⟨rfl, h2⟩
theorem lost_min (a b w : Int) : (decide (a < w) || decide (b < w)) = decide (min a b < w) := by
  rw [Bool.eq_iff_iff, Bool.or_eq_true, decide_eq_true_eq, decide_eq_true_eq, decide_eq_true_eq]
  omega
theorem lost_rP (x : Dsh) (t : Tap) (kinds : List Dip) (p : List Nat) (k : Nat) (hk : k < p.length) : lostAt x t (planP kinds p) k = lostR t (rP x t kinds (p.take (k + 1))) := by
  obtain ⟨h1, h2⟩ := stA_rP x t kinds p (k + 1) (by omega)
  unfold lostAt lostB
  rw [h2, ← h1]
  exact lost_min _ _ _
theorem planP_app (kinds : List Dip) (p : List Nat) (k : Nat) : planP kinds (p ++ [k]) = planP kinds p ++ [kindAt kinds k] := by simp [planP]
theorem asked_plan {x : Dsh} {t : Tap} {kinds : List Dip} (hl : okL x kinds) (ht : tapE t = 0) {p : List Nat} (hp : ∀ k ∈ p, k < kinds.length) (hn : p.length ≤ 30) : askedE x t (planP kinds p) = 0 := by
  unfold askedE
  rw [if_neg (by simp [hl.1]), if_neg (by simp [ht])]
  unfold planE
  rw [if_neg (by simp [planP]; omega)]
  rcases findI_cases (fun _ d => dipE x d) (planP kinds p) with ⟨e, _⟩ | ⟨k, hk, e1, hbad, _⟩
  · rw [e]
  · exfalso
    refine hbad ?_
    have hk' : k < p.length := by simpa [planP] using hk
    have hkk := hp p[k] (List.getElem_mem hk')
    have : (planP kinds p)[k] = kinds[p[k]] := by simp only [planP, List.getElem_map]; exact getD_at _ _ _ hkk
    rw [this]
    exact hl.2.2 _ (List.getElem_mem hkk)
end Go.Proofs.YtcgacojnfkklaaaGreatDoor
