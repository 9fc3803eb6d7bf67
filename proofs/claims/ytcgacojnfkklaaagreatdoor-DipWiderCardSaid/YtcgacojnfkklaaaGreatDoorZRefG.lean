/-
  Reference functions of the dip chapter: Makes, Follow, Worst. Conditions: none.
-/
import Derived.Test.YtcgacojnfkklaaaGreatDoorZRefB
namespace Go.Proofs.YtcgacojnfkklaaaGreatDoor
open Go.RowKit
set_option linter.unusedSimpArgs false
set_option linter.unusedVariables false
def boundOk (n : Int) : Prop := 0 ≤ n ∧ n ≤ 9223372036854775807
instance (n : Int) : Decidable (boundOk n) := inferInstanceAs (Decidable (_ ∧ _))
def makesB (r : Rng) (s : Spn) (b : Int) : Bool := decide (s.lo ≤ r.top.lo) && (decide (r.top.hi ≤ s.hi) && (decide (s.lo ≤ r.foot.lo) && (decide (r.foot.hi ≤ s.hi) && (decide (-b ≤ r.skew.lo) && decide (r.skew.hi ≤ b)))))
def flS (x : Dsh) (t : Tap) (l : List Dip) (w : List Int) : Nat → Tap
  | 0 => t
  | k + 1 => dippedV x (flS x t l w k) (l.getD k default) (w.getD k 0)
def followR (x : Dsh) (t : Tap) (l : List Dip) (w : List Int) : Tap × Int :=
  if ¬ askedE x t l = 0 then (⟨0, 0, 0⟩, askedE x t l) else if ¬ warmE x l w = 0 then (⟨0, 0, 0⟩, warmE x l w) else
    if (List.range l.length).any (fun k => lostB (flS x t l w (k + 1))) then (⟨0, 0, 0⟩, 9) else (flS x t l w l.length, 0)
theorem warm_at {x : Dsh} {l : List Dip} {w : List Int} (h : warmE x l w = 0) : w.length = l.length ∧ ∀ k (hk : k < l.length) (hw : k < w.length), (warmV x l[k]).lo ≤ w[k] ∧ w[k] ≤ (warmV x l[k]).hi := by
  unfold warmE at h
  by_cases h1 : w.length = l.length
  · rw [if_neg (by simpa using h1)] at h
    refine ⟨h1, fun k hk hw => ?_⟩
    rcases findI_cases (fun i d => if inR (w.getD i 0) (warmV x d).lo (warmV x d).hi then (0 : Int) else 7) l with ⟨_, hall⟩ | ⟨j, hj, e1, hbad, _⟩
    · have := hall k hk
      rw [getD_at _ _ _ hw] at this
      cases hq : inR w[k] (warmV x l[k]).lo (warmV x l[k]).hi
      · rw [hq] at this; simp at this
      · exact inR_iff.1 hq
    · rw [e1] at h; exact absurd h hbad
  · rw [if_pos h1] at h; cases h
theorem flS_bd {x : Dsh} {t : Tap} {l : List Dip} {w : List Int} (hl : okL x l) (ht : tapE t = 0) (hw : warmE x l w = 0) : ∀ k, k ≤ l.length → ((-25000000 * k ≤ (flS x t l w k).top ∧ (flS x t l w k).top ≤ 100000 + 25000000 * k) ∧ -25000000 * k ≤ (flS x t l w k).foot ∧ (flS x t l w k).foot ≤ 100000 + 25000000 * k) ∧ (flS x t l w k).wick = t.wick := by
  obtain ⟨hwl, hwa⟩ := warm_at hw
  intro k
  induction k with
  | zero =>
    intro _
    have := tapE_bd ht
    simp only [flS]
    refine ⟨⟨⟨?_, ?_⟩, ?_, ?_⟩, ?_⟩ <;> simp <;> omega
  | succ k ih =>
    intro hk
    have hk' : k < l.length := by omega
    have i := ih (by omega)
    have hd := okL_at hl k hk'
    obtain ⟨B, e1, hB, e2, _, g1, g2, _, g3⟩ := okD_bath hd
    have hb := hwa k hk' (by omega)
    have b1 := grown_bd (g3 _ hb.1 hb.2)
    have e : flS x t l w (k + 1) = dippedV x (flS x t l w k) l[k] w[k] := by rw [flS, getD_at _ _ _ hk', getD_at _ _ _ (by omega)]
    rw [e]
    simp only [dippedV]
    push_cast
    omega
end Go.Proofs.YtcgacojnfkklaaaGreatDoor
