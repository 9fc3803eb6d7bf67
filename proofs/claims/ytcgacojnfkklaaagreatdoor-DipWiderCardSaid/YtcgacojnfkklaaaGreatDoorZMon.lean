/-
  Plain laws of the dip chapter: how ends grow with the warmth, the seconds, the pause; what the ranges mean. Conditions: none.
-/
import Derived.Test.YtcgacojnfkklaaaGreatDoorZRefH
namespace Go.Proofs.YtcgacojnfkklaaaGreatDoor
open Go.RowKit
set_option linter.unusedSimpArgs false
set_option linter.unusedVariables false
theorem coat_warm {x : Dsh} {n w v : Int} (h : numbersB x = true) (hm : x.melt ≤ w) (hw : w ≤ v) : coatV x v n ≤ coatV x w n := by
  have hx := nums_of h
  have m0 : (0 : Int) ≤ max 0 (n - x.hold) := by omega
  have a := Int.mul_le_mul_of_nonneg_left (show w - x.melt ≤ v - x.melt by omega) hx.t0
  have b := Int.mul_le_mul_of_nonneg_left (show w - x.melt ≤ v - x.melt by omega) hx.b0
  have c := Int.mul_le_mul_of_nonneg_right b m0
  unfold coatV
  omega
theorem coat_secs {x : Dsh} {n k w : Int} (h : numbersB x = true) (hm : x.melt ≤ w) (hn : n ≤ k) : coatV x w k ≤ coatV x w n := by
  have hx := nums_of h
  have b0 := Int.mul_nonneg hx.b0 (show 0 ≤ w - x.melt by omega)
  have c := Int.mul_le_mul_of_nonneg_left (show max 0 (n - x.hold) ≤ max 0 (k - x.hold) by omega) b0
  unfold coatV
  omega
theorem grown_warm {x : Dsh} {d : Dip} {w v : Int} (h : gOk x d w) (hw : w ≤ v) : (grownV x d v).1 ≤ (grownV x d w).1 ∧ (grownV x d v).2 ≤ (grownV x d w).2 := by
  have a := coat_warm (n := d.secs) h.1.1 h.1.2.1 hw
  have b := coat_warm (n := d.secs - x.draw) h.1.1 h.1.2.1 hw
  unfold grownV
  cases d.turned <;> simp only [Bool.false_eq_true, if_false, if_true] <;> omega
theorem skew_warm {x : Dsh} {d : Dip} {w v : Int} (h : gOk x d w) (hw : w ≤ v) : if d.turned = true then skewV x d w ≤ skewV x d v else skewV x d v ≤ skewV x d w := by
  have hx := nums_of h.1.1
  have b0 := Int.mul_le_mul_of_nonneg_left (show w - x.melt ≤ v - x.melt by omega) hx.b0
  have d0 : (0 : Int) ≤ max 0 (d.secs - x.hold) - max 0 (d.secs - x.draw - x.hold) := by have := hx.d0; omega
  have c := Int.mul_le_mul_of_nonneg_right b0 d0
  unfold skewV grownV coatV
  generalize x.back * (w - x.melt) = P at *
  generalize x.back * (v - x.melt) = Q at *
  rw [Int.mul_sub, Int.mul_sub] at c
  cases d.turned <;> simp only [Bool.false_eq_true, if_false, if_true] <;> omega
theorem skew_ends {x : Dsh} {d : Dip} (h : okD x d) : skewV x d (endsV x d).1 = skewV x d (if d.turned == false then (warmV x d).hi else (warmV x d).lo) ∧ skewV x d (endsV x d).2 = skewV x d (if d.turned == true then (warmV x d).hi else (warmV x d).lo) := by
  obtain ⟨B, e1, hB, e2, _, g1, g2, g3, _⟩ := okD_bath h
  have a := skew_warm g1 g3
  unfold endsV
  cases ht : d.turned
  · rw [ht] at a
    simp at a
    by_cases h1 : skewV x d (warmV x d).hi < skewV x d (warmV x d).lo
    · rw [if_neg (by omega), if_pos h1]; simp
    · rw [if_neg (by omega), if_neg h1]; simp; omega
  · rw [ht] at a
    simp at a
    by_cases h1 : skewV x d (warmV x d).lo < skewV x d (warmV x d).hi
    · rw [if_pos h1]; simp
    · rw [if_neg h1, if_neg (by omega)]; simp; omega
theorem skew_in {x : Dsh} {d : Dip} (h : okD x d) {w : Int} (h1 : (warmV x d).lo ≤ w) (h2 : w ≤ (warmV x d).hi) : skewV x d (endsV x d).1 ≤ skewV x d w ∧ skewV x d w ≤ skewV x d (endsV x d).2 := by
  obtain ⟨B, e1, hB, e2, _, g1, g2, g3, g4⟩ := okD_bath h
  have a := skew_warm g1 h1
  have b := skew_warm (g4 w h1 h2) h2
  obtain ⟨c1, c2⟩ := skew_ends h
  rw [c1, c2]
  cases ht : d.turned <;> rw [ht] at a b <;> simp at a b ⊢ <;> omega
def wIn (x : Dsh) (l : List Dip) (w : List Int) : Prop := w.length = l.length ∧ ∀ k (hk : k < l.length), (warmV x l[k]).lo ≤ w.getD k 0 ∧ w.getD k 0 ≤ (warmV x l[k]).hi
theorem warm_in {x : Dsh} {l : List Dip} {w : List Int} : warmE x l w = 0 ↔ wIn x l w := by
  constructor
  · intro h
    obtain ⟨a, b⟩ := warm_at h
    exact ⟨a, fun k hk => by rw [getD_at _ _ _ (by omega)]; exact b k hk (by omega)⟩
  · rintro ⟨a, b⟩
    unfold warmE
    rw [if_neg (by simpa using a)]
    rcases findI_cases (fun i d => if inR (w.getD i 0) (warmV x d).lo (warmV x d).hi then (0 : Int) else 7) l with ⟨e, _⟩ | ⟨j, hj, e1, hbad, _⟩
    · rw [e]
    · have := inR_iff.2 (b j hj)
      rw [if_pos this] at hbad
      exact absurd rfl hbad
theorem stA_succ {x : Dsh} {t : Tap} {l : List Dip} {k : Nat} (hk : k < l.length) : stA x t l (k + 1) = stepA x (stA x t l k) l[k] := by rw [stA, getD_at _ _ _ hk]
theorem after_ok {x : Dsh} {t : Tap} {l : List Dip} : (afterE x t l).2 = 0 ↔ askedE x t l = 0 ∧ ∀ k, k < l.length → lostB (stA x t l (k + 1)).2.1 = false := by
  unfold afterE afterR
  by_cases h1 : askedE x t l = 0
  · rw [if_neg (by simpa using h1)]
    by_cases h2 : (List.range l.length).any (lostAt x t l) = true
    · rw [if_pos h2]
      simp only [List.any_eq_true, List.mem_range] at h2
      obtain ⟨k, hk, h3⟩ := h2
      refine ⟨fun h => (by cases h), fun h => ?_⟩
      have := h.2 k hk
      unfold lostAt at h3
      rw [this] at h3; cases h3
    · rw [if_neg h2]
      refine ⟨fun _ => ⟨h1, fun k hk => ?_⟩, fun _ => rfl⟩
      simp only [List.any_eq_true, List.mem_range, not_exists, not_and] at h2
      have := h2 k hk
      simpa [lostAt] using this
  · rw [if_pos h1]
    exact ⟨fun h => absurd h h1, fun h => absurd h.1 h1⟩
theorem after_val {x : Dsh} {t : Tap} {l : List Dip} (h : (afterE x t l).2 = 0) : afterE x t l = (afterL x t l l.length, 0) := by
  have h' := h
  rw [after_ok] at h'
  unfold afterE afterR
  rw [if_neg (by simpa using h'.1), if_neg]
  simp only [List.any_eq_true, List.mem_range, not_exists, not_and]
  intro k hk
  have := h'.2 k hk
  simp [lostAt, this]
theorem after_bad {x : Dsh} {t : Tap} {l : List Dip} (h : ¬ (afterE x t l).2 = 0) : afterE x t l = ([], (afterE x t l).2) := by
  unfold afterE at h ⊢
  split
  · rfl
  · rename_i h1
    rw [if_neg h1] at h
    revert h
    cases afterR x t l <;> simp
theorem after_err {x : Dsh} {t : Tap} {l : List Dip} (h1 : askedE x t l = 0) (h : ¬ (afterE x t l).2 = 0) : (afterE x t l).2 = 9 := by
  unfold afterE at h ⊢
  rw [if_neg (by simpa using h1)] at h ⊢
  revert h
  cases afterR x t l <;> simp
theorem follow_ok {x : Dsh} {t : Tap} {l : List Dip} {w : List Int} : (followR x t l w).2 = 0 ↔ askedE x t l = 0 ∧ wIn x l w ∧ ∀ k, k < l.length → lostB (flS x t l w (k + 1)) = false := by
  unfold followR
  by_cases h1 : askedE x t l = 0
  · rw [if_neg (by simpa using h1)]
    by_cases h2 : warmE x l w = 0
    · rw [if_neg (by simpa using h2)]
      by_cases h3 : (List.range l.length).any (fun k => lostB (flS x t l w (k + 1))) = true
      · rw [if_pos h3]
        simp only [List.any_eq_true, List.mem_range] at h3
        obtain ⟨k, hk, h3⟩ := h3
        refine ⟨fun h => (by cases h), fun h => ?_⟩
        rw [h.2.2 k hk] at h3; cases h3
      · rw [if_neg h3]
        refine ⟨fun _ => ⟨h1, warm_in.1 h2, fun k hk => ?_⟩, fun _ => rfl⟩
        simp only [List.any_eq_true, List.mem_range, not_exists, not_and] at h3
        simpa using h3 k hk
    · rw [if_pos h2]
      exact ⟨fun h => absurd h h2, fun h => absurd (warm_in.2 h.2.1) h2⟩
  · rw [if_pos h1]
    exact ⟨fun h => absurd h h1, fun h => absurd h.1 h1⟩
theorem follow_val {x : Dsh} {t : Tap} {l : List Dip} {w : List Int} (h : (followR x t l w).2 = 0) : followR x t l w = (flS x t l w l.length, 0) := by
  have h' := follow_ok.1 h
  unfold followR
  rw [if_neg (by simpa using h'.1), if_neg (by simpa using warm_in.2 h'.2.1), if_neg]
  simp only [List.any_eq_true, List.mem_range, not_exists, not_and]
  intro k hk
  simp [h'.2.2 k hk]
theorem follow_err {x : Dsh} {t : Tap} {l : List Dip} {w : List Int} (h1 : askedE x t l = 0) (h2 : wIn x l w) (h : ¬ (followR x t l w).2 = 0) : followR x t l w = (⟨0, 0, 0⟩, 9) := by
  unfold followR at h ⊢
  rw [if_neg (by simpa using h1), if_neg (by simpa using warm_in.2 h2)] at h ⊢
  split
  · rfl
  · rename_i h3
    rw [if_neg h3] at h; simp at h
theorem plan_zero' {x : Dsh} {l : List Dip} (h : okL x l) : planE x l = 0 := by
  unfold planE
  rw [if_neg (by have := h.2.1; omega)]
  rcases findI_cases (fun _ d => dipE x d) l with ⟨e, _⟩ | ⟨k, hk, e, hbad, _⟩
  · rw [e]
  · exact absurd (h.2.2 _ (List.getElem_mem hk)) hbad
theorem asked_of {x : Dsh} {t : Tap} {l : List Dip} (ht : tapE t = 0) (h : okL x l) : askedE x t l = 0 := by
  unfold askedE
  rw [if_neg (by simpa using h.1), if_neg (by simpa using ht)]
  exact plan_zero' h
theorem afterL_at (x : Dsh) (t : Tap) (l : List Dip) (n : Nat) (k : Nat) (hk : k < n) : (afterL x t l n).getD k default = rngOf (stA x t l (k + 1)) := by
  rw [getD_at _ _ _ (by simpa [afterL] using hk)]
  simp [afterL]
end Go.Proofs.YtcgacojnfkklaaaGreatDoor
