/-
  The fewest dips, plainly: what is found is a plan that makes what is wanted, and no plan of fewer dips does. Conditions: none.
-/
import Derived.Test.YtcgacojnfkklaaaGreatDoorZFewG
import Derived.Test.YtcgacojnfkklaaaGreatDoorZFewE
import Derived.Test.YtcgacojnfkklaaaGreatDoorZMon
namespace Go.Proofs.YtcgacojnfkklaaaGreatDoor
open Go.RowKit
set_option linter.unusedSimpArgs false
set_option linter.unusedVariables false
theorem try_sound {x : Dsh} {t : Tap} {kinds : List Dip} {want : Spn} {bound : Int} : ∀ (n : Nat) (p a : List Nat), tryP x t kinds want bound n p = some a → ∃ q, a = p ++ q ∧ q.length = n ∧ (∀ k ∈ q, k < kinds.length) ∧ (∀ j, j ≤ n → deadP x t kinds (p ++ q.take j) = false) ∧ makesB (rP x t kinds a) want bound = true
  | 0, p, a, h => by
    unfold tryP at h
    by_cases hd : deadP x t kinds p = true
    · rw [if_pos hd] at h; cases h
    · rw [if_neg hd] at h
      by_cases hm : makesB (rP x t kinds p) want bound = true
      · rw [if_pos hm] at h
        cases h
        exact ⟨[], by simp, rfl, fun k hk => (by cases hk), fun j _ => by simpa using hd, hm⟩
      · rw [if_neg hm] at h; cases h
  | n + 1, p, a, h => by
    unfold tryP at h
    by_cases hd : deadP x t kinds p = true
    · rw [if_pos hd] at h; cases h
    · rw [if_neg hd] at h
      obtain ⟨k, _, hk, hf, _⟩ := firstK_some _ _ h
      obtain ⟨q, e1, e2, e3, e4, e5⟩ := try_sound n (p ++ [k]) a hf
      refine ⟨k :: q, by rw [e1]; simp, by simp [e2], ?_, ?_, e5⟩
      · intro i hi
        rcases List.mem_cons.1 hi with rfl | hi
        · omega
        · exact e3 i hi
      · intro j hj
        cases j with
        | zero => simpa using hd
        | succ j =>
          have := e4 j (by omega)
          rw [List.take_succ_cons]
          simpa using this
theorem try_complete {x : Dsh} {t : Tap} {kinds : List Dip} {want : Spn} {bound : Int} : ∀ (n : Nat) (p q : List Nat), q.length = n → (∀ k ∈ q, k < kinds.length) → (∀ j, j ≤ n → deadP x t kinds (p ++ q.take j) = false) → makesB (rP x t kinds (p ++ q)) want bound = true → tryP x t kinds want bound n p ≠ none
  | 0, p, q, h1, h2, h3, h4 => by
    have hq : q = [] := List.eq_nil_of_length_eq_zero h1
    subst hq
    have hd := h3 0 (Nat.le_refl _)
    simp only [List.take_nil, List.append_nil] at hd h4
    unfold tryP
    rw [if_neg (by rw [hd]; decide), if_pos h4]
    intro h; cases h
  | n + 1, p, q, h1, h2, h3, h4 => by
    cases q with
    | nil => cases h1
    | cons k q =>
      have hd := h3 0 (Nat.zero_le _)
      simp only [List.take_zero, List.append_nil] at hd
      unfold tryP
      rw [if_neg (by rw [hd]; decide)]
      intro hnone
      have hk := h2 k (List.mem_cons_self ..)
      have := (firstK_none _ _).1 hnone k (Nat.zero_le _) (by omega)
      refine try_complete n (p ++ [k]) q (by simpa using h1) (fun i hi => h2 i (List.mem_cons_of_mem _ hi)) (fun j hj => ?_) (by simpa using h4) this
      have := h3 (j + 1) (by omega)
      rw [List.take_succ_cons] at this
      simpa using this
theorem after_plan {x : Dsh} {t : Tap} {kinds : List Dip} (hl : okL x kinds) (ht : tapE t = 0) {p : List Nat} (hp : ∀ k ∈ p, k < kinds.length) (hn : p.length ≤ 30) : (afterE x t (planP kinds p)).2 = 0 ↔ ∀ j, j ≤ p.length → deadP x t kinds (p.take j) = false := by
  have ha := asked_plan hl ht hp hn
  have hlen : (planP kinds p).length = p.length := by simp [planP]
  rw [after_ok]
  constructor
  · rintro ⟨_, h⟩ j hj
    cases j with
    | zero => simp [deadP]
    | succ j =>
      have h1 := h j (by omega)
      have h2 := lost_rP x t kinds p j (by omega)
      unfold lostAt at h2
      rw [h1] at h2
      unfold deadP
      rw [← h2]; rfl
  · intro h
    refine ⟨ha, fun k hk => ?_⟩
    rw [hlen] at hk
    have h2 := lost_rP x t kinds p k hk
    unfold lostAt at h2
    rw [h2]
    have := h (k + 1) (by omega)
    unfold deadP at this
    have hne : (p.take (k + 1)).isEmpty = false := by
      cases hq : p.take (k + 1) with
      | nil => have h0 : 0 < (p.take (k + 1)).length := (by rw [List.length_take]; omega); rw [hq] at h0; cases h0
      | cons a b => rfl
    rw [hne] at this
    simpa using this
theorem last_plan {x : Dsh} {t : Tap} {kinds : List Dip} {p : List Nat} (h : (afterE x t (planP kinds p)).2 = 0) : lastV x t (planP kinds p) = rP x t kinds p := by
  have hlen : (planP kinds p).length = p.length := by simp [planP]
  rw [last_val h, hlen, (stA_rP x t kinds p p.length (Nat.le_refl _)).1, List.take_length]
theorem fewE_ok {x : Dsh} {t : Tap} {kinds : List Dip} {want : Spn} {bound : Int} : fewE x t kinds want bound = 0 → okL x kinds ∧ tapE t = 0 ∧ 1 ≤ kinds.length ∧ kinds.length ≤ 5 ∧ 0 ≤ bound := by
  intro h
  unfold fewE at h
  by_cases h1 : askedE x t [] = 0
  · obtain ⟨hx, ht, _⟩ := asked_ok h1
    rw [if_neg (by simpa using h1)] at h
    by_cases h2 : inR kinds.length 1 5 = true
    · rw [if_neg (by simp [h2])] at h
      by_cases h3 : planE x kinds = 0
      · rw [if_neg (by simpa using h3)] at h
        have hl : okL x kinds := (asked_ok (t := t) (by unfold askedE; rw [if_neg (by simpa using hx), if_neg (by simpa using ht)]; exact h3)).2.2
        have := inR_iff.1 h2
        by_cases h4 : want.hi < want.lo
        · rw [if_pos h4] at h; cases h
        · rw [if_neg h4] at h
          by_cases h5 : bound < 0
          · rw [if_pos h5] at h; cases h
          · exact ⟨hl, ht, by omega, by omega, by omega⟩
      · rw [if_pos h3] at h; exact absurd h h3
    · rw [if_pos (by simpa using h2)] at h; cases h
  · rw [if_pos h1] at h; exact absurd h h1
theorem fewE_cases {x : Dsh} {t : Tap} {kinds : List Dip} {want : Spn} {bound : Int} (hl : okL x kinds) (ht : tapE t = 0) (h1 : 1 ≤ kinds.length) (h5 : kinds.length ≤ 5) : fewE x t kinds want bound = 0 ∨ fewE x t kinds want bound = 2 ∨ fewE x t kinds want bound = 7 := by
  have ha : askedE x t [] = 0 := asked_of ht ⟨hl.1, by simp, fun d hd => by cases hd⟩
  unfold fewE
  rw [if_neg (by simpa using ha), if_neg (by rw [inR_iff.2 (by omega)]; decide), if_neg (by simpa using plan_zero' hl)]
  split
  · exact .inr (.inl rfl)
  · split
    · exact .inr (.inr rfl)
    · exact .inl rfl
theorem few_sound {x : Dsh} {t : Tap} {kinds : List Dip} {want : Spn} {bound : Int} (h : (fewR x t kinds want bound).2 = 0) : ∃ p : List Nat, fewR x t kinds want bound = (p.map fun k : Nat => (k : Int), 0) ∧ p.length ≤ 10 ∧ (∀ k ∈ p, k < kinds.length) ∧ (afterE x t (planP kinds p)).2 = 0 ∧ makesB (rP x t kinds p) want bound = true ∧ fewP x t kinds want bound = some p := by
  unfold fewR at h ⊢
  by_cases hE : fewE x t kinds want bound = 0
  · rw [if_pos hE] at h ⊢
    obtain ⟨hl, ht, _⟩ := fewE_ok hE
    cases hq : fewP x t kinds want bound with
    | none => rw [hq] at h; cases h
    | some p =>
      obtain ⟨j, _, hj, hf, _⟩ := firstK_some _ _ hq
      obtain ⟨q, e1, e2, e3, e4, e5⟩ := try_sound _ _ _ hf
      rw [List.nil_append] at e1
      subst e1
      refine ⟨p, rfl, by omega, e3, (after_plan hl ht e3 (by omega)).2 fun i hi => ?_, e5, rfl⟩
      have := e4 i (by omega)
      rwa [List.nil_append] at this
  · rw [if_neg hE] at h; exact absurd h hE
theorem few_least {x : Dsh} {t : Tap} {kinds : List Dip} {want : Spn} {bound : Int} (hE : fewE x t kinds want bound = 0) {q : List Nat} (hq : ∀ k ∈ q, k < kinds.length) (hn : q.length ≤ 10) (ha : (afterE x t (planP kinds q)).2 = 0) (hm : makesB (rP x t kinds q) want bound = true) : ∃ p, fewP x t kinds want bound = some p ∧ p.length ≤ q.length := by
  obtain ⟨hl, ht, _⟩ := fewE_ok hE
  have hd := (after_plan hl ht hq (by omega)).1 ha
  have hne := try_complete (x := x) (t := t) (kinds := kinds) (want := want) (bound := bound) q.length [] q rfl hq (fun j hj => by rw [List.nil_append]; exact hd j hj) (by rw [List.nil_append]; exact hm)
  cases hf : fewP x t kinds want bound with
  | none =>
    have := (firstK_none _ _).1 hf q.length (Nat.zero_le _) (by omega)
    exact absurd this hne
  | some p =>
    obtain ⟨j, _, hj, hfj, hmin⟩ := firstK_some _ _ hf
    obtain ⟨r, e1, e2, _⟩ := try_sound _ _ _ hfj
    rw [List.nil_append] at e1
    subst e1
    refine ⟨p, rfl, ?_⟩
    rw [e2]
    by_cases h : q.length < j
    · exact absurd (hmin q.length (Nat.zero_le _) h) hne
    · omega
theorem few_bad {x : Dsh} {t : Tap} {kinds : List Dip} {want : Spn} {bound : Int} (h : ¬ (fewR x t kinds want bound).2 = 0) : fewR x t kinds want bound = ([], (fewR x t kinds want bound).2) := by
  unfold fewR at h ⊢
  split
  · rename_i hE
    rw [if_pos hE] at h
    cases hq : fewP x t kinds want bound with
    | none => rfl
    | some p => rw [hq] at h; exact absurd rfl h
  · rfl
end Go.Proofs.YtcgacojnfkklaaaGreatDoor
