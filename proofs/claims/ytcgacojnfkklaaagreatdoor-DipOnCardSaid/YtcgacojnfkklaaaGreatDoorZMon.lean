/-
  Plain laws of the dip chapter: how ends grow with the warmth, the seconds, the pause; what the ranges mean. Conditions: none.
-/
import Derived.Test.YtcgacojnfkklaaaGreatDoorZRefH
namespace Go.Proofs.YtcgacojnfkklaaaGreatDoor
open Go.RowKit
set_option linter.unusedSimpArgs false
set_option linter.unusedVariables false
theorem coat_warm {x : Dsh} {n w v : Int} (h : numbersB x = true) (hm : x.melt ≤ w) (hw : w ≤ v) : coatV x v n ≤ coatV x w n := by
  have hx := nums_of h
  have m0 : (0 : Int) ≤ max 0 (n - x.hold) := by omega
  have a := Int.mul_le_mul_of_nonneg_left (show w - x.melt ≤ v - x.melt by omega) hx.t0
  have b := Int.mul_le_mul_of_nonneg_left (show w - x.melt ≤ v - x.melt by omega) hx.b0
  have c := Int.mul_le_mul_of_nonneg_right b m0
  unfold coatV
  omega
theorem grown_warm {x : Dsh} {d : Dip} {w v : Int} (h : gOk x d w) (hw : w ≤ v) : (grownV x d v).1 ≤ (grownV x d w).1 ∧ (grownV x d v).2 ≤ (grownV x d w).2 := by
  have a := coat_warm (n := d.secs) h.1.1 h.1.2.1 hw
  have b := coat_warm (n := d.secs - x.draw) h.1.1 h.1.2.1 hw
  unfold grownV
  cases d.turned <;> simp only [Bool.false_eq_true, if_false, if_true] <;> omega
theorem skew_warm {x : Dsh} {d : Dip} {w v : Int} (h : gOk x d w) (hw : w ≤ v) : if d.turned = true then skewV x d w ≤ skewV x d v else skewV x d v ≤ skewV x d w := by
  have hx := nums_of h.1.1
  have b0 := Int.mul_le_mul_of_nonneg_left (show w - x.melt ≤ v - x.melt by omega) hx.b0
  have d0 : (0 : Int) ≤ max 0 (d.secs - x.hold) - max 0 (d.secs - x.draw - x.hold) := by have := hx.d0; omega
  have c := Int.mul_le_mul_of_nonneg_right b0 d0
  unfold skewV grownV coatV
  generalize x.back * (w - x.melt) = P at *
  generalize x.back * (v - x.melt) = Q at *
  rw [Int.mul_sub, Int.mul_sub] at c
  cases d.turned <;> simp only [Bool.false_eq_true, if_false, if_true] <;> omega
theorem skew_ends {x : Dsh} {d : Dip} (h : okD x d) : skewV x d (endsV x d).1 = skewV x d (if d.turned == false then (warmV x d).hi else (warmV x d).lo) ∧ skewV x d (endsV x d).2 = skewV x d (if d.turned == true then (warmV x d).hi else (warmV x d).lo) := by
  obtain ⟨B, e1, hB, e2, _, g1, g2, g3, _⟩ := okD_bath h
  have a := skew_warm g1 g3
  unfold endsV
  cases ht : d.turned
  · rw [ht] at a
    simp at a
    by_cases h1 : skewV x d (warmV x d).hi < skewV x d (warmV x d).lo
    · rw [if_neg (by omega), if_pos h1]; simp
    · rw [if_neg (by omega), if_neg h1]; simp; omega
  · rw [ht] at a
    simp at a
    by_cases h1 : skewV x d (warmV x d).lo < skewV x d (warmV x d).hi
    · rw [if_pos h1]; simp
    · rw [if_neg h1, if_neg (by omega)]; simp; omega
theorem skew_in {x : Dsh} {d : Dip} (h : okD x d) {w : Int} (h1 : (warmV x d).lo ≤ w) (h2 : w ≤ (warmV x d).hi) : skewV x d (endsV x d).1 ≤ skewV x d w ∧ skewV x d w ≤ skewV x d (endsV x d).2 := by
  obtain ⟨B, e1, hB, e2, _, g1, g2, g3, g4⟩ := okD_bath h
  have a := skew_warm g1 h1
  have b := skew_warm (g4 w h1 h2) h2
  obtain ⟨c1, c2⟩ := skew_ends h
  rw [c1, c2]
  cases ht : d.turned <;> rw [ht] at a b <;> simp at a b ⊢ <;> omega
def wIn (x : Dsh) (l : List Dip) (w : List Int) : Prop := w.length = l.length ∧ ∀ k (hk : k < l.length), (warmV x l[k]).lo ≤ w.getD k 0 ∧ w.getD k 0 ≤ (warmV x l[k]).hi
theorem warm_in {x : Dsh} {l : List Dip} {w : List Int} : warmE x l w = 0 ↔ wIn x l w := by
  constructor
  · intro h
    obtain ⟨a, b⟩ := warm_at h
    exact ⟨a, fun k hk => by rw [getD_at _ _ _ (by omega)]; exact b k hk (by omega)⟩
  · rintro ⟨a, b⟩
    unfold warmE
    rw [if_neg (by simpa using a)]
    rcases findI_cases (fun i d => if inR (w.getD i 0) (warmV x d).lo (warmV x d).hi then (0 : Int) else 7) l with ⟨e, _⟩ | ⟨j, hj, e1, hbad, _⟩
    · rw [e]
    · have := inR_iff.2 (b j hj)
      rw [if_pos this] at hbad
      exact absurd rfl hbad
theorem stA_succ {x : Dsh} {t : Tap} {l : List Dip} {k : Nat} (hk : k < l.length) : stA x t l (k + 1) = stepA x (stA x t l k) l[k] := by rw [stA, getD_at _ _ _ hk]
theorem flS_succ {x : Dsh} {t : Tap} {l : List Dip} {w : List Int} {k : Nat} (hk : k < l.length) : flS x t l w (k + 1) = dippedV x (flS x t l w k) l[k] (w.getD k 0) := by rw [flS, getD_at _ _ _ hk]
theorem dip_step (x : Dsh) (t : Tap) (d : Dip) (w : Int) : (dippedV x t d w).foot - (dippedV x t d w).top = t.foot - t.top + skewV x d w := by
  simp only [dippedV, skewV]; omega
theorem fl_in {x : Dsh} {t : Tap} {l : List Dip} {w : List Int} (hl : okL x l) (hw : wIn x l w) : ∀ k, k ≤ l.length →
    ((stA x t l k).2.1.top ≤ (flS x t l w k).top ∧ (flS x t l w k).top ≤ (stA x t l k).1.top) ∧ ((stA x t l k).2.1.foot ≤ (flS x t l w k).foot ∧ (flS x t l w k).foot ≤ (stA x t l k).1.foot) ∧
    ((stA x t l k).2.2.lo ≤ (flS x t l w k).foot - (flS x t l w k).top ∧ (flS x t l w k).foot - (flS x t l w k).top ≤ (stA x t l k).2.2.hi) ∧ (flS x t l w k).wick = t.wick ∧ (stA x t l k).1.wick = t.wick ∧ (stA x t l k).2.1.wick = t.wick := by
  intro k
  induction k with
  | zero => intro _; simp [stA, flS]
  | succ k ih =>
    intro hk
    have i := ih (by omega)
    have hk' : k < l.length := by omega
    have hd := okL_at hl k hk'
    obtain ⟨B, e1, hB, e2, _, g1, g2, g3, g4⟩ := okD_bath hd
    obtain ⟨a, b⟩ := hw.2 k hk'
    have m1 := grown_warm g1 a
    have m2 := grown_warm (g4 _ a b) b
    have m3 := skew_in hd a b
    have ds := dip_step x (flS x t l w k) l[k] (w.getD k 0)
    rw [stA_succ hk', flS_succ hk']
    simp only [stepA]
    rw [ds]
    simp only [dippedV]
    omega
theorem map_at {l : List Dip} (f : Dip → Int) {k : Nat} (hk : k < l.length) : (l.map f).getD k 0 = f l[k] := by
  rw [getD_at _ _ _ (by simpa using hk)]; simp
theorem map_in {x : Dsh} {l : List Dip} (hl : okL x l) (f : Dip → Int) (hf : ∀ d ∈ l, f d = (warmV x d).lo ∨ f d = (warmV x d).hi) : wIn x l (l.map f) := by
  refine ⟨by simp, fun k hk => ?_⟩
  rw [map_at f hk]
  obtain ⟨B, e1, hB, e2, _, g1, g2, g3, g4⟩ := okD_bath (okL_at hl k hk)
  rcases hf l[k] (List.getElem_mem hk) with e | e <;> rw [e] <;> omega
theorem fl_hot {x : Dsh} {t : Tap} {l : List Dip} : ∀ k, k ≤ l.length → flS x t l (l.map fun d => (warmV x d).hi) k = (stA x t l k).2.1 := by
  intro k
  induction k with
  | zero => intro _; rfl
  | succ k ih =>
    intro hk
    rw [stA_succ hk, flS_succ hk, ih (by omega), map_at _ hk]; rfl
theorem fl_cold {x : Dsh} {t : Tap} {l : List Dip} : ∀ k, k ≤ l.length → flS x t l (l.map fun d => (warmV x d).lo) k = (stA x t l k).1 := by
  intro k
  induction k with
  | zero => intro _; rfl
  | succ k ih =>
    intro hk
    rw [stA_succ hk, flS_succ hk, ih (by omega), map_at _ hk]; rfl
theorem fl_skew {x : Dsh} {t : Tap} {l : List Dip} (f : Dip → Int) (e : Spn → Int) (g : Dip → Int) (hf : ∀ d ∈ l, skewV x d (f d) = g d) (h0 : e ⟨t.foot - t.top, t.foot - t.top⟩ = t.foot - t.top) (hs : ∀ s d, d ∈ l → e (stepA x s d).2.2 = e s.2.2 + g d) : ∀ k, k ≤ l.length → (flS x t l (l.map f) k).foot - (flS x t l (l.map f) k).top = e (stA x t l k).2.2 := by
  intro k
  induction k with
  | zero => intro _; exact h0.symm
  | succ k ih =>
    intro hk
    have hm := List.getElem_mem hk
    rw [stA_succ hk, flS_succ hk, dip_step, ih (by omega), map_at _ hk, hf _ hm, hs _ _ hm]
theorem fl_least {x : Dsh} {t : Tap} {l : List Dip} (f : Dip → Int) (hf : ∀ d ∈ l, skewV x d (f d) = skewV x d (endsV x d).1) : ∀ k, k ≤ l.length → (flS x t l (l.map f) k).foot - (flS x t l (l.map f) k).top = (stA x t l k).2.2.lo :=
  fl_skew f (fun s => s.lo) _ hf rfl fun _ _ _ => rfl
theorem fl_most {x : Dsh} {t : Tap} {l : List Dip} (f : Dip → Int) (hf : ∀ d ∈ l, skewV x d (f d) = skewV x d (endsV x d).2) : ∀ k, k ≤ l.length → (flS x t l (l.map f) k).foot - (flS x t l (l.map f) k).top = (stA x t l k).2.2.hi :=
  fl_skew f (fun s => s.hi) _ hf rfl fun _ _ _ => rfl
theorem lostB_iff {t : Tap} : lostB t = true ↔ t.top < t.wick ∨ t.foot < t.wick := by simp [lostB]
theorem after_ok {x : Dsh} {t : Tap} {l : List Dip} : (afterE x t l).2 = 0 ↔ askedE x t l = 0 ∧ ∀ k, k < l.length → lostB (stA x t l (k + 1)).2.1 = false := by
  unfold afterE afterR
  by_cases h1 : askedE x t l = 0
  · rw [if_neg (by simpa using h1)]
    by_cases h2 : (List.range l.length).any (lostAt x t l) = true
    · rw [if_pos h2]
      simp only [List.any_eq_true, List.mem_range] at h2
      obtain ⟨k, hk, h3⟩ := h2
      refine ⟨fun h => (by cases h), fun h => ?_⟩
      have := h.2 k hk
      unfold lostAt at h3
      rw [this] at h3; cases h3
    · rw [if_neg h2]
      refine ⟨fun _ => ⟨h1, fun k hk => ?_⟩, fun _ => rfl⟩
      simp only [List.any_eq_true, List.mem_range, not_exists, not_and] at h2
      have := h2 k hk
      simpa [lostAt] using this
  · rw [if_pos h1]
    exact ⟨fun h => absurd h h1, fun h => absurd h.1 h1⟩
theorem after_val {x : Dsh} {t : Tap} {l : List Dip} (h : (afterE x t l).2 = 0) : afterE x t l = (afterL x t l l.length, 0) := by
  have h' := h
  rw [after_ok] at h'
  unfold afterE afterR
  rw [if_neg (by simpa using h'.1), if_neg]
  simp only [List.any_eq_true, List.mem_range, not_exists, not_and]
  intro k hk
  have := h'.2 k hk
  simp [lostAt, this]
theorem after_bad {x : Dsh} {t : Tap} {l : List Dip} (h : ¬ (afterE x t l).2 = 0) : afterE x t l = ([], (afterE x t l).2) := by
  unfold afterE at h ⊢
  split
  · rfl
  · rename_i h1
    rw [if_neg h1] at h
    revert h
    cases afterR x t l <;> simp
theorem after_err {x : Dsh} {t : Tap} {l : List Dip} (h1 : askedE x t l = 0) (h : ¬ (afterE x t l).2 = 0) : (afterE x t l).2 = 9 := by
  unfold afterE at h ⊢
  rw [if_neg (by simpa using h1)] at h ⊢
  revert h
  cases afterR x t l <;> simp
theorem follow_ok {x : Dsh} {t : Tap} {l : List Dip} {w : List Int} : (followR x t l w).2 = 0 ↔ askedE x t l = 0 ∧ wIn x l w ∧ ∀ k, k < l.length → lostB (flS x t l w (k + 1)) = false := by
  unfold followR
  by_cases h1 : askedE x t l = 0
  · rw [if_neg (by simpa using h1)]
    by_cases h2 : warmE x l w = 0
    · rw [if_neg (by simpa using h2)]
      by_cases h3 : (List.range l.length).any (fun k => lostB (flS x t l w (k + 1))) = true
      · rw [if_pos h3]
        simp only [List.any_eq_true, List.mem_range] at h3
        obtain ⟨k, hk, h3⟩ := h3
        refine ⟨fun h => (by cases h), fun h => ?_⟩
        rw [h.2.2 k hk] at h3; cases h3
      · rw [if_neg h3]
        refine ⟨fun _ => ⟨h1, warm_in.1 h2, fun k hk => ?_⟩, fun _ => rfl⟩
        simp only [List.any_eq_true, List.mem_range, not_exists, not_and] at h3
        simpa using h3 k hk
    · rw [if_pos h2]
      exact ⟨fun h => absurd h h2, fun h => absurd (warm_in.2 h.2.1) h2⟩
  · rw [if_pos h1]
    exact ⟨fun h => absurd h h1, fun h => absurd h.1 h1⟩
theorem follow_val {x : Dsh} {t : Tap} {l : List Dip} {w : List Int} (h : (followR x t l w).2 = 0) : followR x t l w = (flS x t l w l.length, 0) := by
  have h' := follow_ok.1 h
  unfold followR
  rw [if_neg (by simpa using h'.1), if_neg (by simpa using warm_in.2 h'.2.1), if_neg]
  simp only [List.any_eq_true, List.mem_range, not_exists, not_and]
  intro k hk
  simp [h'.2.2 k hk]
theorem follow_err {x : Dsh} {t : Tap} {l : List Dip} {w : List Int} (h1 : askedE x t l = 0) (h2 : wIn x l w) (h : ¬ (followR x t l w).2 = 0) : followR x t l w = (⟨0, 0, 0⟩, 9) := by
  unfold followR at h ⊢
  rw [if_neg (by simpa using h1), if_neg (by simpa using warm_in.2 h2)] at h ⊢
  split
  · rfl
  · rename_i h3
    rw [if_neg h3] at h; simp at h
theorem follow_after {x : Dsh} {t : Tap} {l : List Dip} {w : List Int} (h : (afterE x t l).2 = 0) (hw : wIn x l w) : (followR x t l w).2 = 0 := by
  obtain ⟨h1, h2⟩ := after_ok.1 h
  obtain ⟨_, _, hl⟩ := asked_ok h1
  refine follow_ok.2 ⟨h1, hw, fun k hk => ?_⟩
  have a := h2 k hk
  have b := fl_in (t := t) hl hw (k + 1) hk
  cases hq : lostB (flS x t l w (k + 1))
  · rfl
  · exfalso
    rw [lostB_iff] at hq
    have : lostB (stA x t l (k + 1)).2.1 = true := lostB_iff.2 (by omega)
    rw [this] at a; cases a
theorem stA_take {x : Dsh} {t : Tap} {l : List Dip} {n : Nat} : ∀ k, k ≤ n → n ≤ l.length → stA x t (l.take n) k = stA x t l k := by
  intro k
  induction k with
  | zero => intro _ _; rfl
  | succ k ih =>
    intro hk hn
    have h1 : k < (l.take n).length := by rw [List.length_take]; omega
    rw [stA_succ h1, stA_succ (by omega), ih (by omega) hn, List.getElem_take]
theorem flS_take {x : Dsh} {t : Tap} {l : List Dip} {w : List Int} {n : Nat} : ∀ k, k ≤ n → n ≤ l.length → n ≤ w.length → flS x t (l.take n) (w.take n) k = flS x t l w k := by
  intro k
  induction k with
  | zero => intro _ _ _; rfl
  | succ k ih =>
    intro hk hn hw
    have h1 : k < (l.take n).length := by rw [List.length_take]; omega
    rw [flS_succ h1, flS_succ (by omega), ih (by omega) hn hw, List.getElem_take, getD_at _ _ _ (by rw [List.length_take]; omega), getD_at _ _ _ (by omega), List.getElem_take]
theorem okL_take {x : Dsh} {l : List Dip} (h : okL x l) (n : Nat) : okL x (l.take n) := ⟨h.1, by rw [List.length_take]; have := h.2.1; omega, fun d hd => h.2.2 d (List.mem_of_mem_take hd)⟩
theorem okL_drop {x : Dsh} {l : List Dip} (h : okL x l) (n : Nat) : okL x (l.drop n) := ⟨h.1, by rw [List.length_drop]; have := h.2.1; omega, fun d hd => h.2.2 d (List.mem_of_mem_drop hd)⟩
theorem plan_zero' {x : Dsh} {l : List Dip} (h : okL x l) : planE x l = 0 := by
  unfold planE
  rw [if_neg (by have := h.2.1; omega)]
  rcases findI_cases (fun _ d => dipE x d) l with ⟨e, _⟩ | ⟨k, hk, e, hbad, _⟩
  · rw [e]
  · exact absurd (h.2.2 _ (List.getElem_mem hk)) hbad
theorem asked_of {x : Dsh} {t : Tap} {l : List Dip} (ht : tapE t = 0) (h : okL x l) : askedE x t l = 0 := by
  unfold askedE
  rw [if_neg (by simpa using h.1), if_neg (by simpa using ht)]
  exact plan_zero' h
theorem wIn_take {x : Dsh} {l : List Dip} {w : List Int} (h : wIn x l w) (n : Nat) : wIn x (l.take n) (w.take n) := by
  refine ⟨by rw [List.length_take, List.length_take, h.1], fun k hk => ?_⟩
  rw [List.length_take] at hk
  have hw := h.1
  rw [List.getElem_take, getD_at _ _ _ (by rw [List.length_take]; omega), List.getElem_take]
  have := h.2 k (by omega)
  rw [getD_at _ _ _ (by omega)] at this
  exact this
theorem after_take {x : Dsh} {t : Tap} {l : List Dip} (h : (afterE x t l).2 = 0) {n : Nat} (hn : n ≤ l.length) : (afterE x t (l.take n)).2 = 0 := by
  obtain ⟨h1, h2⟩ := after_ok.1 h
  obtain ⟨_, ht, hl⟩ := asked_ok h1
  refine after_ok.2 ⟨asked_of ht (okL_take hl n), fun k hk => ?_⟩
  rw [List.length_take] at hk
  rw [stA_take (k + 1) (by omega) hn]
  exact h2 k (by omega)
theorem afterL_at (x : Dsh) (t : Tap) (l : List Dip) (n : Nat) (k : Nat) (hk : k < n) : (afterL x t l n).getD k default = rngOf (stA x t l (k + 1)) := by
  rw [getD_at _ _ _ (by simpa [afterL] using hk)]
  simp [afterL]
theorem last_val {x : Dsh} {t : Tap} {l : List Dip} (h : (afterE x t l).2 = 0) : lastV x t l = rngOf (stA x t l l.length) := by
  have hv : afterR x t l = some (afterL x t l l.length) := by
    have := after_val h
    obtain ⟨h1, _⟩ := after_ok.1 h
    unfold afterE at this h
    rw [if_neg (by simpa using h1)] at this h
    cases hq : afterR x t l with
    | none => rw [hq] at h; cases h
    | some r => rw [hq] at this; cases this; rfl
  unfold lastV
  rw [hv, Option.getD_some, afterL_len]
  by_cases h0 : l.length = 0
  · rw [if_pos h0, h0]; rfl
  · rw [if_neg h0, afterL_at _ _ _ _ _ (by omega), Nat.sub_add_cancel (by omega)]
end Go.Proofs.YtcgacojnfkklaaaGreatDoor
