/-
  The place that Rush says is the first one that loses least. No program here.
-/
import Derived.Test.YtpkjmnfgpbliaaaZLaw8
namespace Go.Proofs.Ytpkjmnfgpbliaaa
open Go.RowKit
set_option linter.unusedSimpArgs false
set_option linter.unusedVariables false

theorem limp_cons {a b : D} {s t : List D} (h : DImp a b) (g : LImp s t) : LImp (a :: s) (b :: t) := ⟨b, t, rfl, h, g⟩
theorem rush_none (s : Shp) (st : Int) (l : List Bat) (o : List Int) (b : Bat) (n : Nat) (h : rushF s st l o b n = none) (k : Nat) (hk : k < n) : lossO s st (withL l o b k) = none := by
  cases hl : lossO s st (withL l o b k) with
  | none => rfl
  | some m =>
    obtain ⟨p, hp, _⟩ := fm_le (fun k => lossO s st (withL l o b k)) (List.range n) k (List.mem_range.2 hk) m hl
    unfold rushF at h
    rw [h] at hp; cases hp
theorem rush_first (s : Shp) (st : Int) (l : List Bat) (o : List Int) (b : Bat) : ∀ n p, rushF s st l o b n = some p →
    p.1 < n ∧ lossO s st (withL l o b p.1) = some p.2 ∧ ∀ k, k < n → ∀ m, lossO s st (withL l o b k) = some m → p.2 < m ∨ (p.2 = m ∧ p.1 ≤ k) := by
  intro n
  induction n with
  | zero => intro p h; simp [rushF, fm] at h
  | succ n ih =>
    intro p h
    rw [rushF_succ] at h
    cases hZ : rushF s st l o b n with
    | none =>
      cases hL : lossO s st (withL l o b n) with
      | none => rw [hZ, hL] at h; simp [better] at h
      | some m =>
        rw [hZ, hL] at h
        simp only [Option.map_some, none_better, Option.some.injEq] at h
        subst h
        refine ⟨by simp, hL, fun k hk m' hm' => ?_⟩
        by_cases hkn : k < n
        · rw [rush_none s st l o b n hZ k hkn] at hm'; cases hm'
        · obtain rfl : k = n := by omega
          rw [hL] at hm'; cases hm'; exact .inr ⟨rfl, Nat.le_refl _⟩
    | some q =>
      obtain ⟨q1, q2, q3⟩ := ih q hZ
      cases hL : lossO s st (withL l o b n) with
      | none =>
        rw [hZ, hL] at h
        simp only [Option.map_none, better_none, Option.some.injEq] at h
        subst h
        refine ⟨by omega, q2, fun k hk m' hm' => ?_⟩
        by_cases hkn : k < n
        · exact q3 k hkn m' hm'
        · obtain rfl : k = n := by omega
          rw [hL] at hm'; cases hm'
      | some m =>
        rw [hZ, hL] at h
        by_cases hlt : m < q.2
        · simp only [Option.map_some, better, hlt, if_true, Option.some.injEq] at h
          subst h
          refine ⟨by simp, hL, fun k hk m' hm' => ?_⟩
          by_cases hkn : k < n
          · rcases q3 k hkn m' hm' with c | ⟨c, _⟩
            · exact .inl (by show m < m'; omega)
            · exact .inl (by show m < m'; omega)
          · obtain rfl : k = n := by omega
            rw [hL] at hm'; cases hm'; exact .inr ⟨rfl, Nat.le_refl _⟩
        · simp only [Option.map_some, better, hlt, if_false, Option.some.injEq] at h
          subst h
          refine ⟨by omega, q2, fun k hk m' hm' => ?_⟩
          by_cases hkn : k < n
          · exact q3 k hkn m' hm'
          · obtain rfl : k = n := by omega
            rw [hL] at hm'; cases hm'
            by_cases he : q.2 = m
            · exact .inr ⟨he, by omega⟩
            · exact .inl (by omega)
/-- What is known of the place of a further batch. -/
def RushLaw (s : Shp) (st : Int) (l : List Bat) (o : List Int) (b : Bat) : Prop :=
  (rushR s st l o b = (0, 0, 9) ∧ ∀ k, k ≤ l.length → lossB s st (withL l o b k) = -1) ∨
  ∃ (p : Nat) (m : Int), rushR s st l o b = ((p : Int), m, 0) ∧ p ≤ l.length ∧ lossB s st (withL l o b p) = m ∧ ∀ k, k ≤ l.length → lossB s st (withL l o b k) = -1 ∨ m < lossB s st (withL l o b k) ∨ (m = lossB s st (withL l o b k) ∧ p ≤ k)
theorem rush_law {s : Shp} {st : Int} {l : List Bat} {o : List Int} {b : Bat} (ha : askE s st l o = 0) (hb : batErr s b = 0) : RushLaw s st l o b := by
  unfold RushLaw rushR
  rw [if_neg (by simpa using ha), if_neg (by simpa using hb)]
  cases hf : rushF s st l o b (l.length + 1) with
  | none =>
    refine .inl ⟨rfl, fun k hk => ?_⟩
    rw [lossB_eq, rush_none s st l o b _ hf k (by omega)]; rfl
  | some p =>
    obtain ⟨p1, p2, p3⟩ := rush_first s st l o b _ p hf
    refine .inr ⟨p.1, p.2, rfl, by omega, ?_, fun k hk => ?_⟩
    · rw [lossB_eq, p2]; rfl
    · rw [lossB_eq]
      cases hl : lossO s st (withL l o b k) with
      | none => exact .inl rfl
      | some m => exact .inr (p3 k (by omega) m hl)
theorem batsErr_append (s : Shp) (l : List Bat) (b : Bat) (h : batsErr s (l ++ [b]) = 0) : batsErr s l = 0 ∧ batErr s b = 0 := by
  induction l with
  | nil =>
    rw [List.nil_append, batsErr] at h
    by_cases hb : batErr s b = 0
    · exact ⟨rfl, hb⟩
    · rw [if_neg hb] at h; exact absurd h hb
  | cons a t ih =>
    rw [List.cons_append, batsErr] at h
    by_cases ha : batErr s a = 0
    · rw [if_pos ha] at h
      obtain ⟨h1, h2⟩ := ih h
      exact ⟨by rw [batsErr, if_pos ha]; exact h1, h2⟩
    · rw [if_neg ha] at h; exact absurd h ha
theorem valid_parts {s : Shp} {l : List Bat} (h1 : validE s l = 0) : (chk s).2.2 = 0 ∧ l.length ≤ 7 ∧ batsErr s l = 0 := by
  have h2 : (chk s).2.2 = 0 := by
    unfold validE at h1
    by_cases h : (chk s).2.2 = 0
    · exact h
    · rw [if_neg h] at h1; exact h1
  refine ⟨h2, ?_⟩
  unfold validE at h1
  rw [if_pos h2] at h1
  unfold batsE at h1
  by_cases h : 7 < l.length
  · rw [if_pos h] at h1; cases h1
  · rw [if_neg h] at h1; exact ⟨by omega, h1⟩
end Go.Proofs.Ytpkjmnfgpbliaaa
