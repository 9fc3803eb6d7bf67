/-
  Plain laws of the colour chapter: what a valid shop is, when a colour can show, how many rinses a batch needs. No program here.
-/
import Derived.Test.YtpkjmnfgpbliaaaZOpen3
namespace Go.Proofs.Ytpkjmnfgpbliaaa
open Go.RowKit
set_option linter.unusedSimpArgs false
set_option linter.unusedVariables false

instance : Inhabited Col := ⟨⟨ByteArray.empty, ⟨0, 0⟩, []⟩⟩

theorem getD_at {α : Type} (l : List α) (i : Nat) (d : α) (h : i < l.length) : l.getD i d = l[i] := by simp [List.getD, h]

structure Good (s : Shp) : Prop where
  n0 : 1 ≤ s.cols.length
  n1 : s.cols.length ≤ 6
  r0 : 0 ≤ s.rinse
  r1 : s.rinse ≤ 10000
  k0 : 0 ≤ s.keep.lo
  k1 : s.keep.lo ≤ s.keep.hi
  k2 : s.keep.hi ≤ 1000
  sh : ∀ j, j < s.cols.length → (s.cols.getD j default).shows.length = s.cols.length
  sv : ∀ j i, j < s.cols.length → i < s.cols.length → 0 ≤ (s.cols.getD j default).shows.getD i 0 ∧ (s.cols.getD j default).shows.getD i 0 ≤ 1000
  st : ∀ j, j < s.cols.length → 0 ≤ (s.cols.getD j default).stay.lo ∧ (s.cols.getD j default).stay.lo ≤ (s.cols.getD j default).stay.hi ∧ (s.cols.getD j default).stay.hi ≤ 1000

theorem outB_one (lo hi x : Int) : outB lo hi [x] = false ↔ lo ≤ x ∧ x ≤ hi := by
  simp [outB]
theorem outB_two (lo hi x y : Int) : outB lo hi [x, y] = false ↔ (lo ≤ x ∧ x ≤ hi) ∧ (lo ≤ y ∧ y ≤ hi) := by
  simp [outB]
theorem outB_all (lo hi : Int) (l : List Int) : outB lo hi l = false ↔ ∀ i, i < l.length → lo ≤ l.getD i 0 ∧ l.getD i 0 ≤ hi := by
  simp only [outB, List.any_eq_false, Bool.or_eq_true, decide_eq_true_eq, not_or, Int.not_lt]
  constructor
  · intro h i hi'
    have := h l[i] (List.getElem_mem hi')
    rw [getD_at _ _ _ hi']; simpa using this
  · intro h x hx
    obtain ⟨i, hi', rfl⟩ := List.getElem_of_mem hx
    have := h i hi'; rw [getD_at _ _ _ hi'] at this; simpa using this

theorem colErr_zero {s : Shp} {i : Nat} {c : Col} (h : colErr s i c = 0) : nameB c.name = true ∧ (s.cols.take i).any (sameName c.name) = false ∧ c.shows.length = s.cols.length ∧ outB 0 1000 c.shows = false ∧ outB 0 1000 [c.stay.lo, c.stay.hi] = false ∧ ¬ c.stay.hi < c.stay.lo := by
  unfold colErr at h
  by_cases h1 : nameB c.name = false
  · rw [if_pos h1] at h; omega
  rw [if_neg h1] at h
  by_cases h2 : (s.cols.take i).any (sameName c.name) = true
  · rw [if_pos h2] at h; omega
  rw [if_neg h2] at h
  by_cases h3 : c.shows.length = s.cols.length
  · rw [if_neg (by simpa using h3)] at h
    by_cases h4 : outB 0 1000 c.shows = true
    · rw [if_pos h4] at h; omega
    rw [if_neg h4] at h
    by_cases h5 : outB 0 1000 [c.stay.lo, c.stay.hi] = true
    · rw [if_pos h5] at h; omega
    rw [if_neg h5] at h
    by_cases h6 : c.stay.hi < c.stay.lo
    · rw [if_pos h6] at h; omega
    exact ⟨by simpa using h1, by simpa using h2, h3, by simpa using h4, by simpa using h5, h6⟩
  · rw [if_pos h3] at h; omega

theorem chkGo_zero (s : Shp) : ∀ (l : List Col) (i : Nat), (chkGo s i l).2.2 = 0 → ∀ j (hj : j < l.length), colErr s (i + j) l[j] = 0 := by
  intro l
  induction l with
  | nil => intro i _ j hj; exact absurd hj (by simp)
  | cons c t ih =>
    intro i h j hj
    by_cases hc : colErr s i c = 0
    · rw [chkGo, if_pos hc] at h
      cases j with
      | zero => simpa using hc
      | succ j => have := ih (i + 1) h j (by simpa using hj); simpa [Nat.add_assoc, Nat.add_comm 1 j] using this
    · rw [chkGo, if_neg hc] at h
      exact absurd h hc

theorem good_of_chk {s : Shp} (h : (chk s).2.2 = 0) : Good s := by
  unfold chk at h
  by_cases h1 : outB 1 6 [(s.cols.length : Int)] = true
  · rw [if_pos h1] at h; exact absurd h (by simp)
  rw [if_neg h1] at h
  by_cases h2 : outB 0 10000 [s.rinse] = true
  · rw [if_pos h2] at h; exact absurd h (by simp)
  rw [if_neg h2] at h
  by_cases h3 : outB 0 1000 [s.keep.lo, s.keep.hi] = true
  · rw [if_pos h3] at h; exact absurd h (by simp)
  rw [if_neg h3] at h
  by_cases h4 : s.keep.hi < s.keep.lo
  · rw [if_pos h4] at h; exact absurd h (by simp)
  rw [if_neg h4] at h
  have a1 := (outB_one _ _ _).1 (by simpa using h1)
  have a2 := (outB_one _ _ _).1 (by simpa using h2)
  have a3 := (outB_two _ _ _ _).1 (by simpa using h3)
  have hz := chkGo_zero s s.cols 0 h
  refine ⟨by omega, by omega, a2.1, a2.2, a3.1.1, by omega, a3.2.2, ?_, ?_, ?_⟩
  · intro j hj
    obtain ⟨_, _, e, _⟩ := colErr_zero (hz j hj)
    rw [getD_at _ _ _ hj]; exact e
  · intro j i hj hi
    obtain ⟨_, _, e, e4, _⟩ := colErr_zero (hz j hj)
    have := (outB_all _ _ _).1 e4 i (by omega)
    rw [getD_at _ _ _ hj]; exact this
  · intro j hj
    obtain ⟨_, _, _, _, e5, e6⟩ := colErr_zero (hz j hj)
    have := (outB_two _ _ _ _).1 e5
    simp only [getD_at _ _ _ hj]
    omega

/-- A colour can show in a batch, after so many rinses. -/
def canShow (s : Shp) (bf : Nat) (b : Bat) (r : Nat) : Bool :=
  !decide ((bf : Int) = b.c) && decide (b.g * (s.cols.getD bf default).shows.getD b.c.toNat 0 * 1000 ^ r < 1000 * (s.cols.getD bf default).stay.hi * s.keep.hi ^ r)
/-- How many rinses a batch needs after a colour (-1: it cannot follow). -/
def needs (s : Shp) (bf : Nat) (b : Bat) : Int :=
  if canShow s bf b 0 = false then 0 else if canShow s bf b 1 = false then 1 else if canShow s bf b 2 = false then 2 else if canShow s bf b 3 = false then 3 else -1
/-- A valid batch. -/
def okBat (s : Shp) (b : Bat) : Prop := (0 ≤ b.c ∧ b.c < s.cols.length) ∧ 1 ≤ b.g ∧ b.g ≤ 100000
theorem okBat_of {s : Shp} {b : Bat} (h : batErr s b = 0) : okBat s b := by
  unfold batErr at h
  by_cases h1 : outB 0 ((s.cols.length : Int) - 1) [b.c] = true
  · rw [if_pos h1] at h; omega
  rw [if_neg h1] at h
  by_cases h2 : outB 1 100000 [b.g] = true
  · rw [if_pos h2] at h; omega
  have a1 := (outB_one _ _ _).1 (by simpa using h1)
  have a2 := (outB_one _ _ _).1 (by simpa using h2)
  exact ⟨⟨a1.1, by omega⟩, a2⟩
theorem okBat_all {s : Shp} {l : List Bat} (h : batsErr s l = 0) : ∀ j (hj : j < l.length), okBat s l[j] := by
  induction l with
  | nil => intro j hj; exact absurd hj (by simp)
  | cons b t ih =>
    intro j hj
    by_cases hb : batErr s b = 0
    · rw [batsErr, if_pos hb] at h
      cases j with
      | zero => exact okBat_of hb
      | succ j => exact ih h j (by simpa using hj)
    · rw [batsErr, if_neg hb] at h; exact absurd h hb
theorem pow_bd (n keep : Int) (h0 : 0 ≤ n) (h1 : n ≤ 1000000000) (k0 : 0 ≤ keep) (k1 : keep ≤ 1000) (k : Nat) (hk : k ≤ 3) : 0 ≤ n * keep ^ k ∧ n * keep ^ k ≤ 1000000000000000000 := by
  have e0 : 0 ≤ keep * keep := Int.mul_nonneg k0 k0
  have e1 : keep * keep ≤ 1000 * 1000 := Int.mul_le_mul k1 k1 k0 (by omega)
  have e2 : 0 ≤ keep * keep * keep := Int.mul_nonneg e0 k0
  have e3 : keep * keep * keep ≤ 1000 * 1000 * 1000 := Int.mul_le_mul e1 k1 k0 (by omega)
  have key : 0 ≤ keep ^ k ∧ keep ^ k ≤ 1000000000 := by
    have h3 : k = 0 ∨ k = 1 ∨ k = 2 ∨ k = 3 := by omega
    rcases h3 with h | h | h | h <;> subst h
    · rw [show keep ^ 0 = 1 from by grind]; omega
    · rw [show keep ^ 1 = keep from by grind]; omega
    · rw [show keep ^ 2 = keep * keep from by grind]; omega
    · rw [show keep ^ 3 = keep * keep * keep from by grind]; omega
  refine ⟨Int.mul_nonneg h0 key.1, ?_⟩
  exact Int.le_trans (Int.mul_le_mul h1 key.2 key.1 (by omega)) (by omega)
end Go.Proofs.Ytpkjmnfgpbliaaa
