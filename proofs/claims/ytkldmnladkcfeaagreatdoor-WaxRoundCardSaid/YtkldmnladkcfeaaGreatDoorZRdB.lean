/-
  The program's Read as a plain function. No walk here. Conditions: none.
-/
import Derived.Test.YtkldmnladkcfeaaGreatDoorZRdC
import Derived.Test.YtkldmnladkcfeaaGreatDoorZRefD
import Derived.Test.YtkldmnladkcfeaaGreatDoorZSpl
namespace Go.Proofs.YtkldmnladkcfeaaGreatDoor
open Go.RowKit Go.Lib
set_option linter.unusedSimpArgs false
set_option linter.unusedVariables false
def propsO (W : List ByteArray) : Nat → Option (List Prp)
  | 0 => some []
  | k + 1 => match propsO W k, numP (W.getD (2 * k + 2) ⟨#[]⟩) with
    | some l, some n => some (l ++ [⟨W.getD (2 * k + 1) ⟨#[]⟩, n⟩])
    | _, _ => none
def spansO (W : List ByteArray) : Nat → Option (List Spn)
  | 0 => some []
  | k + 1 => match spansO W k, numP (W.getD (2 * k + 2) ⟨#[]⟩), numP (W.getD (2 * k + 1) ⟨#[]⟩) with
    | some l, some hi, some lo => some (l ++ [⟨lo, hi⟩])
    | _, _, _ => none
@[simp] theorem propsO_zero (W : List ByteArray) : propsO W 0 = some [] := rfl
@[simp] theorem spansO_zero (W : List ByteArray) : spansO W 0 = some [] := rfl
def stepP (i : Nat) (W : List ByteArray) (t : Tbl) : Option Tbl :=
  if i = 1 then (if W.length = 2 then (numP (W.getD 1 ⟨#[]⟩)).map fun n => ⟨t.props, t.kinds, n⟩ else none)
  else if W.length % 2 = 0 then none
  else if i = 0 then (propsO W (halfW W)).map fun ps => ⟨t.props ++ ps, t.kinds, t.purity⟩
  else (spansO W (halfW W)).map fun sp => ⟨t.props, t.kinds ++ [⟨W.getD 0 ⟨#[]⟩, sp⟩], t.purity⟩
def wordsL (L : List ByteArray) (k : Nat) : List ByteArray := splitW (L.getD k ⟨#[]⟩) spB
def runP (L : List ByteArray) : Nat → Option Tbl
  | 0 => some noT
  | k + 1 => (runP L k).bind (stepP k (wordsL L k))
def linesL (s : ByteArray) : List ByteArray := splitW (trimV s nlB) nlB
def parseP (s : ByteArray) : Option Tbl := runP (linesL s) (linesL s).length
def readP (s : ByteArray) : Tbl × Int := if 2000 < s.size then (noT, 3) else match parseP s with
  | some t => if okT t ∧ (textV t).toList = s.toList then (t, 0) else (noT, 6)
  | none => (noT, 6)
def tabK (L : List ByteArray) (k : Nat) : Tbl := (runP L k).getD noT
theorem run_cases (L : List ByteArray) : ∀ m, ∃ n, n ≤ m ∧ (∀ k, k ≤ n → runP L k = some (tabK L k)) ∧ (n = m ∨ (n < m ∧ stepP n (wordsL L n) (tabK L n) = none ∧ runP L m = none))
  | 0 => ⟨0, Nat.le_refl _, fun k hk => by rw [show k = 0 by omega]; rfl, .inl rfl⟩
  | m + 1 => by
    obtain ⟨n, h1, h2, h3⟩ := run_cases L m
    rcases h3 with rfl | ⟨h3, h4, h5⟩
    · cases hs : stepP n (wordsL L n) (tabK L n) with
      | none => exact ⟨n, by omega, h2, .inr ⟨by omega, hs, by rw [runP, h2 n (Nat.le_refl _)]; exact hs⟩⟩
      | some t =>
        have hr : runP L (n + 1) = some t := by rw [runP, h2 n (Nat.le_refl _)]; exact hs
        refine ⟨n + 1, Nat.le_refl _, fun k hk => ?_, .inl rfl⟩
        by_cases e : k = n + 1
        · subst e; rw [tabK, hr]; rfl
        · exact h2 k (by omega)
    · exact ⟨n, by omega, h2, .inr ⟨by omega, h4, by rw [runP, h5]; rfl⟩⟩
theorem run_step {L : List ByteArray} {n : Nat} (h : ∀ k, k ≤ n → runP L k = some (tabK L k)) {j : Nat} (hj : j < n) : stepP j (wordsL L j) (tabK L j) = some (tabK L (j + 1)) := by
  have h1 := h (j + 1) (by omega)
  rw [runP, h j (by omega)] at h1
  exact h1
theorem trim_size (s p : ByteArray) : (trimV s p).size ≤ s.size := by
  show (Lib.trimSuffix s.data.toList p.data.toList).toArray.size ≤ s.data.size
  have : s.data.size = s.data.toList.length := by simp
  rw [this, List.size_toArray]
  unfold Lib.trimSuffix
  split
  · simp
  · exact Nat.le_refl _
theorem splitB_mem (sep : ByteArray) (save : Nat) : ∀ (k : Nat) (s : ByteArray), ∀ p ∈ Lib.splitB sep save k s, p.size ≤ s.size
  | 0, s, p, h => by simp only [Lib.splitB_zero, List.mem_singleton] at h; subst h; exact Nat.le_refl _
  | k + 1, s, p, h => by
    rcases Lib.indexB_cases s sep with h1 | ⟨i, h1, h2⟩
    · rw [Lib.splitB_miss sep save (k + 1) s h1, List.mem_singleton] at h; subst h; exact Nat.le_refl _
    · rw [Lib.splitB_hit sep save k s i h1] at h
      rcases List.mem_cons.1 h with rfl | h
      · rw [ByteArray.size_extract]; omega
      · have := splitB_mem sep save k _ p h
        rw [ByteArray.size_extract] at this; omega
theorem splitW_mem (s sep : ByteArray) : ∀ p ∈ splitW s sep, p.size ≤ s.size := fun p hp => splitB_mem sep 0 _ _ p hp
theorem splitW_len (s sep : ByteArray) (h1 : 1 ≤ sep.size) : 1 ≤ (splitW s sep).length ∧ (splitW s sep).length ≤ s.size + 1 := by
  have hlen : (splitW s sep).length = countB s sep + 1 := splitB_all sep h1 0 _ s rfl
  have hle := countB_le sep h1 s.size s (Nat.le_refl _)
  omega
theorem lines_mem (s : ByteArray) : ∀ p ∈ linesL s, p.size ≤ s.size := fun p hp => Nat.le_trans (splitW_mem _ _ p hp) (trim_size _ _)
theorem lines_len (s : ByteArray) : (linesL s).length ≤ s.size + 1 := by
  have := (splitW_len (trimV s nlB) nlB (by rw [z_nl]; omega)).2
  have := trim_size s nlB
  unfold linesL; omega
theorem words_mem {s : ByteArray} {k : Nat} (hk : k < (linesL s).length) : ∀ p ∈ wordsL (linesL s) k, p.size ≤ s.size := fun p hp => by
  unfold wordsL at hp
  rw [getD_at _ _ _ hk] at hp
  exact Nat.le_trans (splitW_mem _ _ p hp) (lines_mem s _ (List.getElem_mem hk))
theorem words_len {s : ByteArray} {k : Nat} (hk : k < (linesL s).length) : 1 ≤ (wordsL (linesL s) k).length ∧ (wordsL (linesL s) k).length ≤ s.size + 1 := by
  unfold wordsL
  rw [getD_at _ _ _ hk]
  have := splitW_len (linesL s)[k] spB (by rw [z_sp]; omega)
  have := lines_mem s _ (List.getElem_mem hk)
  omega
theorem propsO_len {W : List ByteArray} : ∀ {k : Nat} {l : List Prp}, propsO W k = some l → l.length = k
  | 0, l, h => by cases h; rfl
  | k + 1, l, h => by
    unfold propsO at h
    split at h
    · rename_i h1 _; cases h; rw [List.length_append, propsO_len h1]; rfl
    · cases h
theorem spansO_len {W : List ByteArray} : ∀ {k : Nat} {l : List Spn}, spansO W k = some l → l.length = k
  | 0, l, h => by cases h; rfl
  | k + 1, l, h => by
    unfold spansO at h
    split at h
    · rename_i h1 _ _; cases h; rw [List.length_append, spansO_len h1]; rfl
    · cases h
def propK (W : List ByteArray) (k : Nat) : List Prp := (propsO W k).getD []
def spanK (W : List ByteArray) (k : Nat) : List Spn := (spansO W k).getD []
theorem props_cases (W : List ByteArray) : ∀ m, ∃ n, n ≤ m ∧ (∀ k, k ≤ n → propsO W k = some (propK W k)) ∧ (n = m ∨ (n < m ∧ numP (W.getD (2 * n + 2) ⟨#[]⟩) = none ∧ propsO W m = none))
  | 0 => ⟨0, Nat.le_refl _, fun k hk => by rw [show k = 0 by omega]; rfl, .inl rfl⟩
  | m + 1 => by
    obtain ⟨n, h1, h2, h3⟩ := props_cases W m
    rcases h3 with rfl | ⟨h3, h4, h5⟩
    · cases hs : numP (W.getD (2 * n + 2) ⟨#[]⟩) with
      | none => exact ⟨n, by omega, h2, .inr ⟨by omega, hs, by rw [propsO, h2 n (Nat.le_refl _), hs]⟩⟩
      | some v =>
        have hr : propsO W (n + 1) = some (propK W n ++ [⟨W.getD (2 * n + 1) ⟨#[]⟩, v⟩]) := by rw [propsO, h2 n (Nat.le_refl _), hs]
        refine ⟨n + 1, Nat.le_refl _, fun k hk => ?_, .inl rfl⟩
        by_cases e : k = n + 1
        · subst e; rw [propK, hr]; rfl
        · exact h2 k (by omega)
    · exact ⟨n, by omega, h2, .inr ⟨by omega, h4, by rw [propsO, h5]⟩⟩
theorem spans_cases (W : List ByteArray) : ∀ m, ∃ n, n ≤ m ∧ (∀ k, k ≤ n → spansO W k = some (spanK W k)) ∧ (n = m ∨ (n < m ∧ (numP (W.getD (2 * n + 2) ⟨#[]⟩) = none ∨ ((∃ v, numP (W.getD (2 * n + 2) ⟨#[]⟩) = some v) ∧ numP (W.getD (2 * n + 1) ⟨#[]⟩) = none)) ∧ spansO W m = none))
  | 0 => ⟨0, Nat.le_refl _, fun k hk => by rw [show k = 0 by omega]; rfl, .inl rfl⟩
  | m + 1 => by
    obtain ⟨n, h1, h2, h3⟩ := spans_cases W m
    rcases h3 with rfl | ⟨h3, h4, h5⟩
    · cases hs : numP (W.getD (2 * n + 2) ⟨#[]⟩) with
      | none => exact ⟨n, by omega, h2, .inr ⟨by omega, .inl hs, by rw [spansO, h2 n (Nat.le_refl _), hs]⟩⟩
      | some v =>
        cases hs2 : numP (W.getD (2 * n + 1) ⟨#[]⟩) with
        | none => exact ⟨n, by omega, h2, .inr ⟨by omega, .inr ⟨⟨v, hs⟩, hs2⟩, by rw [spansO, h2 n (Nat.le_refl _), hs, hs2]⟩⟩
        | some u =>
          have hr : spansO W (n + 1) = some (spanK W n ++ [⟨u, v⟩]) := by rw [spansO, h2 n (Nat.le_refl _), hs, hs2]
          refine ⟨n + 1, Nat.le_refl _, fun k hk => ?_, .inl rfl⟩
          by_cases e : k = n + 1
          · subst e; rw [spanK, hr]; rfl
          · exact h2 k (by omega)
    · exact ⟨n, by omega, h2, .inr ⟨by omega, h4, by rw [spansO, h5]⟩⟩
theorem props_step {W : List ByteArray} {n : Nat} (h : ∀ k, k ≤ n → propsO W k = some (propK W k)) {j : Nat} (hj : j < n) : ∃ v, numP (W.getD (2 * j + 2) ⟨#[]⟩) = some v ∧ propK W (j + 1) = propK W j ++ [⟨W.getD (2 * j + 1) ⟨#[]⟩, v⟩] := by
  have h1 := h (j + 1) (by omega)
  rw [propsO, h j (by omega)] at h1
  cases hs : numP (W.getD (2 * j + 2) ⟨#[]⟩) with
  | none => rw [hs] at h1; cases h1
  | some v => rw [hs] at h1; simp only [Option.some.injEq] at h1; exact ⟨v, rfl, h1.symm⟩
theorem spans_step {W : List ByteArray} {n : Nat} (h : ∀ k, k ≤ n → spansO W k = some (spanK W k)) {j : Nat} (hj : j < n) : ∃ u v, numP (W.getD (2 * j + 2) ⟨#[]⟩) = some v ∧ numP (W.getD (2 * j + 1) ⟨#[]⟩) = some u ∧ spanK W (j + 1) = spanK W j ++ [⟨u, v⟩] := by
  have h1 := h (j + 1) (by omega)
  rw [spansO, h j (by omega)] at h1
  cases hs : numP (W.getD (2 * j + 2) ⟨#[]⟩) with
  | none => rw [hs] at h1; cases h1
  | some v =>
    cases hs2 : numP (W.getD (2 * j + 1) ⟨#[]⟩) with
    | none => rw [hs, hs2] at h1; cases h1
    | some u => rw [hs, hs2] at h1; simp only [Option.some.injEq] at h1; exact ⟨u, v, rfl, rfl, h1.symm⟩
end Go.Proofs.YtkldmnladkcfeaaGreatDoor
