/-
  Splitting lists of bytes at a byte, and joining them. No program here. Conditions: none.
-/
import Derived.Lib.SplitLaws
import Derived.Lib.AtoiTie
import Derived.Lib.ItoaNum
import Derived.Lib.Join
namespace Go.Proofs.YtkldmnladkcfeaaGreatDoor
open Go.Lib
set_option linter.unusedSimpArgs false
set_option linter.unusedVariables false
def consH (x : UInt8) : List (List UInt8) → List (List UInt8)
  | [] => [[x]]
  | h :: r => (x :: h) :: r
def splitL (c : UInt8) : List UInt8 → List (List UInt8)
  | [] => [[]]
  | x :: t => if x = c then [] :: splitL c t else consH x (splitL c t)
theorem splitL_cons (c x : UInt8) (t : List UInt8) : splitL c (x :: t) = if x = c then [] :: splitL c t else consH x (splitL c t) := rfl
theorem splitL_ne (c : UInt8) : ∀ l, splitL c l ≠ []
  | [] => by simp [splitL]
  | x :: t => by
    unfold splitL
    split
    · simp
    · cases splitL c t <;> simp [consH]
theorem splitL_none {c : UInt8} : ∀ {l : List UInt8}, c ∉ l → splitL c l = [l]
  | [], _ => rfl
  | x :: t, h => by
    simp only [List.mem_cons, not_or] at h
    unfold splitL
    rw [if_neg (fun e => h.1 e.symm), splitL_none h.2]; rfl
theorem splitL_app {c : UInt8} : ∀ {a : List UInt8} (b : List UInt8), c ∉ a → splitL c (a ++ c :: b) = a :: splitL c b
  | [], b, _ => by simp [splitL]
  | x :: t, b, h => by
    simp only [List.mem_cons, not_or] at h
    rw [List.cons_append, splitL_cons, if_neg (fun e => h.1 e.symm), splitL_app b h.2]; rfl
theorem join_two (sep a : List UInt8) (r : List (List UInt8)) (h : r ≠ []) : join (a :: r) sep = a ++ sep ++ join r sep := by
  cases r with
  | nil => exact absurd rfl h
  | cons b t => simp [join, List.intercalate, List.intersperse]
theorem splitL_join {c : UInt8} : ∀ {l : List (List UInt8)}, l ≠ [] → (∀ p ∈ l, c ∉ p) → splitL c (join l [c]) = l
  | [], h, _ => absurd rfl h
  | [a], _, h => by rw [join_one]; exact splitL_none (h a (by simp))
  | a :: b :: t, _, h => by
    rw [join_two _ _ _ (by simp), List.append_assoc]
    have := splitL_app (join (b :: t) [c]) (h a (by simp))
    rw [show a ++ ([c] ++ join (b :: t) [c]) = a ++ c :: join (b :: t) [c] from rfl, this, splitL_join (by simp) fun p hp => h p (by simp [hp])]
theorem index_cons_eq (c : UInt8) (t : List UInt8) : index (c :: t) [c] = 0 := by simp [index, List.isPrefixOf]
theorem index_cons_ne {c x : UInt8} (t : List UInt8) (h : x ≠ c) : index (x :: t) [c] = if index t [c] = -1 then -1 else index t [c] + 1 := by
  have : ([c] : List UInt8).isPrefixOf (x :: t) = false := by simp [List.isPrefixOf, h.symm]
  simp [index, this]
theorem splitK_cons {c x : UInt8} (h : x ≠ c) (t : List UInt8) : ∀ k, splitK [c] 0 k (x :: t) = consH x (splitK [c] 0 k t)
  | 0 => rfl
  | k + 1 => by
    unfold splitK
    rw [index_cons_ne t h]
    have hge := index_ge t [c]
    by_cases h1 : index t [c] = -1
    · simp [h1, consH]
    · rw [if_neg h1]
      have h2 : ¬ (index t [c] + 1 == -1) = true := by simp; omega
      have h3 : ¬ (index t [c] == -1) = true := by simpa using h1
      rw [if_neg h2, if_neg h3]
      obtain ⟨i, hi⟩ : ∃ i : Nat, index t [c] = i := ⟨(index t [c]).toNat, by omega⟩
      rw [hi]
      have e1 : ((i : Int) + 1).toNat = i + 1 := by omega
      simp [consH, e1]
theorem split_one (c : UInt8) : ∀ l, split l [c] = splitL c l
  | [] => rfl
  | x :: t => by
    unfold split
    by_cases h : x = c
    · subst h
      rw [count_cons_eq, Nat.add_comm]
      unfold splitK
      rw [index_cons_eq]
      have ih := split_one x t
      unfold split at ih
      simp [splitL, ih]
    · rw [count_cons_ne x c t h, splitK_cons h]
      have ih := split_one c t
      unfold split at ih
      rw [ih]
      simp [splitL, h]
theorem splitB_one (c : UInt8) (s : ByteArray) : (splitB ⟨#[c]⟩ 0 (countB s ⟨#[c]⟩) s).map (·.data.toList) = splitL c s.data.toList := by
  rw [splitB_data]
  exact split_one c s.data.toList
def snocL (x : UInt8) : List (List UInt8) → List (List UInt8)
  | [] => [[x]]
  | [h] => [h ++ [x]]
  | h :: t => h :: snocL x t
theorem snocL_app (x : UInt8) : ∀ (P : List (List UInt8)) (q : List UInt8), snocL x (P ++ [q]) = P ++ [q ++ [x]]
  | [], q => rfl
  | [p], q => rfl
  | p :: p2 :: t, q => by
    show p :: snocL x (p2 :: t ++ [q]) = _
    rw [snocL_app x (p2 :: t) q]; rfl
theorem snocL_cons {x : UInt8} (h : List UInt8) {t : List (List UInt8)} (ht : t ≠ []) : snocL x (h :: t) = h :: snocL x t := by
  cases t with
  | nil => exact absurd rfl ht
  | cons a b => rfl
theorem snocL_consH {x y : UInt8} {l : List (List UInt8)} (hl : l ≠ []) : snocL x (consH y l) = consH y (snocL x l) := by
  match l, hl with
  | [h], _ => rfl
  | h :: a :: t, _ => rfl
theorem splitL_snoc {c x : UInt8} : ∀ (l : List UInt8), splitL c (l ++ [x]) = if x = c then splitL c l ++ [[]] else snocL x (splitL c l)
  | [] => by
    by_cases h : x = c
    · rw [if_pos h]; simp [splitL, h]
    · rw [if_neg h]; simp [splitL, h, consH, snocL]
  | y :: t => by
    rw [List.cons_append, splitL_cons, splitL_cons, splitL_snoc t]
    by_cases hx : x = c <;> by_cases hy : y = c
    · simp [hx, hy]
    · simp only [if_pos hx, if_neg hy]
      cases hs : splitL c t with
      | nil => exact absurd hs (splitL_ne c t)
      | cons q r => rfl
    · simp only [if_neg hx, if_pos hy]
      rw [snocL_cons _ (splitL_ne c t)]
    · simp only [if_neg hx, if_neg hy]
      exact (snocL_consH (splitL_ne c t)).symm
theorem decFrom_app (l2 : List UInt8) : ∀ (l1 : List UInt8) (acc : Nat), decFrom acc (l1 ++ l2) = (decFrom acc l1).bind fun a => decFrom a l2
  | [], acc => rfl
  | b :: t, acc => by
    simp only [List.cons_append, decFrom]
    cases digitVal b with
    | none => rfl
    | some d => exact decFrom_app l2 t _
theorem digit_val {n : Nat} (h : n < 10) : digitVal (UInt8.ofNat (48 + n)) = some n := by
  unfold digitVal
  have : (UInt8.ofNat (48 + n)).toNat = 48 + n := by simp; omega
  rw [this, if_pos (by omega)]
  simp
theorem decFrom_dig (n : Nat) : decFrom 0 (decDigits n) = some n := by
  induction n using Nat.strongRecOn with
  | ind n ih =>
    by_cases h : n < 10
    · rw [decDigits_one h]
      simp only [decFrom, digit_val h, Nat.zero_mul, Nat.zero_add]
    · rw [decDigits, dif_neg h, decFrom_app, ih (n / 10) (by omega)]
      simp only [Option.bind_some, decFrom, digit_val (show n % 10 < 10 by omega), Option.some.injEq]
      omega
theorem digit_byte (n : Nat) : ∀ c ∈ decDigits n, 48 ≤ c.toNat ∧ c.toNat ≤ 57 := by
  induction n using Nat.strongRecOn with
  | ind n ih =>
    have one : ∀ m, m < 10 → 48 ≤ (UInt8.ofNat (48 + m)).toNat ∧ (UInt8.ofNat (48 + m)).toNat ≤ 57 := fun m hm => by
      have : (UInt8.ofNat (48 + m)).toNat = 48 + m := by simp; omega
      omega
    intro c hc
    by_cases h : n < 10
    · rw [decDigits_one h, List.mem_singleton] at hc
      subst hc; exact one n h
    · rw [decDigits, dif_neg h, List.mem_append, List.mem_singleton] at hc
      rcases hc with hc | hc
      · exact ih (n / 10) (by omega) c hc
      · subst hc; exact one _ (by omega)
theorem decDigits_ne (n : Nat) : decDigits n ≠ [] := by
  intro h
  have := decFrom_dig n
  by_cases h1 : n < 10
  · rw [decDigits_one h1] at h; cases h
  · rw [decDigits, dif_neg h1] at h; simp at h
theorem atoi_dig {n : Nat} (h : nDigits n ≤ 18) : atoiAll (decDigits n) = .ok (n : Int) := by
  rw [atoiAll_short _ (by rw [decDigits_length]; exact h)]
  have h1 := decFrom_dig n
  have h2 := digit_byte n
  have h3 := decDigits_ne n
  cases hd : decDigits n with
  | nil => exact absurd hd h3
  | cons b r =>
    rw [hd] at h1 h2
    obtain ⟨q1, q2⟩ := h2 b (by simp)
    have e1 : (b == 45) = false := by
      cases hq : (b == 45) with
      | false => rfl
      | true => rw [beq_iff_eq] at hq; subst hq; exact absurd q1 (by decide)
    have e2 : (b == 43) = false := by
      cases hq : (b == 43) with
      | false => rfl
      | true => rw [beq_iff_eq] at hq; subst hq; exact absurd q1 (by decide)
    have : decNat (b :: r) = some n := by unfold decNat; simpa using h1
    simp [atoi, e1, e2, this, NumEnd.ofOption]
end Go.Proofs.YtkldmnladkcfeaaGreatDoor
