/-
  Splitting lists of bytes at a byte, and joining them. No program here. Conditions: none.
-/
import Derived.Lib.SplitLaws
import Derived.Lib.AtoiTie
import Derived.Lib.ItoaNum
import Derived.Lib.Join
import Derived.Test.YtcgacojnfkklaaaGreatDoorZRdD
import Derived.Test.YtcgacojnfkklaaaGreatDoorZRefT
namespace Go.Proofs.YtcgacojnfkklaaaGreatDoor
open Go.Lib
set_option linter.unusedSimpArgs false
set_option linter.unusedVariables false
def consH (x : UInt8) : List (List UInt8) → List (List UInt8)
  | [] => [[x]]
  | h :: r => (x :: h) :: r
def splitL (c : UInt8) : List UInt8 → List (List UInt8)
  | [] => [[]]
  | x :: t => if x = c then [] :: splitL c t else consH x (splitL c t)
theorem splitL_cons (c x : UInt8) (t : List UInt8) : splitL c (x :: t) = if x = c then [] :: splitL c t else consH x (splitL c t) := rfl
theorem splitL_ne (c : UInt8) : ∀ l, splitL c l ≠ []
  | [] => by simp [splitL]
  | x :: t => by
    unfold splitL
    split
    · simp
    · cases splitL c t <;> simp [consH]
theorem splitL_none {c : UInt8} : ∀ {l : List UInt8}, c ∉ l → splitL c l = [l]
  | [], _ => rfl
  | x :: t, h => by
    simp only [List.mem_cons, not_or] at h
    unfold splitL
    rw [if_neg (fun e => h.1 e.symm), splitL_none h.2]; rfl
theorem splitL_app {c : UInt8} : ∀ {a : List UInt8} (b : List UInt8), c ∉ a → splitL c (a ++ c :: b) = a :: splitL c b
  | [], b, _ => by simp [splitL]
  | x :: t, b, h => by
    simp only [List.mem_cons, not_or] at h
    rw [List.cons_append, splitL_cons, if_neg (fun e => h.1 e.symm), splitL_app b h.2]; rfl
theorem join_two (sep a : List UInt8) (r : List (List UInt8)) (h : r ≠ []) : join (a :: r) sep = a ++ sep ++ join r sep := by
  cases r with
  | nil => exact absurd rfl h
  | cons b t => simp [join, List.intercalate, List.intersperse]
theorem join_splitL (c : UInt8) : ∀ l, join (splitL c l) [c] = l
  | [] => by simp [splitL, join_one]
  | x :: t => by
    unfold splitL
    split
    · rename_i e
      rw [join_two _ _ _ (splitL_ne c t), join_splitL c t, e]; rfl
    · have ih := join_splitL c t
      cases hs : splitL c t with
      | nil => exact absurd hs (splitL_ne c t)
      | cons q r =>
        rw [hs] at ih
        simp only [consH]
        cases r with
        | nil => rw [join_one] at ih ⊢; rw [ih]
        | cons q2 r2 =>
          rw [join_two _ _ _ (by simp)] at ih ⊢
          rw [List.cons_append, List.cons_append, ih]
theorem splitL_join {c : UInt8} : ∀ {l : List (List UInt8)}, l ≠ [] → (∀ p ∈ l, c ∉ p) → splitL c (join l [c]) = l
  | [], h, _ => absurd rfl h
  | [a], _, h => by rw [join_one]; exact splitL_none (h a (by simp))
  | a :: b :: t, _, h => by
    rw [join_two _ _ _ (by simp), List.append_assoc]
    have := splitL_app (join (b :: t) [c]) (h a (by simp))
    rw [show a ++ ([c] ++ join (b :: t) [c]) = a ++ c :: join (b :: t) [c] from rfl, this, splitL_join (by simp) fun p hp => h p (by simp [hp])]
theorem index_cons_eq (c : UInt8) (t : List UInt8) : index (c :: t) [c] = 0 := by simp [index, List.isPrefixOf]
theorem index_cons_ne {c x : UInt8} (t : List UInt8) (h : x ≠ c) : index (x :: t) [c] = if index t [c] = -1 then -1 else index t [c] + 1 := by
  have : ([c] : List UInt8).isPrefixOf (x :: t) = false := by simp [List.isPrefixOf, h.symm]
  simp [index, this]
theorem splitK_cons {c x : UInt8} (h : x ≠ c) (t : List UInt8) : ∀ k, splitK [c] 0 k (x :: t) = consH x (splitK [c] 0 k t)
  | 0 => rfl
  | k + 1 => by
    unfold splitK
    rw [index_cons_ne t h]
    have hge := index_ge t [c]
    by_cases h1 : index t [c] = -1
    · simp [h1, consH]
    · rw [if_neg h1]
      have h2 : ¬ (index t [c] + 1 == -1) = true := by simp; omega
      have h3 : ¬ (index t [c] == -1) = true := by simpa using h1
      rw [if_neg h2, if_neg h3]
      obtain ⟨i, hi⟩ : ∃ i : Nat, index t [c] = i := ⟨(index t [c]).toNat, by omega⟩
      rw [hi]
      have e1 : ((i : Int) + 1).toNat = i + 1 := by omega
      simp [consH, e1]
theorem split_one (c : UInt8) : ∀ l, split l [c] = splitL c l
  | [] => rfl
  | x :: t => by
    unfold split
    by_cases h : x = c
    · subst h
      rw [count_cons_eq, Nat.add_comm]
      unfold splitK
      rw [index_cons_eq]
      have ih := split_one x t
      unfold split at ih
      simp [splitL, ih]
    · rw [count_cons_ne x c t h, splitK_cons h]
      have ih := split_one c t
      unfold split at ih
      rw [ih]
      simp [splitL, h]
theorem splitB_one (c : UInt8) (s : ByteArray) : (splitB ⟨#[c]⟩ 0 (countB s ⟨#[c]⟩) s).map (·.data.toList) = splitL c s.data.toList := by
  rw [splitB_data]
  exact split_one c s.data.toList
theorem cut_at {c : UInt8} : ∀ {a : List UInt8} (b : List UInt8), c ∉ a → cut (a ++ c :: b) [c] = (a, b, true)
  | [], b, _ => by simp [cut, index_cons_eq]
  | x :: t, b, h => by
    simp only [List.mem_cons, not_or] at h
    have ih := cut_at b h.2
    unfold cut at ih ⊢
    simp only [List.cons_append]
    rw [index_cons_ne _ (fun e => h.1 e.symm)]
    have hge := index_ge (t ++ c :: b) [c]
    split at ih
    · rename_i h0
      obtain ⟨i, hi⟩ : ∃ i : Nat, index (t ++ c :: b) [c] = i := ⟨(index (t ++ c :: b) [c]).toNat, by omega⟩
      rw [hi] at ih ⊢
      have e1 : ((i : Int) + 1).toNat = i + 1 := by omega
      have e0 : (if (i : Int) = -1 then (-1 : Int) else i + 1) = ((i + 1 : Nat) : Int) := by rw [if_neg (by omega)]; rfl
      rw [e0, if_pos (by omega), Int.toNat_natCast]
      simp only [Int.toNat_natCast, Prod.mk.injEq] at ih
      obtain ⟨q1, q2, _⟩ := ih
      simp only [List.take_succ_cons, Prod.mk.injEq, and_true]
      refine ⟨by rw [q1], ?_⟩
      simpa using q2
    · simp at ih
theorem cut_none {c : UInt8} {a : List UInt8} (h : c ∉ a) : cut a [c] = (a, [], false) := by
  have : index a [c] = -1 := by
    induction a with
    | nil => rfl
    | cons x t ih =>
      simp only [List.mem_cons, not_or] at h
      rw [index_cons_ne _ (fun e => h.1 e.symm), ih h.2]; rfl
  unfold cut
  rw [this]; rfl
theorem cut_back {c : UInt8} {s a b : List UInt8} (h : cut s [c] = (a, b, true)) : s = a ++ c :: b ∧ c ∉ a := by
  by_cases hc : c ∈ s
  · obtain ⟨a', b', e1, e2⟩ := List.eq_append_cons_of_mem hc
    subst e1
    rw [cut_at b' e2] at h
    simp only [Prod.mk.injEq, and_true] at h
    obtain ⟨rfl, rfl⟩ := h
    exact ⟨rfl, e2⟩
  · rw [cut_none hc] at h; cases h
def snocL (x : UInt8) : List (List UInt8) → List (List UInt8)
  | [] => [[x]]
  | [h] => [h ++ [x]]
  | h :: t => h :: snocL x t
theorem snocL_app (x : UInt8) : ∀ (P : List (List UInt8)) (q : List UInt8), snocL x (P ++ [q]) = P ++ [q ++ [x]]
  | [], q => rfl
  | [p], q => rfl
  | p :: p2 :: t, q => by
    show p :: snocL x (p2 :: t ++ [q]) = _
    rw [snocL_app x (p2 :: t) q]; rfl
theorem snocL_cons {x : UInt8} (h : List UInt8) {t : List (List UInt8)} (ht : t ≠ []) : snocL x (h :: t) = h :: snocL x t := by
  cases t with
  | nil => exact absurd rfl ht
  | cons a b => rfl
theorem snocL_consH {x y : UInt8} {l : List (List UInt8)} (hl : l ≠ []) : snocL x (consH y l) = consH y (snocL x l) := by
  match l, hl with
  | [h], _ => rfl
  | h :: a :: t, _ => rfl
theorem splitL_snoc {c x : UInt8} : ∀ (l : List UInt8), splitL c (l ++ [x]) = if x = c then splitL c l ++ [[]] else snocL x (splitL c l)
  | [] => by
    by_cases h : x = c
    · rw [if_pos h]; simp [splitL, h]
    · rw [if_neg h]; simp [splitL, h, consH, snocL]
  | y :: t => by
    rw [List.cons_append, splitL_cons, splitL_cons, splitL_snoc t]
    by_cases hx : x = c <;> by_cases hy : y = c
    · simp [hx, hy]
    · simp only [if_pos hx, if_neg hy]
      cases hs : splitL c t with
      | nil => exact absurd hs (splitL_ne c t)
      | cons q r => rfl
    · simp only [if_neg hx, if_pos hy]
      rw [snocL_cons _ (splitL_ne c t)]
    · simp only [if_neg hx, if_neg hy]
      exact (snocL_consH (splitL_ne c t)).symm
theorem decFrom_app (l2 : List UInt8) : ∀ (l1 : List UInt8) (acc : Nat), decFrom acc (l1 ++ l2) = (decFrom acc l1).bind fun a => decFrom a l2
  | [], acc => rfl
  | b :: t, acc => by
    simp only [List.cons_append, decFrom]
    cases digitVal b with
    | none => rfl
    | some d => exact decFrom_app l2 t _
theorem digit_val {n : Nat} (h : n < 10) : digitVal (UInt8.ofNat (48 + n)) = some n := by
  unfold digitVal
  have : (UInt8.ofNat (48 + n)).toNat = 48 + n := by simp; omega
  rw [this, if_pos (by omega)]
  simp
theorem decFrom_dig (n : Nat) : decFrom 0 (decDigits n) = some n := by
  induction n using Nat.strongRecOn with
  | ind n ih =>
    by_cases h : n < 10
    · rw [decDigits_one h]
      simp only [decFrom, digit_val h, Nat.zero_mul, Nat.zero_add]
    · rw [decDigits, dif_neg h, decFrom_app, ih (n / 10) (by omega)]
      simp only [Option.bind_some, decFrom, digit_val (show n % 10 < 10 by omega), Option.some.injEq]
      omega
theorem digit_byte (n : Nat) : ∀ c ∈ decDigits n, 48 ≤ c.toNat ∧ c.toNat ≤ 57 := by
  induction n using Nat.strongRecOn with
  | ind n ih =>
    have one : ∀ m, m < 10 → 48 ≤ (UInt8.ofNat (48 + m)).toNat ∧ (UInt8.ofNat (48 + m)).toNat ≤ 57 := fun m hm => by
      have : (UInt8.ofNat (48 + m)).toNat = 48 + m := by simp; omega
      omega
    intro c hc
    by_cases h : n < 10
    · rw [decDigits_one h, List.mem_singleton] at hc
      subst hc; exact one n h
    · rw [decDigits, dif_neg h, List.mem_append, List.mem_singleton] at hc
      rcases hc with hc | hc
      · exact ih (n / 10) (by omega) c hc
      · subst hc; exact one _ (by omega)
theorem decDigits_ne (n : Nat) : decDigits n ≠ [] := by
  intro h
  have := decFrom_dig n
  by_cases h1 : n < 10
  · rw [decDigits_one h1] at h; cases h
  · rw [decDigits, dif_neg h1] at h; simp at h
theorem atoi_dig {n : Nat} (h : nDigits n ≤ 18) : atoiAll (decDigits n) = .ok (n : Int) := by
  rw [atoiAll_short _ (by rw [decDigits_length]; exact h)]
  have h1 := decFrom_dig n
  have h2 := digit_byte n
  have h3 := decDigits_ne n
  cases hd : decDigits n with
  | nil => exact absurd hd h3
  | cons b r =>
    rw [hd] at h1 h2
    obtain ⟨q1, q2⟩ := h2 b (by simp)
    have e1 : (b == 45) = false := by
      cases hq : (b == 45) with
      | false => rfl
      | true => rw [beq_iff_eq] at hq; subst hq; exact absurd q1 (by decide)
    have e2 : (b == 43) = false := by
      cases hq : (b == 43) with
      | false => rfl
      | true => rw [beq_iff_eq] at hq; subst hq; exact absurd q1 (by decide)
    have : decNat (b :: r) = some n := by unfold decNat; simpa using h1
    simp [atoi, e1, e2, this, NumEnd.ofOption]
theorem itoa_nat (n : Nat) : itoa (n : Int) = decDigits n := by
  unfold itoa
  rw [if_neg (by omega), Int.toNat_natCast]
end Go.Proofs.YtcgacojnfkklaaaGreatDoor
namespace Go.Proofs.YtcgacojnfkklaaaGreatDoor
open Go.RowKit Go.Lib
set_option linter.unusedSimpArgs false
set_option linter.unusedVariables false
/-! The reference's split and number. -/
theorem byteAt_at (s : ByteArray) (i : Nat) (h : i < s.size) : ∃ y : UInt8, s.data.toList[i]? = some y ∧ byteAt s i = (y.toNat : Int) := by
  have h2 : i < s.data.toList.length := by simpa using h
  refine ⟨s.data.toList[i], List.getElem?_eq_getElem h2, ?_⟩
  rw [byteAt_list, getD_at _ _ _ h2]
theorem extract_list (s : ByteArray) (a b : Nat) : (s.extract a b).data.toList = (s.data.toList.drop a).take (b - a) := by
  simp [ByteArray.data_extract, List.extract_eq_take_drop]
theorem splitS_succ (s : ByteArray) (b : Int) (i : Nat) : splitS s b (i + 1) = if byteAt s i = b then ((splitS s b i).1 ++ [s.extract (splitS s b i).2 i], i + 1) else splitS s b i := rfl
theorem splitS_split (s : ByteArray) (c : UInt8) : ∀ i, i ≤ s.size → (splitS s (c.toNat : Int) i).1.map (·.data.toList) ++ [(s.extract (splitS s (c.toNat : Int) i).2 i).data.toList] = splitL c (s.data.toList.take i)
  | 0, _ => by simp [splitS, splitL, extract_list]
  | i + 1, h => by
    obtain ⟨y, h1, h2⟩ := byteAt_at s i (by omega)
    have hlt : i < s.data.toList.length := by simpa using (show i < s.size by omega)
    have ht : s.data.toList.take (i + 1) = s.data.toList.take i ++ [y] := by
      rw [List.take_add_one, h1]; rfl
    have ih := splitS_split s c i (by omega)
    have hle := (splitS_le s (c.toNat : Int) i).1
    rw [ht, splitL_snoc, ← ih, splitS_succ, h2]
    by_cases hy : y = c
    · subst hy
      rw [if_pos rfl, if_pos rfl]
      simp [extract_list]
    · have hne : ¬ (y.toNat : Int) = (c.toNat : Int) := fun e => hy (by
        apply UInt8.toNat_inj.1; omega)
      rw [if_neg hne, if_neg hy, snocL_app]
      congr 2
      rw [extract_list, extract_list, show i + 1 - (splitS s (c.toNat : Int) i).2 = i - (splitS s (c.toNat : Int) i).2 + 1 by omega, List.take_add_one]
      congr 1
      rw [List.getElem?_drop, show (splitS s (c.toNat : Int) i).2 + (i - (splitS s (c.toNat : Int) i).2) = i by omega, h1]; rfl
theorem splitV_split (s : ByteArray) (c : UInt8) : (splitV s (c.toNat : Int)).map (·.data.toList) = splitL c s.data.toList := by
  have := splitS_split s c s.size (Nat.le_refl _)
  rw [List.take_of_length_le (by simp)] at this
  rw [← this, splitV, List.map_append]; rfl
theorem numS_dec (s : ByteArray) : ∀ i, i ≤ s.size → (∀ j, j < i → 48 ≤ byteAt s j ∧ byteAt s j ≤ 57) → decFrom 0 (s.data.toList.take i) = some (numS s i).toNat ∧ 0 ≤ numS s i
  | 0, _, _ => by simp [numS, decFrom]
  | i + 1, h, hd => by
    obtain ⟨h1, h2⟩ := numS_dec s i (by omega) fun j hj => hd j (by omega)
    obtain ⟨y, h3, h4⟩ := byteAt_at s i (by omega)
    obtain ⟨h5, h6⟩ := hd i (by omega)
    rw [h4] at h5 h6
    have hv : digitVal y = some (y.toNat - 48) := by unfold digitVal; rw [if_pos (by omega)]
    have := decFrom_take s.data.toList i 0 _ y _ h1 h3 hv
    rw [this]
    simp only [numS, h4, Option.some.injEq]
    omega
theorem numV_dig {n : Nat} (h : n < 1000) : numV (digV n) = n := by
  have hs := digV_size (n := n) (k := 3) (by omega) (by omega)
  have hne := decDigits_ne n
  have hsz : (digV n).size = (decDigits n).length := by simp [digV, ByteArray.size]
  have hpos : 1 ≤ (digV n).size := by
    rw [hsz]
    cases hd : decDigits n with
    | nil => exact absurd hd hne
    | cons a b => simp
  have hdl : (digV n).data.toList = decDigits n := by simp [digV]
  have hdig : ∀ j, j < (digV n).size → 48 ≤ byteAt (digV n) j ∧ byteAt (digV n) j ≤ 57 := by
    intro j hj
    obtain ⟨y, h1, h2⟩ := byteAt_at (digV n) j hj
    rw [hdl] at h1
    have := digit_byte n y (List.mem_of_getElem? h1)
    rw [h2]; omega
  unfold numV
  rw [if_neg (by rw [show inR (digV n).size 1 3 = true from inR_iff.2 (by omega)]; simp), if_pos]
  · obtain ⟨h1, h2⟩ := numS_dec (digV n) (digV n).size (Nat.le_refl _) hdig
    rw [List.take_of_length_le (by simp), hdl, decFrom_dig] at h1
    simp only [Option.some.injEq] at h1
    omega
  · rw [List.all_eq_true]
    intro j hj
    unfold digB
    exact inR_iff.2 (hdig j (by simpa using hj))
theorem numP_dig {n : Nat} (h : n < 1000) : numP (digV n) = some (n : Int) := by
  have hdl : (digV n).data.toList = decDigits n := by simp [digV]
  have h3 := nDigits_le 3 n (by omega) (by omega)
  exact numR_ok (by rw [hdl]; exact atoi_dig (by omega)) (by rw [hdl, itoa_nat])
theorem numP_back {s : ByteArray} {n : Int} (h : numP s = some n) : s = itoaB n := by
  unfold numP at h
  split at h
  · split at h
    · rename_i hi
      cases h
      exact (ba_of hi).symm
    · cases h
  · cases h
end Go.Proofs.YtcgacojnfkklaaaGreatDoor
