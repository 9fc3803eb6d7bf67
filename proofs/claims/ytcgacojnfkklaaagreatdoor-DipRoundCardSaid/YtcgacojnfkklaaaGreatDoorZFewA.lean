/-
  The fewest dips, plainly: which dips are tried, and that their order does not matter. No program here. Conditions: none.
-/
import Derived.Test.YtcgacojnfkklaaaGreatDoorZPrB
namespace Go.Proofs.YtcgacojnfkklaaaGreatDoor
open Go.RowKit
set_option linter.unusedSimpArgs false
set_option linter.unusedVariables false
def firstK {α : Type} (f : Nat → Option α) : Nat → Nat → Option α
  | _, 0 => none
  | k, n + 1 => match f k with
    | some a => some a
    | none => firstK f (k + 1) n
theorem firstK_none {α : Type} {f : Nat → Option α} : ∀ (n k : Nat), firstK f k n = none ↔ ∀ j, k ≤ j → j < k + n → f j = none
  | 0, k => by simp only [firstK, true_iff]; intro j h1 h2; omega
  | n + 1, k => by
    unfold firstK
    cases hk : f k with
    | some a =>
      simp only [reduceCtorEq, false_iff]
      intro h
      have := h k (Nat.le_refl _) (by omega)
      rw [hk] at this; cases this
    | none =>
      simp only [firstK_none n (k + 1)]
      constructor
      · intro h j h1 h2
        by_cases e : j = k
        · subst e; exact hk
        · exact h j (by omega) (by omega)
      · intro h j h1 h2; exact h j (by omega) (by omega)
theorem firstK_some {α : Type} {f : Nat → Option α} {a : α} : ∀ (n k : Nat), firstK f k n = some a → ∃ j, k ≤ j ∧ j < k + n ∧ f j = some a ∧ ∀ i, k ≤ i → i < j → f i = none
  | 0, k, h => by cases h
  | n + 1, k, h => by
    unfold firstK at h
    cases hk : f k with
    | some b => rw [hk] at h; cases h; exact ⟨k, Nat.le_refl _, by omega, hk, fun i h1 h2 => by omega⟩
    | none =>
      rw [hk] at h
      obtain ⟨j, h1, h2, h3, h4⟩ := firstK_some n (k + 1) h
      refine ⟨j, by omega, by omega, h3, fun i q1 q2 => ?_⟩
      by_cases e : i = k
      · subst e; exact hk
      · exact h4 i (by omega) q2
def lostR (t : Tap) (r : Rng) : Bool := decide (min r.top.lo r.foot.lo < t.wick)
def kindAt (kinds : List Dip) (k : Nat) : Dip := kinds.getD k default
def rP (x : Dsh) (t : Tap) (kinds : List Dip) (p : List Nat) : Rng := p.foldl (fun r k => nextR x r (kindAt kinds k)) (beginV t)
theorem nextR_comm (x : Dsh) (r : Rng) (d e : Dip) : nextR x (nextR x r d) e = nextR x (nextR x r e) d := by
  simp only [nextR, Rng.mk.injEq, Spn.mk.injEq]
  omega
theorem rP_perm (x : Dsh) (t : Tap) (kinds : List Dip) {p q : List Nat} (h : p.Perm q) : rP x t kinds p = rP x t kinds q :=
  h.foldl_eq' (fun a _ b _ z => nextR_comm x z _ _) _
theorem rP_app (x : Dsh) (t : Tap) (kinds : List Dip) (p : List Nat) (k : Nat) : rP x t kinds (p ++ [k]) = nextR x (rP x t kinds p) (kindAt kinds k) := by simp [rP]
def deadP (x : Dsh) (t : Tap) (kinds : List Dip) (p : List Nat) : Bool := lostR t (rP x t kinds p) && !p.isEmpty
def tryP (x : Dsh) (t : Tap) (kinds : List Dip) (want : Spn) (bound : Int) : Nat → List Nat → Option (List Nat)
  | 0, p => if deadP x t kinds p = true then none else if makesB (rP x t kinds p) want bound = true then some p else none
  | n + 1, p => if deadP x t kinds p = true then none else firstK (fun k => tryP x t kinds want bound n (p ++ [k])) 0 kinds.length
def fewP (x : Dsh) (t : Tap) (kinds : List Dip) (want : Spn) (bound : Int) : Option (List Nat) := firstK (fun many => tryP x t kinds want bound many []) 0 11
theorem deadP_perm (x : Dsh) (t : Tap) (kinds : List Dip) {p q : List Nat} (h : p.Perm q) : deadP x t kinds p = deadP x t kinds q := by
  unfold deadP
  rw [rP_perm x t kinds h]
  have := h.length_eq
  cases p <;> cases q <;> simp at this ⊢
theorem tryP_perm (x : Dsh) (t : Tap) (kinds : List Dip) (want : Spn) (bound : Int) : ∀ (n : Nat) {p q : List Nat}, p.Perm q → tryP x t kinds want bound n p = none → tryP x t kinds want bound n q = none
  | 0, p, q, h, hp => by
    unfold tryP at hp ⊢
    rw [← deadP_perm x t kinds h, ← rP_perm x t kinds h]
    split
    · rfl
    · rename_i hd
      rw [if_neg hd] at hp
      split
      · rename_i hm; rw [if_pos hm] at hp; cases hp
      · rfl
  | n + 1, p, q, h, hp => by
    unfold tryP at hp ⊢
    rw [← deadP_perm x t kinds h]
    split
    · rfl
    · rename_i hd
      rw [if_neg hd] at hp
      rw [firstK_none] at hp ⊢
      intro j h1 h2
      exact tryP_perm x t kinds want bound n (h.append_right [j]) (hp j h1 h2)
theorem tryP_dead (x : Dsh) (t : Tap) (kinds : List Dip) (want : Spn) (bound : Int) (n : Nat) {p : List Nat} (h : deadP x t kinds p = true) : tryP x t kinds want bound n p = none := by
  cases n <;> (unfold tryP; rw [if_pos h])
def codeP (K : Nat) (p : List Nat) : Nat := (List.range K).foldl (fun at' k => at' * 11 + p.count k) 0
theorem codeP_succ (K : Nat) (p : List Nat) : codeP (K + 1) p = codeP K p * 11 + p.count K := by simp [codeP, List.range_succ]
theorem codeP_lt (p : List Nat) (hp : p.length ≤ 10) : ∀ K, codeP K p < 11 ^ K
  | 0 => by simp [codeP]
  | K + 1 => by
    rw [codeP_succ, Nat.pow_succ]
    have h1 := codeP_lt p hp K
    have h2 : p.count K ≤ p.length := List.count_le_length
    omega
theorem codeP_inj {p q : List Nat} (hp : p.length ≤ 10) (hq : q.length ≤ 10) : ∀ K, codeP K p = codeP K q → ∀ k, k < K → p.count k = q.count k
  | 0, _, k, h => by omega
  | K + 1, h, k, hk => by
    rw [codeP_succ, codeP_succ] at h
    have h1 : p.count K ≤ p.length := List.count_le_length
    have h2 : q.count K ≤ q.length := List.count_le_length
    by_cases e : k = K
    · subst e; omega
    · exact codeP_inj hp hq K (by omega) k (by omega)
theorem codeP_perm {p q : List Nat} (hp : p.length ≤ 10) (hq : q.length ≤ 10) {K : Nat} (h1 : ∀ k ∈ p, k < K) (h2 : ∀ k ∈ q, k < K) (h : codeP K p = codeP K q) : p.Perm q := by
  rw [List.perm_iff_count]
  intro k
  by_cases hk : k < K
  · exact codeP_inj hp hq K h k hk
  · rw [List.count_eq_zero.2 fun hm => hk (h1 k hm), List.count_eq_zero.2 fun hm => hk (h2 k hm)]
def loopV (f : Nat → List Bool → Option (List Nat) × List Bool) : Nat → Nat → List Bool → Option (List Nat) × List Bool
  | _, 0, v => (none, v)
  | k, n + 1, v => match f k v with
    | (some a, v') => (some a, v')
    | (none, v') => loopV f (k + 1) n v'
def foundV (x : Dsh) (t : Tap) (kinds : List Dip) (want : Spn) (bound : Int) : Nat → List Nat → List Bool → Option (List Nat) × List Bool
  | 0, p, v => if v.getD (codeP kinds.length p) false = true then (none, v) else if deadP x t kinds p = false ∧ makesB (rP x t kinds p) want bound = true then (some p, v) else (none, v.set (codeP kinds.length p) true)
  | n + 1, p, v => if v.getD (codeP kinds.length p) false = true then (none, v) else if deadP x t kinds p = true then (none, v.set (codeP kinds.length p) true) else
    match loopV (fun k v => foundV x t kinds want bound n (p ++ [k]) v) 0 kinds.length v with
    | (some a, v') => (some a, v')
    | (none, v') => (none, v'.set (codeP kinds.length p) true)
def VainOk (x : Dsh) (t : Tap) (kinds : List Dip) (want : Spn) (bound : Int) (many : Nat) (v : List Bool) : Prop :=
  ∀ q : List Nat, (∀ k ∈ q, k < kinds.length) → q.length ≤ many → v.getD (codeP kinds.length q) false = true → tryP x t kinds want bound (many - q.length) q = none
theorem vain_set {x : Dsh} {t : Tap} {kinds : List Dip} {want : Spn} {bound : Int} {many : Nat} {v : List Bool} (hm : many ≤ 10) (h : VainOk x t kinds want bound many v) {p : List Nat} (hp : ∀ k ∈ p, k < kinds.length) (hl : p.length ≤ many) (ht : tryP x t kinds want bound (many - p.length) p = none) : VainOk x t kinds want bound many (v.set (codeP kinds.length p) true) := by
  intro q hq hql hv
  by_cases e : codeP kinds.length p = codeP kinds.length q
  · have := codeP_perm (by omega) (by omega) hp hq e
    rw [← this.length_eq]
    exact tryP_perm x t kinds want bound _ this ht
  · refine h q hq hql ?_
    rw [List.getD_eq_getElem?_getD, List.getElem?_set_ne e] at hv
    rw [List.getD_eq_getElem?_getD]; exact hv
theorem loopV_eq {f : Nat → List Bool → Option (List Nat) × List Bool} {g : Nat → Option (List Nat)} {I : List Bool → Prop} : ∀ (n k : Nat) (v : List Bool), I v → (∀ j v, k ≤ j → j < k + n → I v → (f j v).1 = g j ∧ I (f j v).2) → (loopV f k n v).1 = firstK g k n ∧ I (loopV f k n v).2
  | 0, k, v, hv, h => ⟨rfl, hv⟩
  | n + 1, k, v, hv, h => by
    unfold loopV firstK
    obtain ⟨h1, h2⟩ := h k v (Nat.le_refl _) (by omega) hv
    cases hf : f k v with
    | mk a v' =>
      rw [hf] at h1 h2
      simp only at h1 h2
      rw [← h1]
      cases a with
      | some a => exact ⟨rfl, h2⟩
      | none => exact loopV_eq n (k + 1) v' h2 fun j v q1 q2 q3 => h j v (by omega) (by omega) q3
theorem found_eq (x : Dsh) (t : Tap) (kinds : List Dip) (want : Spn) (bound : Int) {many : Nat} (hm : many ≤ 10) : ∀ (left : Nat) (p : List Nat) (v : List Bool), p.length + left = many → (∀ k ∈ p, k < kinds.length) → VainOk x t kinds want bound many v → (foundV x t kinds want bound left p v).1 = tryP x t kinds want bound left p ∧ VainOk x t kinds want bound many (foundV x t kinds want bound left p v).2
  | 0, p, v, hl, hp, hv => by
    unfold foundV
    have e : many - p.length = 0 := by omega
    split
    · rename_i h
      have := hv p hp (by omega) h
      rw [e] at this
      exact ⟨this.symm, hv⟩
    · split
      · rename_i h
        refine ⟨?_, hv⟩
        unfold tryP
        rw [if_neg (by rw [h.1]; simp), if_pos h.2]
      · rename_i h
        have ht : tryP x t kinds want bound 0 p = none := by
          unfold tryP
          split
          · rfl
          · rename_i h1
            rw [if_neg fun h2 => h ⟨by simpa using h1, h2⟩]
        exact ⟨ht.symm, vain_set hm hv hp (by omega) (by rw [e]; exact ht)⟩
  | n + 1, p, v, hl, hp, hv => by
    unfold foundV
    have e : many - p.length = n + 1 := by omega
    split
    · rename_i h
      have := hv p hp (by omega) h
      rw [e] at this
      exact ⟨this.symm, hv⟩
    · split
      · rename_i h
        have ht := tryP_dead x t kinds want bound (n + 1) h
        exact ⟨ht.symm, vain_set hm hv hp (by omega) (by rw [e]; exact ht)⟩
      · rename_i h
        obtain ⟨h1, h2⟩ := loopV_eq (f := fun k v => foundV x t kinds want bound n (p ++ [k]) v) (g := fun k => tryP x t kinds want bound n (p ++ [k])) (I := VainOk x t kinds want bound many) kinds.length 0 v hv fun j v q1 q2 q3 => found_eq x t kinds want bound hm n (p ++ [j]) v (by simp; omega) (fun k hk => by
          rcases List.mem_append.1 hk with hk | hk
          · exact hp k hk
          · simp at hk; omega) q3
        have ht : tryP x t kinds want bound (n + 1) p = firstK (fun k => tryP x t kinds want bound n (p ++ [k])) 0 kinds.length := by
          conv => lhs; unfold tryP
          rw [if_neg h]
        rw [ht]
        cases hL : loopV (fun k v => foundV x t kinds want bound n (p ++ [k]) v) 0 kinds.length v with
        | mk a v' =>
          rw [hL] at h1 h2
          simp only at h1 h2
          cases a with
          | some a => exact ⟨h1, h2⟩
          | none => exact ⟨h1, vain_set hm h2 hp (by omega) (by rw [e, ht]; exact h1.symm)⟩
theorem vain_new (x : Dsh) (t : Tap) (kinds : List Dip) (want : Spn) (bound : Int) (many n : Nat) : VainOk x t kinds want bound many (List.replicate n false) := by
  intro q _ _ h
  rw [List.getD_eq_getElem?_getD, List.getElem?_replicate] at h
  split at h <;> simp at h
theorem foundV_len (x : Dsh) (t : Tap) (kinds : List Dip) (want : Spn) (bound : Int) : ∀ (left : Nat) (p : List Nat) (v : List Bool), (foundV x t kinds want bound left p v).2.length = v.length
  | 0, p, v => by
    unfold foundV
    split
    · rfl
    · split
      · rfl
      · simp
  | n + 1, p, v => by
    have key : ∀ (m k : Nat) (v : List Bool), (loopV (fun k v => foundV x t kinds want bound n (p ++ [k]) v) k m v).2.length = v.length := by
      intro m
      induction m with
      | zero => intro k v; rfl
      | succ m ih =>
        intro k v
        unfold loopV
        have h1 := foundV_len x t kinds want bound n (p ++ [k]) v
        cases hf : foundV x t kinds want bound n (p ++ [k]) v with
        | mk a v' =>
          rw [hf] at h1
          simp only at h1 ⊢
          cases a with
          | some a => exact h1
          | none => simp only; rw [ih]; exact h1
    unfold foundV
    split
    · rfl
    · split
      · simp
      · have := key kinds.length 0 v
        cases hL : loopV (fun k v => foundV x t kinds want bound n (p ++ [k]) v) 0 kinds.length v with
        | mk a v' =>
          rw [hL] at this
          cases a with
          | some a => exact this
          | none => simpa using this
end Go.Proofs.YtcgacojnfkklaaaGreatDoor
