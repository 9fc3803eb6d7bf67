/-
  The fewest dips, plainly: which dips are tried, and that their order does not matter. No program here. Conditions: none.
-/
import Derived.Test.YtcgacojnfkklaaaGreatDoorZPrB
namespace Go.Proofs.YtcgacojnfkklaaaGreatDoor
open Go.RowKit
set_option linter.unusedSimpArgs false
set_option linter.unusedVariables false
def firstK {α : Type} (f : Nat → Option α) : Nat → Nat → Option α
  | _, 0 => none
  | k, n + 1 => match f k with
    | some a => some a
    | none => firstK f (k + 1) n
theorem firstK_none {α : Type} {f : Nat → Option α} : ∀ (n k : Nat), firstK f k n = none ↔ ∀ j, k ≤ j → j < k + n → f j = none
  | 0, k => by simp only [firstK, true_iff]; intro j h1 h2; omega
  | n + 1, k => by
    unfold firstK
    cases hk : f k with
    | some a =>
      simp only [reduceCtorEq, false_iff]
      intro h
      have := h k (Nat.le_refl _) (by omega)
      rw [hk] at this; cases this
    | none =>
      simp only [firstK_none n (k + 1)]
      constructor
      · intro h j h1 h2
        by_cases e : j = k
        · subst e; exact hk
        · exact h j (by omega) (by omega)
      · intro h j h1 h2; exact h j (by omega) (by omega)
def lostR (t : Tap) (r : Rng) : Bool := decide (min r.top.lo r.foot.lo < t.wick)
def kindAt (kinds : List Dip) (k : Nat) : Dip := kinds.getD k default
def rP (x : Dsh) (t : Tap) (kinds : List Dip) (p : List Nat) : Rng := p.foldl (fun r k => nextR x r (kindAt kinds k)) (beginV t)
theorem nextR_comm (x : Dsh) (r : Rng) (d e : Dip) : nextR x (nextR x r d) e = nextR x (nextR x r e) d := by
  simp only [nextR, Rng.mk.injEq, Spn.mk.injEq]
  omega
theorem rP_perm (x : Dsh) (t : Tap) (kinds : List Dip) {p q : List Nat} (h : p.Perm q) : rP x t kinds p = rP x t kinds q :=
  h.foldl_eq' (fun a _ b _ z => nextR_comm x z _ _) _
theorem rP_app (x : Dsh) (t : Tap) (kinds : List Dip) (p : List Nat) (k : Nat) : rP x t kinds (p ++ [k]) = nextR x (rP x t kinds p) (kindAt kinds k) := by simp [rP]
def deadP (x : Dsh) (t : Tap) (kinds : List Dip) (p : List Nat) : Bool := lostR t (rP x t kinds p) && !p.isEmpty
def tryP (x : Dsh) (t : Tap) (kinds : List Dip) (want : Spn) (bound : Int) : Nat → List Nat → Option (List Nat)
  | 0, p => if deadP x t kinds p = true then none else if makesB (rP x t kinds p) want bound = true then some p else none
  | n + 1, p => if deadP x t kinds p = true then none else firstK (fun k => tryP x t kinds want bound n (p ++ [k])) 0 kinds.length
def fewP (x : Dsh) (t : Tap) (kinds : List Dip) (want : Spn) (bound : Int) : Option (List Nat) := firstK (fun many => tryP x t kinds want bound many []) 0 11
theorem deadP_perm (x : Dsh) (t : Tap) (kinds : List Dip) {p q : List Nat} (h : p.Perm q) : deadP x t kinds p = deadP x t kinds q := by
  unfold deadP
  rw [rP_perm x t kinds h]
  have := h.length_eq
  cases p <;> cases q <;> simp at this ⊢
theorem tryP_perm (x : Dsh) (t : Tap) (kinds : List Dip) (want : Spn) (bound : Int) : ∀ (n : Nat) {p q : List Nat}, p.Perm q → tryP x t kinds want bound n p = none → tryP x t kinds want bound n q = none
  | 0, p, q, h, hp => by
    unfold tryP at hp ⊢
    rw [← deadP_perm x t kinds h, ← rP_perm x t kinds h]
    split
    · rfl
    · rename_i hd
      rw [if_neg hd] at hp
      split
      · rename_i hm; rw [if_pos hm] at hp; cases hp
      · rfl
  | n + 1, p, q, h, hp => by
    unfold tryP at hp ⊢
    rw [← deadP_perm x t kinds h]
    split
    · rfl
    · rename_i hd
      rw [if_neg hd] at hp
      rw [firstK_none] at hp ⊢
      intro j h1 h2
      exact tryP_perm x t kinds want bound n (h.append_right [j]) (hp j h1 h2)
theorem tryP_dead (x : Dsh) (t : Tap) (kinds : List Dip) (want : Spn) (bound : Int) (n : Nat) {p : List Nat} (h : deadP x t kinds p = true) : tryP x t kinds want bound n p = none := by
  cases n <;> (unfold tryP; rw [if_pos h])
end Go.Proofs.YtcgacojnfkklaaaGreatDoor
