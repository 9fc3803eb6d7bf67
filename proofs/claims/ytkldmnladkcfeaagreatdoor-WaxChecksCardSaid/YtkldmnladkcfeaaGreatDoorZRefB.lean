/-
  Reference functions of the wax chapter: readings, parts, Mixed, sets of kinds. Conditions: none.
-/
import Derived.Test.YtkldmnladkcfeaaGreatDoorZRefA
namespace Go.Proofs.YtkldmnladkcfeaaGreatDoor
open Go.RowKit
set_option linter.unusedSimpArgs false
set_option linter.unusedVariables false
def partK (q : Int → Bool) (lo : Int) : Nat → Spn × Bool
  | 0 => (⟨0, 0⟩, false)
  | k + 1 => if q (lo + k) then (⟨if (partK q lo k).2 then (partK q lo k).1.lo else lo + k, lo + k⟩, true) else partK q lo k
def partsR (x : Tbl) (l : List Int) (a b : Nat) (lo hi : Int) : Spn × Bool := partK (explB x l a b) lo (hi + 1 - lo).toNat
def bdsOk (lo hi : Int) : Prop := 0 ≤ lo ∧ lo ≤ 1000 ∧ 0 ≤ hi ∧ hi ≤ 1000
instance (lo hi : Int) : Decidable (bdsOk lo hi) := inferInstanceAs (Decidable (_ ∧ _))
def twoE (x : Tbl) (e a b : Int) : Int := if ¬ e = 0 then e else if inR a 0 ((x.kinds.length : Int) - 1) = false ∨ inR b 0 ((x.kinds.length : Int) - 1) = false then 4 else if a = b then 2 else 0
def mixR (x : Tbl) (l : List Int) (a b : Int) : Spn × Int :=
  if ¬ twoE x (readE x l) a b = 0 then (⟨0, 0⟩, twoE x (readE x l) a b) else if (partsR x l a.toNat b.toNat 0 1000).2 then ((partsR x l a.toNat b.toNat 0 1000).1, 0) else (⟨0, 0⟩, 9)
theorem kd_in {x : Tbl} {a : Int} (h : inR a 0 ((x.kinds.length : Int) - 1) = true) : kdOk x a := by
  have := inR_iff.1 h
  exact ⟨this.1, by omega⟩
def s22 : List D → Option D := sp4 (cAgg rTbl) (cList rInt) cInt cInt (cTup2 (cAgg rSpn) cInt) fun x l a b => some (mixR x l a b)
def bitOk (n : Int) : Prop := 0 ≤ n ∧ n ≤ 40
instance (n : Int) : Decidable (bitOk n) := inferInstanceAs (Decidable (_ ∧ _))
def bitV (k : Nat) : Int := 2 ^ k
def setOk (n : Int) : Prop := 0 ≤ n ∧ n ≤ 9223372036854775807
instance (n : Int) : Decidable (setOk n) := inferInstanceAs (Decidable (_ ∧ _))
def hasB (s : Int) (k : Nat) : Bool := s / bitV k % 2 == 1
end Go.Proofs.YtkldmnladkcfeaaGreatDoor
namespace Go.Proofs.YtkldmnladkcfeaaGreatDoor
open Go.RowKit
set_option linter.unusedSimpArgs false
set_option linter.unusedVariables false
def pairK (x : Tbl) (l : List Int) (s : Int) (a : Nat) : Nat → List Int
  | 0 => []
  | b + 1 => pairK x l s a b ++ (if (partsR x l a b 1 999).2 = true ∧ s = bitV a + bitV b then [s] else [])
def kindK (x : Tbl) (l : List Int) (s : Int) : Nat → List Int
  | 0 => []
  | a + 1 => kindK x l s a ++ pairK x l s a a ++ (if s = bitV a ∧ explB x l a a 1000 = true then [s] else [])
def setK (x : Tbl) (l : List Int) : Nat → List Int
  | 0 => []
  | k + 1 => setK x l k ++ kindK x l ((k : Int) + 1) x.kinds.length
def allR (x : Tbl) (l : List Int) : List Int := setK x l (2 ^ x.kinds.length - 1)
@[simp] theorem pairK_zero (x : Tbl) (l : List Int) (s : Int) (a : Nat) : pairK x l s a 0 = [] := rfl
@[simp] theorem kindK_zero (x : Tbl) (l : List Int) (s : Int) : kindK x l s 0 = [] := rfl
@[simp] theorem setK_zero (x : Tbl) (l : List Int) : setK x l 0 = [] := rfl
def setsR (x : Tbl) (l : List Int) : List Int × Int := if ¬ readE x l = 0 then ([], readE x l) else (allR x l, 0)
def s26 : List D → Option D := sp2 (cAgg rTbl) (cList rInt) (cTup2 (cList rInt) cInt) fun x l => some (setsR x l)
def mustAt (l : List Int) (k : Nat) : Bool := l.all fun s => hasB s k
def mayAt (l : List Int) (k : Nat) : Bool := l.any fun s => hasB s k
def whereK (q : Nat → Bool) : Nat → List Int
  | 0 => []
  | k + 1 => whereK q k ++ (if q k = true then [(k : Int)] else [])
@[simp] theorem whereK_zero (q : Nat → Bool) : whereK q 0 = [] := rfl
theorem whereK_len (q : Nat → Bool) : ∀ k, (whereK q k).length ≤ k
  | 0 => by simp
  | k + 1 => by
    have := whereK_len q k
    unfold whereK
    rw [List.length_append]
    split <;> simp <;> omega
def withR (x : Tbl) (l : List Int) : List Int × List Int × Int :=
  if ¬ readE x l = 0 then ([], [], readE x l) else if (allR x l).length = 0 then ([], [], 9) else (whereK (mustAt (allR x l)) x.kinds.length, whereK (mayAt (allR x l)) x.kinds.length, 0)
def s29 : List D → Option D := sp2 (cAgg rTbl) (cList rInt) (cTup3 (cList rInt) (cList rInt) cInt) fun x l => some (withR x l)
end Go.Proofs.YtkldmnladkcfeaaGreatDoor
