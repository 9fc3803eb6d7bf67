/-
  The best order of batches: the first one that loses the least, of all orders; and the plan's recursion finds it. No program here.
-/
import Derived.Test.YtpkjmnfgpbliaaaZPlanPlain
import Derived.Test.YtpkjmnfgpbliaaaZLoses
import Derived.Test.YtpkjmnfgpbliaaaZBits
namespace Go.Proofs.Ytpkjmnfgpbliaaa
open Go.RowKit
set_option linter.unusedSimpArgs false
set_option linter.unusedVariables false

/-- The better one of two, the first one if they are alike. -/
def better {α : Type} : Option (α × Int) → Option (α × Int) → Option (α × Int)
  | none, y => y
  | some x, none => some x
  | some x, some y => if y.2 < x.2 then some y else some x
/-- The first thing of a list whose number is least. -/
def fm {α : Type} (f : α → Option Int) (l : List α) : Option (α × Int) := l.foldl (fun b a => better b ((f a).map fun m => (a, m))) none

theorem better_none {α : Type} (x : Option (α × Int)) : better x none = x := by cases x <;> rfl
theorem none_better {α : Type} (x : Option (α × Int)) : better none x = x := rfl
theorem better_assoc {α : Type} (x y z : Option (α × Int)) : better (better x y) z = better x (better y z) := by
  rcases x with _ | ⟨a, m⟩
  · rfl
  rcases y with _ | ⟨b, n⟩
  · rfl
  rcases z with _ | ⟨c, k⟩
  · simp [better_none]
  by_cases h1 : n < m <;> by_cases h2 : k < n <;> by_cases h3 : k < m <;> simp [better, h1, h2, h3] <;> omega
theorem fm_from {α : Type} (f : α → Option Int) (l : List α) (b : Option (α × Int)) : l.foldl (fun b a => better b ((f a).map fun m => (a, m))) b = better b (fm f l) := by
  induction l generalizing b with
  | nil => simp [fm, better_none]
  | cons a t ih => simp only [fm, List.foldl_cons]; rw [ih, ih (better none _), none_better, better_assoc]
theorem fm_cons {α : Type} (f : α → Option Int) (a : α) (t : List α) : fm f (a :: t) = better ((f a).map fun m => (a, m)) (fm f t) := by
  rw [fm, List.foldl_cons, fm_from, none_better]
theorem fm_append {α : Type} (f : α → Option Int) (l k : List α) : fm f (l ++ k) = better (fm f l) (fm f k) := by
  rw [fm, List.foldl_append, fm_from]; rfl
theorem better_map {α β : Type} (g : α → β) (c : Int) (x y : Option (α × Int)) : better (x.map fun p => (g p.1, c + p.2)) (y.map fun p => (g p.1, c + p.2)) = (better x y).map fun p => (g p.1, c + p.2) := by
  rcases x with _ | ⟨a, m⟩
  · rfl
  rcases y with _ | ⟨b, n⟩
  · rfl
  by_cases h : n < m
  · simp [better, h]
  · simp [better, h]
theorem fm_map {α β : Type} (g : α → β) (c : Int) (f : α → Option Int) (h : β → Option Int) (l : List α) (hh : ∀ a, h (g a) = (f a).map (c + ·)) : fm h (l.map g) = (fm f l).map fun p => (g p.1, c + p.2) := by
  induction l with
  | nil => rfl
  | cons a t ih =>
    rw [List.map_cons, fm_cons, fm_cons, ih, hh, ← better_map]
    congr 1
    cases f a <;> rfl
theorem fm_none {α : Type} (f : α → Option Int) (l : List α) (h : ∀ a, f a = none) : fm f l = none := by
  induction l with
  | nil => rfl
  | cons a t ih => rw [fm_cons, ih, h]; rfl
/-- Nothing is less than the first least. -/
theorem fm_le {α : Type} (f : α → Option Int) (l : List α) (a : α) (ha : a ∈ l) (m : Int) (hm : f a = some m) : ∃ p, fm f l = some p ∧ p.2 ≤ m := by
  induction l with
  | nil => cases ha
  | cons b t ih =>
    rw [fm_cons]
    rcases List.mem_cons.1 ha with rfl | ha
    · rw [hm]
      cases h : fm f t with
      | none => exact ⟨_, rfl, Int.le_refl _⟩
      | some p =>
        by_cases hp : p.2 < m
        · exact ⟨p, by simp [better, hp], by omega⟩
        · exact ⟨_, by simp [better, hp]; rfl, Int.le_refl _⟩
    · obtain ⟨p, hp, hle⟩ := ih ha
      rw [hp]
      cases h : f b with
      | none => exact ⟨p, rfl, hle⟩
      | some k =>
        by_cases hk : p.2 < k
        · exact ⟨p, by simp [better, hk], hle⟩
        · exact ⟨(b, k), by simp [better, hk], by dsimp only; omega⟩
theorem fm_mem {α : Type} (f : α → Option Int) (l : List α) (p : α × Int) (h : fm f l = some p) : p.1 ∈ l ∧ f p.1 = some p.2 := by
  induction l with
  | nil => cases h
  | cons b t ih =>
    rw [fm_cons] at h
    cases hb : f b with
    | none => rw [hb] at h; have := ih h; exact ⟨List.mem_cons_of_mem _ this.1, this.2⟩
    | some k =>
      rw [hb] at h
      cases ht : fm f t with
      | none => rw [ht] at h; cases h; exact ⟨by simp, hb⟩
      | some q =>
        rw [ht] at h
        by_cases hq : q.2 < k
        · simp [better, hq] at h; subst h; have := ih ht; exact ⟨List.mem_cons_of_mem _ this.1, this.2⟩
        · simp [better, hq] at h; subst h; exact ⟨by simp, hb⟩

/-- What batches lose, one after the other, if they are possible. -/
def lossO (s : Shp) (bf : Int) (l : List Bat) : Option Int := (l.foldl (stepL s) (some (0, bf))).map Prod.fst
theorem lossB_eq (s : Shp) (bf : Int) (l : List Bat) : lossB s bf l = (lossO s bf l).getD (-1) := by
  unfold lossB lossO
  cases l.foldl (stepL s) (some (0, bf)) <;> rfl
theorem foldL_shift (s : Shp) (l : List Bat) (x bf : Int) : (l.foldl (stepL s) (some (x, bf))).map Prod.fst = (lossO s bf l).map (x + ·) := by
  induction l generalizing x bf with
  | nil => simp [lossO]
  | cons b t ih =>
    simp only [lossO, List.foldl_cons, stepL]
    by_cases hn : needs s bf.toNat b < 0
    · rw [if_pos hn, if_pos hn, foldL_none]; rfl
    · rw [if_neg hn, if_neg hn, ih, ih, Option.map_map]
      congr 1
      funext z
      simp only [Function.comp_apply]
      omega
theorem lossO_nil (s : Shp) (bf : Int) : lossO s bf [] = some 0 := rfl
theorem lossO_cons (s : Shp) (bf : Int) (b : Bat) (t : List Bat) : lossO s bf (b :: t) = if needs s bf.toNat b < 0 then none else (lossO s b.c t).map (needs s bf.toNat b * s.rinse + ·) := by
  rw [lossO, List.foldl_cons]
  simp only [stepL]
  by_cases hn : needs s bf.toNat b < 0
  · rw [if_pos hn, if_pos hn, foldL_none]; rfl
  · rw [if_neg hn, if_neg hn, foldL_shift]
    congr 1
    funext z
    omega
theorem lossO_bd (s : Shp) (hg : Good s) (bf : Int) (hbf : 0 ≤ bf ∧ bf < s.cols.length) (l : List Bat) (hok : ∀ b ∈ l, okBat s b) {x : Int} (h : lossO s bf l = some x) : 0 ≤ x ∧ x ≤ l.length * 30000 := by
  unfold lossO at h
  cases hf : l.foldl (stepL s) (some (0, bf)) with
  | none => rw [hf] at h; cases h
  | some p => rw [hf] at h; cases h; exact (foldL_bd s hg bf hbf l hok (x := p.1) (c := p.2) hf).1

/-- All orders of different numbers, in order. -/
def permsF : Nat → List Int → List (List Int)
  | 0, _ => [[]]
  | n + 1, l => l.flatMap fun x => (permsF n (l.filter (· != x))).map (x :: ·)
def permsL (l : List Int) : List (List Int) := permsF l.length l

theorem permsF_mem : ∀ (n : Nat) (l o : List Int), l.length = n → l.Nodup → (o ∈ permsF n l ↔ o.Perm l) := by
  intro n
  induction n with
  | zero =>
    intro l o hl _
    obtain rfl := List.length_eq_zero_iff.1 hl
    simp [permsF]
  | succ n ih =>
    intro l o hl hd
    have hfl : ∀ x ∈ l, (l.filter (· != x)).length = n ∧ (l.filter (· != x)).Nodup ∧ (x :: l.filter (· != x)).Perm l := by
      intro x hx
      have he : l.filter (· != x) = l.erase x := (hd.erase_eq_filter x).symm
      refine ⟨?_, hd.filter _, ?_⟩
      · rw [he, List.length_erase_of_mem hx]; omega
      · rw [he]; exact (List.perm_cons_erase hx).symm
    simp only [permsF, List.mem_flatMap, List.mem_map]
    constructor
    · rintro ⟨x, hx, p, hp, rfl⟩
      obtain ⟨h1, h2, h3⟩ := hfl x hx
      exact ((ih _ _ h1 h2).1 hp |>.cons x).trans h3
    · intro hp
      cases o with
      | nil => have := hp.length_eq; simp at this; omega
      | cons x t =>
        have hx : x ∈ l := hp.mem_iff.1 (by simp)
        obtain ⟨h1, h2, h3⟩ := hfl x hx
        exact ⟨x, hx, t, (ih _ _ h1 h2).2 ((List.perm_cons x).1 (hp.trans h3.symm)), rfl⟩

/-- The numbers of the batches of a set, ascending. -/
def bitsL (n lf : Nat) : List Int := ((List.range n).filter fun i => lf.testBit i).map fun i : Nat => (i : Int)
theorem bitsL_nodup (n lf : Nat) : (bitsL n lf).Nodup := by
  unfold bitsL
  refine List.Pairwise.map (S := (· ≠ ·)) (fun i : Nat => (i : Int)) (fun a b h => ?_) (List.nodup_range.filter _)
  have h' : ¬ a = b := h
  show ¬ (a : Int) = (b : Int)
  omega
theorem bitsL_mem (n lf : Nat) (x : Int) : x ∈ bitsL n lf ↔ ∃ i : Nat, x = i ∧ i < n ∧ lf.testBit i = true := by
  simp only [bitsL, List.mem_map, List.mem_filter, List.mem_range]
  constructor
  · rintro ⟨i, ⟨h1, h2⟩, rfl⟩; exact ⟨i, rfl, h1, h2⟩
  · rintro ⟨i, rfl, h1, h2⟩; exact ⟨i, ⟨h1, h2⟩, rfl⟩
theorem bitsL_sub (n lf i : Nat) (h : lf.testBit i = true) : bitsL n (lf - 2 ^ i) = (bitsL n lf).filter (· != (i : Int)) := by
  unfold bitsL
  rw [List.filter_map, List.filter_filter]
  congr 1
  apply List.filter_congr
  intro k _
  rw [testBit_sub_pow _ _ _ h]
  by_cases hk : i = k
  · subst hk; simp
  · have hk' : ¬ k = i := fun e => hk e.symm
    simp [hk, Function.comp, bne]
    intro _ h2; omega
end Go.Proofs.Ytpkjmnfgpbliaaa
