/-
  Plain law: in a shop whose baths are wider no range is narrower. Conditions: none.
-/
import Derived.Test.YtcgacojnfkklaaaGreatDoorZLawB
namespace Go.Proofs.YtcgacojnfkklaaaGreatDoor
open Go.RowKit
set_option linter.unusedSimpArgs false
set_option linter.unusedVariables false
def widN (y : List Int) (i : Nat) : Int := turnW y i % 40
def widB (x : Dsh) (y : List Int) (i : Nat) (b : Bth) : Bth := ⟨b.name, ⟨max x.melt (b.warm.lo - widN y i), min 2000 (b.warm.hi + widN y i / 2)⟩⟩
def widL (x : Dsh) (y : List Int) (k : Nat) : List Bth := x.baths.mapIdx fun i b => if i < k then widB x y i b else b
def widS (x : Dsh) (y : List Int) : Dsh := { x with baths := widL x y x.baths.length }
theorem widL_len (x : Dsh) (y : List Int) (k : Nat) : (widL x y k).length = x.baths.length := by simp [widL]
theorem widL_at {x : Dsh} {y : List Int} {k i : Nat} (h : i < x.baths.length) (h' : i < (widL x y k).length) : (widL x y k)[i] = if i < k then widB x y i x.baths[i] else x.baths[i] := by simp [widL]
theorem widL_zero (x : Dsh) (y : List Int) : widL x y 0 = x.baths := by
  apply List.ext_getElem
  · simp [widL]
  · intro i h1 h2; simp [widL]
theorem widL_succ {x : Dsh} {y : List Int} {j : Nat} (h : j < x.baths.length) : widL x y (j + 1) = (widL x y j).set j (widB x y j x.baths[j]) := by
  apply List.ext_getElem
  · simp [widL_len]
  · intro i h1 h2
    have hi : i < x.baths.length := by rw [widL_len] at h1; exact h1
    rw [widL_at hi h1, List.getElem_set]
    by_cases e : j = i
    · subst e; simp
    · rw [if_neg e, widL_at hi]
      by_cases h3 : i < j
      · rw [if_pos (by omega), if_pos h3]
      · rw [if_neg (by omega), if_neg h3]
theorem widN_bd {y : List Int} (h : wordOk y) (i : Nat) : 0 ≤ widN y i ∧ widN y i ≤ 39 := by
  unfold widN; omega
theorem seenB_names {l m : List Bth} (s : ByteArray) (h : l.map (·.name) = m.map (·.name)) : seenB l s = seenB m s := by
  have e : ∀ l : List Bth, seenB l s = (l.map (·.name)).any fun n => n.toList == s.toList := by
    intro l; unfold seenB; rw [List.any_map]; rfl
  rw [e, e, h]
theorem wid_names (x : Dsh) (y : List Int) (k n : Nat) : ((widL x y k).take n).map (·.name) = (x.baths.take n).map (·.name) := by
  apply List.ext_getElem
  · simp [widL_len]
  · intro i h1 h2
    have hi : i < x.baths.length := by simp [widL_len] at h1; omega
    simp only [List.getElem_map, List.getElem_take]
    rw [widL_at hi]
    split <;> rfl
theorem wid_dchk {x : Dsh} {y : List Int} (h : (dchk x).2.2 = 0) (hy : wordOk y) : (dchk (widS x y)).2.2 = 0 := by
  obtain ⟨n1, n2, n3, n4⟩ := baths_of h
  have e1 : numbersB (widS x y) = true := n1
  have e2 : (widS x y).baths.length = x.baths.length := widL_len _ _ _
  unfold dchk
  have e3 : inR ((widS x y).baths.length : Int) 1 6 = true := by rw [e2]; exact inR_iff.2 (by omega)
  rw [e1, e3]
  simp only [Bool.true_eq_false, if_false]
  have e4 : (findI (bathE (widS x y)) 0 (widS x y).baths) = (0, 0) := by
    rcases findI_cases (bathE (widS x y)) (widS x y).baths with ⟨e, _⟩ | ⟨k, hk, e, hbad, _⟩
    · exact e
    · exfalso
      apply hbad
      have hk' : k < x.baths.length := by rw [e2] at hk; exact hk
      obtain ⟨b1, b2, b3, b4, b5, b6⟩ := bathE_zero (n4 k hk')
      have b3 := inR_iff.1 b3
      have b4 := inR_iff.1 b4
      have hx := nums_of n1
      have m0 := hx.m0
      have hn := widN_bd hy k
      have e5 : (widS x y).baths[k] = widB x y k x.baths[k] := by
        have := widL_at (y := y) (k := x.baths.length) hk' hk
        rw [if_pos hk'] at this; exact this
      rw [e5]
      unfold bathE
      have c1 : refName (widB x y k x.baths[k]).name = true := b1
      have c2 : seenB ((widS x y).baths.take k) (widB x y k x.baths[k]).name = false := by
        have : seenB ((widS x y).baths.take k) x.baths[k].name = seenB (x.baths.take k) x.baths[k].name := seenB_names _ (wid_names x y _ k)
        exact this.trans b2
      have m1 : x.melt ≤ 2000 := by omega
      have c3 : inR (widB x y k x.baths[k]).warm.lo 0 2000 = true := inR_iff.2 (by simp only [widB]; omega)
      have c4 : inR (widB x y k x.baths[k]).warm.hi 0 2000 = true := inR_iff.2 (by simp only [widB]; omega)
      have c5 : ¬ (widB x y k x.baths[k]).warm.lo < (widS x y).melt := by
        show ¬ max x.melt _ < x.melt
        omega
      have c6 : ¬ (widB x y k x.baths[k]).warm.hi < (widB x y k x.baths[k]).warm.lo := by simp only [widB]; omega
      rw [c1, c2, c3, c4, if_neg c5, if_neg c6]
      rfl
  rw [e4]; rfl
theorem wid_dip (x : Dsh) (y : List Int) (d : Dip) : dipE (widS x y) d = dipE x d := by
  unfold dipE
  have e2 : (widS x y).baths.length = x.baths.length := widL_len _ _ _
  rw [e2]; rfl
theorem wid_okL {x : Dsh} {y : List Int} {l : List Dip} (h : okL x l) (hy : wordOk y) : okL (widS x y) l := ⟨wid_dchk h.1 hy, h.2.1, fun d hd => by rw [wid_dip]; exact h.2.2 d hd⟩
theorem wid_warm {x : Dsh} {y : List Int} {d : Dip} (h : okD x d) (hy : wordOk y) : (warmV (widS x y) d).lo ≤ (warmV x d).lo ∧ (warmV x d).hi ≤ (warmV (widS x y) d).hi := by
  obtain ⟨B, e1, hB, e2, _, g1, g2, g3, _⟩ := okD_bath h
  have hn := widN_bd hy B
  have m1 := g1.1.2
  have m2 := g2.1.2
  have e3 : warmV (widS x y) d = (widB x y B x.baths[B]).warm := by
    unfold warmV
    rw [e1, Int.toNat_natCast]
    have hB' : B < (widS x y).baths.length := by show B < (widL x y _).length; rw [widL_len]; exact hB
    rw [getD_at _ _ _ hB']
    have := widL_at (y := y) (k := x.baths.length) hB hB'
    rw [if_pos hB] at this
    exact congrArg Bth.warm this
  rw [e3, e2] at *
  simp only [widB]
  omega
theorem ends_in {x : Dsh} {d : Dip} (h : (warmV x d).lo ≤ (warmV x d).hi) : ((warmV x d).lo ≤ (endsV x d).1 ∧ (endsV x d).1 ≤ (warmV x d).hi) ∧ (warmV x d).lo ≤ (endsV x d).2 ∧ (endsV x d).2 ≤ (warmV x d).hi := by
  unfold endsV
  split
  · simp; omega
  · split
    · simp; omega
    · simp; omega
theorem wid_st {x : Dsh} {t : Tap} {y : List Int} {l : List Dip} (hl : okL x l) (hy : wordOk y) : ∀ k, k ≤ l.length →
    ((stA (widS x y) t l k).2.1.top ≤ (stA x t l k).2.1.top ∧ (stA x t l k).1.top ≤ (stA (widS x y) t l k).1.top) ∧
    ((stA (widS x y) t l k).2.1.foot ≤ (stA x t l k).2.1.foot ∧ (stA x t l k).1.foot ≤ (stA (widS x y) t l k).1.foot) ∧
    ((stA (widS x y) t l k).2.2.lo ≤ (stA x t l k).2.2.lo ∧ (stA x t l k).2.2.hi ≤ (stA (widS x y) t l k).2.2.hi) := by
  intro k
  induction k with
  | zero => intro _; simp [stA]
  | succ k ih =>
    intro hk
    have i := ih (by omega)
    have hk' : k < l.length := by omega
    have hd := okL_at hl k hk'
    have hd' := okL_at (wid_okL (y := y) hl hy) k hk'
    obtain ⟨B, e1, hB, e2, _, g1, g2, g3, g4⟩ := okD_bath hd
    obtain ⟨B', e1', hB', e2', _, g1', g2', g3', g4'⟩ := okD_bath hd'
    obtain ⟨a, b⟩ := wid_warm hd hy
    have m1 : (grownV x l[k] (warmV x l[k]).lo).1 ≤ (grownV x l[k] (warmV (widS x y) l[k]).lo).1 ∧ (grownV x l[k] (warmV x l[k]).lo).2 ≤ (grownV x l[k] (warmV (widS x y) l[k]).lo).2 := grown_warm (x := widS x y) g1' a
    have m2 : (grownV x l[k] (warmV (widS x y) l[k]).hi).1 ≤ (grownV x l[k] (warmV x l[k]).hi).1 ∧ (grownV x l[k] (warmV (widS x y) l[k]).hi).2 ≤ (grownV x l[k] (warmV x l[k]).hi).2 := grown_warm g2 b
    obtain ⟨n1, n2⟩ := ends_in g3
    have m3 : skewV x l[k] (endsV (widS x y) l[k]).1 ≤ skewV x l[k] (endsV x l[k]).1 := (skew_in (x := widS x y) hd' (show _ ≤ (endsV x l[k]).1 by omega) (by omega)).1
    have m4 : skewV x l[k] (endsV x l[k]).2 ≤ skewV x l[k] (endsV (widS x y) l[k]).2 := (skew_in (x := widS x y) hd' (show _ ≤ (endsV x l[k]).2 by omega) (by omega)).2
    rw [stA_succ hk', stA_succ hk']
    have d1 : ∀ s : Tap × Tap × Spn, stepA (widS x y) s l[k] = (dippedV x s.1 l[k] (warmV (widS x y) l[k]).lo, dippedV x s.2.1 l[k] (warmV (widS x y) l[k]).hi, ⟨s.2.2.lo + skewV x l[k] (endsV (widS x y) l[k]).1, s.2.2.hi + skewV x l[k] (endsV (widS x y) l[k]).2⟩) := fun _ => rfl
    rw [d1]
    simp only [stepA, dippedV]
    omega
theorem wid_asked {x : Dsh} {t : Tap} {y : List Int} {l : List Dip} (h : askedE x t l = 0) (hy : wordOk y) : askedE (widS x y) t l = 0 := by
  obtain ⟨_, h1, h2⟩ := asked_ok h
  exact asked_of h1 (wid_okL h2 hy)
end Go.Proofs.YtcgacojnfkklaaaGreatDoor
