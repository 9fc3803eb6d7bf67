/-
  The plan of a shop, as a plain function: what the recursion computes. No program here.
-/
import Derived.Test.YtpkjmnfgpbliaaaZMemo
namespace Go.Proofs.Ytpkjmnfgpbliaaa
open Go.RowKit
set_option linter.unusedSimpArgs false
set_option linter.unusedVariables false

/-- One round: batch i as the next one. -/
def planStep (s : Shp) (l : List Bat) (rec : Int → Nat → Pln) (bf : Int) (lf : Nat) (best : Pln) (i : Nat) : Pln :=
  if lf.testBit i = true then
    if needs s bf.toNat (l.getD i default) < 0 then best else lesserP best ⟨needs s bf.toNat (l.getD i default) * s.rinse + (rec (l.getD i default).c (lf - 2 ^ i)).lost, i⟩
  else best
def planF (s : Shp) (l : List Bat) : Nat → Int → Nat → Pln
  | 0, _, _ => ⟨0, -1⟩
  | k + 1, bf, lf => if lf = 0 then ⟨0, -1⟩ else (List.range l.length).foldl (planStep s l (planF s l k) bf lf) ⟨1099511627776, -2⟩
/-- The plan: the batches of lf are still to be done, bf was the colour before. -/
def planV (s : Shp) (l : List Bat) (bf : Int) (lf : Nat) : Pln := planF s l lf bf lf

theorem bit_le {lf i : Nat} (h : lf.testBit i = true) : 2 ^ i ≤ lf := Nat.ge_two_pow_of_testBit h
theorem foldl_congr' {α β : Type} (f g : β → α → β) (l : List α) (b : β) (h : ∀ b a, a ∈ l → f b a = g b a) : l.foldl f b = l.foldl g b := by
  induction l generalizing b with
  | nil => rfl
  | cons a t ih => simp only [List.foldl_cons]; rw [h b a (by simp)]; exact ih _ fun b a ha => h b a (by simp [ha])

theorem planF_fuel (s : Shp) (l : List Bat) : ∀ (lf k : Nat) (bf : Int), lf ≤ k → planF s l k bf lf = planF s l lf bf lf := by
  intro lf
  induction lf using Nat.strongRecOn with
  | ind lf ih =>
    intro k bf hk
    by_cases h0 : lf = 0
    · subst h0
      cases k <;> simp [planF]
    · obtain ⟨k', rfl⟩ : ∃ k', k = k' + 1 := ⟨k - 1, by omega⟩
      obtain ⟨m, rfl⟩ : ∃ m, lf = m + 1 := ⟨lf - 1, by omega⟩
      simp only [planF, if_neg h0]
      refine foldl_congr' _ _ _ _ fun best i _ => ?_
      unfold planStep
      by_cases ht : (m + 1).testBit i = true
      · rw [if_pos ht, if_pos ht]
        have hp := Nat.two_pow_pos i
        have hb := bit_le ht
        rw [ih (m + 1 - 2 ^ i) (by omega) k' _ (by omega), ih (m + 1 - 2 ^ i) (by omega) m _ (by omega)]
      · rw [if_neg ht, if_neg ht]

theorem planV_eq (s : Shp) (l : List Bat) (bf : Int) (lf : Nat) : planV s l bf lf = if lf = 0 then ⟨0, -1⟩ else (List.range l.length).foldl (planStep s l (planV s l) bf lf) ⟨1099511627776, -2⟩ := by
  by_cases h0 : lf = 0
  · subst h0; simp [planV, planF]
  · obtain ⟨m, rfl⟩ : ∃ m, lf = m + 1 := ⟨lf - 1, by omega⟩
    rw [if_neg h0, planV]
    simp only [planF, if_neg h0]
    refine foldl_congr' _ _ _ _ fun best i _ => ?_
    unfold planStep
    by_cases ht : (m + 1).testBit i = true
    · rw [if_pos ht, if_pos ht]
      have hp := Nat.two_pow_pos i
      have hb := bit_le ht
      rw [planF_fuel s l (m + 1 - 2 ^ i) m _ (by omega)]; rfl
    · rw [if_neg ht, if_neg ht]

/-- The bounds of what a plan loses and names. -/
def okPln (n : Nat) (p : Pln) : Prop := (0 ≤ p.lost ∧ p.lost ≤ 1099511627776) ∧ -2 ≤ p.next ∧ p.next < n
theorem planStep_ok (s : Shp) (hg : Good s) (l : List Bat) (rec : Int → Nat → Pln) (bf : Int) (lf : Nat) (best : Pln) (i : Nat) (hi : i < l.length) (hb : okPln l.length best) (hr : ∀ b x, 0 ≤ (rec b x).lost) : okPln l.length (planStep s l rec bf lf best i) := by
  unfold planStep
  split
  · split
    · exact hb
    · rename_i hn
      have m0 : 0 ≤ needs s bf.toNat (l.getD i default) * s.rinse := Int.mul_nonneg (by omega) hg.r0
      have := hr (l.getD i default).c (lf - 2 ^ i)
      unfold lesserP
      split
      · rename_i hlt
        obtain ⟨⟨b0, b1⟩, b2, b3⟩ := hb
        dsimp only at hlt
        exact ⟨⟨by dsimp only; omega, by dsimp only; omega⟩, by dsimp only; omega, by dsimp only; omega⟩
      · exact hb
  · exact hb
theorem foldl_ok {α β : Type} (Pr : β → Prop) (f : β → α → β) (l : List α) (b : β) (h0 : Pr b) (h : ∀ b a, a ∈ l → Pr b → Pr (f b a)) : Pr (l.foldl f b) := by
  induction l generalizing b with
  | nil => exact h0
  | cons a t ih => exact ih _ (h b a (by simp) h0) fun b a ha => h b a (by simp [ha])
theorem planF_ok (s : Shp) (hg : Good s) (l : List Bat) : ∀ (k : Nat) (bf : Int) (lf : Nat), (0 ≤ (planF s l k bf lf).lost ∧ (planF s l k bf lf).lost ≤ 1099511627776) ∧ -2 ≤ (planF s l k bf lf).next ∧ ((planF s l k bf lf).next < l.length ∨ (planF s l k bf lf).next = -1) := by
  intro k
  induction k with
  | zero => intro bf lf; simp [planF]
  | succ k ih =>
    intro bf lf
    simp only [planF]
    by_cases h0 : lf = 0
    · simp [h0]
    · rw [if_neg h0]
      have : okPln l.length ((List.range l.length).foldl (planStep s l (planF s l k) bf lf) ⟨1099511627776, -2⟩) :=
        foldl_ok (okPln l.length) _ _ _ ⟨⟨by decide, by decide⟩, by decide, by show (-2 : Int) < (l.length : Int); omega⟩ fun best i hi hb => planStep_ok s hg l _ bf lf best i (List.mem_range.1 hi) hb fun b x => (ih b x).1.1
      exact ⟨this.1, this.2.1, .inl this.2.2⟩
end Go.Proofs.Ytpkjmnfgpbliaaa
