/-
  The plan's recursion finds the first one of the orders that lose the least. No program here.
-/
import Derived.Test.YtpkjmnfgpbliaaaZBestPlain
namespace Go.Proofs.Ytpkjmnfgpbliaaa
open Go.RowKit
set_option linter.unusedSimpArgs false
set_option linter.unusedVariables false

def ordO (s : Shp) (l : List Bat) (bf : Int) (o : List Int) : Option Int := lossO s bf (putL l o)
theorem fm_flatMap {α β : Type} (f : α → Option Int) (g : β → List α) (l : List β) : fm f (l.flatMap g) = l.foldl (fun b x => better b (fm f (g x))) none := by
  have key : ∀ (l : List β) (b : Option (α × Int)), better b (fm f (l.flatMap g)) = l.foldl (fun b x => better b (fm f (g x))) b := by
    intro l
    induction l with
    | nil => intro b; simp [fm, better_none]
    | cons a t ih => intro b; rw [List.flatMap_cons, fm_append, ← better_assoc, ih]; rfl
  exact key l none
theorem foldl_rel {α β γ : Type} (R : β → γ → Prop) (f : β → α → β) (g : γ → α → γ) (l : List α) (b : β) (c : γ) (h0 : R b c) (h : ∀ b c a, a ∈ l → R b c → R (f b a) (g c a)) : R (l.foldl f b) (l.foldl g c) := by
  induction l generalizing b c with
  | nil => exact h0
  | cons a t ih => exact ih _ _ (h b c a (by simp) h0) fun b c a ha => h b c a (by simp [ha])

def orderF (s : Shp) (l : List Bat) : Nat → Int → Nat → List Int
  | 0, _, _ => []
  | k + 1, bf, lf => if lf = 0 then [] else (planV s l bf lf).next :: orderF s l k (l.getD (planV s l bf lf).next.toNat default).c (lf - 2 ^ (planV s l bf lf).next.toNat)
/-- The order that the plans give. -/
def orderV (s : Shp) (l : List Bat) (bf : Int) (lf : Nat) : List Int := orderF s l lf bf lf
theorem orderF_fuel (s : Shp) (l : List Bat) : ∀ (lf k : Nat) (bf : Int), lf ≤ k → orderF s l k bf lf = orderF s l lf bf lf := by
  intro lf
  induction lf using Nat.strongRecOn with
  | ind lf ih =>
    intro k bf hk
    by_cases h0 : lf = 0
    · subst h0; cases k <;> simp [orderF]
    · obtain ⟨k', rfl⟩ : ∃ k', k = k' + 1 := ⟨k - 1, by omega⟩
      obtain ⟨m, rfl⟩ : ∃ m, lf = m + 1 := ⟨lf - 1, by omega⟩
      have hp := Nat.two_pow_pos (planV s l bf (m + 1)).next.toNat
      simp only [orderF, if_neg h0]
      rw [ih _ (by omega) k' _ (by omega), ih _ (by omega) m _ (by omega)]
theorem orderV_eq (s : Shp) (l : List Bat) (bf : Int) (lf : Nat) : orderV s l bf lf = if lf = 0 then [] else (planV s l bf lf).next :: orderV s l (l.getD (planV s l bf lf).next.toNat default).c (lf - 2 ^ (planV s l bf lf).next.toNat) := by
  by_cases h0 : lf = 0
  · subst h0; rfl
  · obtain ⟨m, rfl⟩ : ∃ m, lf = m + 1 := ⟨lf - 1, by omega⟩
    have hp := Nat.two_pow_pos (planV s l bf (m + 1)).next.toNat
    rw [if_neg h0, orderV]
    simp only [orderF, if_neg h0]
    rw [orderF_fuel s l _ m _ (by omega)]; rfl

/-- What the best order of some batches is, by the plans. -/
def bestO (s : Shp) (l : List Bat) (bf : Int) (lf : Nat) : Option (List Int × Int) := if (planV s l bf lf).lost < 1099511627776 then some (orderV s l bf lf, (planV s l bf lf).lost) else none

theorem permsL_bits (n lf i : Nat) (hi : i < n) (h : lf.testBit i = true) : permsF ((bitsL n lf).length - 1) ((bitsL n lf).filter (· != (i : Int))) = permsL (bitsL n (lf - 2 ^ i)) := by
  rw [← bitsL_sub n lf i h, permsL]
  congr 1
  rw [bitsL_sub n lf i h]
  have hm : (i : Int) ∈ bitsL n lf := (bitsL_mem _ _ _).2 ⟨i, rfl, hi, h⟩
  rw [← (bitsL_nodup n lf).erase_eq_filter, List.length_erase_of_mem hm]

theorem bitsL_zero (n : Nat) : bitsL n 0 = [] := by simp [bitsL]
theorem bitsL_ne (n lf : Nat) (h : lf < 2 ^ n) (h0 : ¬ lf = 0) : ¬ bitsL n lf = [] := by
  intro e
  obtain ⟨i, hi⟩ := Nat.exists_testBit_of_ne_zero h0
  have hin : i < n := by
    rcases Nat.lt_or_ge i n with h1 | h1
    · exact h1
    · have := Nat.testBit_lt_two_pow (Nat.lt_of_lt_of_le h (Nat.pow_le_pow_right (by decide) h1)); rw [this] at hi; cases hi
  have : (i : Int) ∈ bitsL n lf := (bitsL_mem _ _ _).2 ⟨i, rfl, hin, hi⟩
  rw [e] at this; cases this

theorem plan_fm (s : Shp) (hg : Good s) (l : List Bat) (hl7 : l.length ≤ 7) (hok : ∀ j (hj : j < l.length), okBat s l[j]) : ∀ (lf : Nat) (bf : Int), lf < 2 ^ l.length → 0 ≤ bf → bf < s.cols.length →
    fm (ordO s l bf) (permsL (bitsL l.length lf)) = bestO s l bf lf := by
  intro lf
  induction lf using Nat.strongRecOn with
  | ind lf ih =>
    intro bf hlf hb0 hb1
    by_cases h0 : lf = 0
    · subst h0
      rw [bitsL_zero]
      rfl
    · have hne := bitsL_ne _ _ hlf h0
      obtain ⟨m, hm⟩ : ∃ m, (bitsL l.length lf).length = m + 1 := ⟨(bitsL l.length lf).length - 1, by have := List.length_pos_iff.2 hne; omega⟩
      have hP : permsL (bitsL l.length lf) = (bitsL l.length lf).flatMap fun x => (permsF m ((bitsL l.length lf).filter (· != x))).map (x :: ·) := by rw [permsL, hm]; rfl
      rw [hP, fm_flatMap]
      have hfold : ∀ (f : Option (List Int × Int) → Int → Option (List Int × Int)), (bitsL l.length lf).foldl f none = (List.range l.length).foldl (fun b i => if lf.testBit i = true then f b i else b) none := by
        intro f
        rw [bitsL, List.foldl_map, List.foldl_filter]
      rw [hfold]
      have hrel := foldl_rel (fun (p : Pln) (b : Option (List Int × Int)) => (b = none ∧ p = ⟨1099511627776, -2⟩) ∨
          ∃ i : Nat, ∃ mm : Int, i < l.length ∧ lf.testBit i = true ∧ p = ⟨mm, i⟩ ∧ 0 ≤ mm ∧ mm < 1099511627776 ∧ b = some ((i : Int) :: orderV s l (l.getD i default).c (lf - 2 ^ i), mm))
        (planStep s l (planV s l) bf lf) (fun b i => if lf.testBit i = true then better b (fm (ordO s l bf) ((permsF m ((bitsL l.length lf).filter (· != (i : Int)))).map ((i : Int) :: ·))) else b) (List.range l.length) ⟨1099511627776, -2⟩ none (.inl ⟨rfl, rfl⟩) ?_
      · have hpl := planV_eq s l bf lf
        rw [if_neg h0] at hpl
        rcases hrel with ⟨h1, h2⟩ | ⟨i, mm, hi, hti, h2, hmm0, hmm, h1⟩
        · rw [h1, bestO, hpl, h2]; rfl
        · rw [h2] at hpl
          rw [h1, bestO, hpl, if_pos hmm]
          have ho := orderV_eq s l bf lf
          rw [if_neg h0, hpl] at ho
          rw [ho]
          simp
      · rintro p b i hi hR
        have hin := List.mem_range.1 hi
        by_cases ht : lf.testBit i = true
        · simp only [planStep, if_pos ht]
          have hmi : permsF m ((bitsL l.length lf).filter (· != (i : Int))) = permsL (bitsL l.length (lf - 2 ^ i)) := by
            have := permsL_bits l.length lf i hin ht
            rw [hm] at this
            simpa using this
          rw [hmi]
          have hokI := hok i hin
          have hgd : l.getD i default = l[i] := getD_at _ _ _ hin
          by_cases hn : needs s bf.toNat (l.getD i default) < 0
          · rw [if_pos hn]
            have : fm (ordO s l bf) ((permsL (bitsL l.length (lf - 2 ^ i))).map ((i : Int) :: ·)) = none := by
              induction permsL (bitsL l.length (lf - 2 ^ i)) with
              | nil => rfl
              | cons a t ih2 =>
                rw [List.map_cons, fm_cons, ih2]
                have : ordO s l bf ((i : Int) :: a) = none := by
                  rw [ordO, putL, List.map_cons, lossO_cons, Int.toNat_natCast, if_pos hn]
                rw [this]; rfl
            rw [this, better_none]
            exact hR
          · rw [if_neg hn]
            have hstep : ∀ a, ordO s l bf ((i : Int) :: a) = (ordO s l (l.getD i default).c a).map (needs s bf.toNat (l.getD i default) * s.rinse + ·) := by
              intro a
              rw [ordO, putL, List.map_cons, lossO_cons, Int.toNat_natCast, if_neg hn]; rfl
            have hp := Nat.two_pow_pos i
            have hbl := bit_le ht
            obtain ⟨⟨q1, q2⟩, _⟩ := hokI
            rw [fm_map ((i : Int) :: ·) (needs s bf.toNat (l.getD i default) * s.rinse) (ordO s l (l.getD i default).c) (ordO s l bf) _ hstep]
            rw [ih (lf - 2 ^ i) (by omega) (l.getD i default).c (by omega) (by rw [hgd]; exact q1) (by rw [hgd]; exact q2)]
            have hmul : 0 ≤ needs s bf.toNat (l.getD i default) * s.rinse := Int.mul_nonneg (by omega) hg.r0
            have hmul2 : needs s bf.toNat (l.getD i default) * s.rinse ≤ 3 * 10000 := Int.mul_le_mul (needs_range s bf.toNat _).2 hg.r1 hg.r0 (by omega)
            have hpo := planF_ok s hg l (lf - 2 ^ i) (l.getD i default).c (lf - 2 ^ i)
            have hrest : planF s l (lf - 2 ^ i) (l.getD i default).c (lf - 2 ^ i) = planV s l (l.getD i default).c (lf - 2 ^ i) := rfl
            rw [hrest] at hpo
            have hsmall : (planV s l (l.getD i default).c (lf - 2 ^ i)).lost < 1099511627776 → (planV s l (l.getD i default).c (lf - 2 ^ i)).lost ≤ 210000 := by
              intro hlt
              have hih := ih (lf - 2 ^ i) (by omega) (l.getD i default).c (by omega) (by rw [hgd]; exact q1) (by rw [hgd]; exact q2)
              rw [bestO, if_pos hlt] at hih
              obtain ⟨hmem, hval⟩ := fm_mem _ _ _ hih
              have hperm := (permsF_mem _ _ _ rfl (bitsL_nodup _ _)).1 hmem
              have hlen : (putL l (orderV s l (l.getD i default).c (lf - 2 ^ i))).length ≤ 7 := by
                simp only [putL, List.length_map]
                rw [hperm.length_eq]
                have : (bitsL l.length (lf - 2 ^ i)).length ≤ l.length := by
                  simp only [bitsL, List.length_map]
                  exact Nat.le_trans (List.length_filter_le _ _) (by simp)
                omega
              have hbd := lossO_bd s hg (l.getD i default).c (by rw [hgd]; exact ⟨q1, q2⟩) _ ?_ hval
              · have := hbd.2; dsimp only at this hlen; omega
              · intro b hb
                obtain ⟨x, hx, rfl⟩ := List.mem_map.1 hb
                have hx2 := hperm.mem_iff.1 hx
                obtain ⟨k, rfl, hk, _⟩ := (bitsL_mem _ _ _).1 hx2
                rw [Int.toNat_natCast, getD_at _ _ _ hk]
                exact hok k hk
            generalize hr : planV s l (l.getD i default).c (lf - 2 ^ i) = r at *
            generalize needs s bf.toNat (l.getD i default) * s.rinse = c at *
            rw [bestO, hr]
            by_cases hlt : r.lost < 1099511627776
            · have hsm := hsmall hlt
              rw [if_pos hlt]
              simp only [Option.map_some]
              rcases hR with ⟨rfl, rfl⟩ | ⟨k, mm, hk, htk, rfl, hmm0, hmm, rfl⟩
              · refine .inr ⟨i, c + r.lost, hin, ht, ?_, by omega, by omega, rfl⟩
                simp only [lesserP]
                rw [if_pos (by omega)]
              · simp only [lesserP, better]
                by_cases hc : c + r.lost < mm
                · rw [if_pos hc, if_pos hc]
                  exact .inr ⟨i, c + r.lost, hin, ht, rfl, by omega, by omega, rfl⟩
                · rw [if_neg hc, if_neg hc]
                  exact .inr ⟨k, mm, hk, htk, rfl, hmm0, hmm, rfl⟩
            · rw [if_neg hlt, Option.map_none, better_none]
              rcases hR with ⟨rfl, rfl⟩ | ⟨k, mm, hk, htk, rfl, hmm0, hmm, rfl⟩
              · refine .inl ⟨rfl, ?_⟩
                simp only [lesserP]
                rw [if_neg (by omega)]
              · refine .inr ⟨k, mm, hk, htk, ?_, hmm0, hmm, rfl⟩
                simp only [lesserP]
                rw [if_neg (by omega)]
        · simp only [planStep, if_neg ht]
          exact hR
end Go.Proofs.Ytpkjmnfgpbliaaa
