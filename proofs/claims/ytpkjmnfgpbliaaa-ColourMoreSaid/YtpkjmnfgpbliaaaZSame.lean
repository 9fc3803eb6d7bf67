/-
  What Best, Two and Rush return is what the reference returns. No program here.
-/
import Derived.Test.YtpkjmnfgpbliaaaZRush
import Derived.Test.YtpkjmnfgpbliaaaZRefC
namespace Go.Proofs.Ytpkjmnfgpbliaaa
open Go.RowKit
set_option linter.unusedSimpArgs false
set_option linter.unusedVariables false

theorem partL_all (n : Nat) : partL 0 n false = bitsL n (2 ^ n - 1) := by
  unfold partL bitsL
  congr 1
  apply List.filter_congr
  intro i hi
  have : i < n := by simpa using hi
  rw [Nat.testBit_two_pow_sub_one]; simp [this]
theorem partL_in (set n : Nat) : partL set n true = bitsL n set := by
  unfold partL bitsL
  congr 1
  apply List.filter_congr
  intro i hi
  simp
theorem partL_off (set n : Nat) (h : set < 2 ^ n) : partL set n false = bitsL n (2 ^ n - 1 - set) := by
  unfold partL bitsL
  congr 1
  apply List.filter_congr
  intro i hi
  have hin : i < n := by simpa using hi
  rw [show 2 ^ n - 1 - set = 2 ^ n - (set + 1) from by omega, Nat.testBit_two_pow_sub_succ h]
  simp [hin]
theorem bestR_eq (s : Shp) (st : Int) (l : List Bat) : bestR s st l = refBest s st l := by
  unfold bestR refBest
  by_cases he : openErr s l [st] = 0
  · have hne : ¬ ¬ openErr s l [st] = 0 := by simpa using he
    rw [if_neg hne, if_neg hne]
    obtain ⟨hg, ho, hl7, hbe⟩ := openErr_zero he
    have ho := (outB_one _ _ _).1 ho
    have hok := okBat_all hbe
    have hpw := pow_len hl7
    rw [partL_all, plan_fm s hg l hl7 hok (2 ^ l.length - 1) st (by omega) ho.1 (by omega), bestO]
    by_cases hlo : (planV s l st (2 ^ l.length - 1)).lost < 1099511627776
    · rw [if_pos hlo, if_neg (by omega)]
    · rw [if_neg hlo, if_pos (by omega)]
  · rw [if_pos he, if_pos he]
theorem twoR_eq (s : Shp) (a b : Int) (l : List Bat) : twoR s a b l = refTwo s (a, b) l := by
  unfold twoR refTwo
  by_cases he : openErr s l [a, b] = 0
  · have hne : ¬ ¬ openErr s l [a, b] = 0 := by simpa using he
    rw [if_neg hne, if_neg hne]
    obtain ⟨hg, ho, hl7, hbe⟩ := openErr_zero he
    obtain ⟨⟨h1, h2⟩, h3, h4⟩ := (outB_two _ _ _ _).1 ho
    have hok := okBat_all hbe
    have hpw := pow_len hl7
    have hc : (chk s).2.2 = 0 := by
      have := (openErr_zeroR he).1
      unfold colE at this
      by_cases hc : (chk s).2.2 = 0
      · exact hc
      · rw [if_pos hc] at this; exact this
    have key : ∀ k, k ≤ 2 ^ l.length → (twoK s a b l k = none ∧ (twoL s l a b k) = (0, 1099511627776)) ∨ ∃ (set : Nat) (m : Int), set < 2 ^ l.length ∧ twoL s l a b k = (set, m) ∧ m < 1099511627776 ∧ twoK s a b l k = some ((orderV s l a set, orderV s l b (2 ^ l.length - 1 - set)), m) := by
      intro k
      induction k with
      | zero => intro _; exact .inl ⟨rfl, rfl⟩
      | succ k ih =>
        intro hk
        have ih := ih (by omega)
        rw [twoK_succ, twoL_succ]
        have hA := plan_fm s hg l hl7 hok k a (by omega) h1 (by omega)
        have hB := plan_fm s hg l hl7 hok (2 ^ l.length - 1 - k) b (by omega) h3 (by omega)
        have pA := (planF_ok s hg l k a k).1
        have pB := (planF_ok s hg l (2 ^ l.length - 1 - k) b (2 ^ l.length - 1 - k)).1
        have eA : planF s l k a k = planV s l a k := rfl
        have eB : planF s l (2 ^ l.length - 1 - k) b (2 ^ l.length - 1 - k) = planV s l b (2 ^ l.length - 1 - k) := rfl
        rw [eA] at pA; rw [eB] at pB
        have hX : twoX s a b l k = match bestO s l a k, bestO s l b (2 ^ l.length - 1 - k) with
            | some p, some q => some ((p.1, q.1), p.2 + q.2)
            | _, _ => none := by
          unfold twoX
          rw [partL_in, partL_off k l.length (by omega), hA, hB]
          cases bestO s l a k <;> cases bestO s l b (2 ^ l.length - 1 - k) <;> rfl
        have bA := fun p (hp : fm (ordO s l a) (permsL (partL k l.length true)) = some p) => ordO_bd hc hbe h1 (by omega) hl7 (partL k l.length true) (partL_nodup _ _ _) (Nat.le_trans (partL_len _ _ _) hl7) (partL_out _ _ _) hp
        have bB := fun p (hp : fm (ordO s l b) (permsL (partL k l.length false)) = some p) => ordO_bd hc hbe h3 (by omega) hl7 (partL k l.length false) (partL_nodup _ _ _) (Nat.le_trans (partL_len _ _ _) hl7) (partL_out _ _ _) hp
        rw [partL_in, hA] at bA
        rw [partL_off k l.length (by omega), hB] at bB
        rw [hX]
        unfold bestO at bA bB ⊢
        unfold shareN
        by_cases cA : (planV s l a k).lost < 1099511627776
        · by_cases cB : (planV s l b (2 ^ l.length - 1 - k)).lost < 1099511627776
          · rw [if_pos cA] at bA ⊢
            rw [if_pos cB] at bB ⊢
            have bA := (bA _ rfl).2
            have bB := (bB _ rfl).2
            dsimp only at bA bB ⊢
            rcases ih with ⟨i1, i2⟩ | ⟨set, m, i0, i1, i2, i3⟩
            · rw [i1, i2, if_pos (by dsimp only; omega)]
              exact .inr ⟨k, _, by omega, rfl, by omega, rfl⟩
            · rw [i1, i3]
              by_cases cc : (planV s l a k).lost + (planV s l b (2 ^ l.length - 1 - k)).lost < m
              · rw [if_pos cc]
                exact .inr ⟨k, _, by omega, rfl, by omega, by simp [better, cc]⟩
              · rw [if_neg cc]
                exact .inr ⟨set, m, i0, rfl, i2, by simp [better, cc]⟩
          · rw [if_pos cA, if_neg cB]
            dsimp only
            rw [better_none, if_neg (by rcases ih with ⟨i1, i2⟩ | ⟨set, m, i0, i1, i2, i3⟩ <;> (first | rw [i2] | rw [i1]) <;> dsimp only <;> omega)]
            exact ih
        · rw [if_neg cA]
          dsimp only
          rw [better_none, if_neg (by rcases ih with ⟨i1, i2⟩ | ⟨set, m, i0, i1, i2, i3⟩ <;> (first | rw [i2] | rw [i1]) <;> dsimp only <;> omega)]
          exact ih
    rcases key _ (Nat.le_refl _) with ⟨k1, k2⟩ | ⟨set, m, k0, k1, k2, k3⟩
    · dsimp only
      rw [k1, k2]; rfl
    · dsimp only
      rw [k1, k3, if_neg (by dsimp only; omega)]
  · rw [if_pos he, if_pos he]
theorem openErr_one {s : Shp} {b : Bat} (h : (chk s).2.2 = 0) : openErr s [b] [] = batErr s b := by
  unfold openErr
  rw [if_neg (by simpa using h), if_neg (by simp [outB]), if_neg (by simp)]
  simp only [batsErr]
  split
  · rename_i h; exact h.symm
  · rfl
theorem rushP_eq (s : Shp) (st : Int) (l : List Bat) (o : List Int) (b : Bat) : rushP s st l o b = rushR s st l o b := by
  unfold rushP rushR askE
  by_cases he : openErr s l [st] = 0
  · have hne : ¬ ¬ openErr s l [st] = 0 := by simpa using he
    simp only [if_neg hne]
    by_cases hs : strangeE l.length o = 0
    · have hns : ¬ ¬ strangeE l.length o = 0 := by simpa using hs
      simp only [if_neg hns]
      obtain ⟨hg, ho, hl7, hbe⟩ := openErr_zero he
      have ho := (outB_one _ _ _).1 ho
      have hok := okBat_all hbe
      obtain ⟨hol, hoo, _⟩ := strange_zero hs
      have hc : (chk s).2.2 = 0 := by
        have := (openErr_zeroR he).1
        unfold colE at this
        by_cases hc : (chk s).2.2 = 0
        · exact hc
        · rw [if_pos hc] at this; exact this
      rw [openErr_one hc]
      by_cases hb : batErr s b = 0
      · have hnb : ¬ ¬ batErr s b = 0 := by simpa using hb
        simp only [if_neg hnb]
        have hokp := putL_ok hok (ord_range hoo)
        have hokb : okBat s b := okBat_of hb
        have hpos : ∀ k m, lossO s st (withL l o b k) = some m → 0 ≤ m := fun k m hm => (lossO_bd s hg st ⟨ho.1, by omega⟩ _ (by
          intro x hx
          simp only [withL, List.mem_append, List.mem_singleton] at hx
          rcases hx with (hx | rfl) | hx
          · exact hokp x (List.mem_of_mem_take hx)
          · exact hokb
          · exact hokp x (List.mem_of_mem_drop hx)) hm).1
        have key : ∀ k, (rushF s st l o b k = none ∧ rushW s st (putL l o) b k = (0, -1)) ∨ ∃ p, 0 ≤ p.2 ∧ rushF s st l o b k = some p ∧ rushW s st (putL l o) b k = p := by
          intro k
          induction k with
          | zero => exact .inl ⟨rfl, rfl⟩
          | succ k ih =>
            rw [rushF_succ, rushW_succ, lossB_eq]
            have hw : List.take k (putL l o) ++ [b] ++ List.drop k (putL l o) = withL l o b k := rfl
            rw [hw]
            have hp := hpos k
            cases hy : lossO s st (withL l o b k) with
            | none =>
              simp only [Option.map_none, better_none, Option.getD_none]
              rw [if_neg (by omega)]
              exact ih
            | some m =>
              have hm := hp m hy
              simp only [Option.map_some, Option.getD_some]
              rcases ih with ⟨i1, i2⟩ | ⟨p, i0, i1, i2⟩
              · rw [i1, i2, if_pos ⟨hm, .inl (by decide)⟩]
                exact .inr ⟨(k, m), hm, rfl, rfl⟩
              · rw [i1, i2]
                by_cases hlt : m < p.2
                · rw [if_pos ⟨hm, .inr hlt⟩]
                  exact .inr ⟨(k, m), hm, by simp [better, hlt], rfl⟩
                · rw [if_neg (by omega)]
                  exact .inr ⟨p, i0, by simp [better, hlt], rfl⟩
        rcases key (l.length + 1) with ⟨k1, k2⟩ | ⟨p, k0, k1, k2⟩
        · rw [k1, k2]; rfl
        · rw [k1, k2, if_neg (by omega)]
      · simp only [if_pos hb]
    · simp only [if_pos hs]
  · simp only [if_pos he]
end Go.Proofs.Ytpkjmnfgpbliaaa
