/-
  The law DipStraight: what Worst returns is the worst warmth. Conditions: none.
-/
import Derived.Test.YtcgacojnfkklaaaGreatDoorZLawB
namespace Go.Proofs.YtcgacojnfkklaaaGreatDoor
open Go.RowKit
set_option linter.unusedSimpArgs false
set_option linter.unusedVariables false
def kp10 (r : Nat) : List (Nat × Option Nat) := match r with
  | 0 => [(3, none), (4, none), (5, none)]
  | 1 => [(3, none), (4, none), (5, none), (7, none), (8, none)]
  | 2 => [(3, none), (4, none), (5, none), (7, none), (8, none), (33, none)]
  | 3 => [(6, none)]
  | 4 => [(3, none), (4, none), (5, none), (7, none), (9, none), (10, none)]
  | 5 => [(3, none), (4, none), (5, none), (7, none), (9, none), (59, none)]
  | 6 => [(6, none)]
  | 7 => [(3, none), (4, none), (5, none), (7, none), (11, none)]
  | 8 => [(3, none), (4, none), (5, none), (7, none), (11, none), (79, none)]
  | 9 => [(6, none)]
  | 10 => [(5, none), (10, none), (11, none), (12, none)]
  | 11 => [(5, none), (11, none), (12, none), (97, none)]
  | 12 => [(6, none)]
  | 13 => [(5, none), (11, none), (13, none)]
  | 14 => [(6, none)]
  | _ => []
def farV (t : Tap) : Int := max (t.foot - t.top) (t.top - t.foot)
theorem worst_ok {x : Dsh} {t : Tap} {l : List Dip} {b : Int} : (worstR x t l b).2 = 0 ↔ (afterE x t l).2 = 0 ∧ 0 ≤ b := by
  unfold worstR
  by_cases h : (afterE x t l).2 = 0
  · rw [if_neg (by simpa using h)]
    by_cases h2 : b < 0
    · rw [if_pos h2]; simp; omega
    · rw [if_neg h2]
      refine ⟨fun _ => ⟨h, by omega⟩, fun _ => ?_⟩
      split <;> rfl
  · rw [if_pos h]
    exact ⟨fun h' => absurd h' h, fun h' => absurd h'.1 h⟩
theorem worst_bad {x : Dsh} {t : Tap} {l : List Dip} {b : Int} (h : ¬ (worstR x t l b).2 = 0) : worstR x t l b = ([], (worstR x t l b).2) := by
  unfold worstR at h ⊢
  split
  · rfl
  · rename_i h1
    rw [if_neg h1] at h
    split
    · rfl
    · rename_i h2
      rw [if_neg h2] at h
      split
      · rfl
      · rename_i h3
        rw [if_neg h3] at h
        exact absurd rfl h
theorem far_le {x : Dsh} {t : Tap} {l : List Dip} {w : List Int} (hl : okL x l) (hw : wIn x l w) : farV (flS x t l w l.length) ≤ max (-(stA x t l l.length).2.2.lo) (stA x t l l.length).2.2.hi := by
  have := fl_in (t := t) hl hw l.length (Nat.le_refl _)
  unfold farV
  omega
theorem worst_far {x : Dsh} {t : Tap} {l : List Dip} (hl : okL x l) : wIn x l (worstL x (stA x t l l.length).2.2 l) ∧ farV (flS x t l (worstL x (stA x t l l.length).2.2 l) l.length) = max (-(stA x t l l.length).2.2.lo) (stA x t l l.length).2.2.hi := by
  have hin : wIn x l (worstL x (stA x t l l.length).2.2 l) := map_in hl _ fun d hd => by
    unfold endsV
    by_cases h1 : skewV x d (warmV x d).lo < skewV x d (warmV x d).hi
    · rw [if_pos h1]; split <;> simp
    · rw [if_neg h1]
      by_cases h2 : skewV x d (warmV x d).hi < skewV x d (warmV x d).lo
      · rw [if_pos h2]; split <;> simp
      · rw [if_neg h2]; simp
  refine ⟨hin, ?_⟩
  by_cases hc : (stA x t l l.length).2.2.hi ≤ -(stA x t l l.length).2.2.lo
  · have e := fl_least (x := x) (t := t) (l := l) (fun d => if (stA x t l l.length).2.2.hi ≤ -(stA x t l l.length).2.2.lo then (endsV x d).1 else (endsV x d).2) (fun d _ => by rw [if_pos hc]) l.length (Nat.le_refl _)
    have e' : (flS x t l (worstL x (stA x t l l.length).2.2 l) l.length).foot - (flS x t l (worstL x (stA x t l l.length).2.2 l) l.length).top = (stA x t l l.length).2.2.lo := e
    have := fl_in (t := t) hl hin l.length (Nat.le_refl _)
    unfold farV
    omega
  · have e := fl_most (x := x) (t := t) (l := l) (fun d => if (stA x t l l.length).2.2.hi ≤ -(stA x t l l.length).2.2.lo then (endsV x d).1 else (endsV x d).2) (fun d _ => by rw [if_neg hc]) l.length (Nat.le_refl _)
    have e' : (flS x t l (worstL x (stA x t l l.length).2.2 l) l.length).foot - (flS x t l (worstL x (stA x t l l.length).2.2 l) l.length).top = (stA x t l l.length).2.2.hi := e
    have := fl_in (t := t) hl hin l.length (Nat.le_refl _)
    unfold farV
    omega
theorem worst_val {x : Dsh} {t : Tap} {l : List Dip} {b : Int} (h : (worstR x t l b).2 = 0) : worstR x t l b = (if max (-(stA x t l l.length).2.2.lo) (stA x t l l.length).2.2.hi ≤ b then [] else worstL x (stA x t l l.length).2.2 l, 0) := by
  obtain ⟨h1, h2⟩ := worst_ok.1 h
  unfold worstR
  rw [if_neg (by simpa using h1), if_neg (by omega), last_val h1]
  show (if max (-(stA x t l l.length).2.2.lo) (stA x t l l.length).2.2.hi ≤ b then ([], 0) else (worstL x (stA x t l l.length).2.2 l, 0)) = _
  by_cases h3 : max (-(stA x t l l.length).2.2.lo) (stA x t l l.length).2.2.hi ≤ b
  · rw [if_pos h3, if_pos h3]
  · rw [if_neg h3, if_neg h3]
def s10 : List D → Option D := sp3 (cAgg rDsh) (cAgg rTap) (cAgg rAsk) cBool fun x t y => if namesOk x ∧ wordOk y.warm then some true else none
set_option maxHeartbeats 4000000 in
theorem ok10 : ∀ ds d, s10 ds = some d → PureC Tryz.prog 10 ds d := ok_sp3 fun x t y r hr => by
  split at hr
  · rename_i hc
    cases hr
    obtain ⟨hs, hy⟩ := hc
    refine pure_of_call (mkCx_ok dtb 127 kp10 []) Tryz.func10 rfl rfl (Nat.le_of_ble_eq_true rfl) (by kernel_rfl) ?_
    rw [Tryz.results10]
    by_cases h1 : (worstR x t y.plan y.bound).2 = 0
    · have hv := worst_val h1
      obtain ⟨h2, hb0⟩ := worst_ok.1 h1
      obtain ⟨ha, hlost⟩ := after_ok.1 h2
      obtain ⟨_, ht, hl⟩ := asked_ok ha
      have hl30 := hl.2.1
      have hw := warmed_in (y := y.warm) hl
      have hvB : validB x t y.plan = true := by unfold validB; simpa using ha
      have f1 := follow_val (follow_after h2 hw)
      have far1 := far_le (t := t) hl hw
      have b1 := (flS_bd hl ht (warm_in.2 hw) y.plan.length (Nat.le_refl _)).1
      obtain ⟨hwi, hfar⟩ := worst_far (t := t) hl
      have f2 := follow_val (follow_after h2 hwi)
      have b2 := (flS_bd hl ht (warm_in.2 hwi) y.plan.length (Nat.le_refl _)).1
      have sb := (stA_bd hl ht y.plan.length (Nat.le_refl _)).2.2.1
      generalize hM : max (-(stA x t y.plan y.plan.length).2.2.lo) (stA x t y.plan y.plan.length).2.2.hi = M at *
      generalize hWv : warmedV x y.plan y.warm = W at *
      have hWL : (worstL x (stA x t y.plan y.plan.length).2.2 y.plan).length = y.plan.length := by simp [worstL]
      generalize worstL x (stA x t y.plan y.plan.length).2.2 y.plan = WL at *
      unfold farV at far1 hfar
      generalize flS x t y.plan W y.plan.length = T at *
      generalize flS x t y.plan WL y.plan.length = U at *
      have w1 := wrap_small (T.foot - T.top) (by omega) (by omega)
      have w2 := wrap_small (T.top - T.foot) (by omega) (by omega)
      have w3 := wrap_small (U.foot - U.top) (by omega) (by omega)
      have w4 := wrap_small (U.top - U.foot) (by omega) (by omega)
      have m1 : (if T.foot - T.top < T.top - T.foot then T.top - T.foot else T.foot - T.top) = max (T.foot - T.top) (T.top - T.foot) := by split <;> omega
      have m2 : (if U.foot - U.top < U.top - U.foot then U.top - U.foot else U.foot - U.top) = M := by split <;> omega
      generalize max (T.foot - T.top) (T.top - T.foot) = F at *
      by_cases h3 : M ≤ y.bound
      · have hF : F ≤ y.bound := by omega
        rw [if_pos h3] at hv
        by_cases h0 : y.plan.length = 0
        · have hp0 : y.plan = [] := List.eq_nil_of_length_eq_zero h0
          have hWL0 : WL = [] := List.eq_nil_of_length_eq_zero (by omega)
          rw [hWL0] at f2
          rw [hp0] at hv hvB f1 f2 hl hWv
          simp [kp10, rDsh_enc, rDsh_dec, rTap_enc, rTap_dec, rAsk_enc, rDip_k, rDip_decL, rInt_decL, rW_decL, tb, s20, s22, s26, s40, s41, hs, hy, hl, hv, hvB, hWv, f1, w1, w2, m1, hp0, hF, f2, w3, w4, m2, far1, (show ¬ y.bound < M by omega)]
        · have h0' : (0 : Int) < y.plan.length := by omega
          have h0n : 0 < y.plan.length := by omega
          have h0e : ¬ y.plan = [] := fun h => h0 (by rw [h]; rfl)
          simp [kp10, rDsh_enc, rDsh_dec, rTap_enc, rTap_dec, rAsk_enc, rDip_k, rDip_decL, rInt_decL, rW_decL, tb, s20, s22, s26, s40, s41, hs, hy, hl, hv, hvB, hWv, f1, w1, w2, m1, h0, h0', h0n, h0e, hF]
      · rw [if_neg h3] at hv
        have h3' : y.bound < M := by omega
        by_cases h0 : y.plan.length = 0
        · have hp0 : y.plan = [] := List.eq_nil_of_length_eq_zero h0
          have hWL0 : WL = [] := List.eq_nil_of_length_eq_zero (by omega)
          rw [hWL0] at f2 hv
          rw [hp0] at hv hvB f1 f2 hl hWv
          simp [kp10, rDsh_enc, rDsh_dec, rTap_enc, rTap_dec, rAsk_enc, rDip_k, rDip_decL, rInt_decL, rW_decL, tb, s20, s22, s26, s40, s41, hs, hy, hl, hv, hvB, hWv, f1, w1, w2, m1, hp0, h3', f2, w3, w4, m2, far1]
        · have hWn : ¬ WL = [] := fun h => h0 (by rw [← hWL, h]; rfl)
          have hWl : ¬ WL.length = 0 := by omega
          have hWi : ((WL.length : Int) == 0) = false := by rw [beq_eq_false_iff_ne]; omega
          simp [kp10, rDsh_enc, rDsh_dec, rTap_enc, rTap_dec, rAsk_enc, rDip_k, rDip_decL, rInt_decL, rW_decL, tb, s20, s22, s26, s40, s41, hs, hy, hl, hv, hvB, hWv, f1, w1, w2, m1, hWn, hWl, hWi, h3', f2, w3, w4, m2, far1]
    · have hv := worst_bad h1
      have h1' : ((worstR x t y.plan y.bound).2 != 0) = true := by simpa using h1
      generalize (worstR x t y.plan y.bound).2 = e at *
      simp [kp10, rDsh_enc, rDsh_dec, rTap_enc, rTap_dec, rAsk_enc, rDip_k, rDip_decL, rInt_decL, rW_decL, tb, s22, s26, s40, s41, hs, hv, h1, h1']
  · cases hr
end Go.Proofs.YtcgacojnfkklaaaGreatDoor
