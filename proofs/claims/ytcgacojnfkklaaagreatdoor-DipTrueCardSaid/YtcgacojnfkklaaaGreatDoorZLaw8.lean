/-
  The law DipTrue: at any warmth the taper is in the ranges. Conditions: none.
-/
import Derived.Test.YtcgacojnfkklaaaGreatDoorZLawB
namespace Go.Proofs.YtcgacojnfkklaaaGreatDoor
open Go.RowKit
set_option linter.unusedSimpArgs false
set_option linter.unusedVariables false
def kp8 (r : Nat) : List (Nat × Option Nat) := match r with
  | 0 => [(3, none), (4, none), (5, none)]
  | 1 => [(3, none), (4, none), (5, none), (7, none), (8, none)]
  | 2 => [(3, none), (4, none), (5, none), (7, none), (8, none), (38, none)]
  | 3 => [(6, none)]
  | 4 => [(3, none), (4, none), (5, none), (7, none), (9, none)]
  | 5 => [(3, none), (4, none), (5, none), (7, none), (9, none), (10, none)]
  | 6 => [(3, none), (4, none), (5, none), (7, none), (9, none), (10, none), (58, none)]
  | 7 => [(3, none), (4, none), (5, none), (7, none), (9, none), (10, none)]
  | 8 => [(3, none), (4, none), (5, none), (7, none), (9, none), (10, none), (11, none), (12, none)]
  | 9 => [(3, none), (4, none), (5, none), (7, none), (9, none), (10, none), (142, none)]
  | 10 => [(6, none)]
  | 11 => [(6, none)]
  | _ => []
def s8 : List D → Option D := sp3 (cAgg rDsh) (cAgg rTap) (cAgg rTrn) cBool fun x t y => if namesOk x ∧ wordOk y.warm then some true else none
set_option maxHeartbeats 4000000 in
theorem ok8 : ∀ ds d, s8 ds = some d → PureC Tryz.prog 8 ds d := ok_sp3 fun x t y r hr => by
  split at hr
  · rename_i hc
    cases hr
    obtain ⟨hs, hy⟩ := hc
    refine pure_of_call (mkCx_ok dtb 144 kp8 []) Tryz.func8 rfl rfl (Nat.le_of_ble_eq_true rfl) (by kernel_rfl) ?_
    rw [Tryz.results8]
    by_cases h1 : (afterE x t y.plan).2 = 0
    · have hv := after_val h1
      obtain ⟨ha, hlost⟩ := after_ok.1 h1
      obtain ⟨_, ht, hl⟩ := asked_ok ha
      have hl30 := hl.2.1
      have hw := warmed_in (y := y.warm) hl
      have hAl := afterL_len x t y.plan y.plan.length
      have hvB : validB x t y.plan = true := by unfold validB; simpa using ha
      have fact : ∀ j, j < y.plan.length → followR x t (y.plan.take (j + 1)) ((warmedV x y.plan y.warm).take (j + 1)) = (flS x t y.plan (warmedV x y.plan y.warm) (j + 1), 0) := fun j hj => by
        have hwl := hw.1
        have h2 := follow_after (after_take h1 (n := j + 1) (by omega)) (wIn_take hw (j + 1))
        rw [follow_val h2, List.length_take, Nat.min_eq_left (by omega), flS_take (j + 1) (Nat.le_refl _) (by omega) (by omega)]
      generalize hW : warmedV x y.plan y.warm = W at *
      have hAat : ∀ j (h : j < (afterL x t y.plan y.plan.length).length), (afterL x t y.plan y.plan.length)[j] = rngOf (stA x t y.plan (j + 1)) := fun j h => by
        have := afterL_at x t y.plan y.plan.length j (by omega)
        rw [getD_at _ _ _ h] at this; exact this
      generalize hA : afterL x t y.plan y.plan.length = A at *
      simp [kp8, rDsh_enc, rDsh_dec, rTap_enc, rTap_dec, rTrn_enc, rDip_k, rDip_decL, rRng_k, rRng_decL, rInt_decL, rW_decL, tb, s22, s23, s40, s41, hs, hy, hl, hv, hvB, hAl, hW]
      (generalize hLoopQ : Cx.loop _ _ _ = rLoopQ; apply loop_then hLoopQ (fun k => ⟨[(3, .loc 3 0), (4, .loc 4 0), (5, .loc 5 0), (7, .d (.sl 6 (A.map rRng.enc))), (9, .d (.sl 1 (W.map rInt.enc))), (10, .d (DI k))], [(3, [.d (DI x.melt), .d (DI x.coat), .d (DI x.thin), .d (DI x.hold), .d (DI x.back), .d (DI x.draw), .d (DI x.set), .d (DI x.run), .d (.sl 3 (x.baths.map rBth.enc))]), (4, [.d (DI t.wick), .d (DI t.top), .d (DI t.foot)]), (5, [.d (.sl 4 (y.plan.map rDip.enc)), .d (.sl 1 (y.warm.map (rK .u16).enc))])], [], []⟩) y.plan.length rfl; rotate_left; (show _ < 281474976710656; omega); rfl; rotate_left; all_goals clear hLoopQ)
      · intro j hj
        have w1 := wrap_small ((j : Int) + 1) (by omega) (by omega)
        have hjl : (j : Int) < y.plan.length := by omega
        have hj1 : (j : Int) + 1 ≤ y.plan.length := by omega
        have hf := fact j hj
        have hjA : j < A.length := by omega
        have hr := hAat j hjA
        have hin := fl_in (t := t) hl hw (j + 1) hj
        have hlo := hlost j hj
        have hlo' : ¬ (rngOf (stA x t y.plan (j + 1))).top.lo < t.wick ∧ ¬ (rngOf (stA x t y.plan (j + 1))).foot.lo < t.wick := by
          have e : (stA x t y.plan (j + 1)).2.1.wick = t.wick := hin.2.2.2.2.2
          unfold lostB at hlo
          rw [e] at hlo
          simpa [rngOf] using hlo
        have hbd := (flS_bd hl ht (warm_in.2 hw) (j + 1) hj).1
        have hj0 : (0 : Int) ≤ (j : Int) + 1 := by omega
        have hjW : (j : Int) + 1 ≤ W.length := by have := hw.1; omega
        rw [← hr] at hlo'
        have k1 : inR (flS x t y.plan W (j + 1)).top A[j].top.lo A[j].top.hi = true := inR_iff.2 (by rw [hr]; exact hin.1)
        have k2 : inR (flS x t y.plan W (j + 1)).foot A[j].foot.lo A[j].foot.hi = true := inR_iff.2 (by rw [hr]; exact hin.2.1)
        have k3 : inR ((flS x t y.plan W (j + 1)).foot - (flS x t y.plan W (j + 1)).top) A[j].skew.lo A[j].skew.hi = true := inR_iff.2 (by rw [hr]; exact hin.2.2.1)
        have k4 : (flS x t y.plan W (j + 1)).wick = t.wick := hin.2.2.2.1
        have w2 := wrap_small ((flS x t y.plan W (j + 1)).foot - (flS x t y.plan W (j + 1)).top) (by omega) (by omega)
        generalize flS x t y.plan W (j + 1) = T at *
        simp [kp8, rDsh_dec, rTap_dec, rTap_enc, rRng_enc, rSpn_dec, rDip_decT, rInt_decT, tb, s20, s42, hs, hj, hjl, hj1, hj0, hjW, hjA, hAl, w1, w2, hf, k1, k2, k3, k4, hlo'.1, hlo'.2]
      · simp [kp8, tb, s22, hAl]
    · have hv := after_bad h1
      have h1' : ((afterE x t y.plan).2 != 0) = true := by simpa using h1
      generalize (afterE x t y.plan).2 = e at *
      simp [kp8, rDsh_enc, rDsh_dec, rTap_enc, rTap_dec, rTrn_enc, rDip_k, rDip_decL, rRng_k, rRng_decL, rInt_decL, rW_decL, tb, s22, s23, s40, s41, hs, hv, h1, h1']
  · cases hr
end Go.Proofs.YtcgacojnfkklaaaGreatDoor
