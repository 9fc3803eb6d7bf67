/-
  The law DipReached: each end of each range is reached. Conditions: none.
-/
import Derived.Test.YtcgacojnfkklaaaGreatDoorZLawB
namespace Go.Proofs.YtcgacojnfkklaaaGreatDoor
open Go.RowKit
set_option linter.unusedSimpArgs false
set_option linter.unusedVariables false
def kp9 (r : Nat) : List (Nat × Option Nat) := match r with
  | 0 => [(2, none), (3, none), (4, none)]
  | 1 => [(2, none), (3, none), (4, none), (7, none), (8, none)]
  | 2 => [(2, none), (3, none), (4, none), (7, none), (8, none), (32, none)]
  | 3 => [(6, none)]
  | 4 => [(2, none), (3, none), (4, none), (7, none), (8, none), (44, none)]
  | 5 => [(7, none), (10, none)]
  | 6 => [(6, none)]
  | 7 => [(2, none), (3, none), (4, none), (7, none), (73, none)]
  | 8 => [(6, none)]
  | 9 => [(2, none), (3, none), (4, none), (7, none), (11, none)]
  | 10 => [(2, none), (3, none), (4, none), (7, none), (11, none), (77, none)]
  | 11 => [(2, none), (3, none), (4, none), (7, none), (11, none)]
  | 12 => [(2, none), (3, none), (4, none), (7, none), (11, none), (12, none)]
  | 13 => [(2, none), (3, none), (4, none), (7, none), (11, none), (12, none), (13, none), (14, none)]
  | 14 => [(2, none), (3, none), (4, none), (7, none), (11, none), (12, none), (13, none), (14, none), (15, none), (16, none)]
  | 15 => [(2, none), (3, none), (4, none), (7, none), (11, none), (12, none), (13, none), (14, none), (15, none), (16, none), (17, none), (18, none)]
  | 16 => [(2, none), (3, none), (4, none), (7, none), (11, none), (13, none), (14, none), (15, none), (16, none), (17, none), (18, none), (19, none), (20, none)]
  | 17 => [(2, none), (3, none), (4, none), (7, none), (11, none), (182, none)]
  | 18 => [(6, none)]
  | 19 => [(6, none)]
  | _ => []
theorem same_in {x : Dsh} {l : List Dip} (hl : okL x l) (b : Bool) : wIn x l (sameV x l b) := map_in hl _ fun d _ => by cases b <;> simp
theorem skewed_in {x : Dsh} {l : List Dip} (hl : okL x l) (b : Bool) : wIn x l (skewedV x l b) := map_in hl _ fun d _ => by cases d.turned <;> cases b <;> simp
theorem same_hot {x : Dsh} {t : Tap} {l : List Dip} (k : Nat) (hk : k ≤ l.length) : flS x t l (sameV x l true) k = (stA x t l k).2.1 := fl_hot k hk
theorem same_cold {x : Dsh} {t : Tap} {l : List Dip} (k : Nat) (hk : k ≤ l.length) : flS x t l (sameV x l false) k = (stA x t l k).1 := fl_cold k hk
theorem skewed_least {x : Dsh} {t : Tap} {l : List Dip} (hl : okL x l) (k : Nat) (hk : k ≤ l.length) : (flS x t l (skewedV x l false) k).foot - (flS x t l (skewedV x l false) k).top = (stA x t l k).2.2.lo :=
  fl_least _ (fun d hd => (skew_ends ⟨hl.1, hl.2.2 d hd⟩).1.symm) k hk
theorem skewed_most {x : Dsh} {t : Tap} {l : List Dip} (hl : okL x l) (k : Nat) (hk : k ≤ l.length) : (flS x t l (skewedV x l true) k).foot - (flS x t l (skewedV x l true) k).top = (stA x t l k).2.2.hi :=
  fl_most _ (fun d hd => (skew_ends ⟨hl.1, hl.2.2 d hd⟩).2.symm) k hk
theorem lost_hot {x : Dsh} {t : Tap} {l : List Dip} (h1 : askedE x t l = 0) (h2 : ¬ (afterE x t l).2 = 0) : followR x t l (sameV x l true) = (⟨0, 0, 0⟩, 9) := by
  obtain ⟨_, ht, hl⟩ := asked_ok h1
  refine follow_err h1 (same_in hl true) fun h => h2 (after_ok.2 ⟨h1, fun k hk => ?_⟩)
  have := (follow_ok.1 h).2.2 k hk
  rw [same_hot (k + 1) (by omega)] at this
  exact this
def s9 : List D → Option D := sp3 (cAgg rDsh) (cAgg rTap) (cList rDip) cBool fun x t l => if namesOk x then some true else none
set_option maxHeartbeats 4000000 in
theorem ok9 : ∀ ds d, s9 ds = some d → PureC Tryz.prog 9 ds d := ok_sp3 fun x t l r hr => by
  split at hr
  · rename_i hs
    cases hr
    refine pure_of_call (mkCx_ok dtb 184 kp9 []) Tryz.func9 rfl rfl (Nat.le_of_ble_eq_true rfl) (by kernel_rfl) ?_
    rw [Tryz.results9]
    by_cases ha : askedE x t l = 0
    · obtain ⟨_, ht, hl⟩ := asked_ok ha
      have hl30 := hl.2.1
      have hvB : validB x t l = true := by unfold validB; simpa using ha
      by_cases h1 : (afterE x t l).2 = 0
      · have hv := after_val h1
        obtain ⟨_, hlost⟩ := after_ok.1 h1
        have hAl := afterL_len x t l l.length
        have hAat : ∀ j (h : j < (afterL x t l l.length).length), (afterL x t l l.length)[j] = rngOf (stA x t l (j + 1)) := fun j h => by
          have := afterL_at x t l l.length j (by omega)
          rw [getD_at _ _ _ h] at this; exact this
        have fact : ∀ j, j < l.length → ∃ h c lo hi : Tap, followR x t (l.take (j + 1)) (sameV x (l.take (j + 1)) true) = (h, 0) ∧ followR x t (l.take (j + 1)) (sameV x (l.take (j + 1)) false) = (c, 0) ∧ followR x t (l.take (j + 1)) (skewedV x (l.take (j + 1)) false) = (lo, 0) ∧ followR x t (l.take (j + 1)) (skewedV x (l.take (j + 1)) true) = (hi, 0) ∧ rngOf (stA x t l (j + 1)) = ⟨⟨h.top, c.top⟩, ⟨h.foot, c.foot⟩, ⟨lo.foot - lo.top, hi.foot - hi.top⟩⟩ ∧ (-2000000000 ≤ lo.foot - lo.top ∧ lo.foot - lo.top ≤ 2000000000) ∧ -2000000000 ≤ hi.foot - hi.top ∧ hi.foot - hi.top ≤ 2000000000 := fun j hj => by
          have hlen : (l.take (j + 1)).length = j + 1 := by rw [List.length_take]; omega
          have hA := after_take h1 (n := j + 1) (by omega)
          have hlt := okL_take hl (j + 1)
          have e1 := follow_val (follow_after hA (same_in hlt true))
          have e2 := follow_val (follow_after hA (same_in hlt false))
          have e3 := follow_val (follow_after hA (skewed_in hlt false))
          have e4 := follow_val (follow_after hA (skewed_in hlt true))
          have st := stA_take (x := x) (t := t) (l := l) (n := j + 1) (j + 1) (Nat.le_refl _) (by omega)
          have q1 := same_hot (x := x) (t := t) (l := l.take (j + 1)) (j + 1) (by omega)
          have q2 := same_cold (x := x) (t := t) (l := l.take (j + 1)) (j + 1) (by omega)
          have q3 := skewed_least (t := t) hlt (j + 1) (by omega)
          have q4 := skewed_most (t := t) hlt (j + 1) (by omega)
          have sb := (stA_bd hl ht (j + 1) (by omega)).2.2.1
          rw [hlen] at e1 e2 e3 e4
          rw [st] at q1 q2 q3 q4
          refine ⟨_, _, _, _, e1, e2, e3, e4, ?_, ?_, ?_⟩
          · rw [q1, q2, q3, q4]; rfl
          · rw [q3]; push_cast at sb; omega
          · rw [q4]; push_cast at sb; omega
        generalize hA : afterL x t l l.length = A at *
        simp [kp9, rDsh_enc, rDsh_dec, rTap_enc, rTap_dec, rDip_k, rDip_decL, rRng_k, rRng_decL, rInt_decL, tb, s22, s23, s40, hs, hl, hv, hvB, hAl]
        (generalize hLoopQ : Cx.loop _ _ _ = rLoopQ; apply loop_then hLoopQ (fun k => ⟨[(2, .d (.sl 4 (l.map rDip.enc))), (3, .loc 3 0), (4, .loc 4 0), (7, .d (.sl 6 (A.map rRng.enc))), (11, .d (DI k))], [(3, [.d (DI x.melt), .d (DI x.coat), .d (DI x.thin), .d (DI x.hold), .d (DI x.back), .d (DI x.draw), .d (DI x.set), .d (DI x.run), .d (.sl 3 (x.baths.map rBth.enc))]), (4, [.d (DI t.wick), .d (DI t.top), .d (DI t.foot)])], [], []⟩) l.length rfl; rotate_left; (show _ < 281474976710656; omega); rfl; rotate_left; all_goals clear hLoopQ)
        · intro j hj
          have w1 := wrap_small ((j : Int) + 1) (by omega) (by omega)
          have hjl : (j : Int) < l.length := by omega
          have hj1 : (j : Int) + 1 ≤ l.length := by omega
          have hj0 : (0 : Int) ≤ (j : Int) + 1 := by omega
          have hjA : j < A.length := by omega
          obtain ⟨h, c, lo, hi, f1, f2, f3, f4, hR, bl, bh⟩ := fact j hj
          rw [← hAat j hjA] at hR
          have w2 := wrap_small (lo.foot - lo.top) (by omega) (by omega)
          have w3 := wrap_small (hi.foot - hi.top) (by omega) (by omega)
          have hlt := okL_take hl (j + 1)
          simp [kp9, rDsh_dec, rTap_dec, rTap_enc, rRng_enc, rSpn_enc, rSpn_dec, rDip_decT, rInt_decL, rInt_k, tb, s20, s39, s43, s44, hs, hlt, hj, hjl, hj1, hj0, hjA, hAl, w1, w2, w3, f1, f2, f3, f4, hR]
        · simp [kp9, tb, s22, hAl]
      · have hv := after_bad h1
        have he := after_err ha h1
        have hlh := lost_hot ha h1
        rw [he] at hv
        simp [kp9, rDsh_enc, rDsh_dec, rTap_enc, rTap_dec, rDip_k, rDip_decL, rRng_k, rRng_decL, rInt_decL, tb, s20, s22, s23, s40, s43, hs, hl, hv, hvB, hlh]
    · have hvB : validB x t l = false := by unfold validB; simpa using ha
      have h1 : ¬ (afterE x t l).2 = 0 := fun h => ha (after_ok.1 h).1
      have hv := after_bad h1
      have h1' : ((afterE x t l).2 != 0) = true := by simpa using h1
      generalize (afterE x t l).2 = e at *
      simp [kp9, rDsh_enc, rDsh_dec, rTap_enc, rTap_dec, rDip_k, rDip_decL, rRng_k, rRng_decL, rInt_decL, tb, s22, s23, s40, hs, hv, hvB, h1, h1']
  · cases hr
end Go.Proofs.YtcgacojnfkklaaaGreatDoor
