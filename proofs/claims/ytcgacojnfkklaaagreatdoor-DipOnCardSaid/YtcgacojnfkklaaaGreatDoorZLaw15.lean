/-
  The law DipOn: after a plan and then another one the taper is as after both. Conditions: none.
-/
import Derived.Test.YtcgacojnfkklaaaGreatDoorZLawB
namespace Go.Proofs.YtcgacojnfkklaaaGreatDoor
open Go.RowKit
set_option linter.unusedSimpArgs false
set_option linter.unusedVariables false
def kp15 (r : Nat) : List (Nat × Option Nat) := match r with
  | 0 => [(3, none), (4, none), (5, none)]
  | 1 => [(3, none), (4, none), (5, none), (19, none)]
  | 2 => [(6, none)]
  | 3 => [(3, none), (4, none), (5, none), (7, none), (8, none)]
  | 4 => [(3, none), (4, none), (5, none), (7, none), (8, none), (30, none)]
  | 5 => [(3, none), (4, none), (5, none), (7, none), (8, none)]
  | 6 => [(3, none), (4, none), (5, none), (7, none), (8, none), (9, none), (10, none)]
  | 7 => [(3, none), (5, none), (7, none), (8, none), (9, none), (10, none), (11, none), (12, none)]
  | 8 => [(3, none), (5, none), (7, none), (8, none), (9, none), (10, none), (11, none), (12, none), (69, none)]
  | 9 => [(6, none)]
  | 10 => [(9, none), (10, none), (12, none), (13, none)]
  | 11 => [(6, none)]
  | _ => []
theorem getD_drop {α : Type} (l : List α) (c k : Nat) (d : α) : (l.drop c).getD k d = l.getD (c + k) d := by simp [List.getD_eq_getElem?_getD, List.getElem?_drop]
theorem flS_drop {x : Dsh} {t : Tap} {l : List Dip} {w : List Int} {c : Nat} : ∀ k, flS x (flS x t l w c) (l.drop c) (w.drop c) k = flS x t l w (c + k) := by
  intro k
  induction k with
  | zero => rfl
  | succ k ih => rw [flS, ih, getD_drop, getD_drop, Nat.add_succ, flS]
theorem wIn_drop {x : Dsh} {l : List Dip} {w : List Int} (h : wIn x l w) (n : Nat) : wIn x (l.drop n) (w.drop n) := by
  refine ⟨by rw [List.length_drop, List.length_drop, h.1], fun k hk => ?_⟩
  rw [List.length_drop] at hk
  rw [List.getElem_drop, getD_drop]
  exact h.2 (n + k) (by omega)
theorem follow_on {x : Dsh} {t : Tap} {l : List Dip} {w : List Int} {c : Nat} (ha : askedE x t l = 0) (hw : wIn x l w) (hc : c ≤ l.length) (h1 : (followR x t (l.take c) (w.take c)).2 = 0) (ht : tapE (flS x t l w c) = 0) : followR x (flS x t l w c) (l.drop c) (w.drop c) = followR x t l w := by
  obtain ⟨_, _, hl⟩ := asked_ok ha
  have hwl := hw.1
  have ha2 : askedE x (flS x t l w c) (l.drop c) = 0 := asked_of ht (okL_drop hl c)
  have hlen : (l.take c).length = c := by rw [List.length_take]; omega
  have pre : ∀ k, k < c → lostB (flS x t l w (k + 1)) = false := fun k hk => by
    have := (follow_ok.1 h1).2.2 k (by omega)
    rw [flS_take (k + 1) (by omega) hc (by omega)] at this
    exact this
  have post : (∀ k, k < (l.drop c).length → lostB (flS x (flS x t l w c) (l.drop c) (w.drop c) (k + 1)) = false) ↔ ∀ k, k < l.length → lostB (flS x t l w (k + 1)) = false := by
    rw [List.length_drop]
    constructor
    · intro h k hk
      by_cases hkc : k < c
      · exact pre k hkc
      · have := h (k - c) (by omega)
        rw [flS_drop, show c + (k - c + 1) = k + 1 by omega] at this
        exact this
    · intro h k hk
      rw [flS_drop, show c + (k + 1) = c + k + 1 by omega]
      exact h (c + k) (by omega)
  by_cases hall : (followR x t l w).2 = 0
  · have h2 : (followR x (flS x t l w c) (l.drop c) (w.drop c)).2 = 0 := follow_ok.2 ⟨ha2, wIn_drop hw c, post.2 (follow_ok.1 hall).2.2⟩
    rw [follow_val hall, follow_val h2, flS_drop, List.length_drop, show c + (l.length - c) = l.length by omega]
  · rw [follow_err ha hw hall, follow_err ha2 (wIn_drop hw c) fun h => hall (follow_ok.2 ⟨ha, hw, post.1 (follow_ok.1 h).2.2⟩)]
theorem follow_pre {x : Dsh} {t : Tap} {l : List Dip} {w : List Int} {c : Nat} (ha : askedE x t l = 0) (hw : wIn x l w) (hc : c ≤ l.length) : ((followR x t (l.take c) (w.take c)).2 = 0 ∧ followR x t (l.take c) (w.take c) = (flS x t l w c, 0)) ∨ ((followR x t (l.take c) (w.take c)) = (⟨0, 0, 0⟩, 9) ∧ (followR x t l w).2 = 9) := by
  obtain ⟨_, ht, hl⟩ := asked_ok ha
  have hwl := hw.1
  have hlen : (l.take c).length = c := by rw [List.length_take]; omega
  have ha2 : askedE x t (l.take c) = 0 := asked_of ht (okL_take hl c)
  by_cases h1 : (followR x t (l.take c) (w.take c)).2 = 0
  · refine .inl ⟨h1, ?_⟩
    rw [follow_val h1, hlen, flS_take c (Nat.le_refl _) hc (by omega)]
  · refine .inr ⟨follow_err ha2 (wIn_take hw c) h1, ?_⟩
    rw [follow_err ha hw fun h => h1 (follow_ok.2 ⟨ha2, wIn_take hw c, fun k hk => ?_⟩)]
    rw [hlen] at hk
    rw [flS_take (k + 1) (by omega) hc (by omega)]
    exact (follow_ok.1 h).2.2 k (by omega)
theorem rDip_decTD (l : List Dip) (n : Nat) : (cList rDip).dec (.sl 4 (((l.map rDip.enc).drop n).take (l.length - n))) = some (l.drop n) := by rw [List.take_of_length_le (by simp)]; exact rDip_decD l n
theorem rInt_decTD (l : List Int) (n : Nat) : (cList rInt).dec (.sl 1 (((l.map rInt.enc).drop n).take (l.length - n))) = some (l.drop n) := by rw [List.take_of_length_le (by simp)]; exact rInt_decD l n
theorem word_nil : wordOk [] := fun x hx => by cases hx
theorem rDip_nil : (cList rDip).dec (.sl 4 []) = some [] := rfl
theorem rInt_nil : (cList rInt).dec (.sl 1 []) = some [] := rfl
def t15l : List (Nat × (List D → Option D)) := (47, s47) :: tb
theorem dt15l : DelOk Tryz.prog (delOf t15l) := del_cons dtb call47 ok47
def s15 : List D → Option D := sp3 (cAgg rDsh) (cAgg rTap) (cAgg rTrn) cBool fun x t y => if namesOk x ∧ wordOk y.warm then some true else none
set_option maxHeartbeats 4000000 in
theorem ok15 : ∀ ds d, s15 ds = some d → PureC Tryz.prog 15 ds d := ok_sp3 fun x t y r hr => by
  split at hr
  · rename_i hc
    cases hr
    obtain ⟨hs, hy⟩ := hc
    refine pure_of_call (mkCx_ok dt15l 104 kp15 []) Tryz.func15 rfl rfl (Nat.le_of_ble_eq_true rfl) (by kernel_rfl) ?_
    rw [Tryz.results15]
    by_cases ha : askedE x t y.plan = 0
    · obtain ⟨_, ht, hl⟩ := asked_ok ha
      have hl30 := hl.2.1
      have hw := warmed_in (y := y.warm) hl
      have hvB : validB x t y.plan = true := by unfold validB; simpa using ha
      generalize hWv : warmedV x y.plan y.warm = W at *
      have hwl := hw.1
      obtain ⟨T, e, hT⟩ : ∃ T e, followR x t y.plan W = (T, e) := ⟨_, _, rfl⟩
      by_cases h0 : y.warm.length = 0
      · have hy0 : y.warm = [] := List.eq_nil_of_length_eq_zero h0
        rw [hy0] at hWv
        have hon := follow_on (c := 0) ha hw (Nat.zero_le _)
        have hpre := follow_pre (c := 0) ha hw (Nat.zero_le _)
        rw [hT] at hpre hon
        simp only [List.take_zero, List.drop_zero] at hon hpre
        generalize flS x t y.plan W 0 = A at *
        rcases hpre with ⟨h1, f1⟩ | ⟨f1, h9⟩
        · by_cases htA : tapE A = 0
          · have f2 := hon h1 htA
            simp [kp15, rDsh_enc, rDsh_dec, rTap_enc, rTap_dec, rTrn_enc, rDip_k, rDip_decL, rDip_decT, rDip_decD, rInt_decL, rInt_decT, rInt_decD, rInt_k, rDip_decTD, rInt_decTD, word_nil, rDip_nil, rInt_nil, rW_decL, t15l, tb, s20, s22, s40, s41, s47, hs, hy, hl, hvB, hWv, hT, f1, hy0, htA, f2]
          · have htA' : (tapE A != 0) = true := by simpa using htA
            simp [kp15, rDsh_enc, rDsh_dec, rTap_enc, rTap_dec, rTrn_enc, rDip_k, rDip_decL, rDip_decT, rDip_decD, rInt_decL, rInt_decT, rInt_decD, rInt_k, rDip_decTD, rInt_decTD, word_nil, rDip_nil, rInt_nil, rW_decL, t15l, tb, s20, s22, s40, s41, s47, hs, hy, hl, hvB, hWv, hT, f1, hy0, htA, htA']
        · have h9 : e = 9 := h9
          subst h9
          simp [kp15, rDsh_enc, rDsh_dec, rTap_enc, rTap_dec, rTrn_enc, rDip_k, rDip_decL, rDip_decT, rDip_decD, rInt_decL, rInt_decT, rInt_decD, rInt_k, rDip_decTD, rInt_decTD, word_nil, rDip_nil, rInt_nil, rW_decL, t15l, tb, s20, s22, s40, s41, s47, hs, hy, hl, hvB, hWv, hT, f1, hy0]
      · have hpos : (0 : Int) < y.warm.length := by omega
        have hposN : 0 < y.warm.length := by omega
        have hb := hy _ (List.getElem_mem hposN)
        obtain ⟨Q, hQ⟩ : ∃ Q : Nat, y.warm[0] = Q := ⟨y.warm[0].toNat, by omega⟩
        have e5 : y.warm[0].tmod ((y.plan.length : Int) + 1) = ((Q % (y.plan.length + 1) : Nat) : Int) := by
          rw [hQ, Int.tmod_eq_emod_of_nonneg (by omega)]; push_cast; rfl
        have hlt := Nat.mod_lt Q (show 0 < y.plan.length + 1 by omega)
        generalize Q % (y.plan.length + 1) = c at *
        have w1 := wrap_small ((y.plan.length : Int) + 1) (by omega) (by omega)
        have w2 := wrap_small y.warm[0] (by omega) (by omega)
        have w3 := wrap_small (c : Int) (by omega) (by omega)
        have hne : ¬ (y.plan.length : Int) + 1 = 0 := by omega
        have hc0 : (0 : Int) ≤ c := by omega
        have hcl : (c : Int) ≤ y.plan.length := by omega
        have hcl' : c ≤ y.plan.length := by omega
        have hcW : (c : Int) ≤ W.length := by omega
        have hcW' : c ≤ W.length := by omega
        have hon := follow_on (c := c) ha hw (by omega)
        have hpre := follow_pre (c := c) ha hw (by omega)
        rw [hT] at hpre hon
        generalize flS x t y.plan W c = A at *
        rcases hpre with ⟨h1, f1⟩ | ⟨f1, h9⟩
        · by_cases htA : tapE A = 0
          · have f2 := hon h1 htA
            simp [kp15, rDsh_enc, rDsh_dec, rTap_enc, rTap_dec, rTrn_enc, rDip_k, rDip_decL, rDip_decT, rDip_decD, rInt_decL, rInt_decT, rInt_decD, rInt_k, rDip_decTD, rInt_decTD, word_nil, rDip_nil, rInt_nil, rW_decL, t15l, tb, s20, s22, s40, s41, s47, hs, hy, hl, hvB, hWv, hT, f1, hpos, hposN, e5, w1, w2, w3, hne, hcl, hcl', hcW, hcW', htA, f2]
          · have htA' : (tapE A != 0) = true := by simpa using htA
            simp [kp15, rDsh_enc, rDsh_dec, rTap_enc, rTap_dec, rTrn_enc, rDip_k, rDip_decL, rDip_decT, rDip_decD, rInt_decL, rInt_decT, rInt_decD, rInt_k, rDip_decTD, rInt_decTD, word_nil, rDip_nil, rInt_nil, rW_decL, t15l, tb, s20, s22, s40, s41, s47, hs, hy, hl, hvB, hWv, hT, f1, hpos, hposN, e5, w1, w2, w3, hne, hcl, hcl', hcW, hcW', htA, htA']
        · have h9 : e = 9 := h9
          subst h9
          simp [kp15, rDsh_enc, rDsh_dec, rTap_enc, rTap_dec, rTrn_enc, rDip_k, rDip_decL, rDip_decT, rDip_decD, rInt_decL, rInt_decT, rInt_decD, rInt_k, rDip_decTD, rInt_decTD, word_nil, rDip_nil, rInt_nil, rW_decL, t15l, tb, s20, s22, s40, s41, s47, hs, hy, hl, hvB, hWv, hT, f1, hpos, hposN, e5, w1, w2, w3, hne, hcl, hcl', hcW, hcW']
    · have hvB : validB x t y.plan = false := by unfold validB; simpa using ha
      simp [kp15, rDsh_enc, rDsh_dec, rTap_enc, rTap_dec, rTrn_enc, rDip_k, rDip_decL, t15l, tb, s22, s40, hs, hvB]
  · cases hr
end Go.Proofs.YtcgacojnfkklaaaGreatDoor
