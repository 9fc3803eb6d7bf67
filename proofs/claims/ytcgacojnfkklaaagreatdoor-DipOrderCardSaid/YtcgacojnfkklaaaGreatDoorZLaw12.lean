/-
  The law DipOrder: with dips in another order the ranges at the end are the same. Conditions: none.
-/
import Derived.Test.YtcgacojnfkklaaaGreatDoorZLawB
namespace Go.Proofs.YtcgacojnfkklaaaGreatDoor
open Go.RowKit
set_option linter.unusedSimpArgs false
set_option linter.unusedVariables false
def kp12 (r : Nat) : List (Nat × Option Nat) := match r with
  | 0 => [(3, none), (4, none), (5, none)]
  | 1 => [(3, none), (4, none), (5, none), (26, none)]
  | 2 => [(6, none)]
  | 3 => [(3, none), (4, none), (5, none), (7, some 4)]
  | 4 => [(3, none), (4, none), (5, none), (7, some 4), (8, none)]
  | 5 => [(3, none), (4, none), (5, none), (7, some 4), (8, none), (32, none)]
  | 6 => [(3, none), (4, none), (5, none), (7, some 4), (8, none)]
  | 7 => [(3, none), (4, none), (5, none), (7, some 4), (8, none), (9, none)]
  | 8 => [(3, none), (4, none), (5, none), (7, some 4), (8, none), (9, none), (38, none)]
  | 9 => [(3, none), (4, none), (5, none), (7, some 4), (8, none), (9, none)]
  | 10 => [(3, none), (4, none), (5, none), (7, some 4), (8, none)]
  | 11 => [(3, none), (4, none), (5, none), (7, some 4), (10, none), (11, none)]
  | 12 => [(5, none), (10, none), (11, none), (12, none), (13, none)]
  | 13 => [(5, none), (10, none), (11, none), (12, none), (13, none), (89, none)]
  | 14 => [(6, none)]
  | 15 => [(10, none), (12, none), (14, none)]
  | 16 => [(6, none)]
  | _ => []
def placeV (y : List Int) (k : Nat) : Nat := (turnW y k).toNat % (k + 1)
def ordK (y : List Int) (l : List Dip) : Nat → List Dip
  | 0 => []
  | k + 1 => (ordK y l k).take (placeV y k) ++ l.getD k default :: (ordK y l k).drop (placeV y k)
theorem ord_len (y : List Int) (l : List Dip) : ∀ k, (ordK y l k).length = k
  | 0 => rfl
  | k + 1 => by
    have := ord_len y l k
    simp only [ordK, List.length_append, List.length_cons, List.length_take, List.length_drop]
    omega
theorem ord_perm (y : List Int) (l : List Dip) : ∀ k, k ≤ l.length → (ordK y l k).Perm (l.take k)
  | 0, _ => by simp [ordK]
  | k + 1, hk => by
    have ih := ord_perm y l k (by omega)
    rw [List.take_succ_eq_append_getElem (by omega), ordK, getD_at _ _ _ (by omega)]
    refine List.perm_middle.trans ?_
    rw [List.take_append_drop]
    exact (List.Perm.cons _ ih).trans (List.perm_append_singleton _ _).symm
theorem st_fold (x : Dsh) (t : Tap) (l : List Dip) : ∀ k, k ≤ l.length → rngOf (stA x t l k) = (l.take k).foldl (nextR x) (beginV t)
  | 0, _ => rfl
  | k + 1, hk => by
    rw [stA_succ (by omega), ← next_eq, st_fold x t l k (by omega), List.take_succ_eq_append_getElem (by omega), List.foldl_append]; rfl
theorem next_comm (x : Dsh) (r : Rng) (d e : Dip) : nextR x (nextR x r d) e = nextR x (nextR x r e) d := by
  simp only [nextR, Rng.mk.injEq, Spn.mk.injEq]
  omega
theorem st_perm (x : Dsh) (t : Tap) {l m : List Dip} (h : l.Perm m) : rngOf (stA x t l l.length) = rngOf (stA x t m m.length) := by
  rw [st_fold x t l l.length (Nat.le_refl _), st_fold x t m m.length (Nat.le_refl _), List.take_of_length_le (Nat.le_refl _), List.take_of_length_le (Nat.le_refl _)]
  exact h.foldl_eq' (fun a _ b _ z => next_comm x z _ _) _
theorem okL_perm {x : Dsh} {l m : List Dip} (h : l.Perm m) (hl : okL x m) : okL x l := ⟨hl.1, by rw [h.length_eq]; exact hl.2.1, fun d hd => hl.2.2 d (h.mem_iff.1 hd)⟩
def s12 : List D → Option D := sp3 (cAgg rDsh) (cAgg rTap) (cAgg rTrn) cBool fun x t y => if namesOk x ∧ wordOk y.warm then some true else none
set_option maxHeartbeats 4000000 in
theorem ok12 : ∀ ds d, s12 ds = some d → PureC Tryz.prog 12 ds d := ok_sp3 fun x t y r hr => by
  split at hr
  · rename_i hc
    cases hr
    obtain ⟨hs, hy⟩ := hc
    refine pure_of_call (mkCx_ok dtb 136 kp12 []) Tryz.func12 rfl rfl (Nat.le_of_ble_eq_true rfl) (by kernel_rfl) ?_
    rw [Tryz.results12]
    by_cases ha : askedE x t y.plan = 0
    · obtain ⟨_, ht, hl⟩ := asked_ok ha
      have hl30 := hl.2.1
      have hvB : validB x t y.plan = true := by unfold validB; simpa using ha
      by_cases h0 : y.plan.length = 0
      · have hp0 : y.plan = [] := List.eq_nil_of_length_eq_zero h0
        rw [hp0] at hvB
        simp [kp12, rDsh_enc, rDsh_dec, rTap_enc, rTap_dec, rTrn_enc, rDip_k, tb, s22, s40, hvB, hp0]
      · have h0' : ((y.plan.length : Int) == 0) = false := by rw [beq_eq_false_iff_ne]; omega
        have h0n : ¬ y.plan = [] := fun h => h0 (by rw [h]; rfl)
        have hperm := ord_perm y.warm y.plan y.plan.length (Nat.le_refl _)
        rw [List.take_of_length_le (Nat.le_refl _)] at hperm
        have hol := ord_len y.warm y.plan y.plan.length
        have hOk := okL_perm hperm hl
        have ha2 := asked_of ht hOk
        simp [kp12, rDsh_enc, rDsh_dec, rTap_enc, rTap_dec, rTrn_enc, rDip_k, rDip_decL, tb, s22, s40, hvB, h0, h0', h0n]
        (generalize hLoopQ : Cx.loop _ _ _ = rLoopQ; apply loop_then hLoopQ (fun k => ⟨[(3, .loc 3 0), (4, .loc 4 0), (5, .loc 5 0), (7, .sl 4 ((ordK y.warm y.plan k).map rDip.enc) (.tok 7)), (8, .d (DI k))], [(3, [.d (DI x.melt), .d (DI x.coat), .d (DI x.thin), .d (DI x.hold), .d (DI x.back), .d (DI x.draw), .d (DI x.set), .d (DI x.run), .d (.sl 3 (x.baths.map rBth.enc))]), (4, [.d (DI t.wick), .d (DI t.top), .d (DI t.foot)]), (5, [.d (.sl 4 (y.plan.map rDip.enc)), .d (.sl 1 (y.warm.map (rK .u16).enc))])], [7], []⟩) y.plan.length rfl; rotate_left; (show _ < 281474976710656; omega); rfl; rotate_left; all_goals clear hLoopQ)
        · intro j hj
          have w1 := wrap_small ((j : Int) + 1) (by omega) (by omega)
          have hjl : (j : Int) < y.plan.length := by omega
          have hlen := ord_len y.warm y.plan j
          have hord : ordK y.warm y.plan (j + 1) = (ordK y.warm y.plan j).take (placeV y.warm j) ++ y.plan[j] :: (ordK y.warm y.plan j).drop (placeV y.warm j) := by rw [ordK, getD_at _ _ _ hj]
          have hpl := Nat.mod_lt (turnW y.warm j).toNat (show 0 < j + 1 by omega)
          have tb' := turn_bd hy j
          rw [hord]
          generalize ordK y.warm y.plan j = OL at *
          have c1 : 1 + j ≤ 140737488355328 := by omega
          have c2 : (1 + j) * 32 ≤ 140737488355328 := by omega
          have tk : List.take j (List.map rDip.enc OL) = List.map rDip.enc OL := List.take_of_length_le (by simp; omega)
          have hne1 : ¬ (j : Int) + 1 = 0 := by omega
          unfold placeV
          by_cases hy0 : y.warm.length = 0
          · have hyn : y.warm = [] := List.eq_nil_of_length_eq_zero hy0
            have hT0 : turnW y.warm j = 0 := by unfold turnW; rw [if_pos hy0]
            rw [hT0]
            simp [kp12, rDip_enc, hyn, hj, hjl, w1, hlen, c1, c2, tk]
          · have hpos : (0 : Int) < y.warm.length := by omega
            have hposN : 0 < y.warm.length := by omega
            have hi := Nat.mod_lt j hposN
            have hT' : turnW y.warm j = y.warm[j % y.warm.length] := by unfold turnW; rw [if_neg hy0, getD_at _ _ _ hi]
            have e5 : (j : Int).tmod y.warm.length = ((j % y.warm.length : Nat) : Int) := by
              rw [Int.tmod_eq_emod_of_nonneg (by omega)]; push_cast; rfl
            have hne' : ¬ (y.warm.length : Int) = 0 := by omega
            have hne'' : ¬ y.warm = [] := fun h => by rw [h] at hy0; exact hy0 rfl
            have hle := Nat.mod_le j y.warm.length
            rw [hT'] at hpl tb' ⊢
            generalize j % y.warm.length = Q at *
            have w2 := wrap_small (Q : Int) (by omega) (by omega)
            have w3 := wrap_small y.warm[Q] (by omega) (by omega)
            have w4 := wrap_small ((OL.length : Int) + 1) (by omega) (by omega)
            have e6 : y.warm[Q].tmod ((j : Int) + 1) = ((y.warm[Q].toNat % (j + 1) : Nat) : Int) := by
              rw [Int.tmod_eq_emod_of_nonneg (by omega)]; push_cast; rw [Int.toNat_of_nonneg (by omega)]
            generalize y.warm[Q].toNat % (j + 1) = P at *
            have w5 := wrap_small (P : Int) (by omega) (by omega)
            have hPj : (P : Int) ≤ j := by omega
            have hPj' : P ≤ j := by omega
            have mn : min P j = P := by omega
            have q1 : P ≤ 140737488355328 := by omega
            have tkd : List.take (j - P) (List.drop P (List.map rDip.enc OL)) = List.drop P (List.map rDip.enc OL) := List.take_of_length_le (by simp; omega)
            have q5 : P + 1 + (j - P) ≤ 140737488355328 := by omega
            have q6 : (P + 1 + (j - P)) * 32 ≤ 140737488355328 := by omega
            have q7 : P + (j - P + 1) ≤ 140737488355328 := by omega
            have q8 : (P + (j - P + 1)) * 32 ≤ 140737488355328 := by omega
            have q2 : P * 32 ≤ 140737488355328 := by omega
            have q3 : P + 1 ≤ 140737488355328 := by omega
            have q4 : (P + 1) * 32 ≤ 140737488355328 := by omega
            simp [kp12, rDip_enc, hj, hjl, w1, hlen, c1, c2, tk, hne1, hPj, hPj', mn, q1, q2, q3, q4, q5, q6, q7, q8, tkd, hpos, hposN, hne', hne'', e5, w2, w3, w4, w5, e6, hi]
        · generalize ordK y.warm y.plan y.plan.length = O at *
          obtain ⟨A, e, hA⟩ : ∃ A e, afterE x t y.plan = (A, e) := ⟨_, _, rfl⟩
          obtain ⟨B, f, hB⟩ : ∃ B f, afterE x t O = (B, f) := ⟨_, _, rfl⟩
          have he : e = 0 ∨ e = 9 := by
            by_cases h : (afterE x t y.plan).2 = 0
            · rw [hA] at h; exact .inl h
            · have := after_err ha h; rw [hA] at this; exact .inr this
          have hf : f = 0 ∨ f = 9 := by
            by_cases h : (afterE x t O).2 = 0
            · rw [hB] at h; exact .inl h
            · have := after_err ha2 h; rw [hB] at this; exact .inr this

          rcases he with rfl | rfl
          · rcases hf with rfl | rfl
            · have vA := after_val (x := x) (t := t) (l := y.plan) (by rw [hA])
              have vB := after_val (x := x) (t := t) (l := O) (by rw [hB])
              rw [hA] at vA
              rw [hB] at vB
              have eA : A = afterL x t y.plan y.plan.length := congrArg Prod.fst vA
              have eB : B = afterL x t O O.length := congrArg Prod.fst vB
              have lA : A.length = y.plan.length := by rw [eA, afterL_len]
              have lB : B.length = y.plan.length := by rw [eB, afterL_len, hol]
              obtain ⟨N, hN⟩ : ∃ N, y.plan.length = N + 1 := ⟨y.plan.length - 1, by omega⟩
              have aA : ∀ h : N < A.length, A[N] = rngOf (stA x t y.plan y.plan.length) := fun h => by
                have := afterL_at x t y.plan y.plan.length N (by omega)
                rw [← eA, getD_at _ _ _ h] at this
                rw [this, hN]
              have aB : ∀ h : N < B.length, B[N] = rngOf (stA x t y.plan y.plan.length) := fun h => by
                have := afterL_at x t O O.length N (by omega)
                rw [← eB, getD_at _ _ _ h] at this
                rw [this, ← st_perm x t hperm, hol, hN]
              have w1 := wrap_small ((y.plan.length : Int) - 1) (by omega) (by omega)
              have w2 : ((y.plan.length : Int) - 1) = (N : Int) := by omega
              have w3 := wrap_small (N : Int) (by omega) (by omega)
              have hNA : N < A.length := by omega
              have hNB : N < B.length := by omega
              have hNl : N < y.plan.length := by omega
              have gA := aA hNA
              have gB := aB hNB
              simp [kp12, rDsh_dec, rTap_dec, rDip_decL, rRng_k, rRng_enc, tb, s22, s23, hs, hA, hB, lA, lB, w1, w2, w3, hNl, hNA, hNB, gA, gB]
            · simp [kp12, rDsh_dec, rTap_dec, rDip_decL, rRng_k, rRng_enc, tb, s22, s23, hs, hA, hB]
          · rcases hf with rfl | rfl
            · simp [kp12, rDsh_dec, rTap_dec, rDip_decL, rRng_k, rRng_enc, tb, s22, s23, hs, hA, hB]
            · simp [kp12, rDsh_dec, rTap_dec, rDip_decL, rRng_k, rRng_enc, tb, s22, s23, hs, hA, hB]
    · have hvB : validB x t y.plan = false := by unfold validB; simpa using ha
      simp [kp12, rDsh_enc, rDsh_dec, rTap_enc, rTap_dec, rTrn_enc, rDip_k, rDip_decL, tb, s22, s40, hvB]
  · cases hr
end Go.Proofs.YtcgacojnfkklaaaGreatDoor
