/-
  Reference functions of the dip chapter: Worst. Conditions: none.
-/
import Derived.Test.YtcgacojnfkklaaaGreatDoorZRefG
namespace Go.Proofs.YtcgacojnfkklaaaGreatDoor
open Go.RowKit
set_option linter.unusedSimpArgs false
set_option linter.unusedVariables false
def l11 : List (Nat × (List D → Option D)) := (45, s45) :: (21, s21) :: l10
theorem del11 : DelOk Tryz.prog (delOf l11) := del_cons (del_cons del10 call21 ok21) call45 ok45
theorem last_bd {x : Dsh} {t : Tap} {l : List Dip} (ha : askedE x t l = 0) : (-2000000000 ≤ (lastV x t l).skew.lo ∧ (lastV x t l).skew.lo ≤ 2000000000) ∧ -2000000000 ≤ (lastV x t l).skew.hi ∧ (lastV x t l).skew.hi ≤ 2000000000 := by
  obtain ⟨hc, ht, hl⟩ := asked_ok ha
  have tb := tapE_bd ht
  have hl30 := hl.2.1
  unfold lastV
  by_cases h0 : ((afterR x t l).getD []).length = 0
  · rw [if_pos h0]; unfold begR; dsimp only; omega
  · rw [if_neg h0]
    have hlt : ((afterR x t l).getD []).length - 1 < ((afterR x t l).getD []).length := by omega
    rw [getD_at _ _ _ hlt]
    have key : ∀ r ∈ (afterR x t l).getD [], (-2000000000 ≤ r.skew.lo ∧ r.skew.lo ≤ 2000000000) ∧ -2000000000 ≤ r.skew.hi ∧ r.skew.hi ≤ 2000000000 := by
      intro r hr
      unfold afterR at hr
      split at hr
      · simp at hr
      · simp only [Option.getD_some, afterL, List.mem_map, List.mem_range] at hr
        obtain ⟨k, hk, rfl⟩ := hr
        have := (stA_bd hl ht (k + 1) (by omega)).2.2.1
        simp only [rngOf]
        push_cast at this
        omega
    exact key _ (List.getElem_mem hlt)
def worstL (x : Dsh) (s : Spn) (l : List Dip) : List Int := l.map fun d => if s.hi ≤ -s.lo then (endsV x d).1 else (endsV x d).2
def worstR (x : Dsh) (t : Tap) (l : List Dip) (b : Int) : List Int × Int :=
  if ¬ (afterE x t l).2 = 0 then ([], (afterE x t l).2) else if b < 0 then ([], 7) else
    if max (-(lastV x t l).skew.lo) (lastV x t l).skew.hi ≤ b then ([], 0) else (worstL x (lastV x t l).skew l, 0)
theorem after_asked {x : Dsh} {t : Tap} {l : List Dip} (h : (afterE x t l).2 = 0) : askedE x t l = 0 := by
  unfold afterE at h
  by_cases h1 : askedE x t l = 0
  · exact h1
  · rw [if_pos h1] at h; exact absurd h h1
def s27 : List D → Option D := sp4 (cAgg rDsh) (cAgg rTap) (cList rDip) cInt (cTup2 (cList rInt) cInt) fun x t l b => some (worstR x t l b)
set_option maxHeartbeats 4000000 in
theorem ok27 : ∀ ds d, s27 ds = some d → PureC Tryz.prog 27 ds d := ok_sp4 fun x t l b r hr => by
  cases hr
  refine pure_of_dec (cTup2 (cList rInt) cInt) _ (mkCx_ok del11 76 kp27 []) Tryz.func27 rfl rfl (Nat.le_of_ble_eq_true rfl) (by kernel_rfl) ?_
  rw [Tryz.results27]
  unfold worstR
  obtain ⟨al, ae, hA⟩ : ∃ al ae, afterE x t l = (al, ae) := ⟨_, _, rfl⟩
  rw [hA]
  by_cases h1 : ae = 0
  · have ha : askedE x t l = 0 := after_asked (by rw [hA]; exact h1)
    obtain ⟨hc, ht, hl⟩ := asked_ok ha
    have hl30 := hl.2.1
    have lb := last_bd ha
    have hdd : ∀ j (hj : j < l.length), okD x l[j] := fun j hj => okL_at hl j hj
    by_cases h2 : b < 0
    · simp [kp27, rDsh_enc, rDsh_dec, rTap_enc, rTap_dec, rDip_k, rDip_decL, l11, l10, l9, l8, l7, l6, l5, l4, l3, l2, l1, s24, hA, h1, h2]
    · generalize hs : lastV x t l = S at *
      have wn := wrap_small (-S.skew.lo) (by omega) (by omega)
      have hm : (if -S.skew.lo < S.skew.hi then S.skew.hi else -S.skew.lo) = max (-S.skew.lo) S.skew.hi := by split <;> omega
      by_cases h3 : max (-S.skew.lo) S.skew.hi ≤ b
      · simp [kp27, rDsh_enc, rDsh_dec, rTap_enc, rTap_dec, rDip_k, rDip_decL, rRng_enc, l11, l10, l9, l8, l7, l6, l5, l4, l3, l2, l1, s24, s46, hA, h1, h2, ha, hs, wn, hm, h3]
      · simp [kp27, rDsh_enc, rDsh_dec, rTap_enc, rTap_dec, rDip_k, rDip_decL, rRng_enc, l11, l10, l9, l8, l7, l6, l5, l4, l3, l2, l1, s24, s46, hA, h1, h2, ha, hs, wn, hm, h3]
        (generalize hLoopQ : Cx.loop _ _ _ = rLoopQ; apply loop_then hLoopQ (fun k => ⟨[(2, .d (.sl 4 (l.map rDip.enc))), (4, .loc 4 0), (12, .loc 12 0), (13, .sl 1 ((worstL x S.skew (l.take k)).map rInt.enc) (.tok 13)), (14, .d (DI k))], [(4, [.d (DI x.melt), .d (DI x.coat), .d (DI x.thin), .d (DI x.hold), .d (DI x.back), .d (DI x.draw), .d (DI x.set), .d (DI x.run), .d (.sl 3 (x.baths.map rBth.enc))]), (12, [.d (DI S.skew.lo), .d (DI S.skew.hi)])], [13], []⟩) l.length rfl; rotate_left; (show _ < 281474976710656; omega); rfl; rotate_left; all_goals clear hLoopQ)
        · intro j hj
          have w1 := wrap_small ((j : Int) + 1) (by omega) (by omega)
          have hjl : (j : Int) < l.length := by omega
          have hd := hdd j hj
          have c1 : j + 1 ≤ 140737488355328 := by omega
          have c2 : (j + 1) * 8 ≤ 140737488355328 := by omega
          have hT : worstL x S.skew (l.take (j + 1)) = worstL x S.skew (l.take j) ++ [if S.skew.hi ≤ -S.skew.lo then (endsV x l[j]).1 else (endsV x l[j]).2] := by
            unfold worstL
            rw [List.take_succ_eq_append_getElem hj, List.map_append]; rfl
          have hlen : (worstL x S.skew (l.take j)).length = j := by unfold worstL; simp; omega
          rw [hT]
          generalize worstL x S.skew (l.take j) = WL at *
          by_cases h4 : S.skew.hi ≤ -S.skew.lo
          · simp [kp27, rDsh_dec, rDip_enc, rDip_dec, l11, l10, l9, l8, l7, l6, l5, l4, l3, l2, l1, s68, hj, hjl, hd, w1, wn, c1, c2, hlen, h4]
          · simp [kp27, rDsh_dec, rDip_enc, rDip_dec, l11, l10, l9, l8, l7, l6, l5, l4, l3, l2, l1, s68, hj, hjl, hd, w1, wn, c1, c2, hlen, h4]
        · have hT : l.take l.length = l := List.take_of_length_le (by omega)
          simp [kp27, hT, rInt_decL]
  · have h1' : (ae == 0) = false := by simpa using h1
    have h1'' : (ae != 0) = true := by simpa using h1
    simp [kp27, rDsh_enc, rDsh_dec, rTap_enc, rTap_dec, rDip_k, rDip_decL, l11, l10, l9, l8, l7, l6, l5, l4, l3, l2, l1, s24, hA, h1, h1', h1'']
end Go.Proofs.YtcgacojnfkklaaaGreatDoor
