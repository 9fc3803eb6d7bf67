/-
  Reference functions of the dip chapter: Makes, Follow, Worst. Conditions: none.
-/
import Derived.Test.YtcgacojnfkklaaaGreatDoorZRefB
namespace Go.Proofs.YtcgacojnfkklaaaGreatDoor
open Go.RowKit
set_option linter.unusedSimpArgs false
set_option linter.unusedVariables false
def l10 : List (Nat × (List D → Option D)) := (24, s24) :: (46, s46) :: l9
theorem del10 : DelOk Tryz.prog (delOf l10) := del_cons (del_cons del9 call46 ok46) call24 ok24
def boundOk (n : Int) : Prop := 0 ≤ n ∧ n ≤ 9223372036854775807
instance (n : Int) : Decidable (boundOk n) := inferInstanceAs (Decidable (_ ∧ _))
def makesB (r : Rng) (s : Spn) (b : Int) : Bool := decide (s.lo ≤ r.top.lo) && (decide (r.top.hi ≤ s.hi) && (decide (s.lo ≤ r.foot.lo) && (decide (r.foot.hi ≤ s.hi) && (decide (-b ≤ r.skew.lo) && decide (r.skew.hi ≤ b)))))
def s45 : List D → Option D := sp3 (cAgg rRng) (cAgg rSpn) cInt cBool fun r s b => if boundOk b then some (makesB r s b) else none
set_option maxHeartbeats 2000000 in
theorem ok45 : ∀ ds d, s45 ds = some d → PureC Tryz.prog 45 ds d := ok_sp3 fun r s b res hr => by
  split at hr
  · rename_i hb
    cases hr
    have w1 := wrap_small (-b) (by have := hb.2; omega) (by have := hb.1; omega)
    refine pure_of_call (mkCx_ok del_nil 52 kp45 []) Tryz.func45 rfl rfl (Nat.le_of_ble_eq_true rfl) (by kernel_rfl) ?_
    rw [Tryz.results45]
    unfold makesB
    by_cases h1 : s.lo ≤ r.top.lo
    · by_cases h2 : r.top.hi ≤ s.hi
      · by_cases h3 : s.lo ≤ r.foot.lo
        · by_cases h4 : r.foot.hi ≤ s.hi
          · by_cases h5 : -b ≤ r.skew.lo
            · simp [kp45, rRng_enc, rSpn_enc, w1, h1, h2, h3, h4, h5]
            · simp [kp45, rRng_enc, rSpn_enc, w1, h1, h2, h3, h4, h5]
          · simp [kp45, rRng_enc, rSpn_enc, w1, h1, h2, h3, h4]
        · simp [kp45, rRng_enc, rSpn_enc, w1, h1, h2, h3]
      · simp [kp45, rRng_enc, rSpn_enc, w1, h1, h2]
    · simp [kp45, rRng_enc, rSpn_enc, w1, h1]
  · cases hr
theorem call45 (xs : Array Value) (w : World) : (callFunc 45 xs).run Tryz.prog w = .ok (.enter 45 xs) w := by kernel_rfl
def flS (x : Dsh) (t : Tap) (l : List Dip) (w : List Int) : Nat → Tap
  | 0 => t
  | k + 1 => dippedV x (flS x t l w k) (l.getD k default) (w.getD k 0)
def followR (x : Dsh) (t : Tap) (l : List Dip) (w : List Int) : Tap × Int :=
  if ¬ askedE x t l = 0 then (⟨0, 0, 0⟩, askedE x t l) else if ¬ warmE x l w = 0 then (⟨0, 0, 0⟩, warmE x l w) else
    if (List.range l.length).any (fun k => lostB (flS x t l w (k + 1))) then (⟨0, 0, 0⟩, 9) else (flS x t l w l.length, 0)
theorem warm_at {x : Dsh} {l : List Dip} {w : List Int} (h : warmE x l w = 0) : w.length = l.length ∧ ∀ k (hk : k < l.length) (hw : k < w.length), (warmV x l[k]).lo ≤ w[k] ∧ w[k] ≤ (warmV x l[k]).hi := by
  unfold warmE at h
  by_cases h1 : w.length = l.length
  · rw [if_neg (by simpa using h1)] at h
    refine ⟨h1, fun k hk hw => ?_⟩
    rcases findI_cases (fun i d => if inR (w.getD i 0) (warmV x d).lo (warmV x d).hi then (0 : Int) else 7) l with ⟨_, hall⟩ | ⟨j, hj, e1, hbad, _⟩
    · have := hall k hk
      rw [getD_at _ _ _ hw] at this
      cases hq : inR w[k] (warmV x l[k]).lo (warmV x l[k]).hi
      · rw [hq] at this; simp at this
      · exact inR_iff.1 hq
    · rw [e1] at h; exact absurd h hbad
  · rw [if_pos h1] at h; cases h
theorem flS_bd {x : Dsh} {t : Tap} {l : List Dip} {w : List Int} (hl : okL x l) (ht : tapE t = 0) (hw : warmE x l w = 0) : ∀ k, k ≤ l.length → ((-25000000 * k ≤ (flS x t l w k).top ∧ (flS x t l w k).top ≤ 100000 + 25000000 * k) ∧ -25000000 * k ≤ (flS x t l w k).foot ∧ (flS x t l w k).foot ≤ 100000 + 25000000 * k) ∧ (flS x t l w k).wick = t.wick := by
  obtain ⟨hwl, hwa⟩ := warm_at hw
  intro k
  induction k with
  | zero =>
    intro _
    have := tapE_bd ht
    simp only [flS]
    refine ⟨⟨⟨?_, ?_⟩, ?_, ?_⟩, ?_⟩ <;> simp <;> omega
  | succ k ih =>
    intro hk
    have hk' : k < l.length := by omega
    have i := ih (by omega)
    have hd := okL_at hl k hk'
    obtain ⟨B, e1, hB, e2, _, g1, g2, _, g3⟩ := okD_bath hd
    have hb := hwa k hk' (by omega)
    have b1 := grown_bd (g3 _ hb.1 hb.2)
    have e : flS x t l w (k + 1) = dippedV x (flS x t l w k) l[k] w[k] := by rw [flS, getD_at _ _ _ hk', getD_at _ _ _ (by omega)]
    rw [e]
    simp only [dippedV]
    push_cast
    omega
def s21 : List D → Option D := sp4 (cAgg rDsh) (cAgg rTap) (cList rDip) (cList rInt) (cTup2 (cAgg rTap) cInt) fun x t l w => some (followR x t l w)
set_option maxHeartbeats 4000000 in
theorem ok21 : ∀ ds d, s21 ds = some d → PureC Tryz.prog 21 ds d := ok_sp4 fun x t l w r hr => by
  cases hr
  refine pure_of_call (mkCx_ok del10 50 kp21 []) Tryz.func21 rfl rfl (Nat.le_of_ble_eq_true rfl) (by kernel_rfl) ?_
  rw [Tryz.results21]
  unfold followR
  by_cases h1 : askedE x t l = 0
  · obtain ⟨hc, ht, hl⟩ := asked_ok h1
    have hl30 := hl.2.1
    by_cases h2 : warmE x l w = 0
    · obtain ⟨hwl, hwa⟩ := warm_at h2
      have fact : ∀ j (hj : j < l.length) (hw : j < w.length), gOk x l[j] w[j] ∧ tapOk (flS x t l w j) ∧ flS x t l w (j + 1) = dippedV x (flS x t l w j) l[j] w[j] := fun j hj hw => by
        obtain ⟨B, e1, hB, e2, _, g1, g2, _, g3⟩ := okD_bath (okL_at hl j hj)
        have hb := hwa j hj hw
        have sb := flS_bd hl ht h2 j (by omega)
        refine ⟨g3 _ hb.1 hb.2, ⟨⟨?_, ?_⟩, ?_, ?_⟩, by rw [flS, getD_at _ _ _ hj, getD_at _ _ _ hw]⟩ <;> omega
      simp [kp21, rDsh_enc, rDsh_dec, rTap_enc, rTap_dec, rDip_k, rDip_decL, l10, l9, l8, l7, l6, l5, l4, l3, l2, l1, s59, s60, hl, h1, h2]
      rcases first_not (fun k => !lostB (flS x t l w (k + 1))) l.length with hall | ⟨k0, hk, hbad, hgood⟩
      · have hany : ¬ ∃ j, j < l.length ∧ lostB (flS x t l w (j + 1)) = true := by
          rintro ⟨j, hj, h⟩
          have := hall j hj
          rw [h] at this; cases this
        simp only [hany, if_false]
        (generalize hLoopQ : Cx.loop _ _ _ = rLoopQ; apply loop_then hLoopQ (fun k => ⟨[(2, .d (.sl 4 (l.map rDip.enc))), (3, .d (.sl 1 (w.map rInt.enc))), (4, .loc 4 0), (5, .loc 5 0), (8, .loc 8 0), (10, .d (DI 0)), (11, .d (DI k))], [(4, [.d (DI x.melt), .d (DI x.coat), .d (DI x.thin), .d (DI x.hold), .d (DI x.back), .d (DI x.draw), .d (DI x.set), .d (DI x.run), .d (.sl 3 (x.baths.map rBth.enc))]), (5, [.d (DI (flS x t l w k).wick), .d (DI (flS x t l w k).top), .d (DI (flS x t l w k).foot)]), (8, [.d (DI 0), .d (DI 0), .d (DI 0)])], [], []⟩) l.length rfl; rotate_left; (show _ < 281474976710656; omega); rfl; rotate_left; all_goals clear hLoopQ)
        · intro j hj
          have hjw : j < w.length := by omega
          obtain ⟨f1, f2, f3⟩ := fact j hj hjw
          have w1 := wrap_small ((j : Int) + 1) (by omega) (by omega)
          have hjl : (j : Int) < l.length := by omega
          have hlo : lostB (dippedV x (flS x t l w j) l[j] w[j]) = false := by have := hall j hj; rw [f3] at this; simpa using this
          simp only [f3]
          simp [kp21, rDsh_dec, rTap_enc, rTap_dec, rDip_enc, rDip_dec, l10, l9, l8, l7, l6, l5, l4, l3, l2, l1, s61, s62, hj, hjw, hjl, hwl, f1, f2, w1, hlo]
        · simp [kp21, rTap_enc]
      · have hex : ∃ j, j < l.length ∧ lostB (flS x t l w (j + 1)) = true := ⟨k0, hk, by simpa using hbad⟩
        simp only [hex, if_true]
        (generalize hLoopQ : Cx.loop _ _ _ = rLoopQ; apply loop_then hLoopQ (fun k => ⟨[(2, .d (.sl 4 (l.map rDip.enc))), (3, .d (.sl 1 (w.map rInt.enc))), (4, .loc 4 0), (5, .loc 5 0), (8, .loc 8 0), (10, .d (DI (if k ≤ k0 then 0 else 9))), (11, .d (DI k))], [(4, [.d (DI x.melt), .d (DI x.coat), .d (DI x.thin), .d (DI x.hold), .d (DI x.back), .d (DI x.draw), .d (DI x.set), .d (DI x.run), .d (.sl 3 (x.baths.map rBth.enc))]), (5, [.d (DI (flS x t l w k).wick), .d (DI (flS x t l w k).top), .d (DI (flS x t l w k).foot)]), (8, [.d (DI 0), .d (DI 0), .d (DI 0)])], [], []⟩) (k0 + 1) rfl; rotate_left; (show _ < 281474976710656; omega); rfl; rotate_left; all_goals clear hLoopQ)
        · intro j hj'
          have hj : j < l.length := by omega
          have hjw : j < w.length := by omega
          obtain ⟨f1, f2, f3⟩ := fact j hj hjw
          have w1 := wrap_small ((j : Int) + 1) (by omega) (by omega)
          have hjl : (j : Int) < l.length := by omega
          have hjk : j ≤ k0 := by omega
          simp only [f3]
          by_cases hjq : j = k0
          · subst hjq
            have hlo : lostB (dippedV x (flS x t l w j) l[j] w[j]) = true := by rw [f3] at hbad; simpa using hbad
            simp [kp21, rDsh_dec, rTap_enc, rTap_dec, rDip_enc, rDip_dec, l10, l9, l8, l7, l6, l5, l4, l3, l2, l1, s61, s62, hj, hjw, hjl, hwl, f1, f2, w1, hlo]
          · have hj1 : j + 1 ≤ k0 := by omega
            have hj1' : j < k0 := by omega
            have hlo : lostB (dippedV x (flS x t l w j) l[j] w[j]) = false := by have := hgood j hj1'; rw [f3] at this; simpa using this
            simp [kp21, rDsh_dec, rTap_enc, rTap_dec, rDip_enc, rDip_dec, l10, l9, l8, l7, l6, l5, l4, l3, l2, l1, s61, s62, hj, hjw, hjl, hwl, hjk, hj1, f1, f2, w1, hlo]
        · have hkk : (if k0 + 1 ≤ k0 then (0 : Int) else 9) = 9 := if_neg (by omega)
          by_cases hkl : k0 + 1 < l.length
          · have hkl' : (k0 : Int) + 1 < l.length := by omega
            simp [kp21, rTap_enc, hkl, hkl', hkk]
          · have hkl' : ¬ (k0 : Int) + 1 < l.length := by omega
            simp [kp21, rTap_enc, hkl, hkl', hkk]
    · have h2' : (warmE x l w == 0) = false := by simpa using h2
      have h2'' : (warmE x l w != 0) = true := by simpa using h2
      simp [kp21, rDsh_enc, rDsh_dec, rTap_enc, rTap_dec, rDip_k, rDip_decL, l10, l9, l8, l7, l6, l5, l4, l3, l2, l1, s59, s60, hl, h1, h2, h2', h2'']
      by_cases hl0 : 0 < l.length
      · (generalize hLoopQ : Cx.loop _ _ _ = rLoopQ; apply loop_then hLoopQ (fun k => ⟨[(2, .d (.sl 4 (l.map rDip.enc))), (3, .d (.sl 1 (w.map rInt.enc))), (4, .loc 4 0), (5, .loc 5 0), (8, .loc 8 0), (10, .d (DI (warmE x l w))), (11, .d (DI k))], [(4, [.d (DI x.melt), .d (DI x.coat), .d (DI x.thin), .d (DI x.hold), .d (DI x.back), .d (DI x.draw), .d (DI x.set), .d (DI x.run), .d (.sl 3 (x.baths.map rBth.enc))]), (5, [.d (DI (flS x t l w k).wick), .d (DI (flS x t l w k).top), .d (DI (flS x t l w k).foot)]), (8, [.d (DI 0), .d (DI 0), .d (DI 0)])], [], []⟩) 0 rfl; rotate_left; (show _ < 281474976710656; omega); rfl; rotate_left; all_goals clear hLoopQ)
        · intro j hj; omega
        · have hl0' : (0 : Int) < l.length := by omega
          simp [kp21, rTap_enc, h2, h2', h2'', hl0, hl0']
      · (generalize hLoopQ : Cx.loop _ _ _ = rLoopQ; apply loop_then hLoopQ (fun k => ⟨[(2, .d (.sl 4 (l.map rDip.enc))), (3, .d (.sl 1 (w.map rInt.enc))), (4, .loc 4 0), (5, .loc 5 0), (8, .loc 8 0), (10, .d (DI (warmE x l w))), (11, .d (DI k))], [(4, [.d (DI x.melt), .d (DI x.coat), .d (DI x.thin), .d (DI x.hold), .d (DI x.back), .d (DI x.draw), .d (DI x.set), .d (DI x.run), .d (.sl 3 (x.baths.map rBth.enc))]), (5, [.d (DI (flS x t l w k).wick), .d (DI (flS x t l w k).top), .d (DI (flS x t l w k).foot)]), (8, [.d (DI 0), .d (DI 0), .d (DI 0)])], [], []⟩) 0 rfl; rotate_left; (show _ < 281474976710656; omega); rfl; rotate_left; all_goals clear hLoopQ)
        · intro j hj; omega
        · have hl0' : ¬ (0 : Int) < l.length := by omega
          simp [kp21, rTap_enc, h2, h2', h2'', hl0, hl0']
  · have h1' : (askedE x t l == 0) = false := by simpa using h1
    have h1'' : (askedE x t l != 0) = true := by simpa using h1
    simp [kp21, rDsh_enc, rDsh_dec, rTap_enc, rTap_dec, rDip_k, rDip_decL, l10, l9, l8, l7, l6, l5, l4, l3, l2, l1, s59, h1, h1', h1'']
    by_cases hl0 : 0 < l.length
    · (generalize hLoopQ : Cx.loop _ _ _ = rLoopQ; apply loop_then hLoopQ (fun k => ⟨[(2, .d (.sl 4 (l.map rDip.enc))), (3, .d (.sl 1 (w.map rInt.enc))), (4, .loc 4 0), (5, .loc 5 0), (8, .loc 8 0), (10, .d (DI (askedE x t l))), (11, .d (DI k))], [(4, [.d (DI x.melt), .d (DI x.coat), .d (DI x.thin), .d (DI x.hold), .d (DI x.back), .d (DI x.draw), .d (DI x.set), .d (DI x.run), .d (.sl 3 (x.baths.map rBth.enc))]), (5, [.d (DI (flS x t l w k).wick), .d (DI (flS x t l w k).top), .d (DI (flS x t l w k).foot)]), (8, [.d (DI 0), .d (DI 0), .d (DI 0)])], [], []⟩) 0 rfl; rotate_left; (show _ < 281474976710656; omega); rfl; rotate_left; all_goals clear hLoopQ)
      · intro j hj; omega
      · have hl0' : (0 : Int) < l.length := by omega
        simp [kp21, rTap_enc, h1, h1', h1'', hl0, hl0']
    · (generalize hLoopQ : Cx.loop _ _ _ = rLoopQ; apply loop_then hLoopQ (fun k => ⟨[(2, .d (.sl 4 (l.map rDip.enc))), (3, .d (.sl 1 (w.map rInt.enc))), (4, .loc 4 0), (5, .loc 5 0), (8, .loc 8 0), (10, .d (DI (askedE x t l))), (11, .d (DI k))], [(4, [.d (DI x.melt), .d (DI x.coat), .d (DI x.thin), .d (DI x.hold), .d (DI x.back), .d (DI x.draw), .d (DI x.set), .d (DI x.run), .d (.sl 3 (x.baths.map rBth.enc))]), (5, [.d (DI (flS x t l w k).wick), .d (DI (flS x t l w k).top), .d (DI (flS x t l w k).foot)]), (8, [.d (DI 0), .d (DI 0), .d (DI 0)])], [], []⟩) 0 rfl; rotate_left; (show _ < 281474976710656; omega); rfl; rotate_left; all_goals clear hLoopQ)
      · intro j hj; omega
      · have hl0' : ¬ (0 : Int) < l.length := by omega
        simp [kp21, rTap_enc, h1, h1', h1'', hl0, hl0']
theorem call21 (xs : Array Value) (w : World) : (callFunc 21 xs).run Tryz.prog w = .ok (.enter 21 xs) w := by kernel_rfl
end Go.Proofs.YtcgacojnfkklaaaGreatDoor
