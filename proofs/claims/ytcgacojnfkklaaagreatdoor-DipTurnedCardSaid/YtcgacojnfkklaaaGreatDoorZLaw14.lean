/-
  The law DipTurned: with all dips turned, top and foot change places. Conditions: none.
-/
import Derived.Test.YtcgacojnfkklaaaGreatDoorZLawB
namespace Go.Proofs.YtcgacojnfkklaaaGreatDoor
open Go.RowKit
set_option linter.unusedSimpArgs false
set_option linter.unusedVariables false
def kp14 (r : Nat) : List (Nat × Option Nat) := match r with
  | 0 => [(2, none), (3, none), (4, none)]
  | 1 => [(2, none), (3, none), (4, none), (7, some 4)]
  | 2 => [(2, none), (3, none), (4, none), (7, some 4), (8, none)]
  | 3 => [(2, none), (3, none), (4, none), (7, some 4), (8, none), (18, none)]
  | 4 => [(2, none), (3, none), (4, none), (7, some 4), (8, none)]
  | 5 => [(2, none), (3, none), (4, none), (7, some 4), (8, none), (9, none)]
  | 6 => [(2, none), (3, none), (4, none), (7, some 4), (8, none), (9, none)]
  | 7 => [(2, none), (3, none), (4, none), (7, some 4), (8, none)]
  | 8 => [(3, none), (4, none), (7, some 4), (10, none), (11, none)]
  | 9 => [(10, none), (11, none), (12, none), (13, none)]
  | 10 => [(10, none), (12, none), (62, none)]
  | 11 => [(6, none)]
  | 12 => [(10, none), (12, none), (14, none)]
  | 13 => [(10, none), (12, none), (14, none), (66, none)]
  | 14 => [(10, none), (12, none), (14, none)]
  | 15 => [(10, none), (12, none), (14, none), (115, none)]
  | 16 => [(6, none)]
  | 17 => [(6, none)]
  | _ => []
def longOk (l : List Dip) : Prop := l.length ≤ 4398046511103
instance (l : List Dip) : Decidable (longOk l) := inferInstanceAs (Decidable (_ ≤ _))
def turnD (d : Dip) : Dip := ⟨d.bath, d.secs, d.pause, !d.turned⟩
def swapT (t : Tap) : Tap := ⟨t.wick, t.foot, t.top⟩
def swR (r : Rng) : Rng := ⟨r.foot, r.top, ⟨-r.skew.hi, -r.skew.lo⟩⟩
def swS (s : Tap × Tap × Spn) : Tap × Tap × Spn := (swapT s.1, swapT s.2.1, ⟨-s.2.2.hi, -s.2.2.lo⟩)
theorem turn_grown (x : Dsh) (d : Dip) (w : Int) : grownV x (turnD d) w = ((grownV x d w).2, (grownV x d w).1) := by
  unfold grownV turnD
  cases d.turned <;> rfl
theorem turn_dipped (x : Dsh) (t : Tap) (d : Dip) (w : Int) : dippedV x (swapT t) (turnD d) w = swapT (dippedV x t d w) := by
  simp only [dippedV, swapT, turn_grown]
theorem turn_skew (x : Dsh) (d : Dip) (w : Int) : skewV x (turnD d) w = -skewV x d w := by
  simp only [skewV, turn_grown]; omega
theorem turn_ok {x : Dsh} {d : Dip} (h : okD x d) : okD x (turnD d) := h
theorem turn_ends {x : Dsh} {d : Dip} (h : okD x d) : skewV x (turnD d) (endsV x (turnD d)).1 = -skewV x d (endsV x d).2 ∧ skewV x (turnD d) (endsV x (turnD d)).2 = -skewV x d (endsV x d).1 := by
  obtain ⟨a1, a2⟩ := skew_ends h
  obtain ⟨b1, b2⟩ := skew_ends (turn_ok h)
  rw [a1, a2, b1, b2, turn_skew, turn_skew]
  have hw : warmV x (turnD d) = warmV x d := rfl
  rw [hw]
  cases hd : d.turned <;> simp [turnD, hd]
theorem turn_find {f g : Nat → Dip → Int} (h : ∀ i d, f i (turnD d) = g i d) : ∀ (l : List Dip) (i : Nat), findI f i (l.map turnD) = findI g i l
  | [], _ => rfl
  | d :: t, i => by simp only [List.map_cons, findI, h, turn_find h t]
theorem turn_plan (x : Dsh) (l : List Dip) : planE x (l.map turnD) = planE x l := by
  unfold planE
  rw [List.length_map, turn_find (g := fun _ d => dipE x d) fun i d => rfl]
theorem swap_tap (t : Tap) : tapE (swapT t) = tapE t := by
  unfold tapE swapT
  have e : (inR t.wick 0 100000 && inR t.foot 0 100000 && inR t.top 0 100000) = (inR t.wick 0 100000 && inR t.top 0 100000 && inR t.foot 0 100000) := by
    rw [Bool.and_assoc, Bool.and_comm (inR t.foot 0 100000), ← Bool.and_assoc]
  simp only [e]
  have e2 : (t.foot < t.wick ∨ t.top < t.wick) ↔ (t.top < t.wick ∨ t.foot < t.wick) := Or.comm
  simp only [e2]
theorem turn_asked (x : Dsh) (t : Tap) (l : List Dip) : askedE x (swapT t) (l.map turnD) = askedE x t l := by
  unfold askedE
  rw [turn_plan, swap_tap]
theorem turn_st {x : Dsh} {t : Tap} {l : List Dip} (hl : okL x l) : ∀ k, k ≤ l.length → stA x (swapT t) (l.map turnD) k = swS (stA x t l k) := by
  intro k
  induction k with
  | zero => intro _; simp only [stA, swS, swapT, Prod.mk.injEq, Spn.mk.injEq, true_and]; omega
  | succ k ih =>
    intro hk
    have hk' : k < l.length := by omega
    have hk2 : k < (l.map turnD).length := by simpa using hk'
    rw [stA_succ hk', stA_succ hk2, ih (by omega), List.getElem_map]
    obtain ⟨e1, e2⟩ := turn_ends (okL_at hl k hk')
    have hw : warmV x (turnD l[k]) = warmV x l[k] := rfl
    simp only [stepA, swS, hw, turn_dipped, e1, e2, Prod.mk.injEq, Spn.mk.injEq, true_and]
    omega
theorem swap_lost (t : Tap) : lostB (swapT t) = lostB t := by
  unfold lostB swapT
  rw [Bool.or_comm]
theorem turn_after (x : Dsh) (t : Tap) (l : List Dip) : afterE x (swapT t) (l.map turnD) = ((afterE x t l).1.map swR, (afterE x t l).2) := by
  by_cases ha : askedE x t l = 0
  · obtain ⟨_, ht, hl⟩ := asked_ok ha
    have ha2 : askedE x (swapT t) (l.map turnD) = 0 := by rw [turn_asked]; exact ha
    by_cases h : (afterE x t l).2 = 0
    · have h2 : (afterE x (swapT t) (l.map turnD)).2 = 0 := by
        refine after_ok.2 ⟨ha2, fun k hk => ?_⟩
        rw [List.length_map] at hk
        rw [turn_st hl (k + 1) hk]
        simp only [swS, swap_lost]
        exact (after_ok.1 h).2 k hk
      rw [after_val h, after_val h2]
      simp only [afterL, List.length_map, List.map_map, Prod.mk.injEq, and_true]
      apply List.map_congr_left
      intro k hk
      rw [List.mem_range] at hk
      simp only [Function.comp]
      rw [turn_st hl (k + 1) hk]; rfl
    · have h2 : ¬ (afterE x (swapT t) (l.map turnD)).2 = 0 := fun h2 => h <| by
        refine after_ok.2 ⟨ha, fun k hk => ?_⟩
        have := (after_ok.1 h2).2 k (by simpa using hk)
        rw [turn_st hl (k + 1) hk] at this
        simpa only [swS, swap_lost] using this
      rw [after_bad h, after_bad h2, after_err ha h, after_err ha2 h2]; rfl
  · unfold afterE
    rw [if_pos ha, if_pos (by rw [turn_asked]; exact ha), turn_asked]; rfl
theorem after_bd {x : Dsh} {t : Tap} {l : List Dip} : ∀ r ∈ (afterE x t l).1, (-2000000000 ≤ r.skew.lo ∧ r.skew.lo ≤ 2000000000) ∧ -2000000000 ≤ r.skew.hi ∧ r.skew.hi ≤ 2000000000 := by
  intro r hr
  by_cases h : (afterE x t l).2 = 0
  · obtain ⟨ha, _⟩ := after_ok.1 h
    obtain ⟨_, ht, hl⟩ := asked_ok ha
    have hl30 := hl.2.1
    rw [after_val h] at hr
    simp only [afterL, List.mem_map, List.mem_range] at hr
    obtain ⟨k, hk, rfl⟩ := hr
    have := (stA_bd hl ht (k + 1) (by omega)).2.2.1
    simp only [rngOf]
    push_cast at this
    omega
  · rw [after_bad h] at hr; cases hr
theorem after_le (x : Dsh) (t : Tap) (l : List Dip) : (afterE x t l).1.length ≤ 30 := by
  by_cases h : (afterE x t l).2 = 0
  · have hl := (asked_ok (after_ok.1 h).1).2.2.2.1
    rw [after_val h]; simp only [afterL_len]; exact hl
  · rw [after_bad h]; simp
theorem turn_take (l : List Dip) (k : Nat) (h : k < l.length) : (l.take (k + 1)).map turnD = (l.take k).map turnD ++ [turnD l[k]] := by
  rw [List.take_succ_eq_append_getElem h, List.map_append]; rfl
def s14 : List D → Option D := sp3 (cAgg rDsh) (cAgg rTap) (cList rDip) cBool fun x t l => if namesOk x ∧ longOk l then some true else none
theorem rTap_decI (a b c : Int) : rTap.dec [.v (.int .i64 a), .v (.int .i64 b), .v (.int .i64 c)] = some ⟨a, b, c⟩ := rfl
set_option maxHeartbeats 4000000 in
theorem ok14 : ∀ ds d, s14 ds = some d → PureC Tryz.prog 14 ds d := ok_sp3 fun x t l r hr => by
  split at hr
  · rename_i hc
    cases hr
    obtain ⟨hs, hlong⟩ := hc
    have hlong : l.length ≤ 4398046511103 := hlong
    refine pure_of_call (mkCx_ok dtb 117 kp14 []) Tryz.func14 rfl rfl (Nat.le_of_ble_eq_true rfl) (by kernel_rfl) ?_
    rw [Tryz.results14]
    have hta := turn_after x t l
    have hbd := after_bd (x := x) (t := t) (l := l)
    have hal := after_le x t l
    obtain ⟨A, e, hA⟩ : ∃ A e, afterE x t l = (A, e) := ⟨_, _, rfl⟩
    rw [hA] at hta hbd hal
    simp only at hta hbd hal
    simp [kp14, rDsh_enc, rTap_enc, rDip_k]
    (generalize hLoopQ : Cx.loop _ _ _ = rLoopQ; apply loop_then hLoopQ (fun k => ⟨[(2, .d (.sl 4 (l.map rDip.enc))), (3, .loc 3 0), (4, .loc 4 0), (7, .sl 4 (((l.take k).map turnD).map rDip.enc) (.tok 7)), (8, .d (DI k))], [(3, [.d (DI x.melt), .d (DI x.coat), .d (DI x.thin), .d (DI x.hold), .d (DI x.back), .d (DI x.draw), .d (DI x.set), .d (DI x.run), .d (.sl 3 (x.baths.map rBth.enc))]), (4, [.d (DI t.wick), .d (DI t.top), .d (DI t.foot)])], [7], []⟩) l.length rfl; rotate_left; (show _ < 281474976710656; omega); rfl; rotate_left; all_goals clear hLoopQ)
    · intro j hj
      have w1 := wrap_small ((j : Int) + 1) (by omega) (by omega)
      have hjl : (j : Int) < l.length := by omega
      have c1 : j + 1 ≤ 140737488355328 := by omega
      have c2 : (j + 1) * 32 ≤ 140737488355328 := by omega
      have hlen : ((l.take j).map turnD).length = j := by simp; omega
      rw [turn_take l j hj]
      generalize (l.take j).map turnD = TL at *
      simp [kp14, rDip_enc, turnD, hj, hjl, w1, c1, c2, hlen]
    · have hT : l.take l.length = l := List.take_of_length_le (by omega)
      have e7 : afterE x ⟨t.wick, t.foot, t.top⟩ (l.map turnD) = (A.map swR, e) := hta
      rw [hT]
      generalize l.map turnD = L2 at *
      have hA2at : ∀ j (h : j < A.length) (h' : j < (A.map swR).length), (A.map swR)[j] = swR A[j] := fun j h h' => by simp
      have hA2l : (A.map swR).length = A.length := by simp
      generalize A.map swR = A2 at *
      simp [kp14, rDsh_dec, rTap_dec, rTap_decI, rDip_decL, rRng_k, tb, s23, hs, hA, e7, hA2l]
      (generalize hLoopQ : Cx.loop _ _ _ = rLoopQ; apply loop_then hLoopQ (fun k => ⟨[(10, .d (.sl 6 (A.map rRng.enc))), (12, .d (.sl 6 (A2.map rRng.enc))), (14, .d (DI k))], [], [], []⟩) A.length rfl; rotate_left; (show _ < 281474976710656; omega); rfl; rotate_left; all_goals clear hLoopQ)
      · intro j hj
        have w1 := wrap_small ((j : Int) + 1) (by omega) (by omega)
        have hjl : (j : Int) < A.length := by omega
        have hb := hbd _ (List.getElem_mem hj)
        have hj2 : j < A2.length := by omega
        have h2 := hA2at j hj hj2
        have w2 := wrap_small A[j].skew.lo (by omega) (by omega)
        have w3 := wrap_small A[j].skew.hi (by omega) (by omega)
        simp [kp14, rRng_enc, rSpn_enc, swR, tb, s39, hj, hjl, hj2, h2, w1, w2, w3]
      · simp [kp14, tb, s22]
  · cases hr
end Go.Proofs.YtcgacojnfkklaaaGreatDoor
