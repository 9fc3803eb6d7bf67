/-
  The law DipWider: with a wider Warm no range is narrower. Conditions: none.
-/
import Derived.Test.YtcgacojnfkklaaaGreatDoorZWide
import Derived.Test.YtcgacojnfkklaaaGreatDoorZAmF
namespace Go.Proofs.YtcgacojnfkklaaaGreatDoor
open Go.RowKit
set_option linter.unusedSimpArgs false
set_option linter.unusedVariables false
def kp16 (r : Nat) : List (Nat × Option Nat) := match r with
  | 0 => [(3, none), (4, none), (5, none)]
  | 1 => [(3, none), (4, none), (5, none), (7, none), (8, none)]
  | 2 => [(3, none), (4, none), (5, none), (7, none), (8, none), (33, none)]
  | 3 => [(6, none)]
  | 4 => [(3, none), (4, none), (5, none), (7, none), (9, none)]
  | 5 => [(3, none), (4, none), (5, none), (7, none), (9, none), (48, none)]
  | 6 => [(3, none), (4, none), (5, none), (7, none), (9, none), (10, none), (48, none)]
  | 7 => [(3, none), (4, none), (5, none), (7, none), (9, none), (10, none), (48, none), (54, none)]
  | 8 => [(3, none), (4, none), (5, none), (7, none), (9, none), (10, none), (48, none)]
  | 9 => [(3, none), (4, none), (5, none), (7, none), (9, none), (10, none), (11, none), (48, none)]
  | 10 => [(3, none), (4, none), (5, none), (7, none), (9, none), (10, none), (11, none), (48, none), (60, none)]
  | 11 => [(3, none), (4, none), (5, none), (7, none), (9, none), (10, none), (11, none), (48, none)]
  | 12 => [(3, none), (4, none), (5, none), (7, none), (9, none), (10, none), (11, none), (12, none), (48, none)]
  | 13 => [(3, none), (4, none), (5, none), (7, none), (9, none), (10, none), (48, none)]
  | 14 => [(7, none), (13, none), (14, none)]
  | 15 => [(7, none), (13, none), (14, none), (113, none)]
  | 16 => [(6, none)]
  | 17 => [(7, none), (13, none), (15, none)]
  | 18 => [(7, none), (13, none), (15, none), (122, none)]
  | 19 => [(7, none), (13, none), (15, none)]
  | 20 => [(7, none), (13, none), (15, none), (212, none)]
  | 21 => [(6, none)]
  | 22 => [(6, none)]
  | _ => []
theorem flat_take {k : Nat} : ∀ {l : List (List D)} (j : Nat), (∀ r ∈ l, r.length = k) → (l.take j).flatten.length = (min j l.length) * k
  | [], j, _ => by simp
  | r :: t, 0, _ => by simp
  | r :: t, j + 1, h => by
    simp only [List.take_succ_cons, List.flatten_cons, List.length_append, List.length_cons]
    rw [flat_take j fun r hr => h r (by simp [hr]), h r (by simp), Nat.add_min_add_right, Nat.add_mul, Nat.one_mul, Nat.add_comm]
def cellsW (x : Dsh) (y : List Int) (m k : Nat) : List X := ((widL x y k).map rBth.enc).flatten.map X.d ++ List.replicate m (.d .top)
theorem cells_rd {P Q : List X} {a b c : X} {j : Nat} (h : P.length = j * 3) : ((P ++ a :: b :: c :: Q).drop (j * 3 + 1)).take 2 = [b, c] := by
  rw [← h, List.drop_append, List.drop_eq_nil_of_le (Nat.le_succ _), Nat.add_sub_cancel_left]
  rfl
theorem cells_wr {P Q : List X} {a b c b' c' : X} {j : Nat} (h : P.length = j * 3) : (P ++ a :: b :: c :: Q).take (j * 3 + 1) ++ [b', c'] ++ (P ++ a :: b :: c :: Q).drop (j * 3 + 1 + 2) = P ++ a :: b' :: c' :: Q := by
  have e : P.length + 1 + 2 - P.length = 3 := by omega
  rw [← h, List.drop_append, List.take_append, List.drop_eq_nil_of_le (by omega), List.take_of_length_le (Nat.le_succ _), Nat.add_sub_cancel_left, e]
  simp
theorem rows_split {l : List Bth} {j : Nat} (h : j < l.length) (T : List X) : ∃ P Q : List X, P.length = j * 3 ∧ ∀ b : Bth, ((l.set j b).map rBth.enc).flatten.map X.d ++ T = P ++ .d (DS b.name) :: .d (DI b.warm.lo) :: .d (DI b.warm.hi) :: Q := by
  refine ⟨(((l.take j).map rBth.enc).flatten.map X.d), ((l.drop (j + 1)).map rBth.enc).flatten.map X.d ++ T, ?_, fun b => ?_⟩
  · rw [List.length_map, List.map_take, flat_take (k := 3) j fun r hr => ?_]
    · rw [List.length_map, Nat.min_eq_left (by omega)]
    · obtain ⟨b, _, rfl⟩ := List.mem_map.1 hr; rfl
  · rw [List.set_eq_take_append_cons_drop, if_pos h]
    simp [rBth_enc]
theorem cellsW_at {x : Dsh} {y : List Int} {m j : Nat} (h : j < x.baths.length) : ∃ b, ((cellsW x y m j).drop (j * 3 + 1)).take 2 = [.d (DI x.baths[j].warm.lo), .d (DI x.baths[j].warm.hi)] ∧ j * 3 + 1 + 2 ≤ (cellsW x y m j).length ∧
    (cellsW x y m j).take (j * 3 + 1) ++ [.d (DI (widB x y j x.baths[j]).warm.lo), .d (DI (widB x y j x.baths[j]).warm.hi)] ++ (cellsW x y m j).drop (j * 3 + 1 + 2) = cellsW x y m (j + 1) ∧ b = x.baths[j] := by
  have hl : j < (widL x y j).length := by rw [widL_len]; exact h
  obtain ⟨P, Q, h1, h2⟩ := rows_split hl (List.replicate m (.d .top))
  have e : (widL x y j)[j] = x.baths[j] := by rw [widL_at h hl, if_neg (by omega)]
  have e1 : cellsW x y m j = P ++ .d (DS x.baths[j].name) :: .d (DI x.baths[j].warm.lo) :: .d (DI x.baths[j].warm.hi) :: Q := by
    rw [← h2]
    unfold cellsW
    rw [← e, List.set_getElem_self]
  have e2 : cellsW x y m (j + 1) = P ++ .d (DS x.baths[j].name) :: .d (DI (widB x y j x.baths[j]).warm.lo) :: .d (DI (widB x y j x.baths[j]).warm.hi) :: Q := by
    unfold cellsW
    rw [widL_succ h, h2]
    rfl
  refine ⟨_, ?_, ?_, ?_, rfl⟩
  · rw [e1]; exact cells_rd h1
  · rw [e1, List.length_append, h1]; simp; omega
  · rw [e1, e2]; exact cells_wr h1
theorem cellsW_d {x : Dsh} {y : List Int} {m k : Nat} : ∀ c ∈ cellsW x y m k, ∃ d, c = .d d := by
  intro c hc
  unfold cellsW at hc
  rcases List.mem_append.1 hc with h | h
  · obtain ⟨d, _, rfl⟩ := List.mem_map.1 h; exact ⟨d, rfl⟩
  · exact ⟨_, List.eq_of_mem_replicate h⟩
theorem allW (x : Dsh) (y : List Int) (m k : Nat) (P : X → Prop) (h : ∀ d, P (.d d)) : (∀ c, c ∈ cellsW x y m k → P c) = True := by
  refine eq_true fun c hc => ?_
  obtain ⟨d, rfl⟩ := cellsW_d c hc
  exact h d
theorem closeC_d (kb : List (Nat × Nat × Nat)) (b : Nat) : ∀ (cs : List X) (i : Nat) (av nw : List Nat), (∀ c ∈ cs, ∃ d, c = .d d) → closeC kb b i cs av nw = (cs, av, nw)
  | [], _, _, _, _ => rfl
  | c :: t, i, av, nw, h => by
    obtain ⟨d, rfl⟩ := h c (by simp)
    unfold closeC
    simp only [closeC_d kb b t _ _ _ fun c hc => h c (by simp [hc]), closeX]
    cases annOf kb b i <;> rfl
theorem closeW (x : Dsh) (y : List Int) (m k : Nat) (kb : List (Nat × Nat × Nat)) (b i : Nat) (av nw : List Nat) : closeC kb b i (cellsW x y m k) av nw = (cellsW x y m k, av, nw) := closeC_d kb b _ i av nw cellsW_d
theorem appSt_W (x : Dsh) (y : List Int) (σ1 : St) (m : Nat) : appSt σ1 48 3 (x.baths.map rBth.enc) m = ⟨(48, .bs 48 0 x.baths.length 3) :: σ1.tmps, (48, cellsW x y m 0) :: σ1.boxes, σ1.toks, σ1.maps⟩ := by
  unfold appSt cellsW
  rw [widL_zero, List.length_map]
theorem names_wid {x : Dsh} (y : List Int) (h : namesOk x) : namesOk (widS x y) := by
  intro b hb
  obtain ⟨i, hi, rfl⟩ := List.getElem_of_mem hb
  have hi' : i < x.baths.length := by
    have : i < (widL x y x.baths.length).length := hi
    rw [widL_len] at this; exact this
  have e : (widS x y).baths[i] = widB x y i x.baths[i] := by
    have := widL_at (y := y) (k := x.baths.length) hi' hi
    rw [if_pos hi'] at this; exact this
  rw [e]
  exact h x.baths[i] (List.getElem_mem hi')
def s16 : List D → Option D := sp3 (cAgg rDsh) (cAgg rTap) (cAgg rTrn) cBool fun x t y => if namesOk x ∧ wordOk y.warm then some true else none
set_option maxHeartbeats 8000000 in
theorem ok16 : ∀ ds d, s16 ds = some d → PureC Tryz.prog 16 ds d := ok_sp3 fun x t y r hr => by
  split at hr
  · rename_i hc
    cases hr
    obtain ⟨hs, hy⟩ := hc
    refine pure_handD Tryz.func16 rfl rfl (Nat.le_of_ble_eq_true rfl) fun m w a I ha0 => ?_
    have fin : ∀ (bs : List (Nat × List X)) (tk : List Nat) (mp : List (Nat × (Nat × List (Value × Value)))) g' a' w', Inv 214 m (pureD w []) g' ⟨[(6, .d (DB true))], bs, tk, mp⟩ a' w' → bodyPostD Tryz.prog Tryz.f16 (RetR m w (DB true)) .ret a' w' := by
      intro bs tk mp g' a' w' I'
      refine post_ret (mkCx_ok dtb 214 kp16 []) I' (r := [DB true]) ?_ rfl
      rw [Tryz.results16]; simp
    refine am_cut (mkCx_ok dtb 214 kp16 []) 3 _ rfl (by kernel_rfl) (by kernel_rfl) (fun _ _ => rfl) _ _ _ _ I ?_
    by_cases h1 : (afterE x t y.plan).2 = 0
    · have hv := after_val h1
      obtain ⟨ha, hlost⟩ := after_ok.1 h1
      obtain ⟨hd0, ht, hl⟩ := asked_ok ha
      have hl30 := hl.2.1
      have hvB : validB x t y.plan = true := by unfold validB; simpa using ha
      have hAl := afterL_len x t y.plan y.plan.length
      have hAat : ∀ j (h : j < (afterL x t y.plan y.plan.length).length), (afterL x t y.plan y.plan.length)[j] = rngOf (stA x t y.plan (j + 1)) := fun j h => by
        have := afterL_at x t y.plan y.plan.length j (by omega)
        rw [getD_at _ _ _ h] at this; exact this
      generalize hA : afterL x t y.plan y.plan.length = A at *
      obtain ⟨hn, hb1, hb6, hbe⟩ := baths_of hd0
      simp [cutA, kp16, rDsh_enc, rDsh_dec, rTap_enc, rTap_dec, rTrn_enc, rDip_k, rDip_decL, rRng_k, rRng_decL, rInt_decL, rW_decL, tb, s22, s23, s40, s41, hs, hy, hl, hv, hvB, hAl, codeK_some]
      intro g1 a1 w1 I1
      show Code.wpIn _ _ _ (cutB 3 _) _ _ _
      refine wpIn_seq ?_
      have hne : x.baths.map rBth.enc ≠ [] := by
        intro h
        have : x.baths.length = 0 := by rw [← List.length_map (f := rBth.enc), h]; rfl
        omega
      have hrl : ∀ r ∈ x.baths.map rBth.enc, r.length = 3 := fun r hr => by
        obtain ⟨b, _, rfl⟩ := List.mem_map.1 hr; rfl
      have hbl : x.baths.length * 32 ≤ 140737488355328 := by omega
      refine am_appB (mkCx_ok dtb 214 kp16 []) 3 48 rfl rfl rfl rfl rfl rfl rfl rfl rfl rfl rfl I1 ?_
      have hbl2 : x.baths.length ≤ 140737488355328 := by omega
      simp [appPre, kp16, hne, hbl, hbl2, appKs, appSt_W x y.warm, regQs, allW, closeW]
      intro mm g2 a2 w2 I2
      show Code.wpIn _ _ _ _ _ _ _
      refine am_cut (mkCx_ok dtb 214 kp16 []) 0 _ rfl (by kernel_rfl) (by kernel_rfl) (fun _ _ => rfl) _ _ _ _ I2 ?_
      simp [cutA, kp16, allW, closeW]
      (generalize hLoopQ : Cx.loop _ _ _ = rLoopQ; apply loop_thenK hLoopQ (fun k => ⟨[(3, .loc 3 0), (4, .loc 4 0), (5, .loc 5 0), (7, .d (.sl 6 (A.map rRng.enc))), (9, .loc 9 0), (10, .d (DI k)), (48, .bs 48 0 x.baths.length 3)], [(3, [.d (DI x.melt), .d (DI x.coat), .d (DI x.thin), .d (DI x.hold), .d (DI x.back), .d (DI x.draw), .d (DI x.set), .d (DI x.run), .d (.sl 3 (x.baths.map rBth.enc))]), (4, [.d (DI t.wick), .d (DI t.top), .d (DI t.foot)]), (5, [.d (.sl 4 (y.plan.map rDip.enc)), .d (.sl 1 (y.warm.map (rK .u16).enc))]), (9, [.d (DI x.melt), .d (DI x.coat), .d (DI x.thin), .d (DI x.hold), .d (DI x.back), .d (DI x.draw), .d (DI x.set), .d (DI x.run), .bs 48 0 x.baths.length 3]), (48, cellsW x y.warm mm k)], [], []⟩) x.baths.length rfl; rotate_left; (show _ < 281474976710656; omega); (exact fun h => h); rotate_left; all_goals clear hLoopQ)
      · intro j hj
        obtain ⟨_, c1, c2, c3, _⟩ := cellsW_at (y := y.warm) (m := mm) hj
        have w1 := wrap_small ((j : Int) + 1) (by omega) (by omega)
        have hjl : (j : Int) < x.baths.length := by omega
        have hwn := widN_bd hy j
        obtain ⟨b1, b2, b3, b4, b5, b6⟩ := bathE_zero (hbe j hj)
        have b3 := inR_iff.1 b3
        have b4 := inR_iff.1 b4
        have hx := nums_of hn
        have m0 := hx.m0
        have m1 := hx.m1
        have hmx : (if x.melt < x.baths[j].warm.lo - widN y.warm j then x.baths[j].warm.lo - widN y.warm j else x.melt) = (widB x y.warm j x.baths[j]).warm.lo := by
          show _ = max x.melt _; omega
        have hmn : (if x.baths[j].warm.hi + widN y.warm j / 2 < 2000 then x.baths[j].warm.hi + widN y.warm j / 2 else 2000) = (widB x y.warm j x.baths[j]).warm.hi := by
          show _ = min 2000 _; omega
        have x1 := wrap_small (x.baths[j].warm.lo - widN y.warm j) (by omega) (by omega)
        have x2 : (widN y.warm j).tdiv 2 = widN y.warm j / 2 := Int.tdiv_eq_ediv_of_nonneg hwn.1
        have x3 := wrap_small (widN y.warm j / 2) (by omega) (by omega)
        have x4 := wrap_small (x.baths[j].warm.hi + widN y.warm j / 2) (by omega) (by omega)
        by_cases hwl : y.warm.length = 0
        · have hn0 : widN y.warm j = 0 := by unfold widN turnW; rw [if_pos hwl]; rfl
          simp [hn0] at hmx hmn x1 x4
          simp [kp16, allW, closeW, rDsh_enc, rSpn_enc, rSpn_dec, tb, s39, hj, hjl, hwl, w1, c1, c2, c3, x1, x2, x3, x4, hmx, hmn]
        · have hwl0 : 0 < y.warm.length := by omega
          have hq1 : (j : Int).tmod y.warm.length = ((j % y.warm.length : Nat) : Int) := by
            rw [Int.tmod_eq_emod_of_nonneg (by omega)]; rfl
          have hq2 : j % y.warm.length < y.warm.length := Nat.mod_lt _ hwl0
          have hq3 : widN y.warm j = y.warm.getD (j % y.warm.length) 0 % 40 := by unfold widN turnW; rw [if_neg hwl]
          rw [getD_at _ _ _ hq2] at hq3
          generalize j % y.warm.length = q at *
          have hqI : (q : Int) < y.warm.length := by omega
          have hqw := hy _ (List.getElem_mem hq2)
          have x5 := wrap_small y.warm[q] (by omega) (by omega)
          have x6 : y.warm[q].tmod 40 = widN y.warm j := by rw [Int.tmod_eq_emod_of_nonneg hqw.1, hq3]
          simp [hq1, hq2, hqI, rK_enc, x5, x6, kp16, allW, closeW, rDsh_enc, rSpn_enc, rSpn_dec, tb, s39, hj, hjl, hwl, hwl0, w1, c1, c2, c3, x1, x2, x3, x4, hmx, hmn]
      · simp [kp16, allW, closeW]
        rw [codeK_some]
        intro g3 a3 w3 I3
        obtain ⟨g4, I4⟩ := freezeS_at (mkCx_ok dtb 214 kp16 []) (b := 48) (bx := 9) (off := 8) (n := x.baths.length) (k := 3) (t := 9) (rows := (widS x y.warm).baths.map rBth.enc) (tail := List.replicate mm (.d .top)) rfl rfl rfl rfl (fun r hr => by
          obtain ⟨b, _, rfl⟩ := List.mem_map.1 hr; rfl) (by rw [List.length_map]; exact widL_len _ _ _) hbl2 (by decide) rfl I3 I3.deferred
        refine am_code (mkCx_ok dtb 214 kp16 []) (by kernel_rfl) (by kernel_rfl) I4 (fun _ _ => rfl) ?_
        have hd1 := wid_dchk hd0 hy
        have hs1 := names_wid y.warm hs
        have ha1 := wid_asked (t := t) ha hy
        have hst := wid_st (t := t) hl hy
        have eb : (widS x y.warm).baths.map rBth.enc = (widS x y.warm).baths.map rBth.enc := rfl
        have hdec : rDsh.dec [.v (.int .i64 x.melt), .v (.int .i64 x.coat), .v (.int .i64 x.thin), .v (.int .i64 x.hold), .v (.int .i64 x.back), .v (.int .i64 x.draw), .v (.int .i64 x.set), .v (.int .i64 x.run), .sl 3 ((widS x y.warm).baths.map rBth.enc)] = some (widS x y.warm) := rDsh.de (widS x y.warm)
        by_cases h2 : (afterE (widS x y.warm) t y.plan).2 = 0
        · have hv2 := after_val h2
          have hAl2 := afterL_len (widS x y.warm) t y.plan y.plan.length
          have hAat2 : ∀ j (h : j < (afterL (widS x y.warm) t y.plan y.plan.length).length), (afterL (widS x y.warm) t y.plan y.plan.length)[j] = rngOf (stA (widS x y.warm) t y.plan (j + 1)) := fun j h => by
            have := afterL_at (widS x y.warm) t y.plan y.plan.length j (by omega)
            rw [getD_at _ _ _ h] at this; exact this
          generalize afterL (widS x y.warm) t y.plan y.plan.length = A2 at *
          simp [cutB, kp16, rTap_enc, rTap_dec, rDip_k, rDip_decL, rRng_k, rRng_decL, hdec, tb, s22, s23, hs1, hv2, hAl, hAl2]
          (generalize hLoopQ : Cx.loop _ _ _ = rLoopQ; apply loop_thenK hLoopQ (fun k => ⟨[(7, .d (.sl 6 (A.map rRng.enc))), (13, .d (.sl 6 (A2.map rRng.enc))), (15, .d (DI k))], [], [], []⟩) y.plan.length rfl; rotate_left; (show _ < 281474976710656; omega); (exact fun h => h); rotate_left; all_goals clear hLoopQ)
          · intro j hj
            have w1 := wrap_small ((j : Int) + 1) (by omega) (by omega)
            have hjl : (j : Int) < y.plan.length := by omega
            have hjA : j < A.length := by omega
            have hjA2 : j < A2.length := by omega
            have q1 := hAat j hjA
            have q2 := hAat2 j hjA2
            obtain ⟨⟨t1, t2⟩, ⟨t3, t4⟩, t5, t6⟩ := hst (j + 1) hj
            have u1 : ¬ A[j].top.lo < A2[j].top.lo := by rw [q1, q2]; show ¬ (_ < _); simp only [rngOf]; omega
            have u2 : ¬ A2[j].top.hi < A[j].top.hi := by rw [q1, q2]; simp only [rngOf]; omega
            have u3 : ¬ A[j].foot.lo < A2[j].foot.lo := by rw [q1, q2]; simp only [rngOf]; omega
            have u4 : ¬ A2[j].foot.hi < A[j].foot.hi := by rw [q1, q2]; simp only [rngOf]; omega
            have u5 : ¬ A[j].skew.lo < A2[j].skew.lo := by rw [q1, q2]; simp only [rngOf]; omega
            have u6 : ¬ A2[j].skew.hi < A[j].skew.hi := by rw [q1, q2]; simp only [rngOf]; omega
            simp [kp16, rRng_enc, hj, hjl, hjA, hjA2, hAl, hAl2, w1, u1, u2, u3, u4, u5, u6]
          · simp [kp16, tb, s22, hAl, hAl2, codeK_some]
            exact fun g' a' w' I' => fin _ _ _ g' a' w' I'
        · have hv2 := after_bad h2
          have h9 := after_err ha1 h2
          rw [h9] at hv2
          simp [cutB, kp16, rTap_enc, rTap_dec, rDip_k, rDip_decL, rRng_k, rRng_decL, hdec, tb, s22, s23, hs1, hv2, codeK_some]
          exact fun g' a' w' I' => fin _ _ _ g' a' w' I'
    · have hv := after_bad h1
      have h1' : ((afterE x t y.plan).2 != 0) = true := by simpa using h1
      generalize (afterE x t y.plan).2 = e at *
      simp [cutA, kp16, rDsh_enc, rDsh_dec, rTap_enc, rTap_dec, rTrn_enc, rDip_k, rDip_decL, rRng_k, rRng_decL, rInt_decL, rW_decL, tb, s22, s23, s40, s41, hs, hv, h1, h1', codeK_some]
      exact fun g' a' w' I' => fin _ _ _ g' a' w' I'
  · cases hr
end Go.Proofs.YtcgacojnfkklaaaGreatDoor
