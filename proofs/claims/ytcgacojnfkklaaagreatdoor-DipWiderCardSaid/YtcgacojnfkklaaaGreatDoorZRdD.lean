/-
  The program's Read: its walk. Conditions: none.
-/
import Derived.Test.YtcgacojnfkklaaaGreatDoorZRd
namespace Go.Proofs.YtcgacojnfkklaaaGreatDoor
open Go.RowKit Go.Lib
set_option linter.unusedSimpArgs false
set_option linter.unusedVariables false
def kp33 (r : Nat) : List (Nat × Option Nat) := match r with
  | 0 => [(1, none), (2, none), (4, none), (5, none)]
  | 1 => [(1, none), (2, none), (4, none), (5, none)]
  | 2 => [(1, none), (2, none), (4, none), (5, none), (20, none)]
  | 3 => [(4, none), (5, none)]
  | 4 => [(1, none), (2, none), (4, none), (5, none), (24, none)]
  | 5 => [(4, none), (5, none)]
  | 6 => [(1, none), (2, none), (4, none), (5, none)]
  | 7 => [(1, none), (4, none), (5, none), (6, none)]
  | 8 => [(1, none), (4, none), (5, none), (6, none), (29, none)]
  | 9 => [(4, none), (5, none), (6, none), (7, none), (8, none), (9, none)]
  | 10 => [(4, none), (5, none), (6, none), (8, none), (9, none), (10, none)]
  | 11 => [(4, none), (5, none), (6, none), (8, none), (10, none)]
  | 12 => [(4, none), (5, none), (6, none), (8, none), (10, none), (11, none)]
  | 13 => [(4, none), (5, none), (6, none), (8, none), (12, none)]
  | 14 => [(4, none), (5, none), (6, none), (8, none), (12, none)]
  | 15 => [(1, none), (4, none), (5, none), (6, none)]
  | 16 => [(4, none), (5, none)]
  | _ => []
def df33 (r : Nat) : List (Nat × Nat) := match r with
  | 3 => [(0, 1)]
  | _ => []
def pq33 (r : Nat) : List (Nat × List Nat) := match r with
  | 13 => [(4, [8, 12, 14]), (8, [12, 14])]
  | _ => []
def g33l : List (Nat × (List D → Option D)) := (18, s18) :: (80, s80) :: (81, s81) :: (82, s82) :: (83, s83b) :: (85, s85) :: (86, s86) :: (84, s84) :: (48, s48) :: []
theorem call86' (xs : Array Value) (w : World) : (callFunc 86 xs).run Tryz.prog w = .ok (.enter 86 xs) w := by kernel_rfl
theorem dg33 : DelOk Tryz.prog (delOf g33l) := del_cons (del_cons (del_cons (del_cons (del_cons (del_cons (del_cons (del_cons (del_cons del_nil call48 ok48) call84 ok84) call86' ok86) call85 ok85) call83 ok83b) call82 ok82) call81 ok81) call80 ok80) call18 ok18
set_option maxHeartbeats 4000000 in
theorem ok33P (x : Dsh) (t : ByteArray) (hs : namesOk x) : PureC Tryz.prog 33 [(cAgg rDsh).enc x, cStr.enc t] ((cTup2 (cList rDip) cInt).enc (readP x t)) := by
  refine pure_handD Tryz.func33 rfl rfl (Nat.le_of_ble_eq_true rfl) fun m w a I ha => ?_
  refine am_cut (mkCxP_ok dg33 po2 92 kp33 [(4, 0, 4)] df33 pq33) 2 _ rfl (by kernel_rfl) (by kernel_rfl) (fun _ _ => rfl) _ _ _ _ I ?_
  generalize hQ : (bodyPostD Tryz.prog Tryz.f33 (RetR m w ((cTup2 (cList rDip) cInt).enc (readP x t)))) = Q
  have hlm := blen_or x
  by_cases h1 : (dchk x).2.2 = 0
  · have hlm := hlm.resolve_right (by simpa using h1)
    by_cases h2 : 2000 < t.size
    · have h2' : (2000 : Int) < t.size := by omega
      simp [cutA, kp33, df33, rDsh_enc, rDsh_dec, g33l, s18, hs, hlm, h1, h2', codeK_some]
      intro g' a' w' I'
      show Q .ret a' w'
      subst hQ
      have hR : readP x t = ([], 3) := by unfold readP; rw [if_neg (by simpa using h1), if_pos h2]
      rw [hR]
      refine post_ret_dec (cTup2 (cList rDip) cInt) ([], 3) (mkCxP_ok dg33 po2 92 kp33 [(4, 0, 4)] df33 pq33) I' (rs := [.sl 4 [], DI 3]) ?_ ?_
      · rw [Tryz.results33]; simp
      · simp
    · have h2' : ¬ (2000 : Int) < t.size := by omega
      simp [cutA, kp33, df33, rDsh_enc, rDsh_dec, g33l, s18, hs, hlm, h1, h2', codeK_some]
      intro g1 a1 w1 I1
      show Code.wpIn _ _ _ (cutB 2 _) _ _ _
      refine wpIn_seq ?_
      have hd1 := I1.deferred
      obtain ⟨b4, o4, p4⟩ := I1.tmps 4 (.loc 4 0) (by simp [getA])
      obtain ⟨b5, o5, p5⟩ := I1.tmps 5 (.loc 5 0) (by simp [getA])
      refine wpIn_region_list ?_
      unfold wpListIn
      rw [if_pos (by simp [Region.wanted])]
      refine wp_val (.inl rfl) (v := .func (.func 79) #[] #[.pointer (some ⟨b4, 0, none⟩), .pointer (some ⟨b5, 0, none⟩)]) (w' := w1) ?_ ?_
      · simp [execOp, Act.eval, p4, p5]
        rfl
      unfold wpListIn
      rw [if_pos (by simp [Region.wanted])]
      have I2 := I1.put (d := some 25) (v := .func (.func 79) #[] #[.pointer (some ⟨b4, 0, none⟩), .pointer (some ⟨b5, 0, none⟩)]) (fun x h => by cases h; decide) (x := .d .top) (by simp only [RelX, Rel])
      generalize hD : ({ target := .fn (.func 79) #[.pointer (some ⟨b4, 0, none⟩), .pointer (some ⟨b5, 0, none⟩)], args := #[] } : Deferred) = D
      refine wp_defer (d := D) ?_ ?_
      · have : (a1.put (some 25) (.func (.func 79) #[] #[.pointer (some ⟨b4, 0, none⟩), .pointer (some ⟨b5, 0, none⟩)])).tmps.getD 25 undef = .func (.func 79) #[] #[.pointer (some ⟨b4, 0, none⟩), .pointer (some ⟨b5, 0, none⟩)] := by
          rw [putAct_get _ _ _ _ (by rw [I1.size]; decide), if_pos rfl]
        subst hD
        simp [execOp, resolve, Deferred.ofValue, Act.eval, this]
      unfold wpListIn
      simp only [Exit.then]
      have hb4 := (I1.boxb 4 b4 o4).1.resolve_right (pureD_no w [] b4)
      have hb5 := (I1.boxb 5 b5 o5).1.resolve_right (pureD_no w [] b5)
      have hob : ∀ i b, outR b4 b5 i = some b → w.heap.size ≤ b := by
        intro i b h
        unfold outR at h
        split at h
        · cases h; exact hb4
        · split at h
          · cases h; exact hb5
          · cases h
      have I3 := I2.pushO (outR b4 b5) (fun i b h => by
        unfold outR at h
        split at h
        · rename_i e; cases h; subst e; exact o4
        · split at h
          · rename_i e; cases h; subst e; exact o5
          · cases h) [D] ({ (a1.put (some 25) (.func (.func 79) #[] #[.pointer (some ⟨b4, 0, none⟩), .pointer (some ⟨b5, 0, none⟩)])) with defers := D :: (a1.put (some 25) (.func (.func 79) #[] #[.pointer (some ⟨b4, 0, none⟩), .pointer (some ⟨b5, 0, none⟩)])).defers }) rfl (by show D :: (a1.put _ _).defers = [D]; rw [putAct_defers, hd1])
      have caught : ∀ (σ' : St) (x4 x5 : X) (g' : Gh) (a' : Act) (w' : World), Inv 92 m (pureO w (outR b4 b5) [D]) g' σ' a' w' → getA σ'.tmps 4 = some (.loc 4 0) → getA σ'.tmps 5 = some (.loc 5 0) → getA σ'.boxes 4 = some [x4] → getA σ'.boxes 5 = some [x5] → readP x t = ([], 6) → Q (.panic [{ v := formV, recovered := false }]) a' w' := by
        intro σ' x4 x5 g' a' w' I' t4 t5 y4 y5 hR
        have hd' : a'.defers = [D] := I'.noMark (c := mkCxP g33l [(82, p82), (85, p85)] 92 kp33 [(4, 0, 4)] df33 pq33) (fun h => h)
        subst hQ
        rw [hR]
        show Leaves _ _ _ _ a'.defers _ _
        rw [hd']
        refine leaves_catch hD.symm call79 (catch79 I' hd' t4 t5 y4 y5) ?_
        rintro w'' ⟨g'', I''⟩
        exact inv_ret_dec (cTup2 (cList rDip) cInt) ([], 6) (mkCxP_ok dg33 po2 92 kp33 [(4, 0, 4)] df33 pq33) (I''.dropO hob) (rs := [.sl 0 [], DI 6]) (by rw [Tryz.results33]; simp) (by simp)
      have back : ∀ (σ' : St) (l : List Dip) (g' : Gh) (a' : Act) (w' : World), Inv 92 m (pureO w (outR b4 b5) [D]) g' σ' a' w' → aResS tys σ' [.cell 4 27, .cell 5 31] = some [.sl 4 (l.map rDip.enc), DI 0] → readP x t = (l, 0) → Q .ret a' w' := by
        intro σ' l g' a' w' I' hres hR
        have hd' : a'.defers = [D] := I'.noMark (c := mkCxP g33l [(82, p82), (85, p85)] 92 kp33 [(4, 0, 4)] df33 pq33) (fun h => h)
        subst hQ
        rw [hR]
        show Leaves _ _ _ _ a'.defers _ _
        rw [hd']
        refine leaves_idle hD.symm call79 (idle79 _ _ _) ?_
        refine inv_ret_dec (cTup2 (cList rDip) cInt) (l, 0) (mkCxP_ok dg33 po2 92 kp33 [(4, 0, 4)] df33 pq33) (I'.dropO hob) (rs := [.sl 4 (l.map rDip.enc), DI 0]) (by rw [Tryz.results33]; exact hres) (by simp [rDip_decL])
      refine am_code (mkCxP_ok dg33 po2 92 kp33 [(4, 0, 4)] df33 pq33) (by kernel_rfl) (by kernel_rfl) I3 (noOut (by kernel_rfl)) ?_
      simp [kp33, df33]
      obtain ⟨n, s, l, hrun, hend, hstop⟩ := runP_end x t
      have hn30 := runP_le x t n s l hrun
      obtain ⟨T, L, dd, hT0, hL0, hTn, hLn, hTL⟩ := runP_upto hrun
      have hsz : ∀ j, j ≤ n → (T j).size ≤ 2000 := by
        intro j
        induction j with
        | zero => intro _; rw [hT0]; omega
        | succ j ih =>
          intro hj
          obtain ⟨_, _, _, _, _, _, _, _, _, _, hr⟩ := (hTL j (by omega)).imp id (fun h => (stepP_some h.1).imp id fun h => h)
          have := rest_size (T j)
          have := ih (by omega)
          rw [hr]; omega
      have hLr : ∀ j, j ≤ n → runP x t j = some (T j, L j) := by
        intro j
        induction j with
        | zero => intro _; rw [hT0, hL0]; rfl
        | succ j ih =>
          intro hj
          obtain ⟨q1, q2, q3⟩ := hTL j (by omega)
          simp only [runP, ih (by omega), if_neg q1, q2, q3]
      generalize hLoopQ : Cx.loop _ _ _ = rLoopQ
      apply loop_thenK hLoopQ (fun k => ⟨[(1, .d (DS (T k))), (4, .loc 4 0), (5, .loc 5 0), (6, .loc 6 0)], [(4, [.sl 4 ((L k).map rDip.enc) (.tok 100400)]), (5, [.d (DI 0)]), (6, [.d (DI x.melt), .d (DI x.coat), .d (DI x.thin), .d (DI x.hold), .d (DI x.back), .d (DI x.draw), .d (DI x.set), .d (DI x.run), .d (.sl 3 (x.baths.map rBth.enc))])], [100400], []⟩) n (by simp only [hT0, hL0]; rfl)
      rotate_left
      · show _ < 281474976710656; omega
      · exact fun h => h
      rotate_left
      all_goals clear hLoopQ
      · intro j hj
        obtain ⟨hne, hst, hLj⟩ := hTL j hj
        obtain ⟨hh, hf, na, nb, ha, hb, hd, hde, hj30, hr⟩ := stepP_some hst
        obtain ⟨A, B, hc, hB, hW, hA1, hB1⟩ := round_at (T j)
        have hTs := hsz j (by omega)
        have hT5 : (T j).size < 100000 := by omega
        have hwm := words_mem (T j)
        rw [hh] at hc
        rw [hr, hB, hLj, hd]
        have hLl := runP_len x t j (T j) (L j) (hLr j (by omega))
        have hemp : ((T j).toList == []) = false := by
          rw [ByteArray.toList_eq]
          cases hq : ((T j).data.toList == ([] : List UInt8))
          · rfl
          · exfalso
            have : (T j).data.toList = [] := by simpa using hq
            apply hne
            have h5 : (T j).data.toList.length = 0 := by rw [this]; rfl
            simpa using h5
        have hAl : (⟨A.toArray⟩ : ByteArray).size < 100000 := by rw [ba_size]; omega
        have z1 : (⟨#[32]⟩ : ByteArray).size = 1 := rfl
        generalize hWW : wordsB (T j) = ws at *
        have hi30 : (j : Int) < 30 := by omega
        have hcap : j ≤ 140737488355327 := by omega
        have hcap2 : (j + 1) * 32 ≤ 140737488355328 := by omega
        have r3 : inR 3 3 4 = true := rfl
        have r4 : inR 4 3 4 = true := rfl
        unfold formB at hf
        simp only [Bool.or_eq_true, Bool.and_eq_true, beq_iff_eq] at hf
        rcases hf with h3 | ⟨h4, h5⟩
        · have g0 : 0 < ws.length := by omega
          have g1 : 1 < ws.length := by omega
          have g2 : 2 < ws.length := by omega
          rw [getD_at _ _ _ g1] at ha
          rw [getD_at _ _ _ g2] at hb
          have y1 : ws[1].size ≤ 100000 := by have := hwm _ (List.getElem_mem g1); omega
          have y2 : ws[2].size ≤ 100000 := by have := hwm _ (List.getElem_mem g2); omega
          have e4 : (ws.length == 4) = false := by rw [h3]; rfl
          have hdec : rDip.dec [DI (idxF (firstB ws) x.baths), DI na, DI nb, DB false] = some ⟨idxF (firstB ws) x.baths, na, nb, false⟩ := rfl
          have hde' : dipE x ⟨idxF (firstB ws) x.baths, na, nb, false⟩ = 0 := by rw [← hde, dipB, e4]
          have hdip : dipB x ws na nb = ⟨idxF (firstB ws) x.baths, na, nb, false⟩ := by rw [dipB, e4]
          rw [hdip]
          simp [kp33, df33, pq33, g33l, s80, s81, s82, s83b, s48, s85, s86, hemp, hT5, hc, hW, hAl, z1, h3, g0, g1, g2, ha, hb, y1, y2, rStr_k, rStr_decL, cFirst_dec, out2, int_dec1, out1, hlm, rBth_decL, rDsh_enc, rDsh_dec, rDip_enc, hdec, hde', hLl, hi30, hcap, hcap2, r3, r4]
        · have g0 : 0 < ws.length := by omega
          have g1 : 1 < ws.length := by omega
          have g2 : 2 < ws.length := by omega
          have g3 : 3 < ws.length := by omega
          rw [getD_at _ _ _ g1] at ha
          rw [getD_at _ _ _ g2] at hb
          rw [getD_at _ _ _ g3] at h5
          have h5' : (ws[3].toList == [116, 117, 114, 110, 101, 100]) = true := by simpa [turnB] using h5
          have y1 : ws[1].size ≤ 100000 := by have := hwm _ (List.getElem_mem g1); omega
          have y2 : ws[2].size ≤ 100000 := by have := hwm _ (List.getElem_mem g2); omega
          have e4 : (ws.length == 4) = true := by rw [h4]; rfl
          have hdec : rDip.dec [DI (idxF (firstB ws) x.baths), DI na, DI nb, DB true] = some ⟨idxF (firstB ws) x.baths, na, nb, true⟩ := rfl
          have hde' : dipE x ⟨idxF (firstB ws) x.baths, na, nb, true⟩ = 0 := by rw [← hde, dipB, e4]
          have hdip : dipB x ws na nb = ⟨idxF (firstB ws) x.baths, na, nb, true⟩ := by rw [dipB, e4]
          rw [hdip]
          simp [kp33, df33, pq33, g33l, s80, s81, s82, s83b, s48, s85, s86, hemp, hT5, hc, hW, hAl, z1, h4, g0, g1, g2, g3, h5', ha, hb, y1, y2, rStr_k, rStr_decL, cFirst_dec, out2, int_dec1, out1, hlm, rBth_decL, rDsh_enc, rDsh_dec, rDip_enc, hdec, hde', hLl, hi30, hcap, hcap2, r3, r4]
      · have hread := readP_at h1 h2 hrun hstop
        have hTs := hsz n (Nat.le_refl _)
        have hLl := runP_len x t n s l hrun
        rcases hend with hz0 | ⟨hne, hst⟩
        · rw [if_pos hz0] at hread
          have hemp : ((T n).toList == []) = true := by
            rw [ByteArray.toList_eq, hTn]
            have h5 : s.data.toList.length = 0 := by simpa using hz0
            simp [List.length_eq_zero_iff.1 h5]
          simp [kp33, df33, pq33, hemp, codeK_some]
          intro g' a' w' I'
          refine back _ l g' a' w' I' ?_ hread
          simp [hLn]
        · rw [if_neg hne] at hread
          have hemp : ((T n).toList == []) = false := by
            rw [ByteArray.toList_eq, hTn]
            cases hq : (s.data.toList == ([] : List UInt8))
            · rfl
            · exfalso
              have : s.data.toList = [] := by simpa using hq
              apply hne
              have h5 : s.data.toList.length = 0 := by rw [this]; rfl
              simpa using h5
          obtain ⟨A, B, hc, hB, hW, hA1, hB1⟩ := round_at (T n)
          have hT5 : (T n).size < 100000 := by omega
          have hwm := words_mem (T n)
          have hAl : (⟨A.toArray⟩ : ByteArray).size < 100000 := by rw [ba_size]; omega
          have z1 : (⟨#[32]⟩ : ByteArray).size = 1 := rfl
          have r3 : inR 3 3 4 = true := rfl
          have r4 : inR 4 3 4 = true := rfl
          have e82 : p82 [DB false] = some formV := rfl
          rw [← hTn] at hst
          rcases stepP_none hst with hh | ⟨hh, hf⟩ | ⟨hh, hf, hbad⟩
          · rw [hh] at hc
            simp [kp33, df33, pq33, g33l, s80, s81, s82, s48, hemp, hT5, hc, hW, hAl, z1, e82, codeK_some]
            intro g' a' w' I'
            exact caught _ _ _ g' a' w' I' (by simp [getA]) (by simp [getA]) (by simp [getA]; rfl) (by simp [getA]; rfl) hread
          · rw [hh] at hc
            generalize hWW : wordsB (T n) = ws at *
            unfold formB at hf
            simp only [Bool.or_eq_false_iff, Bool.and_eq_false_iff, beq_eq_false_iff_ne] at hf
            obtain ⟨hn3, hn4⟩ := hf
            by_cases h4 : ws.length = 4
            · have g3 : 3 < ws.length := by omega
              have h5 := hn4.resolve_left (fun h => h h4)
              rw [getD_at _ _ _ g3] at h5
              have h5' : (ws[3].toList == [116, 117, 114, 110, 101, 100]) = false := by simpa [turnB] using h5
              simp [kp33, df33, pq33, g33l, s80, s81, s82, s83b, s48, s85, s86, hemp, hT5, hc, hW, hAl, z1, rStr_k, rStr_decL, cFirst_dec, out2, int_dec1, out1, hlm, rBth_decL, rDsh_enc, rDsh_dec, rDip_enc, e82, codeK_some, h4, g3, h5', r4]
              intro g' a' w' I'
              exact caught _ _ _ g' a' w' I' (by simp [getA]) (by simp [getA]) (by simp [getA]; rfl) (by simp [getA]; rfl) hread
            · have r0 : inR ws.length 3 4 = false := by
                cases hq : inR ws.length 3 4 with
                | false => rfl
                | true => rw [inR_iff] at hq; omega
              simp [kp33, df33, pq33, g33l, s80, s81, s82, s83b, s48, s85, s86, hemp, hT5, hc, hW, hAl, z1, rStr_k, rStr_decL, cFirst_dec, out2, int_dec1, out1, hlm, rBth_decL, rDsh_enc, rDsh_dec, rDip_enc, e82, codeK_some, r0]
              intro g' a' w' I'
              exact caught _ _ _ g' a' w' I' (by simp [getA]) (by simp [getA]) (by simp [getA]; rfl) (by simp [getA]; rfl) hread
          · rw [hh] at hc
            generalize hWW : wordsB (T n) = ws at *
            unfold formB at hf
            simp only [Bool.or_eq_true, Bool.and_eq_true, beq_iff_eq] at hf
            have hcap : n ≤ 140737488355327 := by omega
            have hcap2 : (n + 1) * 32 ≤ 140737488355328 := by omega
            have g0 : 0 < ws.length := by omega
            have g1 : 1 < ws.length := by omega
            have g2 : 2 < ws.length := by omega
            rw [getD_at _ _ _ g1, getD_at _ _ _ g2] at hbad
            have y1 : ws[1].size ≤ 100000 := by have := hwm _ (List.getElem_mem g1); omega
            have y2 : ws[2].size ≤ 100000 := by have := hwm _ (List.getElem_mem g2); omega
            have x1 : numP ws[1] = none → p85 [DS ws[1]] = some formV := fun h => by simp only [p85]; rw [if_pos ⟨y1, h⟩]
            have x2 : numP ws[2] = none → p85 [DS ws[2]] = some formV := fun h => by simp only [p85]; rw [if_pos ⟨y2, h⟩]
            rcases hf with h3 | ⟨h4, h5⟩
            · skip
              rcases hbad with hb1 | ⟨⟨na, ha⟩, hb2⟩ | ⟨na, nb, ha, hb, hde⟩
              · have x1' := x1 hb1
                simp [kp33, df33, pq33, g33l, s80, s81, s82, s83b, s48, s85, s86, hemp, hT5, hc, hW, hAl, z1, rStr_k, rStr_decL, cFirst_dec, out2, int_dec1, out1, hlm, rBth_decL, rDsh_enc, rDsh_dec, rDip_enc, e82, codeK_some, h3, g0, g1, g2, hb1, x1', y1, y2, r3, r4]
                intro g' a' w' I'
                exact caught _ _ _ g' a' w' I' (by simp [getA]) (by simp [getA]) (by simp [getA]; rfl) (by simp [getA]; rfl) hread
              · have x2' := x2 hb2
                have x0 : p85 [DS ws[1]] = none := by simp only [p85]; rw [if_neg (by simp [ha])]
                simp [kp33, df33, pq33, g33l, s80, s81, s82, s83b, s48, s85, s86, hemp, hT5, hc, hW, hAl, z1, rStr_k, rStr_decL, cFirst_dec, out2, int_dec1, out1, hlm, rBth_decL, rDsh_enc, rDsh_dec, rDip_enc, e82, codeK_some, h3, g0, g1, g2, ha, hb2, x0, x2', y1, y2, r3, r4]
                intro g' a' w' I'
                exact caught _ _ _ g' a' w' I' (by simp [getA]) (by simp [getA]) (by simp [getA]; rfl) (by simp [getA]; rfl) hread
              · have e4 : (ws.length == 4) = false := by rw [h3]; rfl
                have hdec : rDip.dec [DI (idxF (firstB ws) x.baths), DI na, DI nb, DB false] = some ⟨idxF (firstB ws) x.baths, na, nb, false⟩ := rfl
                rw [dipB, e4] at hde
                rcases hde with hde | ⟨hde, hn⟩
                · have hde' : (dipE x ⟨idxF (firstB ws) x.baths, na, nb, false⟩ == 0) = false := by simpa using hde
                  simp [kp33, df33, pq33, g33l, s80, s81, s82, s83b, s48, s85, s86, hemp, hT5, hc, hW, hAl, z1, rStr_k, rStr_decL, cFirst_dec, out2, int_dec1, out1, hlm, rBth_decL, rDsh_enc, rDsh_dec, rDip_enc, e82, codeK_some, h3, g0, g1, g2, ha, hb, y1, y2, hdec, hde', r3, r4]
                  intro g' a' w' I'
                  exact caught _ _ _ g' a' w' I' (by simp [getA]) (by simp [getA]) (by simp [getA]; rfl) (by simp [getA]; rfl) hread
                · have hi30 : ¬ (l.length : Int) < 30 := by omega
                  simp [kp33, df33, pq33, g33l, s80, s81, s82, s83b, s48, s85, s86, hemp, hT5, hc, hW, hAl, z1, rStr_k, rStr_decL, cFirst_dec, out2, int_dec1, out1, hlm, rBth_decL, rDsh_enc, rDsh_dec, rDip_enc, e82, codeK_some, h3, g0, g1, g2, ha, hb, y1, y2, hdec, hde, hLn, hi30, r3, r4]
                  intro g' a' w' I'
                  exact caught _ _ _ g' a' w' I' (by simp [getA]) (by simp [getA]) (by simp [getA]; rfl) (by simp [getA]; rfl) hread
            · have g3 : 3 < ws.length := by omega
              rw [getD_at _ _ _ g3] at h5
              have h5' : (ws[3].toList == [116, 117, 114, 110, 101, 100]) = true := by simpa [turnB] using h5
              rcases hbad with hb1 | ⟨⟨na, ha⟩, hb2⟩ | ⟨na, nb, ha, hb, hde⟩
              · have x1' := x1 hb1
                simp [kp33, df33, pq33, g33l, s80, s81, s82, s83b, s48, s85, s86, hemp, hT5, hc, hW, hAl, z1, rStr_k, rStr_decL, cFirst_dec, out2, int_dec1, out1, hlm, rBth_decL, rDsh_enc, rDsh_dec, rDip_enc, e82, codeK_some, h4, g0, g1, g2, g3, h5', hb1, x1', y1, y2, r3, r4]
                intro g' a' w' I'
                exact caught _ _ _ g' a' w' I' (by simp [getA]) (by simp [getA]) (by simp [getA]; rfl) (by simp [getA]; rfl) hread
              · have x2' := x2 hb2
                have x0 : p85 [DS ws[1]] = none := by simp only [p85]; rw [if_neg (by simp [ha])]
                simp [kp33, df33, pq33, g33l, s80, s81, s82, s83b, s48, s85, s86, hemp, hT5, hc, hW, hAl, z1, rStr_k, rStr_decL, cFirst_dec, out2, int_dec1, out1, hlm, rBth_decL, rDsh_enc, rDsh_dec, rDip_enc, e82, codeK_some, h4, g0, g1, g2, g3, h5', ha, hb2, x0, x2', y1, y2, r3, r4]
                intro g' a' w' I'
                exact caught _ _ _ g' a' w' I' (by simp [getA]) (by simp [getA]) (by simp [getA]; rfl) (by simp [getA]; rfl) hread
              · have e4 : (ws.length == 4) = true := by rw [h4]; rfl
                have hdec : rDip.dec [DI (idxF (firstB ws) x.baths), DI na, DI nb, DB true] = some ⟨idxF (firstB ws) x.baths, na, nb, true⟩ := rfl
                rw [dipB, e4] at hde
                rcases hde with hde | ⟨hde, hn⟩
                · have hde' : (dipE x ⟨idxF (firstB ws) x.baths, na, nb, true⟩ == 0) = false := by simpa using hde
                  simp [kp33, df33, pq33, g33l, s80, s81, s82, s83b, s48, s85, s86, hemp, hT5, hc, hW, hAl, z1, rStr_k, rStr_decL, cFirst_dec, out2, int_dec1, out1, hlm, rBth_decL, rDsh_enc, rDsh_dec, rDip_enc, e82, codeK_some, h4, g0, g1, g2, g3, h5', ha, hb, y1, y2, hdec, hde', r3, r4]
                  intro g' a' w' I'
                  exact caught _ _ _ g' a' w' I' (by simp [getA]) (by simp [getA]) (by simp [getA]; rfl) (by simp [getA]; rfl) hread
                · have hi30 : ¬ (l.length : Int) < 30 := by omega
                  simp [kp33, df33, pq33, g33l, s80, s81, s82, s83b, s48, s85, s86, hemp, hT5, hc, hW, hAl, z1, rStr_k, rStr_decL, cFirst_dec, out2, int_dec1, out1, hlm, rBth_decL, rDsh_enc, rDsh_dec, rDip_enc, e82, codeK_some, h4, g0, g1, g2, g3, h5', ha, hb, y1, y2, hdec, hde, hLn, hi30, r3, r4]
                  intro g' a' w' I'
                  exact caught _ _ _ g' a' w' I' (by simp [getA]) (by simp [getA]) (by simp [getA]; rfl) (by simp [getA]; rfl) hread
  · have h1' : ((dchk x).2.2 != 0) = true := by simpa using h1
    simp [cutA, kp33, df33, rDsh_enc, rDsh_dec, g33l, s18, hs, hlm, h1, h1', codeK_some]
    intro g' a' w' I'
    show Q .ret a' w'
    subst hQ
    have hR : readP x t = ([], (dchk x).2.2) := by unfold readP; rw [if_pos h1]
    rw [hR]
    refine post_ret_dec (cTup2 (cList rDip) cInt) ([], (dchk x).2.2) (mkCxP_ok dg33 po2 92 kp33 [(4, 0, 4)] df33 pq33) I' (rs := [.sl 4 [], DI (dchk x).2.2]) ?_ ?_
    · rw [Tryz.results33]; simp
    · simp
end Go.Proofs.YtcgacojnfkklaaaGreatDoor
