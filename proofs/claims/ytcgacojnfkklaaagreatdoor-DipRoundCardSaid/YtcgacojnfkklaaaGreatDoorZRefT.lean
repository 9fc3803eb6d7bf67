/-
  Reference functions of the dip chapter: Read. Conditions: none.
-/
import Derived.Test.YtcgacojnfkklaaaGreatDoorZRefS
namespace Go.Proofs.YtcgacojnfkklaaaGreatDoor
open Go.RowKit
set_option linter.unusedSimpArgs false
set_option linter.unusedVariables false
def lineD (x : Dsh) (w : List ByteArray) : Nat → Dip
  | 0 => ⟨-1, 0, 0, ((w.length : Int) == 4)⟩
  | k + 1 => if ((x.baths.getD k default).name.toList == (w.getD 0 default).toList) = true then ⟨k, numV (w.getD 1 default), numV (w.getD 2 default), ((w.length : Int) == 4)⟩ else lineD x w k
def parseL (x : Dsh) (line : ByteArray) : Dip := if 3 ≤ (splitV line 32).length then lineD x (splitV line 32) x.baths.length else lineD x (splitV line 32) 0
def planR (x : Dsh) (lines : List ByteArray) : Nat → List Dip
  | 0 => []
  | k + 1 => planR x lines k ++ [parseL x (lines.getD k default)]
def candR (x : Dsh) (text : ByteArray) : List Dip := planR x (splitV text 10) ((splitV text 10).length - 1)
def readR (x : Dsh) (text : ByteArray) : List Dip × Int :=
  if ¬ (dchk x).2.2 = 0 then ([], (dchk x).2.2) else if 2000 < text.size then ([], 3) else
  if planE x (candR x text) = 0 ∧ (textV x (candR x text)).toList = text.toList then (candR x text, 0) else ([], 6)
theorem splitS_mem (s : ByteArray) (b : Int) : ∀ i, ∀ p ∈ (splitS s b i).1, p.size ≤ s.size
  | 0, p, h => by simp [splitS] at h
  | i + 1, p, h => by
    unfold splitS at h
    split at h
    · simp only [List.mem_append, List.mem_singleton] at h
      rcases h with h | rfl
      · exact splitS_mem s b i p h
      · rw [ByteArray.size_extract]; omega
    · exact splitS_mem s b i p h
theorem splitV_mem (s : ByteArray) (b : Int) : ∀ p ∈ splitV s b, p.size ≤ s.size := by
  intro p h
  simp only [splitV, List.mem_append, List.mem_singleton] at h
  rcases h with h | rfl
  · exact splitS_mem s b _ p h
  · rw [ByteArray.size_extract]; omega
theorem splitV_len (s : ByteArray) (b : Int) : 1 ≤ (splitV s b).length ∧ (splitV s b).length ≤ s.size + 1 := by
  have := (splitS_le s b s.size).2
  simp [splitV]; omega
theorem planR_len (x : Dsh) (lines : List ByteArray) : ∀ k, (planR x lines k).length = k
  | 0 => rfl
  | k + 1 => by simp [planR, planR_len x lines k]
def lR : List (Nat × (List D → Option D)) := (87, s87) :: (88, s88) :: lW
theorem delR : DelOk Tryz.prog (delOf lR) := del_cons (del_cons delW call88 ok88) call87 ok87
def s34 : List D → Option D := sp2 (cAgg rDsh) cStr (cTup2 (cList rDip) cInt) fun x s => some (readR x s)
set_option maxHeartbeats 4000000 in
theorem ok34 : ∀ ds d, s34 ds = some d → PureC Tryz.prog 34 ds d := ok_sp2 fun x s r hr => by
  · cases hr
    have hlm := blen_or x
    refine pure_of_dec (cTup2 (cList rDip) cInt) _ (mkCx_ok delR 99 kp34 []) Tryz.func34 rfl rfl (Nat.le_of_ble_eq_true rfl) (by kernel_rfl) ?_
    rw [Tryz.results34]
    by_cases h1 : (dchk x).2.2 = 0
    · have hlm := hlm.resolve_right (by simpa using h1)
      by_cases h2 : 2000 < s.size
      · have h2' : (2000 : Int) < s.size := by omega
        have hR : readR x s = ([], 3) := by unfold readR; rw [if_neg (by simpa using h1), if_pos h2]
        rw [hR]
        simp [kp34, rDsh_enc, rDsh_dec, lR, lW, lT, l5, l4, s19, h1, h2']
      · have h2' : ¬ (2000 : Int) < s.size := by omega
        have hs : s.size ≤ 2000 := by omega
        simp [kp34, rDsh_enc, rDsh_dec, lR, lW, lT, l5, l4, s19, s87, h1, h2', hs]
        have hlen := splitV_len s 10
        obtain ⟨n, hn⟩ : ∃ n, (splitV s 10).length = n + 1 := ⟨(splitV s 10).length - 1, by omega⟩
        have hn2 : n ≤ 2000 := by omega
        generalize hL : splitV s 10 = L at *
        (generalize hLoopQ : Cx.loop _ _ _ = rLoopQ; apply loop_then hLoopQ (fun k => ⟨[(1, .d (DS s)), (2, .loc 2 0), (9, .d (.sl 1 (L.map rStr.enc))), (10, .sl 4 ((planR x L k).map rDip.enc) (.tok 10)), (11, .d (DI k))], [(2, [.d (DI x.melt), .d (DI x.coat), .d (DI x.thin), .d (DI x.hold), .d (DI x.back), .d (DI x.draw), .d (DI x.set), .d (DI x.run), .d (.sl 3 (x.baths.map rBth.enc))])], [10], []⟩) n rfl; rotate_left; (show _ < 281474976710656; omega); rfl; rotate_left; all_goals clear hLoopQ)
        · intro k hk
          have hkL : k < L.length := by omega
          have hkI : (k : Int) + 1 < L.length := by omega
          have hkI' : (k : Int) < L.length := by omega
          have w1 := wrap_small ((k : Int) + 1) (by omega) (by omega)
          have hlz : L[k].size ≤ 2000 := Nat.le_trans (splitV_mem s 10 _ (by rw [hL]; exact List.getElem_mem hkL)) hs
          have hnext : planR x L (k + 1) = planR x L k ++ [parseL x L[k]] := by rw [planR, getD_at _ _ _ hkL]
          have hpl := planR_len x L k
          have c1 : k ≤ 140737488355327 := by omega
          have c2 : (k + 1) * 32 ≤ 140737488355328 := by omega
          rw [hnext]
          simp [kp34, rStr_enc, hkL, hkI, hkI', w1, lR, s87, hlz]
          generalize hW : splitV L[k] 32 = W at *
          have hbl := (baths_of h1).2
          by_cases h3 : 3 ≤ W.length
          · have h3I : (3 : Int) ≤ W.length := by omega
            have hp : parseL x L[k] = lineD x W x.baths.length := by unfold parseL; rw [hW, if_pos h3]
            rw [hp]
            (generalize hLoopQ : Cx.loop _ _ _ = rLoopQ; apply loop_then hLoopQ (fun j => ⟨[(1, .d (DS s)), (2, .loc 2 0), (9, .d (.sl 1 (L.map rStr.enc))), (10, .sl 4 ((planR x L k).map rDip.enc) (.tok 10)), (11, .d (DI k)), (12, .d (.sl 1 (W.map rStr.enc))), (13, .loc 13 0), (14, .d (DI j))], [(2, [.d (DI x.melt), .d (DI x.coat), .d (DI x.thin), .d (DI x.hold), .d (DI x.back), .d (DI x.draw), .d (DI x.set), .d (DI x.run), .d (.sl 3 (x.baths.map rBth.enc))]), (13, [.d (DI (lineD x W j).bath), .d (DI (lineD x W j).secs), .d (DI (lineD x W j).pause), .d (DB (lineD x W j).turned)])], [10], []⟩) x.baths.length rfl; rotate_left; (show _ < 281474976710656; omega); rfl; rotate_left; all_goals clear hLoopQ)
            · intro j hj
              have hjI : (j : Int) < x.baths.length := by omega
              have w2 := wrap_small ((j : Int) + 1) (by omega) (by omega)
              have g0 : 0 < W.length := by omega
              have g1 : 1 < W.length := by omega
              have g2 : 2 < W.length := by omega
              have i0 : (0 : Int) < W.length := by omega
              have i1 : (1 : Int) < W.length := by omega
              have i2 : (2 : Int) < W.length := by omega
              have hl : lineD x W (j + 1) = if (x.baths[j].name.toList == W[0].toList) = true then ⟨j, numV W[1], numV W[2], ((W.length : Int) == 4)⟩ else lineD x W j := by
                rw [lineD, getD_at _ _ _ hj, getD_at _ _ _ g0, getD_at _ _ _ g1, getD_at _ _ _ g2]
              have htn : (lineD x W j).turned = ((W.length : Int) == 4) := by
                clear hl
                induction j with
                | zero => rfl
                | succ j ih =>
                  rw [lineD]
                  split
                  · rfl
                  · exact ih (by omega) (by omega) (wrap_small _ (by omega) (by omega))
              rw [hl]
              cases he : (x.baths[j].name.toList == W[0].toList)
              · simp [kp34, rBth_enc, rStr_enc, hj, hjI, h3I, g0, g1, g2, i0, i1, i2, he, w2, lR, s88]
              · simp [kp34, rBth_enc, rStr_enc, hj, hjI, h3I, g0, g1, g2, i0, i1, i2, he, w2, lR, s88]
                exact htn
            · simp [kp34, h3I, hpl, c1, c2, w1, rDip_enc]
          · have h3I : ¬ (3 : Int) ≤ W.length := by omega
            have hb1 : (0 : Int) < x.baths.length := by omega
            have hp : parseL x L[k] = lineD x W 0 := by unfold parseL; rw [hW, if_neg h3]
            rw [hp]
            (generalize hLoopQ : Cx.loop _ _ _ = rLoopQ; apply loop_then hLoopQ (fun j => ⟨[(1, .d (DS s)), (2, .loc 2 0), (9, .d (.sl 1 (L.map rStr.enc))), (10, .sl 4 ((planR x L k).map rDip.enc) (.tok 10)), (11, .d (DI k)), (12, .d (.sl 1 (W.map rStr.enc))), (13, .loc 13 0), (14, .d (DI j))], [(2, [.d (DI x.melt), .d (DI x.coat), .d (DI x.thin), .d (DI x.hold), .d (DI x.back), .d (DI x.draw), .d (DI x.set), .d (DI x.run), .d (.sl 3 (x.baths.map rBth.enc))]), (13, [.d (DI (lineD x W j).bath), .d (DI (lineD x W j).secs), .d (DI (lineD x W j).pause), .d (DB (lineD x W j).turned)])], [10], []⟩) 0 rfl; rotate_left; (show _ < 281474976710656; omega); rfl; rotate_left; all_goals clear hLoopQ)
            · intro j hj; omega
            · have hbN : 0 < x.baths.length := by omega
              simp [kp34, h3I, hb1, hbN, hpl, c1, c2, w1, rDip_enc, lineD]
        · have hnI : ¬ (n : Int) + 1 < L.length := by omega
          have w1 := wrap_small ((n : Int) + 1) (by omega) (by omega)
          have hcand : candR x s = planR x L n := by unfold candR; rw [hL, hn]; rfl
          by_cases h3 : planE x (planR x L n) = 0
          · have hokl : okL x (planR x L n) := (asked_ok (t := ⟨0, 0, 0⟩) (by unfold askedE; rw [if_neg (by simpa using h1), if_neg (by decide)]; exact h3)).2.2
            cases h4 : ((textV x (planR x L n)).toList == s.toList)
            · have hR : readR x s = ([], 6) := by
                unfold readR
                rw [if_neg (by simpa using h1), if_neg h2, hcand, if_neg]
                rintro ⟨_, h5⟩
                rw [h5] at h4; simp at h4
              rw [hR]
              simp [kp34, rDsh_enc, rDsh_dec, rDip_k, rDip_decL, hnI, w1, lR, lW, lT, l5, l4, s72, s78, hlm, h3, hokl, h4]
            · have hR : readR x s = (planR x L n, 0) := by
                unfold readR
                rw [if_neg (by simpa using h1), if_neg h2, hcand, if_pos ⟨h3, by simpa using h4⟩]
              rw [hR]
              simp [kp34, rDsh_enc, rDsh_dec, rDip_k, rDip_decL, hnI, w1, lR, lW, lT, l5, l4, s72, s78, hlm, h3, hokl, h4]
          · have h3' : (planE x (planR x L n) != 0) = true := by simpa using h3
            have hR : readR x s = ([], 6) := by
              unfold readR
              rw [if_neg (by simpa using h1), if_neg h2, hcand, if_neg fun h => h3 h.1]
            rw [hR]
            simp [kp34, rDsh_enc, rDsh_dec, rDip_k, rDip_decL, hnI, w1, lR, lW, lT, l5, l4, s72, s78, hlm, h3, h3']
    · have h1' : ((dchk x).2.2 == 0) = false := by simpa using h1
      have h1'' : ((dchk x).2.2 != 0) = true := by simpa using h1
      have hR : readR x s = ([], (dchk x).2.2) := by unfold readR; rw [if_pos h1]
      rw [hR]
      simp [kp34, rDsh_enc, rDsh_dec, lR, lW, lT, l5, l4, s19, h1, h1', h1'']
end Go.Proofs.YtcgacojnfkklaaaGreatDoor
