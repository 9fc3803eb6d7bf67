/-
  The law DipFewest: the plan of Fewest makes the diameters, and no plan of fewer dips does. Conditions: none.
-/
import Derived.Test.YtcgacojnfkklaaaGreatDoorZLawB
import Derived.Test.YtcgacojnfkklaaaGreatDoorZFewL
namespace Go.Proofs.YtcgacojnfkklaaaGreatDoor
open Go.RowKit
set_option linter.unusedSimpArgs false
set_option linter.unusedVariables false
def kp11 (r : Nat) : List (Nat × Option Nat) := match r with
  | 0 => [(3, none), (4, none), (5, none)]
  | 1 => [(3, none), (4, none), (5, none), (7, none), (8, none)]
  | 2 => [(3, none), (4, none), (5, none), (7, none), (8, none), (60, none)]
  | 3 => [(6, none)]
  | 4 => [(3, none), (4, none), (5, none), (7, none), (8, none), (72, none)]
  | 5 => [(3, none), (4, none), (5, none), (7, none), (8, none), (9, some 4)]
  | 6 => [(3, none), (4, none), (5, none), (7, none), (8, none), (9, some 4), (10, none)]
  | 7 => [(3, none), (4, none), (5, none), (7, none), (8, none), (9, some 4), (10, none), (76, none)]
  | 8 => [(3, none), (4, none), (5, none), (7, none), (8, none), (9, some 4), (10, none)]
  | 9 => [(3, none), (4, none), (5, none), (7, none), (8, none), (9, some 4), (10, none), (94, none)]
  | 10 => [(6, none)]
  | 11 => [(3, none), (4, none), (5, none), (7, none), (8, none), (9, some 4), (10, none)]
  | 12 => [(3, none), (4, none), (5, none), (7, none), (8, none), (9, some 4), (12, none)]
  | 13 => [(3, none), (4, none), (5, none), (7, none), (8, none), (134, none)]
  | 14 => [(6, none)]
  | 15 => [(3, none), (4, none), (5, none), (7, none), (8, none), (13, some 4)]
  | 16 => [(3, none), (4, none), (5, none), (7, none), (8, none), (13, some 4), (14, none)]
  | 17 => [(3, none), (4, none), (5, none), (7, none), (8, none), (13, some 4), (14, none), (143, none)]
  | 18 => [(3, none), (4, none), (5, none), (7, none), (8, none), (13, some 4), (14, none)]
  | 19 => [(3, none), (4, none), (5, none), (7, none), (8, none), (13, some 4), (14, none)]
  | 20 => [(3, none), (4, none), (5, none), (7, none), (8, none), (13, some 4), (16, none)]
  | 21 => [(7, none), (8, none), (13, some 4), (16, none), (187, none)]
  | 22 => [(6, none)]
  | 23 => [(6, none)]
  | _ => []
structure Cho where
  of : Wnt
  dips : List Int
theorem rB_decL (l : List Int) : (cList (rK .u8)).dec (.sl 1 (l.map (rK .u8).enc)) = some l := cList_dec (rK .u8) l 1 rfl
def rCho : Row Cho := ⟨5, fun x => [.sl 4 (x.of.kinds.map rDip.enc), DI x.of.want.lo, DI x.of.want.hi, DI x.of.bound, .sl 1 (x.dips.map (rK .u8).enc)], fun d => match d with
  | [a, .v (.int .i64 l), .v (.int .i64 h), .v (.int .i64 n), b] => ((cList rDip).dec a).bind fun p => ((cList (rK .u8)).dec b).map fun w => ⟨⟨p, ⟨l, h⟩, n⟩, w⟩
  | _ => none, fun x => by simp [rB_decL, cDips_de, DI], fun d x h => by
  split at h
  · simp only [Option.bind_eq_some_iff, Option.map_eq_some_iff] at h
    obtain ⟨p, hp, w, hw, rfl⟩ := h
    exact limp_cons ((cList rDip).ed _ _ hp) (limp_cons (DImp.refl _) (limp_cons (DImp.refl _) (limp_cons (DImp.refl _) (limp_cons ((cList (rK .u8)).ed _ _ hw) (LImp.refl _)))))
  · cases h⟩
theorem rCho_enc (x : Cho) : rCho.enc x = [.sl 4 (x.of.kinds.map rDip.enc), DI x.of.want.lo, DI x.of.want.hi, DI x.of.bound, .sl 1 (x.dips.map (rK .u8).enc)] := rfl
def octOk (l : List Int) : Prop := ∀ x ∈ l, 0 ≤ x ∧ x ≤ 255
instance (l : List Int) : Decidable (octOk l) := inferInstanceAs (Decidable (∀ x ∈ l, _))
def anyK (K : Nat) (d : List Int) (n : Nat) : List Nat := (List.range n).map fun i => (d.getD i 0).toNat % K
theorem any_len (K : Nat) (d : List Int) (n : Nat) : (anyK K d n).length = n := by simp [anyK]
theorem any_mem {K : Nat} (hK : 0 < K) (d : List Int) (n : Nat) : ∀ k ∈ anyK K d n, k < K := by
  intro k hk
  simp only [anyK, List.mem_map] at hk
  obtain ⟨i, _, rfl⟩ := hk
  exact Nat.mod_lt _ hK
theorem any_succ (K : Nat) (d : List Int) (n : Nat) : anyK K d (n + 1) = anyK K d n ++ [(d.getD n 0).toNat % K] := by simp [anyK, List.range_succ]
theorem plan_take (kinds : List Dip) (p : List Nat) (k : Nat) (h : k < p.length) : planP kinds (p.take (k + 1)) = planP kinds (p.take k) ++ [kindAt kinds p[k]] := by
  rw [List.take_succ_eq_append_getElem h, planP_app]
def t11l : List (Nat × (List D → Option D)) := (29, s29) :: (45, s45) :: (46, s46) :: tb
theorem dt11l : DelOk Tryz.prog (delOf t11l) := del_cons (del_cons (del_cons dtb call46 ok46) call45 ok45) call29 ok29
def s11 : List D → Option D := sp3 (cAgg rDsh) (cAgg rTap) (cAgg rCho) cBool fun x t y => if namesOk x ∧ i64Ok y.of.bound ∧ octOk y.dips then some true else none
set_option maxHeartbeats 8000000 in
theorem ok11 : ∀ ds d, s11 ds = some d → PureC Tryz.prog 11 ds d := ok_sp3 fun x t y r hr => by
  split at hr
  · rename_i hc
    cases hr
    obtain ⟨hs, hbi, hy⟩ := hc
    obtain ⟨⟨kinds, want, bound⟩, dips⟩ := y
    simp only at hbi hy
    refine pure_of_call (mkCx_ok dt11l 209 kp11 []) Tryz.func11 rfl rfl (Nat.le_of_ble_eq_true rfl) (by kernel_rfl) ?_
    rw [Tryz.results11]
    by_cases hg : askedE x t kinds = 0 ∧ 1 ≤ kinds.length ∧ kinds.length ≤ 5 ∧ ((fewR x t kinds want bound).2 = 0 ∨ (fewR x t kinds want bound).2 = 9)
    · obtain ⟨ha, hK1, hK5, he⟩ := hg
      obtain ⟨_, ht, hl⟩ := asked_ok ha
      have hvB : validB x t kinds = true := by unfold validB; simpa using ha
      have hE : fewE x t kinds want bound = 0 := by
        rcases fewE_cases (want := want) (bound := bound) hl ht hK1 hK5 with h | h | h
        · exact h
        · unfold fewR at he; rw [h] at he; simp at he
        · unfold fewR at he; rw [h] at he; simp at he
      obtain ⟨_, _, _, _, hb0⟩ := fewE_ok hE
      have hbo : boundOk bound := ⟨hb0, hbi.2⟩
      have k0 : ((kinds.length : Int) == 0) = false := by rw [beq_eq_false_iff_ne]; omega
      have k0n : ¬ kinds = [] := fun h => by rw [h] at hK1; simp at hK1
      have k5 : ¬ (5 : Int) < kinds.length := by omega
      have k5n : ¬ 5 < kinds.length := by omega
      -- the dips that come in
      obtain ⟨n, hn⟩ : ∃ n, n = min dips.length 10 := ⟨_, rfl⟩
      have hqk := any_mem (K := kinds.length) (by omega) dips n
      have hql := any_len kinds.length dips n
      have haq := asked_plan hl ht hqk (by omega)
      have lasto : (afterE x t (planP kinds (anyK kinds.length dips n))).2 = 0 → lastV x t (planP kinds (anyK kinds.length dips n)) = rP x t kinds (anyK kinds.length dips n) := fun h => last_plan h
      have hleast := few_least (x := x) (t := t) (kinds := kinds) (want := want) (bound := bound) hE hqk (by omega)
      have hf : (afterE x t (planP kinds (anyK kinds.length dips n))).2 = 0 ∨ (afterE x t (planP kinds (anyK kinds.length dips n))).2 = 9 := by
        by_cases h : (afterE x t (planP kinds (anyK kinds.length dips n))).2 = 0
        · exact .inl h
        · exact .inr (after_err haq h)
      have hol : (planP kinds (anyK kinds.length dips n)).length = n := by simp [planP, hql]
      have loopFacts : ∀ j, j < n → ∃ Q : Nat, ∃ hd : j < dips.length, ∃ hQ : Q < kinds.length, dips[j].tmod (kinds.length : Int) = (Q : Int) ∧ (0 ≤ dips[j] ∧ dips[j] ≤ 255) ∧ planP kinds (anyK kinds.length dips (j + 1)) = planP kinds (anyK kinds.length dips j) ++ [kinds[Q]] := fun j hj => by
        have hd : j < dips.length := by omega
        have hb := hy _ (List.getElem_mem hd)
        have hQ := Nat.mod_lt dips[j].toNat (show 0 < kinds.length by omega)
        refine ⟨dips[j].toNat % kinds.length, hd, hQ, ?_, hb, ?_⟩
        · rw [Int.tmod_eq_emod_of_nonneg (by omega)]; push_cast; rw [Int.toNat_of_nonneg (by omega)]
        · rw [any_succ, planP_app, getD_at _ _ _ hd]
          show _ ++ [kinds.getD _ default] = _
          rw [getD_at _ _ _ hQ]
      rcases he with he | he
      · obtain ⟨p, hv, hp10, hpk, hpa, hpm, hfp⟩ := few_sound he
        have lastp := last_plan hpa
        have hap := (after_ok.1 hpa).1
        have hvp := after_val hpa
        have hpl : (planP kinds p).length = p.length := by simp [planP]
        have pFacts : ∀ j, j < p.length → ∃ hj : j < p.length, ∃ hQ : p[j] < kinds.length, planP kinds (p.take (j + 1)) = planP kinds (p.take j) ++ [kinds[p[j]]] := fun j hj => by
          have hQ := hpk _ (List.getElem_mem hj)
          refine ⟨hj, hQ, ?_⟩
          rw [plan_take kinds p j hj]
          show _ ++ [kinds.getD _ default] = _
          rw [getD_at _ _ _ hQ]
        obtain ⟨L, hL⟩ : ∃ L, L = p.map fun k : Nat => (k : Int) := ⟨_, rfl⟩
        have hLl : L.length = p.length := by rw [hL]; simp
        have hLat : ∀ j (hj : j < p.length) (hj' : j < L.length), L[j] = (p[j] : Int) := fun j hj hj' => by subst hL; simp
        rw [← hL] at hv
        simp [kp11, rDsh_enc, rDsh_dec, rTap_enc, rTap_dec, rCho_enc, rDip_k, rDip_decL, rRng_k, rRng_enc, rRng_dec, rRng_decL, rSpn_enc, rSpn_dec, rInt_decL, rInt_k, rB_decL, t11l, tb, s22, s23, s29, s40, s45, s46, hs, hbi, hv, hvB, k0, k0n, k5, k5n]
        (generalize hLoopQ : Cx.loop _ _ _ = rLoopQ; apply loop_then hLoopQ (fun k => ⟨[(3, .loc 3 0), (4, .loc 4 0), (5, .loc 5 0), (7, .d (.sl 1 (L.map rInt.enc))), (8, .d (DI 0)), (9, .sl 4 ((planP kinds (p.take k)).map rDip.enc) (.tok 9)), (10, .d (DI k))], [(3, [.d (DI x.melt), .d (DI x.coat), .d (DI x.thin), .d (DI x.hold), .d (DI x.back), .d (DI x.draw), .d (DI x.set), .d (DI x.run), .d (.sl 3 (x.baths.map rBth.enc))]), (4, [.d (DI t.wick), .d (DI t.top), .d (DI t.foot)]), (5, [.d (.sl 4 (kinds.map rDip.enc)), .d (DI want.lo), .d (DI want.hi), .d (DI bound), .d (.sl 1 (dips.map (rK .u8).enc))])], [9], []⟩) p.length rfl; rotate_left; (show _ < 281474976710656; omega); rfl; rotate_left; all_goals clear hLoopQ)
        · intro j hj'
          obtain ⟨hj, hQ, hpt⟩ := pFacts j hj'
          have hjL : j < L.length := by omega
          have hat := hLat j hj hjL
          have w1 := wrap_small ((j : Int) + 1) (by omega) (by omega)
          have hjI : (j : Int) < p.length := by omega
          have hlen : (planP kinds (p.take j)).length = j := by simp [planP]; omega
          have c1 : j + 1 ≤ 140737488355328 := by omega
          have c2 : (j + 1) * 32 ≤ 140737488355328 := by omega
          have g0 : ¬ (p[j] : Int) < 0 := by omega
          have g1 : ¬ (kinds.length : Int) ≤ p[j] := by omega
          have g1n : ¬ kinds.length ≤ p[j] := by omega
          rw [hpt]
          generalize planP kinds (p.take j) = PL at *
          simp [kp11, rDip_enc, rInt_enc, hj, hjL, hjI, hLl, hat, hQ, w1, hlen, c1, c2, g0, g1, g1n]
        · rw [List.take_of_length_le (Nat.le_refl _)]
          have hm10 : ¬ (10 : Int) < p.length := by omega
          have hm10n : ¬ 10 < p.length := by omega
          simp [kp11, rDsh_enc, rDsh_dec, rTap_enc, rTap_dec, rCho_enc, rDip_k, rDip_decL, rRng_k, rRng_enc, rRng_dec, rRng_decL, rSpn_enc, rSpn_dec, rInt_decL, rInt_k, rB_decL, t11l, tb, s22, s23, s29, s40, s45, s46, hs, hbi, hvp, hm10, hm10n, hap, lastp, hpm, hbo, hLl, hpl]
          (generalize hLoopQ : Cx.loop _ _ _ = rLoopQ; apply loop_then hLoopQ (fun k => ⟨[(3, .loc 3 0), (4, .loc 4 0), (5, .loc 5 0), (7, .d (.sl 1 (L.map rInt.enc))), (8, .d (DI 0)), (13, .sl 4 ((planP kinds (anyK kinds.length dips k)).map rDip.enc) (.tok 13)), (14, .d (DI k))], [(3, [.d (DI x.melt), .d (DI x.coat), .d (DI x.thin), .d (DI x.hold), .d (DI x.back), .d (DI x.draw), .d (DI x.set), .d (DI x.run), .d (.sl 3 (x.baths.map rBth.enc))]), (4, [.d (DI t.wick), .d (DI t.top), .d (DI t.foot)]), (5, [.d (.sl 4 (kinds.map rDip.enc)), .d (DI want.lo), .d (DI want.hi), .d (DI bound), .d (.sl 1 (dips.map (rK .u8).enc))])], [13], []⟩) n rfl; rotate_left; (show _ < 281474976710656; omega); rfl; rotate_left; all_goals clear hLoopQ)
          · intro j hj
            obtain ⟨Q, hd, hQ, e5, hb, hpt⟩ := loopFacts j hj
            have w1 := wrap_small ((j : Int) + 1) (by omega) (by omega)
            have w2 := wrap_small dips[j] (by omega) (by omega)
            have w3 := wrap_small (Q : Int) (by omega) (by omega)
            have hdI : (j : Int) < dips.length := by omega
            have h10 : (j : Int) < 10 := by omega
            have h10n : j < 10 := by omega
            have hneK : ¬ (kinds.length : Int) = 0 := by omega
            have hlen : (planP kinds (anyK kinds.length dips j)).length = j := by simp [planP, any_len]
            have c1 : j + 1 ≤ 140737488355328 := by omega
            have c2 : (j + 1) * 32 ≤ 140737488355328 := by omega
            rw [hpt]
            generalize planP kinds (anyK kinds.length dips j) = PL at *
            simp [kp11, rDip_enc, hd, hdI, h10, h10n, hQ, e5, w1, w2, w3, hneK, k0n, hlen, c1, c2]
          · have stop : ((n : Int) < dips.length ∧ (n : Int) = 10) ∨ (n : Int) = dips.length := by omega
            have finish : ∀ c : Bool, True := fun _ => trivial
            generalize planP kinds (anyK kinds.length dips n) = O at *
            obtain ⟨B, f, hB⟩ : ∃ B f, afterE x t O = (B, f) := ⟨_, _, rfl⟩
            rw [hB] at hf lasto hleast
            simp only at hf lasto hleast
            rcases hf with rfl | rfl
            · have hlast := lasto rfl
              cases hmk : makesB (rP x t kinds (anyK kinds.length dips n)) want bound
              · rcases stop with ⟨s1, s2⟩ | s1
                · have s3 : (10 : Int) < dips.length := by omega
                  simp [kp11, rDsh_enc, rDsh_dec, rTap_enc, rTap_dec, rCho_enc, rDip_k, rDip_decL, rRng_k, rRng_enc, rRng_dec, rRng_decL, rSpn_enc, rSpn_dec, rInt_decL, rInt_k, rB_decL, t11l, tb, s22, s23, s29, s40, s45, s46, hs, hbi, hB, haq, hlast, hmk, hbo, s3, s1, s2]
                · simp [kp11, rDsh_enc, rDsh_dec, rTap_enc, rTap_dec, rCho_enc, rDip_k, rDip_decL, rRng_k, rRng_enc, rRng_dec, rRng_decL, rSpn_enc, rSpn_dec, rInt_decL, rInt_k, rB_decL, t11l, tb, s22, s23, s29, s40, s45, s46, hs, hbi, hB, haq, hlast, hmk, hbo, s1]
              · obtain ⟨p', hp', hpl'⟩ := hleast rfl hmk
                have hle : (L.length : Int) ≤ O.length := by rw [hfp] at hp'; cases hp'; omega
                have hlen : L.length ≤ O.length := by omega
                rcases stop with ⟨s1, s2⟩ | s1
                · have s3 : (10 : Int) < dips.length := by omega
                  simp [kp11, rDsh_enc, rDsh_dec, rTap_enc, rTap_dec, rCho_enc, rDip_k, rDip_decL, rRng_k, rRng_enc, rRng_dec, rRng_decL, rSpn_enc, rSpn_dec, rInt_decL, rInt_k, rB_decL, t11l, tb, s22, s23, s29, s40, s45, s46, hs, hbi, hB, haq, hlast, hmk, hbo, s3, s1, s2, hle, hlen]
                · simp [kp11, rDsh_enc, rDsh_dec, rTap_enc, rTap_dec, rCho_enc, rDip_k, rDip_decL, rRng_k, rRng_enc, rRng_dec, rRng_decL, rSpn_enc, rSpn_dec, rInt_decL, rInt_k, rB_decL, t11l, tb, s22, s23, s29, s40, s45, s46, hs, hbi, hB, haq, hlast, hmk, hbo, s1, hle, hlen]
            · rcases stop with ⟨s1, s2⟩ | s1
              · have s3 : (10 : Int) < dips.length := by omega
                simp [kp11, rDsh_enc, rDsh_dec, rTap_enc, rTap_dec, rCho_enc, rDip_k, rDip_decL, rRng_k, rRng_enc, rRng_dec, rRng_decL, rSpn_enc, rSpn_dec, rInt_decL, rInt_k, rB_decL, t11l, tb, s22, s23, s29, s40, s45, s46, hs, hbi, hB, s3, s1, s2]
              · simp [kp11, rDsh_enc, rDsh_dec, rTap_enc, rTap_dec, rCho_enc, rDip_k, rDip_decL, rRng_k, rRng_enc, rRng_dec, rRng_decL, rSpn_enc, rSpn_dec, rInt_decL, rInt_k, rB_decL, t11l, tb, s22, s23, s29, s40, s45, s46, hs, hbi, hB, s1]
      · have hv := few_bad (x := x) (t := t) (kinds := kinds) (want := want) (bound := bound) (by rw [he]; decide)
        rw [he] at hv
        have hfp : fewP x t kinds want bound = none := by
          unfold fewR at he
          rw [if_pos hE] at he
          cases hq : fewP x t kinds want bound with
          | none => rfl
          | some p => rw [hq] at he; simp at he
        simp [kp11, rDsh_enc, rDsh_dec, rTap_enc, rTap_dec, rCho_enc, rDip_k, rDip_decL, rRng_k, rRng_enc, rRng_dec, rRng_decL, rSpn_enc, rSpn_dec, rInt_decL, rInt_k, rB_decL, t11l, tb, s22, s23, s29, s40, s45, s46, hs, hbi, hv, hvB, k0, k0n, k5, k5n]
        (generalize hLoopQ : Cx.loop _ _ _ = rLoopQ; apply loop_then hLoopQ (fun k => ⟨[(3, .loc 3 0), (4, .loc 4 0), (5, .loc 5 0), (7, .d (.sl 1 (([] : List Int).map rInt.enc))), (8, .d (DI 9)), (13, .sl 4 ((planP kinds (anyK kinds.length dips k)).map rDip.enc) (.tok 13)), (14, .d (DI k))], [(3, [.d (DI x.melt), .d (DI x.coat), .d (DI x.thin), .d (DI x.hold), .d (DI x.back), .d (DI x.draw), .d (DI x.set), .d (DI x.run), .d (.sl 3 (x.baths.map rBth.enc))]), (4, [.d (DI t.wick), .d (DI t.top), .d (DI t.foot)]), (5, [.d (.sl 4 (kinds.map rDip.enc)), .d (DI want.lo), .d (DI want.hi), .d (DI bound), .d (.sl 1 (dips.map (rK .u8).enc))])], [13], []⟩) n rfl; rotate_left; (show _ < 281474976710656; omega); rfl; rotate_left; all_goals clear hLoopQ)
        · intro j hj
          obtain ⟨Q, hd, hQ, e5, hb, hpt⟩ := loopFacts j hj
          have w1 := wrap_small ((j : Int) + 1) (by omega) (by omega)
          have w2 := wrap_small dips[j] (by omega) (by omega)
          have w3 := wrap_small (Q : Int) (by omega) (by omega)
          have hdI : (j : Int) < dips.length := by omega
          have h10 : (j : Int) < 10 := by omega
          have h10n : j < 10 := by omega
          have hneK : ¬ (kinds.length : Int) = 0 := by omega
          have hlen : (planP kinds (anyK kinds.length dips j)).length = j := by simp [planP, any_len]
          have c1 : j + 1 ≤ 140737488355328 := by omega
          have c2 : (j + 1) * 32 ≤ 140737488355328 := by omega
          rw [hpt]
          generalize planP kinds (anyK kinds.length dips j) = PL at *
          simp [kp11, rDip_enc, hd, hdI, h10, h10n, hQ, e5, w1, w2, w3, hneK, k0n, hlen, c1, c2]
        · have stop : ((n : Int) < dips.length ∧ (n : Int) = 10) ∨ (n : Int) = dips.length := by omega
          have finish : ∀ c : Bool, True := fun _ => trivial
          generalize planP kinds (anyK kinds.length dips n) = O at *
          obtain ⟨B, f, hB⟩ : ∃ B f, afterE x t O = (B, f) := ⟨_, _, rfl⟩
          rw [hB] at hf lasto hleast
          simp only at hf lasto hleast
          rcases hf with rfl | rfl
          · have hlast := lasto rfl
            cases hmk : makesB (rP x t kinds (anyK kinds.length dips n)) want bound
            · rcases stop with ⟨s1, s2⟩ | s1
              · have s3 : (10 : Int) < dips.length := by omega
                simp [kp11, rDsh_enc, rDsh_dec, rTap_enc, rTap_dec, rCho_enc, rDip_k, rDip_decL, rRng_k, rRng_enc, rRng_dec, rRng_decL, rSpn_enc, rSpn_dec, rInt_decL, rInt_k, rB_decL, t11l, tb, s22, s23, s29, s40, s45, s46, hs, hbi, hB, haq, hlast, hmk, hbo, s3, s1, s2]
              · simp [kp11, rDsh_enc, rDsh_dec, rTap_enc, rTap_dec, rCho_enc, rDip_k, rDip_decL, rRng_k, rRng_enc, rRng_dec, rRng_decL, rSpn_enc, rSpn_dec, rInt_decL, rInt_k, rB_decL, t11l, tb, s22, s23, s29, s40, s45, s46, hs, hbi, hB, haq, hlast, hmk, hbo, s1]
            · obtain ⟨p', hp', hpl'⟩ := hleast rfl hmk
              rw [hfp] at hp'; cases hp'
          · rcases stop with ⟨s1, s2⟩ | s1
            · have s3 : (10 : Int) < dips.length := by omega
              simp [kp11, rDsh_enc, rDsh_dec, rTap_enc, rTap_dec, rCho_enc, rDip_k, rDip_decL, rRng_k, rRng_enc, rRng_dec, rRng_decL, rSpn_enc, rSpn_dec, rInt_decL, rInt_k, rB_decL, t11l, tb, s22, s23, s29, s40, s45, s46, hs, hbi, hB, s3, s1, s2]
            · simp [kp11, rDsh_enc, rDsh_dec, rTap_enc, rTap_dec, rCho_enc, rDip_k, rDip_decL, rRng_k, rRng_enc, rRng_dec, rRng_decL, rSpn_enc, rSpn_dec, rInt_decL, rInt_k, rB_decL, t11l, tb, s22, s23, s29, s40, s45, s46, hs, hbi, hB, s1]
    · have hne : ¬ (fewR x t kinds want bound).2 = 0 := fun h => hg <| by
        have hE : fewE x t kinds want bound = 0 := by
          unfold fewR at h
          by_cases hE : fewE x t kinds want bound = 0
          · exact hE
          · rw [if_neg hE] at h; exact absurd h hE
        obtain ⟨hl, ht, a, b, _⟩ := fewE_ok hE
        exact ⟨asked_of ht hl, a, b, .inl h⟩
      have hv := few_bad hne
      generalize (fewR x t kinds want bound).2 = e at *
      have he' : (e != 0) = true := by simpa using hne
      by_cases ha : askedE x t kinds = 0
      · have hvB : validB x t kinds = true := by unfold validB; simpa using ha
        by_cases hK0 : kinds.length = 0
        · have k0 : kinds = [] := List.eq_nil_of_length_eq_zero hK0
          rw [k0] at hv hvB
          simp [kp11, rDsh_enc, rDsh_dec, rTap_enc, rTap_dec, rCho_enc, rDip_k, rDip_decL, rRng_k, rRng_enc, rRng_dec, rRng_decL, rSpn_enc, rSpn_dec, rInt_decL, rInt_k, rB_decL, t11l, tb, s22, s23, s29, s40, s45, s46, hs, hbi, hv, hvB, k0, hne, he']
        · have k0 : ((kinds.length : Int) == 0) = false := by rw [beq_eq_false_iff_ne]; omega
          have k0n : ¬ kinds = [] := fun h => hK0 (by rw [h]; rfl)
          by_cases hK5 : 5 < kinds.length
          · have k5 : (5 : Int) < kinds.length := by omega
            simp [kp11, rDsh_enc, rDsh_dec, rTap_enc, rTap_dec, rCho_enc, rDip_k, rDip_decL, rRng_k, rRng_enc, rRng_dec, rRng_decL, rSpn_enc, rSpn_dec, rInt_decL, rInt_k, rB_decL, t11l, tb, s22, s23, s29, s40, s45, s46, hs, hbi, hv, hvB, k0, k0n, k5, hK5, hne, he']
          · have k5 : ¬ (5 : Int) < kinds.length := by omega
            have h9 : ¬ e = 9 := fun h => hg ⟨ha, by omega, by omega, .inr h⟩
            have h9' : (e != 9) = true := by simpa using h9
            simp [kp11, rDsh_enc, rDsh_dec, rTap_enc, rTap_dec, rCho_enc, rDip_k, rDip_decL, rRng_k, rRng_enc, rRng_dec, rRng_decL, rSpn_enc, rSpn_dec, rInt_decL, rInt_k, rB_decL, t11l, tb, s22, s23, s29, s40, s45, s46, hs, hbi, hv, hvB, k0, k0n, k5, hK5, hne, he', h9, h9']
      · have hvB : validB x t kinds = false := by unfold validB; simpa using ha
        simp [kp11, rDsh_enc, rDsh_dec, rTap_enc, rTap_dec, rCho_enc, rDip_k, rDip_decL, rRng_k, rRng_enc, rRng_dec, rRng_decL, rSpn_enc, rSpn_dec, rInt_decL, rInt_k, rB_decL, t11l, tb, s22, s23, s29, s40, s45, s46, hs, hbi, hv, hvB, hne, he']
  · cases hr
end Go.Proofs.YtcgacojnfkklaaaGreatDoor
