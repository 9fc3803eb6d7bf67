/-
  The reference's search for the fewest dips. Conditions: none.
-/
import Derived.Test.YtcgacojnfkklaaaGreatDoorZFewH
import Derived.Test.YtcgacojnfkklaaaGreatDoorZFewE
namespace Go.Proofs.YtcgacojnfkklaaaGreatDoor
open Go.RowKit
set_option linter.unusedSimpArgs false
set_option linter.unusedVariables false
theorem oe73 : ∀ n, EffOk1 Tryz.prog 73 (e73 n)
  | 0 => oe73_0
  | n + 1 => oe73_s n (oe73 n)
def sizeP (K : Nat) : Nat := 11 ^ K
theorem sizeP_succ (K : Nat) : sizeP (K + 1) = sizeP K * 11 := Nat.pow_succ ..
theorem sizeP_le {K : Nat} (h : K ≤ 5) : sizeP K ≤ 161051 := by
  have : 11 ^ K ≤ 11 ^ 5 := Nat.pow_le_pow_right (by omega) h
  exact this
def encZ (a : Nat × Few) : List X × List Cont × List Nat :=
  ([.d (.agg (rDsh.enc a.2.x)), .d (.agg (rTap.enc a.2.t)), .d (.sl 4 (a.2.kinds.map rDip.enc)), .d (.agg (rSpn.enc a.2.want)), .d (DI a.2.bound), .d (.agg [.sl 0 [], .sl 0 []]), .d (DI a.1), .bs 1000 0 (sizeP a.2.kinds.length) 1], [.cells (List.replicate (sizeP a.2.kinds.length) (.d (DB false)))], [])
def resZ (a : Nat × Few) : Option (D × List Cont × List Nat) := res73 a.1 (a.1, [], List.replicate (sizeP a.2.kinds.length) false, a.2)
theorem injZ (a b : Nat × Few) (h : encZ a = encZ b) : resZ a = resZ b := by
  obtain ⟨l, x, t, kinds, want, bound⟩ := a
  obtain ⟨l', x', t', kinds', want', bound'⟩ := b
  simp only [encZ, Prod.mk.injEq, List.cons.injEq, X.d.injEq, D.agg.injEq, D.sl.injEq, D.v.injEq, Value.int.injEq, Int.natCast_inj, and_true, true_and] at h
  obtain ⟨⟨h1, h2, h3, h4, h5, h7, _⟩, h8⟩ := h
  have e1 := row_inj _ h1
  have e2 := row_inj _ h2
  have e3 := rows_inj _ h3
  have e4 := row_inj _ h4
  subst e1; subst e2; subst e3; subst e4; subst h5; subst h7
  rfl
noncomputable def e73z : EffSp := effBy encZ resZ
theorem nil_rel {m : Nat → Nat → Prop} {w : World} {k k' : Nat} {v : Value} (h : Rel m w (.sl k []) v) : Rel m w (.sl k' []) v := by
  simp only [Rel] at h ⊢
  obtain ⟨h1, a, c, h2, h3, _⟩ := h
  exact ⟨h1, a, c, h2, h3, .inl trivial⟩
theorem made_rel {m : Nat → Nat → Prop} {w : World} {v : Value} (h : Rel m w (.agg [.sl 0 [], .sl 0 []]) v) : Rel m w (.agg [.sl 4 [], .sl 1 []]) v := by
  simp only [Rel] at h ⊢
  obtain ⟨vs, h1, h2, h3⟩ := h
  refine ⟨vs, h1, h2, ?_⟩
  simp only [RelL] at h3 ⊢
  obtain ⟨v1, t1, e1, r1, v2, t2, e2, r2, e3⟩ := h3
  exact ⟨v1, t1, e1, nil_rel r1, v2, t2, e2, nil_rel r2, e3⟩
theorem oe73z : EffOk1 Tryz.prog 73 e73z := ok_effBy fun a r hr => by
  obtain ⟨n, E⟩ := a
  have h := oe73 n _ _ _ _ _ _ ((effBy_at (inj73 n) (n, [], List.replicate (sizeP E.kinds.length) false, E) rfl).trans hr)
  intro m w blks tb vs hbl I hvs
  have hc : (enc73 (n, [], List.replicate (sizeP E.kinds.length) false, E)).2.1 = (encZ (n, E)).2.1 := by
    simp only [enc73, encZ, List.map_replicate]
    rfl
  rw [← hc] at hbl I
  refine h m w blks tb vs hbl I ⟨hvs.1, fun j x v hx hv => ?_⟩
  have key : ∀ j x v, (encZ (n, E)).1[j]? = some x → vs[j]? = some v → RelX (effG m blks tb) w w.heap.size [] x v := hvs.2
  simp only [enc73, List.length_replicate] at hx
  by_cases hj : j = 5
  · subst hj
    simp at hx
    subst hx
    exact made_rel (key 5 _ v rfl hv)
  · refine key j x v ?_ hv
    rw [← hx]
    simp only [encZ]
    rcases (by omega : j = 0 ∨ j = 1 ∨ j = 2 ∨ j = 3 ∨ j = 4 ∨ j = 6 ∨ j = 7 ∨ 8 ≤ j) with rfl | rfl | rfl | rfl | rfl | rfl | rfl | h8
    all_goals first
      | rfl
      | (rw [List.getElem?_eq_none (by simp; omega), List.getElem?_eq_none (by simp; omega)])
theorem e73z_at (n : Nat) (E : Few) : e73z [.d (.agg [DI E.x.melt, DI E.x.coat, DI E.x.thin, DI E.x.hold, DI E.x.back, DI E.x.draw, DI E.x.set, DI E.x.run, .sl 3 (E.x.baths.map rBth.enc)]), .d (.agg [DI E.t.wick, DI E.t.top, DI E.t.foot]), .d (.sl 4 (E.kinds.map rDip.enc)), .d (.agg [DI E.want.lo, DI E.want.hi]), .d (DI E.bound), .d (.agg [.sl 0 [], .sl 0 []]), .d (DI n), .bs 1000 0 (sizeP E.kinds.length) 1] [.cells (List.replicate (sizeP E.kinds.length) (.d (DB false)))] [] = res73 n (n, [], List.replicate (sizeP E.kinds.length) false, E) := effBy_at injZ (n, E) rfl
noncomputable def el30 : List (Nat × EffSp) := [(73, e73z)]
theorem del30e : EffOk Tryz.prog (effOf el30) := eff_cons eff_nil call73 oe73z
def kp30 (r : Nat) : List (Nat × Option Nat) := match r with
  | 0 => [(2, none), (4, none), (5, none), (6, none), (8, none)]
  | 1 => [(2, none), (4, none), (5, none), (6, none), (8, none), (12, none)]
  | 2 => [(2, none), (4, none), (5, none), (6, none), (8, none), (12, none), (28, none)]
  | 3 => [(2, none), (4, none), (5, none), (6, none), (8, none), (12, none)]
  | 4 => [(2, none), (4, none), (5, none), (6, none), (8, none), (12, none), (30, none)]
  | 5 => [(2, none), (4, none), (5, none), (6, none), (8, none), (12, none)]
  | 6 => [(2, none), (4, none), (5, none), (6, none), (8, none), (12, none), (42, none)]
  | 7 => [(2, none), (4, none), (5, none), (6, none), (8, none), (12, none)]
  | 8 => [(2, none), (4, none), (5, none), (6, none), (8, none), (12, none), (48, none)]
  | 9 => [(2, none), (4, none), (5, none), (6, none), (8, none), (12, none)]
  | 10 => [(2, none), (4, none), (5, none), (6, none), (8, none), (12, none), (50, none)]
  | 11 => [(10, none), (11, none)]
  | 12 => [(2, none), (4, none), (5, none), (6, none), (8, none), (13, none)]
  | 13 => [(2, none), (4, none), (5, none), (6, none), (8, none), (13, none), (14, none)]
  | 14 => [(2, none), (4, none), (5, none), (6, none), (8, none), (13, none), (14, none), (55, none)]
  | 15 => [(2, none), (4, none), (5, none), (6, none), (8, none), (13, none), (14, none)]
  | 16 => [(2, none), (4, none), (5, none), (6, none), (8, none), (13, none), (14, none)]
  | 17 => [(2, none), (4, none), (5, none), (6, none), (8, none), (13, none), (15, none)]
  | 18 => [(2, none), (4, none), (5, none), (6, none), (8, none), (13, none), (15, none), (61, none)]
  | 19 => [(2, none), (4, none), (5, none), (6, none), (8, none), (13, none), (15, none)]
  | 20 => [(2, none), (4, none), (5, none), (6, none), (8, none), (13, none), (15, none), (16, none), (17, none)]
  | 21 => [(2, none), (4, none), (5, none), (6, none), (8, none), (13, none), (15, none), (16, none), (77, none)]
  | 22 => [(10, none), (11, none)]
  | 23 => [(10, none), (11, none)]
  | _ => []
def md30 (r : Nat) : Nat := if r = 20 then 12 else 0
def s30 : List D → Option D := sp5 (cAgg rDsh) (cAgg rTap) (cList rDip) (cAgg rSpn) cInt (cTup2 (cList rInt) cInt) fun x t kinds want bound => if i64Ok bound then some (fewR x t kinds want bound) else none
theorem locs_rep (n : Nat) (x : D) : locsL (List.replicate n (X.d x)) = [] := by
  induction n with
  | zero => rfl
  | succ n ih => rw [List.replicate_succ, locsL, ih]; rfl
theorem own_rep (toks : List Nat) (n : Nat) (x : D) : ownX toks (List.replicate n (X.d x)) = none := by
  induction n with
  | zero => rfl
  | succ n ih => rw [List.replicate_succ]; simp only [ownX, X.ownT]; exact ih
theorem close_rep (b off n : Nat) (x : D) (av nw : List Nat) : closeC [] b off (List.replicate n (X.d x)) av nw = (List.replicate n (X.d x), av, nw) := by
  induction n generalizing off with
  | zero => rfl
  | succ n ih => simp only [List.replicate_succ, closeC, annOf, ih]; rfl
attribute [local simp high] locs_rep own_rep close_rep fB_t fB_f plain_fB close_fB ren_fB back_fB locs_fB own_fB
set_option maxHeartbeats 4000000 in
theorem ok30 : ∀ ds d, s30 ds = some d → PureC Tryz.prog 30 ds d := ok_sp5 fun x t kinds want bound r hr => by
  split at hr
  · rename_i hc
    cases hr
    obtain ⟨hb0, hb1⟩ := hc
    have hlm := blen_or x
    refine pure_of_dec (cTup2 (cList rInt) cInt) _ (mkCxE_ok del11 del30e keys_nil seq_nil 79 kp30 [] (fun _ => []) md30) Tryz.func30 rfl rfl (Nat.le_of_ble_eq_true rfl) (by kernel_rfl) ?_
    rw [Tryz.results30]
    by_cases h1 : askedE x t [] = 0
    · obtain ⟨hx, ht, _⟩ := asked_ok h1
      have hlm := hlm.resolve_right (by simpa using hx)
      by_cases h2 : inR kinds.length 1 5 = true
      · by_cases h3 : planE x kinds = 0
        · by_cases h4 : want.hi < want.lo
          · have hR : fewR x t kinds want bound = ([], 2) := by
              have hE : fewE x t kinds want bound = 2 := by unfold fewE; rw [if_neg (by simpa using h1), if_neg (by simp [h2]), if_neg (by simpa using h3), if_pos h4]
              unfold fewR; rw [hE]; rfl
            rw [hR]
            simp [kp30, md30, rDsh_enc, rDsh_dec, rTap_enc, rTap_dec, rSpn_enc, rDip_k, rDip_decL, l11, l10, l9, l8, l7, l6, l5, l4, l3, l2, l1, s59, s52, s72, hlm, h1, h2, h3, h4]
          · by_cases h5 : bound < 0
            · have hR : fewR x t kinds want bound = ([], 7) := by
                have hE : fewE x t kinds want bound = 7 := by unfold fewE; rw [if_neg (by simpa using h1), if_neg (by simp [h2]), if_neg (by simpa using h3), if_neg h4, if_pos h5]
                unfold fewR; rw [hE]; rfl
              rw [hR]
              simp [kp30, md30, rDsh_enc, rDsh_dec, rTap_enc, rTap_dec, rSpn_enc, rDip_k, rDip_decL, l11, l10, l9, l8, l7, l6, l5, l4, l3, l2, l1, s59, s52, s72, hlm, h1, h2, h3, h4, h5]
            · have hE : fewE x t kinds want bound = 0 := by unfold fewE; rw [if_neg (by simpa using h1), if_neg (by simp [h2]), if_neg (by simpa using h3), if_neg h4, if_neg h5]
              have hin := inR_iff.1 h2
              have hokl : okL x kinds := (asked_ok (by unfold askedE; rw [if_neg (by simpa using hx), if_neg (by simpa using ht)]; exact h3)).2.2
              have hE' : FewOk ⟨x, t, kinds, want, bound⟩ := ⟨hokl, ht, by show kinds.length ≤ 5; omega, by show 0 ≤ bound; omega, hb1⟩
              have hK : 0 < kinds.length := by omega
              have hcall : ∀ (j : Nat), j < 11 → e73z [.d (.agg [DI x.melt, DI x.coat, DI x.thin, DI x.hold, DI x.back, DI x.draw, DI x.set, DI x.run, .sl 3 (x.baths.map rBth.enc)]), .d (.agg [DI t.wick, DI t.top, DI t.foot]), .d (.sl 4 (kinds.map rDip.enc)), .d (.agg [DI want.lo, DI want.hi]), .d (DI bound), .d (.agg [.sl 0 [], .sl 0 []]), .d (DI j), .bs 1000 0 (sizeP kinds.length) 1] [.cells (List.replicate (sizeP kinds.length) (.d (DB false)))] [] = some (out73 (tryP x t kinds want bound j []), [.cells ((fnd (j, [], List.replicate (sizeP kinds.length) false, ⟨x, t, kinds, want, bound⟩)).2.map fB)], []) ∧ (fnd (j, [], List.replicate (sizeP kinds.length) false, ⟨x, t, kinds, want, bound⟩)).2.length = sizeP kinds.length := fun j hj => by
                have := e73z_at j ⟨x, t, kinds, want, bound⟩
                refine ⟨this.trans ?_, by rw [show (fnd (j, [], List.replicate (sizeP kinds.length) false, ⟨x, t, kinds, want, bound⟩)).2.length = _ from foundV_len _ _ _ _ _ _ _ _]; simp⟩
                unfold res73
                rw [if_pos ⟨rfl, ⟨hE', hK⟩, by simp only [List.length_nil]; omega, fun k hk => (by cases hk), by simp only [List.length_replicate]; rfl, fun k hk => (by simp at hk)⟩]
                have hf := (found_eq x t kinds want bound (many := j) (by omega) j [] (List.replicate (sizeP kinds.length) false) (by simp) (fun k hk => (by cases hk)) (vain_new x t kinds want bound j _)).1
                rw [← hf]
                rfl
              simp [kp30, md30, rDsh_enc, rDsh_dec, rTap_enc, rTap_dec, rSpn_enc, rDip_k, rDip_decL, l11, l10, l9, l8, l7, l6, l5, l4, l3, l2, l1, s59, s52, s72, hlm, h1, h2, h3, h4, h5]
              (generalize hLoopQ : Cx.loop _ _ _ = rLoopQ; apply loop_then hLoopQ (fun j => ⟨[(2, .d (.sl 4 (kinds.map rDip.enc))), (4, .d (DI bound)), (5, .loc 5 0), (6, .loc 6 0), (8, .loc 8 0), (13, .d (DI (sizeP j : Nat))), (14, .d (DI j))], [(5, [.d (DI x.melt), .d (DI x.coat), .d (DI x.thin), .d (DI x.hold), .d (DI x.back), .d (DI x.draw), .d (DI x.set), .d (DI x.run), .d (.sl 3 (x.baths.map rBth.enc))]), (6, [.d (DI t.wick), .d (DI t.top), .d (DI t.foot)]), (8, [.d (DI want.lo), .d (DI want.hi)])], [], []⟩) kinds.length rfl; rotate_left; (show _ < 281474976710656; omega); rfl; rotate_left; all_goals clear hLoopQ)
              · intro j hj
                have hjl : (j : Int) < kinds.length := by omega
                have hs := sizeP_le (show j ≤ 5 by omega)
                have hs' := sizeP_succ j
                have w1 := wrap_small ((j : Int) + 1) (by omega) (by omega)
                have w2 : IntKind.i64.wrap (((sizeP j : Nat) : Int) * 11) = (sizeP (j + 1) : Nat) := by rw [wrap_small _ (by omega) (by omega)]; omega
                simp [kp30, md30, rDsh_enc, rDsh_dec, rTap_enc, rTap_dec, rSpn_enc, rDip_k, rDip_decL, l11, l10, l9, l8, l7, l6, l5, l4, l3, l2, l1, s59, s52, s72, hjl, hj, w1, w2]
              · simp [kp30, md30, rDsh_enc, rDsh_dec, rTap_enc, rTap_dec, rSpn_enc, rDip_k, rDip_decL, l11, l10, l9, l8, l7, l6, l5, l4, l3, l2, l1, s59, s52, s72]
                have hs := sizeP_le (show kinds.length ≤ 5 by omega)
                have hsI : ((sizeP kinds.length : Nat) : Int) ≤ 140737488355328 := by omega
                have hsI' : sizeP kinds.length ≤ 140737488355328 := by omega
                cases hf : fewP x t kinds want bound with
                | none =>
                  have hno := (firstK_none 11 0).1 hf
                  have hR : fewR x t kinds want bound = ([], 9) := by
                    unfold fewR; rw [if_pos hE, hf]
                  rw [hR]
                  (generalize hLoopQ : Cx.loop _ _ _ = rLoopQ; apply loop_then hLoopQ (fun j => ⟨[(2, .d (.sl 4 (kinds.map rDip.enc))), (4, .d (DI bound)), (5, .loc 5 0), (6, .loc 6 0), (8, .loc 8 0), (13, .d (DI (sizeP kinds.length : Nat))), (15, .d (DI j))], [(5, [.d (DI x.melt), .d (DI x.coat), .d (DI x.thin), .d (DI x.hold), .d (DI x.back), .d (DI x.draw), .d (DI x.set), .d (DI x.run), .d (.sl 3 (x.baths.map rBth.enc))]), (6, [.d (DI t.wick), .d (DI t.top), .d (DI t.foot)]), (8, [.d (DI want.lo), .d (DI want.hi)])], [], []⟩) 11 rfl; rotate_left; (show _ < 281474976710656; omega); rfl; rotate_left; all_goals clear hLoopQ)
                  · intro j hj
                    obtain ⟨hc', hlen⟩ := hcall j hj
                    rw [hno j (by omega) (by omega)] at hc'
                    have hj11 : (j : Int) ≤ 10 := by omega
                    have w1 := wrap_small ((j : Int) + 1) (by omega) (by omega)
                    simp only [out73] at hc'
                    generalize hV : (fnd (j, [], List.replicate (sizeP kinds.length) false, ⟨x, t, kinds, want, bound⟩)).2 = V at hc' hlen
                    simp [kp30, md30, rDsh_enc, rTap_enc, rSpn_enc, el30, hj11, w1, hsI, hsI', hc', hlen]
                  · simp [kp30, md30, rDsh_enc, rTap_enc, rSpn_enc, el30]
                | some a =>
                  obtain ⟨J, _, hJ, hyes, hno⟩ := firstK_some 11 0 hf
                  have hR : fewR x t kinds want bound = (a.map fun k : Nat => (k : Int), 0) := by
                    unfold fewR; rw [if_pos hE, hf]
                  rw [hR]
                  (generalize hLoopQ : Cx.loop _ _ _ = rLoopQ; apply loop_then hLoopQ (fun j => ⟨[(2, .d (.sl 4 (kinds.map rDip.enc))), (4, .d (DI bound)), (5, .loc 5 0), (6, .loc 6 0), (8, .loc 8 0), (13, .d (DI (sizeP kinds.length : Nat))), (15, .d (DI j))], [(5, [.d (DI x.melt), .d (DI x.coat), .d (DI x.thin), .d (DI x.hold), .d (DI x.back), .d (DI x.draw), .d (DI x.set), .d (DI x.run), .d (.sl 3 (x.baths.map rBth.enc))]), (6, [.d (DI t.wick), .d (DI t.top), .d (DI t.foot)]), (8, [.d (DI want.lo), .d (DI want.hi)])], [], []⟩) J rfl; rotate_left; (show _ < 281474976710656; omega); rfl; rotate_left; all_goals clear hLoopQ)
                  · intro j hj
                    obtain ⟨hc', hlen⟩ := hcall j (by omega)
                    rw [hno j (by omega) (by omega)] at hc'
                    have hj11 : (j : Int) ≤ 10 := by omega
                    have w1 := wrap_small ((j : Int) + 1) (by omega) (by omega)
                    simp only [out73] at hc'
                    generalize hV : (fnd (j, [], List.replicate (sizeP kinds.length) false, ⟨x, t, kinds, want, bound⟩)).2 = V at hc' hlen
                    simp [kp30, md30, rDsh_enc, rTap_enc, rSpn_enc, el30, hj11, w1, hsI, hsI', hc', hlen]
                  · obtain ⟨hc', hlen⟩ := hcall J (by omega)
                    rw [hyes] at hc'
                    have hj11 : (J : Int) ≤ 10 := by omega
                    simp only [out73] at hc'
                    generalize hV : (fnd (J, [], List.replicate (sizeP kinds.length) false, ⟨x, t, kinds, want, bound⟩)).2 = V at hc' hlen
                    have hdec : (cList rInt).dec (.sl 1 (a.map rowN)) = some (a.map fun k : Nat => (k : Int)) := by
                      have := rInt_decL (a.map fun k : Nat => (k : Int))
                      rw [List.map_map] at this
                      exact this
                    simp [kp30, md30, rDsh_enc, rTap_enc, rSpn_enc, el30, hj11, hsI, hsI', hc', hlen, hdec]
        · have h3' : (planE x kinds == 0) = false := by simpa using h3
          have h3'' : (planE x kinds != 0) = true := by simpa using h3
          have hR : fewR x t kinds want bound = ([], planE x kinds) := by
            have hE : fewE x t kinds want bound = planE x kinds := by unfold fewE; rw [if_neg (by simpa using h1), if_neg (by simp [h2]), if_pos h3]
            unfold fewR; rw [hE, if_neg h3]
          rw [hR]
          simp [kp30, md30, rDsh_enc, rDsh_dec, rTap_enc, rTap_dec, rSpn_enc, rDip_k, rDip_decL, l11, l10, l9, l8, l7, l6, l5, l4, l3, l2, l1, s59, s52, s72, hlm, h1, h2, h3, h3', h3'']
      · have h2' : inR kinds.length 1 5 = false := by simpa using h2
        have hR : fewR x t kinds want bound = ([], 3) := by
          have hE : fewE x t kinds want bound = 3 := by unfold fewE; rw [if_neg (by simpa using h1), if_pos h2']
          unfold fewR; rw [hE]; rfl
        rw [hR]
        simp [kp30, md30, rDsh_enc, rDsh_dec, rTap_enc, rTap_dec, rSpn_enc, rDip_k, rDip_decL, l11, l10, l9, l8, l7, l6, l5, l4, l3, l2, l1, s59, s52, s72, hlm, h1, h2']
    · have h1' : (askedE x t [] == 0) = false := by simpa using h1
      have h1'' : (askedE x t [] != 0) = true := by simpa using h1
      have hR : fewR x t kinds want bound = ([], askedE x t []) := by
        have hE : fewE x t kinds want bound = askedE x t [] := by unfold fewE; rw [if_pos h1]
        unfold fewR; rw [hE, if_neg h1]
      rw [hR]
      simp [kp30, md30, rDsh_enc, rDsh_dec, rTap_enc, rTap_dec, rSpn_enc, rDip_k, rDip_decL, l11, l10, l9, l8, l7, l6, l5, s59, hlm, h1, h1', h1'']
  · cases hr
end Go.Proofs.YtcgacojnfkklaaaGreatDoor
