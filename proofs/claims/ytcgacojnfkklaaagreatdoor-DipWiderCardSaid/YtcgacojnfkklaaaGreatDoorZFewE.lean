/-
  The program's search for the fewest dips. Conditions: none.
-/
import Derived.Test.YtcgacojnfkklaaaGreatDoorZFewD
namespace Go.Proofs.YtcgacojnfkklaaaGreatDoor
open Go.RowKit
set_option linter.unusedSimpArgs false
set_option linter.unusedVariables false
attribute [local simp] eqsF mkCxF caps70
theorem call29 (xs : Array Value) (w : World) : (callFunc 29 xs).run Tryz.prog w = .ok (.enter 29 xs) w := by kernel_rfl
theorem oe70 : ∀ n, EffOk1 Tryz.prog 70 (e70 n)
  | 0 => oe70_0
  | n + 1 => oe70_s n (oe70 n)
noncomputable def e70a : EffSp := effBy enc70 fun a => res70 a.1 a
theorem oe70a : EffOk1 Tryz.prog 70 e70a := ok_effBy fun a r hr => by
  exact oe70 a.1 _ _ _ _ _ _ ((effBy_at (inj70 a.1) a rfl).trans hr)
theorem inj70a (a b : Nat × List Nat × List (Value × Int) × Few) (h : enc70 a = enc70 b) : res70 a.1 a = res70 b.1 b := by
  have h1 := inj70 a.1 a b h
  rw [h1]
  have : a.1 = b.1 := by
    obtain ⟨l, p, M, E⟩ := a
    obtain ⟨l', p', M', E'⟩ := b
    simp only [enc70, Prod.mk.injEq, List.cons.injEq, X.d.injEq, D.v.injEq, Value.int.injEq, Int.natCast_inj, and_true, true_and] at h
    exact h.1.2.2
  rw [this]
theorem e70a_at (n : Nat) (M : List (Value × Int)) (E : Few) : e70a [.d (.agg [DI 0, DI 0, DI 0, DI 0, DI 0]), .d (.agg [DI (beginV E.t).top.lo, DI (beginV E.t).top.hi, DI (beginV E.t).foot.lo, DI (beginV E.t).foot.hi, DI (beginV E.t).skew.lo, DI (beginV E.t).skew.hi]), .d (DI n), .loc 1000 0, .loc 1001 0, .loc 1002 0, .loc 1003 0, .loc 1004 0, .loc 1005 0, .loc 1006 0, .loc 1007 0] [.cells [.mp 1008], .cells [.d (DI E.t.wick), .d (DI E.t.top), .d (DI E.t.foot)], .cells [.d (DI E.want.lo), .d (DI E.want.hi)], .cells [.d (DI E.bound)], .cells [.d (.sl 4 (E.kinds.map rDip.enc))], .cells [.sl 1 [] (.own 900000)], .cells [.fx 70 [] [.inl 1000, .inl 1001, .inl 1002, .inl 1003, .inl 1004, .inl 1005, .inl 1006, .inl 1007]], .cells [.d (DI E.x.melt), .d (DI E.x.coat), .d (DI E.x.thin), .d (DI E.x.hold), .d (DI E.x.back), .d (DI E.x.draw), .d (DI E.x.set), .d (DI E.x.run), .d (.sl 3 (E.x.baths.map rBth.enc))], .map (19530, encM M)] [900000] = res70 n (n, [], M, E) := effBy_at inj70a (n, [], M, E) rfl
def fewE (x : Dsh) (t : Tap) (kinds : List Dip) (want : Spn) (bound : Int) : Int :=
  if ¬ askedE x t [] = 0 then askedE x t [] else if inR kinds.length 1 5 = false then 3 else if ¬ planE x kinds = 0 then planE x kinds else if want.hi < want.lo then 2 else if bound < 0 then 7 else 0
def fewR (x : Dsh) (t : Tap) (kinds : List Dip) (want : Spn) (bound : Int) : List Int × Int :=
  if fewE x t kinds want bound = 0 then (match fewP x t kinds want bound with
    | some p => (p.map fun k : Nat => (k : Int), 0)
    | none => ([], 9)) else ([], fewE x t kinds want bound)
def mapB (E : Few) (j : Nat) : List (Value × Int) := restM (fun many M => tryM E many [] M) [] j
theorem few_cases (E : Few) (h5 : E.kinds.length ≤ 5) : ((∀ j, j < 11 → (tryM E j [] (mapB E j)).1 = none) ∧ fewP E.x E.t E.kinds E.want E.bound = none) ∨ ∃ J a, J < 11 ∧ (∀ j, j < J → (tryM E j [] (mapB E j)).1 = none) ∧ (tryM E J [] (mapB E J)).1 = some a ∧ fewP E.x E.t E.kinds E.want E.bound = some a := by
  have h := (loopM_eq (f := fun many M => tryM E many [] M) (g := fun many => tryP E.x E.t E.kinds E.want E.bound many []) (I := MOk E) 11 0 [] (mok_nil E) fun j v _ _ hv => tryM_eq E h5 j [] v (fun k hk => by cases hk) hv).1
  rcases loopM_cases (fun many M => tryM E many [] M) [] 11 with ⟨hno, hres⟩ | ⟨J, a, hJ, hno, hyes, hres⟩
  · rw [hres] at h
    exact .inl ⟨hno, h.symm⟩
  · rw [hres] at h
    exact .inr ⟨J, a, hJ, hno, hyes, h.symm⟩
def kp29 (r : Nat) : List (Nat × Option Nat) := match r with
  | 0 => [(5, none), (6, none), (7, none), (8, none), (9, none), (10, none)]
  | 1 => [(6, none), (7, none), (8, none), (9, none), (10, none), (11, none), (12, none)]
  | 2 => [(6, none), (7, none), (8, none), (9, none), (10, none), (11, none), (12, none), (29, none)]
  | 3 => [(6, none), (7, none), (8, none), (9, none), (10, none), (11, none), (12, none)]
  | 4 => [(6, none), (7, none), (8, none), (9, none), (10, none), (11, none), (12, none), (31, none)]
  | 5 => [(6, none), (7, none), (8, none), (9, none), (10, none), (11, none), (12, none)]
  | 6 => [(6, none), (7, none), (8, none), (9, none), (10, none), (11, none), (12, none), (35, none)]
  | 7 => [(10, none), (11, none)]
  | 8 => [(6, none), (7, none), (8, none), (9, none), (10, none), (12, none), (39, none)]
  | 9 => [(10, none), (11, none)]
  | 10 => [(6, none), (7, none), (8, none), (9, none), (10, none), (12, none), (45, none)]
  | 11 => [(10, none), (11, none)]
  | 12 => [(6, none), (7, none), (8, none), (9, none), (10, none), (12, none), (13, none)]
  | 13 => [(6, none), (7, none), (8, none), (9, none), (10, none), (12, none), (13, none), (14, none)]
  | 14 => [(6, none), (7, none), (8, none), (9, none), (10, none), (12, none), (13, none), (14, none)]
  | 15 => [(6, none), (7, none), (8, none), (9, none), (10, none), (12, none), (13, none), (14, none), (50, none)]
  | 16 => [(6, none), (7, none), (8, none), (9, none), (10, none), (12, none), (13, none), (14, none), (50, none), (51, none)]
  | 17 => [(6, none), (7, none), (8, none), (9, none), (10, none), (12, none), (13, none), (14, none), (15, none), (50, none)]
  | 18 => [(6, none), (7, none), (8, none), (9, none), (10, none), (12, none), (13, none), (14, none), (50, none), (58, none)]
  | 19 => [(10, none), (11, none)]
  | 20 => [(6, none), (7, none), (8, none), (9, none), (10, none), (12, none), (13, none), (14, none), (50, none)]
  | 21 => [(10, none), (11, none)]
  | _ => []
def md29 (r : Nat) : Nat := if r = 18 then 1 else 0
def g29l : List (Nat × (List D → Option D)) := (69, s69) :: (48, s48) :: g6l
theorem dg29 : DelOk Tryz.prog (delOf g29l) := del_cons (del_cons dg6 call48 ok48) call69 ok69
noncomputable def el29 : List (Nat × EffSp) := [(70, e70a)]
theorem del29e : EffOk Tryz.prog (effOf el29) := eff_cons eff_nil call70 oe70a
def i64Ok (n : Int) : Prop := -9223372036854775808 ≤ n ∧ n ≤ 9223372036854775807
instance (n : Int) : Decidable (i64Ok n) := inferInstanceAs (Decidable (_ ∧ _))
def s29 : List D → Option D := sp5 (cAgg rDsh) (cAgg rTap) (cList rDip) (cAgg rSpn) cInt (cTup2 (cList rInt) cInt) fun x t kinds want bound => if namesOk x ∧ i64Ok bound then some (fewR x t kinds want bound) else none
set_option maxHeartbeats 4000000 in
theorem ok29 : ∀ ds d, s29 ds = some d → PureC Tryz.prog 29 ds d := ok_sp5 fun x t kinds want bound r hr => by
  split at hr
  · rename_i hc
    cases hr
    obtain ⟨hs, hb0, hb1⟩ := hc
    have hlm := blen_or x
    refine pure_of_dec (cTup2 (cList rInt) cInt) _ (mkCxF_ok dg29 del29e 61 kp29 [(10, 0, 1001)] (fun _ => []) md29) Tryz.func29 rfl rfl (Nat.le_of_ble_eq_true rfl) (by kernel_rfl) ?_
    rw [Tryz.results29]
    by_cases h1 : askedE x t [] = 0
    · obtain ⟨hx, ht, _⟩ := asked_ok h1
      have hlm := hlm.resolve_right (by simpa using hx)
      by_cases h2 : inR kinds.length 1 5 = true
      · by_cases h3 : planE x kinds = 0
        · by_cases h4 : want.hi < want.lo
          · have hR : fewR x t kinds want bound = ([], 2) := by
              have hE : fewE x t kinds want bound = 2 := by unfold fewE; rw [if_neg (by simpa using h1), if_neg (by simp [h2]), if_neg (by simpa using h3), if_pos h4]
              unfold fewR; rw [hE]; rfl
            rw [hR]
            simp [kp29, md29, rDsh_enc, rDsh_dec, rTap_enc, rTap_dec, rSpn_enc, rDip_k, rDip_decL, g29l, g6l, s54, s48, s69, int_dec1, out1, hs, hlm, h1, h2, h3, h4]
          · by_cases h5 : bound < 0
            · have hR : fewR x t kinds want bound = ([], 7) := by
                have hE : fewE x t kinds want bound = 7 := by unfold fewE; rw [if_neg (by simpa using h1), if_neg (by simp [h2]), if_neg (by simpa using h3), if_neg h4, if_pos h5]
                unfold fewR; rw [hE]; rfl
              rw [hR]
              simp [kp29, md29, rDsh_enc, rDsh_dec, rTap_enc, rTap_dec, rSpn_enc, rDip_k, rDip_decL, g29l, g6l, s54, s48, s69, int_dec1, out1, hs, hlm, h1, h2, h3, h4, h5]
            · have hE : fewE x t kinds want bound = 0 := by unfold fewE; rw [if_neg (by simpa using h1), if_neg (by simp [h2]), if_neg (by simpa using h3), if_neg h4, if_neg h5]
              simp [kp29, md29, rDsh_enc, rDsh_dec, rTap_enc, rTap_dec, rSpn_enc, rDip_k, rDip_decL, g29l, g6l, s54, s48, s69, int_dec1, out1, hs, hlm, h1, h2, h3, h4, h5, mkCxF]
              have hin := inR_iff.1 h2
              have hxl := baths_of hx
              have hokl : okL x kinds := (asked_ok (by unfold askedE; rw [if_neg (by simpa using hx), if_neg (by simpa using ht)]; exact h3)).2.2
              have hE' : FewOk ⟨x, t, kinds, want, bound⟩ := ⟨hokl, ht, by show kinds.length ≤ 5; omega, by show 0 ≤ bound; omega, hb1⟩
              have htap : tapOk t := by have := tapE_bd ht; exact ⟨⟨by omega, by omega⟩, by omega, by omega⟩
              have hcall : ∀ (j : Nat), j < 11 → e70a [.d (.agg [DI 0, DI 0, DI 0, DI 0, DI 0]), .d (.agg [DI (beginV t).top.lo, DI (beginV t).top.hi, DI (beginV t).foot.lo, DI (beginV t).foot.hi, DI (beginV t).skew.lo, DI (beginV t).skew.hi]), .d (DI j), .loc 1000 0, .loc 1001 0, .loc 1002 0, .loc 1003 0, .loc 1004 0, .loc 1005 0, .loc 1006 0, .loc 1007 0] [.cells [.mp 1008], .cells [.d (DI t.wick), .d (DI t.top), .d (DI t.foot)], .cells [.d (DI want.lo), .d (DI want.hi)], .cells [.d (DI bound)], .cells [.d (.sl 4 (kinds.map rDip.enc))], .cells [.sl 1 [] (.own 900000)], .cells [.fx 70 [] [.inl 1000, .inl 1001, .inl 1002, .inl 1003, .inl 1004, .inl 1005, .inl 1006, .inl 1007]], .cells [.d (DI x.melt), .d (DI x.coat), .d (DI x.thin), .d (DI x.hold), .d (DI x.back), .d (DI x.draw), .d (DI x.set), .d (DI x.run), .d (.sl 3 (x.baths.map rBth.enc))], .map (19530, encM (mapB ⟨x, t, kinds, want, bound⟩ j))] [900000] = some (DB (tryM ⟨x, t, kinds, want, bound⟩ j [] (mapB ⟨x, t, kinds, want, bound⟩ j)).1.isSome, cFew ⟨x, t, kinds, want, bound⟩ ((tryM ⟨x, t, kinds, want, bound⟩ j [] (mapB ⟨x, t, kinds, want, bound⟩ j)).1.getD []) (mapB ⟨x, t, kinds, want, bound⟩ (j + 1)) 200500, [200500]) := fun j hj => by
                have := e70a_at j (mapB ⟨x, t, kinds, want, bound⟩ j) ⟨x, t, kinds, want, bound⟩
                refine this.trans ?_
                unfold res70
                rw [if_pos ⟨rfl, hE', by simp only [List.length_nil]; omega, fun k hk => by cases hk⟩]
                rfl
              rcases few_cases ⟨x, t, kinds, want, bound⟩ (by show kinds.length ≤ 5; omega) with ⟨hno, hres⟩ | ⟨J, a, hJ, hno, hyes, hres⟩
              · have hR : fewR x t kinds want bound = ([], 9) := by
                  unfold fewR
                  rw [if_pos hE]
                  simp only at hres
                  rw [hres]
                rw [hR]
                (generalize hLoopQ : Cx.loop _ _ _ = rLoopQ; apply loop_then hLoopQ (fun j => ⟨[(6, .loc 6 0), (7, .loc 7 0), (8, .loc 8 0), (9, .loc 9 0), (10, .loc 10 0), (12, .loc 12 0), (13, .loc 13 0), (14, .loc 14 0), (50, .d (DI j))], [(6, [.d (DI t.wick), .d (DI t.top), .d (DI t.foot)]), (7, [.d (.sl 4 (kinds.map rDip.enc))]), (8, [.d (DI want.lo), .d (DI want.hi)]), (9, [.d (DI bound)]), (10, [.sl 1 [] (.own 101000)]), (12, [.d (DI x.melt), .d (DI x.coat), .d (DI x.thin), .d (DI x.hold), .d (DI x.back), .d (DI x.draw), .d (DI x.set), .d (DI x.run), .d (.sl 3 (x.baths.map rBth.enc))]), (13, [.mp 48]), (14, [.fx 70 [] [.inl 13, .inl 6, .inl 8, .inl 9, .inl 7, .inl 10, .inl 14, .inl 12]])], [101000], [(48, (19530, encM (mapB ⟨x, t, kinds, want, bound⟩ j)))]⟩) 11 rfl; rotate_left; (show _ < 281474976710656; omega); rfl; rotate_left; all_goals clear hLoopQ)
                · intro j hj
                  have hc' := hcall j hj
                  rw [hno j hj] at hc'
                  simp only [Option.isSome_none, Option.getD_none, cFew_eq, caps70, List.map_nil] at hc'
                  have w1 := wrap_small ((j : Int) + 1) (by omega) (by omega)
                  have hj11 : (j : Int) < 11 := by omega
                  simp [kp29, md29, rDsh_enc, rDsh_dec, rTap_enc, rTap_dec, rRng_enc, rDip_k, g29l, g6l, s63, el29, htap, hc', w1, hj11, hj]
                · simp [kp29, md29, rDsh_enc, rDsh_dec, rTap_enc, rTap_dec, rRng_enc, rDip_k, g29l, g6l, s63, el29]
              · have hR : fewR x t kinds want bound = (a.map fun k : Nat => (k : Int), 0) := by
                  unfold fewR
                  rw [if_pos hE]
                  simp only at hres
                  rw [hres]
                rw [hR]
                (generalize hLoopQ : Cx.loop _ _ _ = rLoopQ; apply loop_then hLoopQ (fun j => ⟨[(6, .loc 6 0), (7, .loc 7 0), (8, .loc 8 0), (9, .loc 9 0), (10, .loc 10 0), (12, .loc 12 0), (13, .loc 13 0), (14, .loc 14 0), (50, .d (DI j))], [(6, [.d (DI t.wick), .d (DI t.top), .d (DI t.foot)]), (7, [.d (.sl 4 (kinds.map rDip.enc))]), (8, [.d (DI want.lo), .d (DI want.hi)]), (9, [.d (DI bound)]), (10, [.sl 1 [] (.own 101000)]), (12, [.d (DI x.melt), .d (DI x.coat), .d (DI x.thin), .d (DI x.hold), .d (DI x.back), .d (DI x.draw), .d (DI x.set), .d (DI x.run), .d (.sl 3 (x.baths.map rBth.enc))]), (13, [.mp 48]), (14, [.fx 70 [] [.inl 13, .inl 6, .inl 8, .inl 9, .inl 7, .inl 10, .inl 14, .inl 12]])], [101000], [(48, (19530, encM (mapB ⟨x, t, kinds, want, bound⟩ j)))]⟩) J rfl; rotate_left; (show _ < 281474976710656; omega); rfl; rotate_left; all_goals clear hLoopQ)
                · intro j hj
                  have hc' := hcall j (by omega)
                  rw [hno j hj] at hc'
                  simp only [Option.isSome_none, Option.getD_none, cFew_eq, caps70, List.map_nil] at hc'
                  have w1 := wrap_small ((j : Int) + 1) (by omega) (by omega)
                  have hj11 : (j : Int) < 11 := by omega
                  simp [kp29, md29, rDsh_enc, rDsh_dec, rTap_enc, rTap_dec, rRng_enc, rDip_k, g29l, g6l, s63, el29, htap, hc', w1, hj11, hj]
                · have hc' := hcall J hJ
                  rw [hyes] at hc'
                  simp only [Option.isSome_some, Option.getD_some, cFew_eq, caps70] at hc'
                  have hj11 : (J : Int) < 11 := by omega
                  have hdec : (cList rInt).dec (.sl 1 (a.map rowN)) = some (a.map fun k : Nat => (k : Int)) := by
                    have := rInt_decL (a.map fun k : Nat => (k : Int))
                    rw [List.map_map] at this
                    exact this
                  simp [kp29, md29, rDsh_enc, rDsh_dec, rTap_enc, rTap_dec, rRng_enc, rDip_k, g29l, g6l, s63, el29, htap, hc', hj11, hJ, hdec]
        · have h3' : (planE x kinds == 0) = false := by simpa using h3
          have h3'' : (planE x kinds != 0) = true := by simpa using h3
          have hR : fewR x t kinds want bound = ([], planE x kinds) := by
            have hE : fewE x t kinds want bound = planE x kinds := by unfold fewE; rw [if_neg (by simpa using h1), if_neg (by simp [h2]), if_pos h3]
            unfold fewR; rw [hE, if_neg h3]
          rw [hR]
          simp [kp29, md29, rDsh_enc, rDsh_dec, rTap_enc, rTap_dec, rSpn_enc, rDip_k, rDip_decL, g29l, g6l, s54, s48, s69, int_dec1, out1, hs, hlm, h1, h2, h3, h3', h3'']
      · have h2' : inR kinds.length 1 5 = false := by simpa using h2
        have hR : fewR x t kinds want bound = ([], 3) := by
          have hE : fewE x t kinds want bound = 3 := by unfold fewE; rw [if_neg (by simpa using h1), if_pos h2']
          unfold fewR; rw [hE]; rfl
        rw [hR]
        simp [kp29, md29, rDsh_enc, rDsh_dec, rTap_enc, rTap_dec, rSpn_enc, rDip_k, rDip_decL, g29l, g6l, s54, s48, int_dec1, out1, hs, hlm, h1, h2']
    · have h1' : (askedE x t [] == 0) = false := by simpa using h1
      have h1'' : (askedE x t [] != 0) = true := by simpa using h1
      have hR : fewR x t kinds want bound = ([], askedE x t []) := by
        have hE : fewE x t kinds want bound = askedE x t [] := by unfold fewE; rw [if_pos h1]
        unfold fewR; rw [hE, if_neg h1]
      rw [hR]
      simp [kp29, md29, rDsh_enc, rDsh_dec, rTap_enc, rTap_dec, rSpn_enc, rDip_k, rDip_decL, g29l, g6l, s54, hs, hlm, h1, h1', h1'']
  · cases hr
end Go.Proofs.YtcgacojnfkklaaaGreatDoor
