/-
  The reference's search for the fewest dips: the function that tries. Conditions: none.
-/
import Derived.Test.YtcgacojnfkklaaaGreatDoorZFewD
import Derived.Test.YtcgacojnfkklaaaGreatDoorZFewG
import Derived.Test.YtcgacojnfkklaaaGreatDoorZRefH
namespace Go.Proofs.YtcgacojnfkklaaaGreatDoor
open Go.RowKit
set_option linter.unusedSimpArgs false
set_option linter.unusedVariables false
def kp73 (r : Nat) : List (Nat × Option Nat) := match r with
  | 0 => [(2, none), (4, none), (6, none), (7, none), (8, none), (9, none), (11, none), (13, none)]
  | 1 => [(2, none), (4, none), (6, none), (7, none), (8, none), (9, none), (11, none), (13, none), (18, none)]
  | 2 => [(2, none), (4, none), (6, none), (7, none), (8, none), (9, none), (11, none), (13, none), (18, none), (19, none)]
  | 3 => [(2, none), (4, none), (6, none), (7, none), (8, none), (9, none), (11, none), (13, none), (18, none), (19, none), (31, none)]
  | 4 => [(2, none), (4, none), (6, none), (7, none), (8, none), (9, none), (11, none), (13, none), (18, none), (19, none)]
  | 5 => [(2, none), (4, none), (6, none), (7, none), (8, none), (9, none), (11, none), (13, none), (18, none), (19, none), (20, none)]
  | 6 => [(2, none), (4, none), (6, none), (7, none), (8, none), (9, none), (11, none), (13, none), (18, none), (19, none), (20, none), (21, none)]
  | 7 => [(2, none), (4, none), (6, none), (7, none), (8, none), (9, none), (11, none), (13, none), (18, none), (19, none), (20, none), (21, none), (38, none)]
  | 8 => [(2, none), (4, none), (6, none), (7, none), (8, none), (9, none), (11, none), (13, none), (18, none), (19, none), (20, none), (21, none)]
  | 9 => [(2, none), (4, none), (6, none), (7, none), (8, none), (9, none), (11, none), (13, none), (18, none), (19, none), (20, none), (21, none), (47, none)]
  | 10 => [(2, none), (4, none), (6, none), (7, none), (8, none), (9, none), (11, none), (13, none), (18, none), (19, none), (20, none), (21, none)]
  | 11 => [(2, none), (4, none), (6, none), (7, none), (8, none), (9, none), (11, none), (13, none), (18, none), (19, none)]
  | 12 => [(2, none), (4, none), (6, none), (7, none), (8, none), (9, none), (11, none), (13, none), (18, none), (57, none)]
  | 13 => [(16, none), (17, none)]
  | 14 => [(2, none), (4, none), (6, none), (7, none), (8, none), (9, none), (11, none), (13, none), (18, none), (23, none)]
  | 15 => [(2, none), (4, none), (6, none), (7, none), (8, none), (9, none), (11, none), (13, none), (18, none), (23, none), (80, none)]
  | 16 => [(16, none), (17, none)]
  | 17 => [(2, none), (4, none), (6, none), (7, none), (8, none), (9, none), (11, none), (13, none), (18, none), (23, none), (24, none)]
  | 18 => [(2, none), (4, none), (6, none), (7, none), (8, none), (9, none), (11, none), (13, none), (18, none), (23, none), (24, none), (93, none)]
  | 19 => [(2, none), (4, none), (6, none), (7, none), (8, none), (9, none), (11, none), (13, none), (18, none), (23, none), (24, none)]
  | 20 => [(2, none), (4, none), (6, none), (7, none), (8, none), (9, none), (11, none), (13, none), (18, none), (23, none), (24, none), (25, none)]
  | 21 => [(2, none), (4, none), (6, none), (7, none), (8, none), (9, none), (11, none), (13, none), (18, none), (23, none), (24, none), (26, none), (27, none)]
  | 22 => [(2, none), (4, none), (6, none), (7, none), (8, none), (9, none), (11, none), (13, none), (18, none), (23, none), (24, none), (26, none), (127, none)]
  | 23 => [(16, none), (17, none)]
  | 24 => []
  | 25 => [(16, none), (17, none)]
  | _ => []
def fB (b : Bool) : X := .d (DB b)
def madeX (kinds : List Dip) (p : List Nat) : X := .d (.agg [.sl 4 ((planP kinds p).map rDip.enc), .sl 1 (p.map rowN)])
def enc73 (a : Nat × List Nat × List Bool × Few) : List X × List Cont × List Nat :=
  ([.d (.agg (rDsh.enc a.2.2.2.x)), .d (.agg (rTap.enc a.2.2.2.t)), .d (.sl 4 (a.2.2.2.kinds.map rDip.enc)), .d (.agg (rSpn.enc a.2.2.2.want)), .d (DI a.2.2.2.bound), madeX a.2.2.2.kinds a.2.1, .d (DI a.1), .bs 1000 0 a.2.2.1.length 1], [.cells (a.2.2.1.map fB)], [])
def out73 (r : Option (List Nat)) : D := .tup [match r with | some a => .sl 1 (a.map rowN) | none => .sl 0 [], DB r.isSome]
def fnd (a : Nat × List Nat × List Bool × Few) : Option (List Nat) × List Bool := foundV a.2.2.2.x a.2.2.2.t a.2.2.2.kinds a.2.2.2.want a.2.2.2.bound a.1 a.2.1 a.2.2.1
def Ok73 (a : Nat × List Nat × List Bool × Few) : Prop := (FewOk a.2.2.2 ∧ 0 < a.2.2.2.kinds.length) ∧ a.1 + a.2.1.length ≤ 10 ∧ (∀ k ∈ a.2.1, k < a.2.2.2.kinds.length) ∧ a.2.2.1.length = 11 ^ a.2.2.2.kinds.length ∧ ∀ k, k < a.2.1.length → 0 < k → lostR a.2.2.2.t (rP a.2.2.2.x a.2.2.2.t a.2.2.2.kinds (a.2.1.take k)) = false
instance (a : Nat × List Nat × List Bool × Few) : Decidable (Ok73 a) := inferInstanceAs (Decidable (_ ∧ _ ∧ _ ∧ _ ∧ _))
def res73 (n : Nat) (a : Nat × List Nat × List Bool × Few) : Option (D × List Cont × List Nat) :=
  if a.1 = n ∧ Ok73 a then some (out73 (fnd a).1, [.cells ((fnd a).2.map fB)], []) else none
theorem plain_fB (al : List Nat) (b : Bool) : X.plain al (fB b) = true := rfl
theorem close_fB (b off : Nat) : ∀ (v : List Bool) (av nw : List Nat), closeC [] b off (v.map fB) av nw = (v.map fB, av, nw) := by
  intro v
  induction v generalizing off with
  | nil => intro av nw; rfl
  | cons x t ih => intro av nw; simp only [List.map_cons, closeC, annOf, ih]; rfl
theorem ren_fB (ls : List Nat) (t0 : Option Nat) : X.ren ls t0 ∘ fB = fB := rfl
theorem back_fB (ls : List Nat) (i : Nat) (tl : List Nat) : X.back ls i tl ∘ fB = fB := rfl
theorem locs_fB (v : List Bool) : locsL (v.map fB) = [] := by
  induction v with
  | nil => rfl
  | cons x t ih => simp only [List.map_cons, locsL, ih]; rfl
theorem own_fB (toks : List Nat) (v : List Bool) : ownX toks (v.map fB) = none := by
  induction v with
  | nil => rfl
  | cons x t ih => simp only [List.map_cons, ownX, ih]; rfl
theorem fB_t : fB true = .d (DB true) := rfl
theorem fB_f : fB false = .d (DB false) := rfl
theorem close_set (b off i : Nat) (c : Bool) (v : List Bool) (av nw : List Nat) : closeC [] b off ((v.map fB).set i (.d (DB c))) av nw = ((v.map fB).set i (.d (DB c)), av, nw) := by
  have : (v.map fB).set i (.d (DB c)) = (v.set i c).map fB := by rw [List.map_set]; rfl
  rw [this]; exact close_fB _ _ _ _ _
theorem upd_fB (v : List Bool) (i : Nat) (c : Bool) (h : i < v.length) : (v.map fB).take i ++ X.d (DB c) :: (v.map fB).drop (i + 1) = (v.set i c).map fB := by
  rw [List.map_set, List.set_eq_take_append_cons_drop, if_pos (by simpa using h)]
  rfl
attribute [-simp] List.map_set
attribute [local simp high] upd_fB close_set fB_t fB_f plain_fB close_fB ren_fB back_fB locs_fB own_fB
theorem fB_inj {v w : List Bool} (h : v.map fB = w.map fB) : v = w := by
  refine (List.map_inj_right fun a b hab => ?_).1 h
  simp only [fB, X.d.injEq, D.v.injEq, Value.bool.injEq] at hab
  exact hab
theorem inj73 (n : Nat) (a b : Nat × List Nat × List Bool × Few) (h : enc73 a = enc73 b) : res73 n a = res73 n b := by
  obtain ⟨l, p, v, x, t, kinds, want, bound⟩ := a
  obtain ⟨l', p', v', x', t', kinds', want', bound'⟩ := b
  simp only [enc73, madeX, Prod.mk.injEq, List.cons.injEq, X.d.injEq, D.agg.injEq, D.sl.injEq, D.v.injEq, Value.int.injEq, Int.natCast_inj, Cont.cells.injEq, and_true, true_and] at h
  obtain ⟨⟨h1, h2, h3, h4, h5, h6, h7, _⟩, h8⟩ := h
  have e1 := row_inj _ h1
  have e2 := row_inj _ h2
  have e3 := rows_inj _ h3
  have e4 := row_inj _ h4
  have e6 := rowN_inj h6.2
  have e8 := fB_inj h8
  subst e1; subst e2; subst e3; subst e4; subst h5; subst e6; subst h7; subst e8
  rfl
noncomputable def e73 (n : Nat) : EffSp := effBy enc73 (res73 n)
theorem call73 (xs : Array Value) (w : World) : (callFunc 73 xs).run Tryz.prog w = .ok (.enter 73 xs) w := by kernel_rfl
theorem e73_at (n : Nat) (p : List Nat) (v : List Bool) (E : Few) (k : Nat) : e73 n [.d (.agg [DI E.x.melt, DI E.x.coat, DI E.x.thin, DI E.x.hold, DI E.x.back, DI E.x.draw, DI E.x.set, DI E.x.run, .sl 3 (E.x.baths.map rBth.enc)]), .d (.agg [DI E.t.wick, DI E.t.top, DI E.t.foot]), .d (.sl 4 (E.kinds.map rDip.enc)), .d (.agg [DI E.want.lo, DI E.want.hi]), .d (DI E.bound), .d (.agg [.sl 4 ((planP E.kinds p).map rDip.enc ++ [[DI (kindAt E.kinds k).bath, DI (kindAt E.kinds k).secs, DI (kindAt E.kinds k).pause, DB (kindAt E.kinds k).turned]]), .sl 1 (p.map rowN ++ [[DI k]])]), .d (DI n), .bs 1000 0 v.length 1] [.cells (v.map fB)] [] = res73 n (n, p ++ [k], v, E) := effBy_at (inj73 n) (n, p ++ [k], v, E) (by
  simp only [enc73, madeX, planP_app, List.map_append, List.map_cons, List.map_nil, rowN]
  rfl)
theorem codeP_bd {p : List Nat} (hp : p.length ≤ 10) {K : Nat} (hK : K ≤ 5) : codeP K p < 161051 := by
  have h1 := codeP_lt p hp K
  have h2 : 11 ^ K ≤ 11 ^ 5 := Nat.pow_le_pow_right (by omega) hK
  omega
theorem count_take (p : List Nat) (k i : Nat) (hi : i < p.length) : (p.take (i + 1)).count k = (p.take i).count k + if p[i] = k then 1 else 0 := by
  rw [List.take_add_one, List.getElem?_eq_getElem hi, List.count_append]
  simp [List.count_singleton]
set_option maxHeartbeats 4000000 in
theorem oe73_0 : EffOk1 Tryz.prog 73 (e73 0) := ok_effBy fun a r hr => by
  obtain ⟨l, p, v, E⟩ := a
  unfold res73 at hr
  split at hr
  · rename_i hc
    cases hr
    obtain ⟨rfl, ⟨hE, hK⟩, hlen, hp, hv, hal⟩ := hc
    simp only at hE hK hlen hp hv hal
    have hKI : (0 : Int) < E.kinds.length := by omega
    obtain ⟨hl, ht, h5, hb0, hb1⟩ := id hE
    have halive : aliveP E.x E.t E.kinds p := fun k h0 hk => hal k hk h0
    have hpl : p.length ≤ 10 := by omega
    have hcp := codeP_lt p hpl E.kinds.length
    have hcb := codeP_bd hpl h5
    obtain ⟨at', hat⟩ : ∃ at', at' = codeP E.kinds.length p := ⟨_, rfl⟩
    have hav : at' < v.length := by rw [hat, hv]; exact hcp
    have hvat : v[at']? = some v[at'] := List.getElem?_eq_getElem hav
    refine eff_of_call (mkCxE_ok del11 eff_nil keys_nil seq_nil 132 kp73 [] (fun _ => []) (fun _ => 0)) Tryz.func73 rfl rfl (Nat.le_of_ble_eq_true rfl) (by kernel_rfl) (by kernel_rfl) ?_
    rw [Tryz.results73]
    simp only [enc73, madeX]
    simp [kp73, rDsh_enc, rTap_enc, rSpn_enc]
    (generalize hLoopQ : Cx.loop _ _ _ = rLoopQ; apply loop_then hLoopQ (fun k => ⟨[(2, .d (.sl 4 (E.kinds.map rDip.enc))), (4, .d (DI E.bound)), (6, .d (DI 0)), (7, .bs 1000 0 v.length 1), (8, .loc 8 0), (9, .loc 9 0), (11, .loc 11 0), (13, .loc 13 0), (18, .d (DI (codeP k p : Nat))), (19, .d (DI k))], [(1000, v.map fB), (8, [.d (DI E.x.melt), .d (DI E.x.coat), .d (DI E.x.thin), .d (DI E.x.hold), .d (DI E.x.back), .d (DI E.x.draw), .d (DI E.x.set), .d (DI E.x.run), .d (.sl 3 (E.x.baths.map rBth.enc))]), (9, [.d (DI E.t.wick), .d (DI E.t.top), .d (DI E.t.foot)]), (11, [.d (DI E.want.lo), .d (DI E.want.hi)]), (13, [.d (.sl 4 ((planP E.kinds p).map rDip.enc)), .d (.sl 1 (p.map rowN))])], [], []⟩) E.kinds.length rfl; rotate_left; (show _ < 281474976710656; omega); rfl; rotate_left; all_goals clear hLoopQ)
    · intro k hk
      have hkl : (k : Int) < E.kinds.length := by omega
      have hck := codeP_bd hpl (show k ≤ 5 by omega)
      have hck' := codeP_bd hpl (show k + 1 ≤ 5 by omega)
      have w1 := wrap_small ((k : Int) + 1) (by omega) (by omega)
      simp [kp73, hkl]
      (generalize hLoopQ : Cx.loop _ _ _ = rLoopQ; apply loop_then hLoopQ (fun i => ⟨[(2, .d (.sl 4 (E.kinds.map rDip.enc))), (4, .d (DI E.bound)), (6, .d (DI 0)), (7, .bs 1000 0 v.length 1), (8, .loc 8 0), (9, .loc 9 0), (11, .loc 11 0), (13, .loc 13 0), (18, .d (DI (codeP k p : Nat))), (19, .d (DI k)), (20, .d (DI ((p.take i).count k : Nat))), (21, .d (DI i))], [(1000, v.map fB), (8, [.d (DI E.x.melt), .d (DI E.x.coat), .d (DI E.x.thin), .d (DI E.x.hold), .d (DI E.x.back), .d (DI E.x.draw), .d (DI E.x.set), .d (DI E.x.run), .d (.sl 3 (E.x.baths.map rBth.enc))]), (9, [.d (DI E.t.wick), .d (DI E.t.top), .d (DI E.t.foot)]), (11, [.d (DI E.want.lo), .d (DI E.want.hi)]), (13, [.d (.sl 4 ((planP E.kinds p).map rDip.enc)), .d (.sl 1 (p.map rowN))])], [], []⟩) p.length rfl; rotate_left; (show _ < 281474976710656; omega); rfl; rotate_left; all_goals clear hLoopQ)
      · intro i hi
        have hil : (i : Int) < p.length := by omega
        have w2 := wrap_small ((i : Int) + 1) (by omega) (by omega)
        have hct := count_take p k i hi
        have hcl : (p.take i).count k ≤ 10 := Nat.le_trans List.count_le_length (by simp; omega)
        have w3 := wrap_small ((((p.take i).count k : Nat) : Int) + 1) (by omega) (by omega)
        by_cases he : p[i] = k
        · rw [if_pos he] at hct
          have he' : ((p[i] : Nat) : Int) = k := by omega
          simp [kp73, hil, hi, rowN, he, he', w2, w3, hct]
        · rw [if_neg he] at hct
          have he' : (((p[i] : Nat) : Int) == k) = false := by rw [beq_eq_false_iff_ne]; omega
          simp [kp73, hil, hi, rowN, he, he', w2, w3, hct]
      · have hcs := codeP_succ k p
        have w4 := wrap_small (((codeP k p : Nat) : Int) * 11) (by omega) (by omega)
        have w5 : IntKind.i64.wrap (((codeP k p : Nat) : Int) * 11 + (p.count k : Nat)) = (codeP (k + 1) p : Nat) := by
          rw [wrap_small _ (by omega) (by omega)]; omega
        simp [kp73, w1, w4, w5]
    · have hatI : ((at' : Nat) : Int) < v.length := by omega
      have hask := asked_plan hl ht hp (by omega)
      have hsome := after_rP halive
      rw [← hat]
      by_cases hvt : v[at'] = true
      · have hres : fnd (0, p, v, E) = (none, v) := by
          simp only [fnd, foundV]
          rw [if_pos (by rw [← hat, List.getD_eq_getElem?_getD, hvat, hvt]; rfl)]
        rw [hres]
        rw [hvt] at hvat
        simp [kp73, hav, hatI, hvat, hvt, out73]
      · rw [Bool.not_eq_true] at hvt
        have hne : ¬ v.getD (codeP E.kinds.length p) false = true := by rw [← hat, List.getD_eq_getElem?_getD, hvat, hvt]; simp
        rw [hvt] at hvat
        by_cases hd : deadP E.x E.t E.kinds p = true
        · have hres : fnd (0, p, v, E) = (none, v.set at' true) := by
            simp only [fnd, foundV]
            rw [if_neg hne, if_neg (by rw [hd]; simp), hat]
          rw [hres]
          rw [hd] at hsome
          simp [kp73, hav, hatI, hvat, hvt, out73, l11, l10, l9, s65, rDsh_dec, rTap_dec, rSpn_dec, rSpn_enc, rDip_k, rDip_decL, hask, hsome]
          (generalize hLoopQ : Cx.loop _ _ _ = rLoopQ; apply loop_then hLoopQ (fun k => ⟨[(2, .d (.sl 4 (E.kinds.map rDip.enc))), (4, .d (DI E.bound)), (6, .d (DI 0)), (7, .bs 1000 0 v.length 1), (8, .loc 8 0), (9, .loc 9 0), (11, .loc 11 0), (13, .loc 13 0), (18, .d (DI at')), (23, .d (DB false)), (24, .d (DI k))], [(1000, v.map fB), (8, [.d (DI E.x.melt), .d (DI E.x.coat), .d (DI E.x.thin), .d (DI E.x.hold), .d (DI E.x.back), .d (DI E.x.draw), .d (DI E.x.set), .d (DI E.x.run), .d (.sl 3 (E.x.baths.map rBth.enc))]), (9, [.d (DI E.t.wick), .d (DI E.t.top), .d (DI E.t.foot)]), (11, [.d (DI E.want.lo), .d (DI E.want.hi)]), (13, [.d (.sl 4 ((planP E.kinds p).map rDip.enc)), .d (.sl 1 (p.map rowN))])], [], []⟩) 0 rfl; rotate_left; (show _ < 281474976710656; omega); rfl; rotate_left; all_goals clear hLoopQ)
          · intro k hk; omega
          · have hav1 : at' + 1 ≤ v.length := hav
            simp [kp73, hKI, hK, hav, hav1, hatI]
        · rw [Bool.not_eq_true] at hd
          have hlast := last_rP halive hd
          rw [hd] at hsome
          by_cases hm : makesB (rP E.x E.t E.kinds p) E.want E.bound = true
          · have hres : fnd (0, p, v, E) = (some p, v) := by
              simp only [fnd, foundV]
              rw [if_neg hne, if_pos ⟨hd, hm⟩]
            rw [hres]
            simp [kp73, hav, hatI, hvat, hvt, out73, l11, l10, l9, s65, rDsh_dec, rTap_dec, rSpn_dec, rSpn_enc, s46, s45, rDip_k, rDip_decL, rRng_enc, rRng_dec, hask, hsome, hlast, hb0, hb1, boundOk, hm]
          · have hres : fnd (0, p, v, E) = (none, v.set at' true) := by
              simp only [fnd, foundV]
              rw [if_neg hne, if_neg (fun h => hm h.2), hat]
            rw [hres]
            rw [Bool.not_eq_true] at hm
            simp [kp73, hav, hatI, hvat, hvt, out73, l11, l10, l9, s65, rDsh_dec, rTap_dec, rSpn_dec, rSpn_enc, s46, s45, rDip_k, rDip_decL, rRng_enc, rRng_dec, hask, hsome, hlast, hb0, hb1, boundOk, hm]
            (generalize hLoopQ : Cx.loop _ _ _ = rLoopQ; apply loop_then hLoopQ (fun k => ⟨[(2, .d (.sl 4 (E.kinds.map rDip.enc))), (4, .d (DI E.bound)), (6, .d (DI 0)), (7, .bs 1000 0 v.length 1), (8, .loc 8 0), (9, .loc 9 0), (11, .loc 11 0), (13, .loc 13 0), (18, .d (DI at')), (23, .d (DB true)), (24, .d (DI k))], [(1000, v.map fB), (8, [.d (DI E.x.melt), .d (DI E.x.coat), .d (DI E.x.thin), .d (DI E.x.hold), .d (DI E.x.back), .d (DI E.x.draw), .d (DI E.x.set), .d (DI E.x.run), .d (.sl 3 (E.x.baths.map rBth.enc))]), (9, [.d (DI E.t.wick), .d (DI E.t.top), .d (DI E.t.foot)]), (11, [.d (DI E.want.lo), .d (DI E.want.hi)]), (13, [.d (.sl 4 ((planP E.kinds p).map rDip.enc)), .d (.sl 1 (p.map rowN))])], [], []⟩) 0 rfl; rotate_left; (show _ < 281474976710656; omega); rfl; rotate_left; all_goals clear hLoopQ)
            · intro k hk; omega
            · have hav1 : at' + 1 ≤ v.length := hav
              simp [kp73, hKI, hK, hav, hav1, hatI]
  · cases hr
theorem loopV_M (f : Nat → List Bool → Option (List Nat) × List Bool) : ∀ (n k : Nat) (v : List Bool), loopV f k n v = loopM f k n v
  | 0, k, v => rfl
  | n + 1, k, v => by
    simp only [loopV, loopM]
    cases f k v with
    | mk a v' => cases a with
      | some a => rfl
      | none => exact loopV_M f n (k + 1) v'
def vA (E : Few) (n : Nat) (p : List Nat) (v : List Bool) (j : Nat) : List Bool := restM (fun k v => foundV E.x E.t E.kinds E.want E.bound n (p ++ [k]) v) v j
set_option maxHeartbeats 4000000 in
theorem oe73_s (n : Nat) (ih : EffOk1 Tryz.prog 73 (e73 n)) : EffOk1 Tryz.prog 73 (e73 (n + 1)) := ok_effBy fun a r hr => by
  obtain ⟨l, p, v, E⟩ := a
  unfold res73 at hr
  split at hr
  · rename_i hc
    cases hr
    obtain ⟨rfl, ⟨hE, hK⟩, hlen, hp, hv, hal⟩ := hc
    simp only at hE hK hlen hp hv hal
    have hKI : (0 : Int) < E.kinds.length := by omega
    obtain ⟨hl, ht, h5, hb0, hb1⟩ := id hE
    have halive : aliveP E.x E.t E.kinds p := fun k h0 hk => hal k hk h0
    have hpl : p.length ≤ 10 := by omega
    have hcp := codeP_lt p hpl E.kinds.length
    have hcb := codeP_bd hpl h5
    obtain ⟨at', hat⟩ : ∃ at', at' = codeP E.kinds.length p := ⟨_, rfl⟩
    have hav : at' < v.length := by rw [hat, hv]; exact hcp
    have hvat : v[at']? = some v[at'] := List.getElem?_eq_getElem hav
    refine eff_of_call (mkCxE_ok del11 (eff_cons eff_nil call73 ih) keys_nil seq_nil 132 kp73 [] (fun _ => []) (fun _ => 0)) Tryz.func73 rfl rfl (Nat.le_of_ble_eq_true rfl) (by kernel_rfl) (by kernel_rfl) ?_
    rw [Tryz.results73]
    simp only [enc73, madeX]
    simp [kp73, rDsh_enc, rTap_enc, rSpn_enc]
    (generalize hLoopQ : Cx.loop _ _ _ = rLoopQ; apply loop_then hLoopQ (fun k => ⟨[(2, .d (.sl 4 (E.kinds.map rDip.enc))), (4, .d (DI E.bound)), (6, .d (DI ((n : Int) + 1))), (7, .bs 1000 0 v.length 1), (8, .loc 8 0), (9, .loc 9 0), (11, .loc 11 0), (13, .loc 13 0), (18, .d (DI (codeP k p : Nat))), (19, .d (DI k))], [(1000, v.map fB), (8, [.d (DI E.x.melt), .d (DI E.x.coat), .d (DI E.x.thin), .d (DI E.x.hold), .d (DI E.x.back), .d (DI E.x.draw), .d (DI E.x.set), .d (DI E.x.run), .d (.sl 3 (E.x.baths.map rBth.enc))]), (9, [.d (DI E.t.wick), .d (DI E.t.top), .d (DI E.t.foot)]), (11, [.d (DI E.want.lo), .d (DI E.want.hi)]), (13, [.d (.sl 4 ((planP E.kinds p).map rDip.enc)), .d (.sl 1 (p.map rowN))])], [], []⟩) E.kinds.length rfl; rotate_left; (show _ < 281474976710656; omega); rfl; rotate_left; all_goals clear hLoopQ)
    · intro k hk
      have hkl : (k : Int) < E.kinds.length := by omega
      have hck := codeP_bd hpl (show k ≤ 5 by omega)
      have hck' := codeP_bd hpl (show k + 1 ≤ 5 by omega)
      have w1 := wrap_small ((k : Int) + 1) (by omega) (by omega)
      simp [kp73, hkl]
      (generalize hLoopQ : Cx.loop _ _ _ = rLoopQ; apply loop_then hLoopQ (fun i => ⟨[(2, .d (.sl 4 (E.kinds.map rDip.enc))), (4, .d (DI E.bound)), (6, .d (DI ((n : Int) + 1))), (7, .bs 1000 0 v.length 1), (8, .loc 8 0), (9, .loc 9 0), (11, .loc 11 0), (13, .loc 13 0), (18, .d (DI (codeP k p : Nat))), (19, .d (DI k)), (20, .d (DI ((p.take i).count k : Nat))), (21, .d (DI i))], [(1000, v.map fB), (8, [.d (DI E.x.melt), .d (DI E.x.coat), .d (DI E.x.thin), .d (DI E.x.hold), .d (DI E.x.back), .d (DI E.x.draw), .d (DI E.x.set), .d (DI E.x.run), .d (.sl 3 (E.x.baths.map rBth.enc))]), (9, [.d (DI E.t.wick), .d (DI E.t.top), .d (DI E.t.foot)]), (11, [.d (DI E.want.lo), .d (DI E.want.hi)]), (13, [.d (.sl 4 ((planP E.kinds p).map rDip.enc)), .d (.sl 1 (p.map rowN))])], [], []⟩) p.length rfl; rotate_left; (show _ < 281474976710656; omega); rfl; rotate_left; all_goals clear hLoopQ)
      · intro i hi
        have hil : (i : Int) < p.length := by omega
        have w2 := wrap_small ((i : Int) + 1) (by omega) (by omega)
        have hct := count_take p k i hi
        have hcl : (p.take i).count k ≤ 10 := Nat.le_trans List.count_le_length (by simp; omega)
        have w3 := wrap_small ((((p.take i).count k : Nat) : Int) + 1) (by omega) (by omega)
        by_cases he : p[i] = k
        · rw [if_pos he] at hct
          have he' : ((p[i] : Nat) : Int) = k := by omega
          simp [kp73, hil, hi, rowN, he, he', w2, w3, hct]
        · rw [if_neg he] at hct
          have he' : (((p[i] : Nat) : Int) == k) = false := by rw [beq_eq_false_iff_ne]; omega
          simp [kp73, hil, hi, rowN, he, he', w2, w3, hct]
      · have hcs := codeP_succ k p
        have w4 := wrap_small (((codeP k p : Nat) : Int) * 11) (by omega) (by omega)
        have w5 : IntKind.i64.wrap (((codeP k p : Nat) : Int) * 11 + (p.count k : Nat)) = (codeP (k + 1) p : Nat) := by
          rw [wrap_small _ (by omega) (by omega)]; omega
        simp [kp73, w1, w4, w5]
    · have hatI : ((at' : Nat) : Int) < v.length := by omega
      have hask := asked_plan hl ht hp (by omega)
      have hsome := after_rP halive
      rw [← hat]
      by_cases hvt : v[at'] = true
      · have hres : fnd (n + 1, p, v, E) = (none, v) := by
          simp only [fnd, foundV]
          rw [if_pos (by rw [← hat, List.getD_eq_getElem?_getD, hvat, hvt]; rfl)]
        rw [hres]
        rw [hvt] at hvat
        simp [kp73, hav, hatI, hvat, hvt, out73]
      · rw [Bool.not_eq_true] at hvt
        have hne : ¬ v.getD (codeP E.kinds.length p) false = true := by rw [← hat, List.getD_eq_getElem?_getD, hvat, hvt]; simp
        rw [hvt] at hvat
        by_cases hd : deadP E.x E.t E.kinds p = true
        · have hres : fnd (n + 1, p, v, E) = (none, v.set at' true) := by
            simp only [fnd, foundV]
            rw [if_neg hne, if_pos hd, hat]
          rw [hres]
          rw [hd] at hsome
          simp [kp73, hav, hatI, hvat, hvt, out73, l11, l10, l9, s65, rDsh_dec, rTap_dec, rSpn_dec, rSpn_enc, rDip_k, rDip_decL, hask, hsome]
          (generalize hLoopQ : Cx.loop _ _ _ = rLoopQ; apply loop_then hLoopQ (fun k => ⟨[(2, .d (.sl 4 (E.kinds.map rDip.enc))), (4, .d (DI E.bound)), (6, .d (DI ((n : Int) + 1))), (7, .bs 1000 0 v.length 1), (8, .loc 8 0), (9, .loc 9 0), (11, .loc 11 0), (13, .loc 13 0), (18, .d (DI at')), (23, .d (DB false)), (24, .d (DI k))], [(1000, v.map fB), (8, [.d (DI E.x.melt), .d (DI E.x.coat), .d (DI E.x.thin), .d (DI E.x.hold), .d (DI E.x.back), .d (DI E.x.draw), .d (DI E.x.set), .d (DI E.x.run), .d (.sl 3 (E.x.baths.map rBth.enc))]), (9, [.d (DI E.t.wick), .d (DI E.t.top), .d (DI E.t.foot)]), (11, [.d (DI E.want.lo), .d (DI E.want.hi)]), (13, [.d (.sl 4 ((planP E.kinds p).map rDip.enc)), .d (.sl 1 (p.map rowN))])], [], []⟩) 0 rfl; rotate_left; (show _ < 281474976710656; omega); rfl; rotate_left; all_goals clear hLoopQ)
          · intro k hk; omega
          · have hav1 : at' + 1 ≤ v.length := hav
            simp [kp73, hKI, hK, hav, hav1, hatI]
        · have hd0 := hd
          rw [Bool.not_eq_true] at hd
          rw [hd] at hsome
          have hlenA : ∀ j, (vA E n p v j).length = v.length := fun j => by
            induction j with
            | zero => rfl
            | succ j ihj => rw [← ihj]; exact foundV_len _ _ _ _ _ _ _ _
          have hcall : ∀ (k : Nat), k < E.kinds.length → e73 n [.d (.agg [DI E.x.melt, DI E.x.coat, DI E.x.thin, DI E.x.hold, DI E.x.back, DI E.x.draw, DI E.x.set, DI E.x.run, .sl 3 (E.x.baths.map rBth.enc)]), .d (.agg [DI E.t.wick, DI E.t.top, DI E.t.foot]), .d (.sl 4 (E.kinds.map rDip.enc)), .d (.agg [DI E.want.lo, DI E.want.hi]), .d (DI E.bound), .d (.agg [.sl 4 ((planP E.kinds p).map rDip.enc ++ [[DI (kindAt E.kinds k).bath, DI (kindAt E.kinds k).secs, DI (kindAt E.kinds k).pause, DB (kindAt E.kinds k).turned]]), .sl 1 (p.map rowN ++ [[DI k]])]), .d (DI n), .bs 1000 0 v.length 1] [.cells ((vA E n p v k).map fB)] [] = some (out73 (fnd (n, p ++ [k], vA E n p v k, E)).1, [.cells ((vA E n p v (k + 1)).map fB)], []) := fun k hk => by
            have := e73_at n p (vA E n p v k) E k
            rw [hlenA] at this
            refine this.trans ?_
            unfold res73
            rw [if_pos ⟨rfl, ⟨hE, hK⟩, by simp only [List.length_append, List.length_cons, List.length_nil]; omega, fun j hj => by
              show j < E.kinds.length
              rcases List.mem_append.1 hj with hj | hj
              · exact hp j hj
              · simp at hj; omega, by rw [hlenA]; exact hv, fun j hj h0 => alive_app halive hd k j h0 hj⟩]
            rfl
          have hplan : (planP E.kinds p).length = p.length := by simp [planP]
          have hn1 := wrap_small (n : Int) (by omega) (by omega)
          have c1 : p.length ≤ 140737488355328 := by omega
          have c2 : p.length * 32 ≤ 140737488355328 := by omega
          have c3 : p.length ≤ 140737488355327 := by omega
          have c4 : (p.length + 1) * 32 ≤ 140737488355328 := by omega
          have c5 : p.length * 8 ≤ 140737488355328 := by omega
          have c6 : (p.length + 1) * 8 ≤ 140737488355328 := by omega
          have hn0 : ((n : Int) + 1 == 0) = false := by rw [beq_eq_false_iff_ne]; omega
          have hnp : (0 : Int) < (n : Int) + 1 := by omega
          have hfv : fnd (n + 1, p, v, E) = match loopM (fun k v => foundV E.x E.t E.kinds E.want E.bound n (p ++ [k]) v) 0 E.kinds.length v with
            | (some a, v') => (some a, v')
            | (none, v') => (none, v'.set at' true) := by
            simp only [fnd, foundV]
            rw [if_neg hne, if_neg hd0, hat, loopV_M]
            rfl
          simp [kp73, hav, hatI, hvat, hvt, out73, l11, l10, l9, s65, rDsh_dec, rTap_dec, rSpn_dec, rSpn_enc, rDip_k, rDip_decL, hask, hsome, hn0, s46, s45, rRng_enc, rRng_dec]
          rcases loopM_cases (fun k v => foundV E.x E.t E.kinds E.want E.bound n (p ++ [k]) v) v E.kinds.length with ⟨hno, hres⟩ | ⟨J, a, hJ, hno, hyes, hres⟩
          · rw [hres] at hfv
            simp only at hfv
            (generalize hLoopQ : Cx.loop _ _ _ = rLoopQ; apply loop_then hLoopQ (fun k => ⟨[(2, .d (.sl 4 (E.kinds.map rDip.enc))), (4, .d (DI E.bound)), (6, .d (DI ((n : Int) + 1))), (7, .bs 1000 0 v.length 1), (8, .loc 8 0), (9, .loc 9 0), (11, .loc 11 0), (13, .loc 13 0), (18, .d (DI at')), (23, .d (DB true)), (24, .d (DI k))], [(1000, (vA E n p v k).map fB), (8, [.d (DI E.x.melt), .d (DI E.x.coat), .d (DI E.x.thin), .d (DI E.x.hold), .d (DI E.x.back), .d (DI E.x.draw), .d (DI E.x.set), .d (DI E.x.run), .d (.sl 3 (E.x.baths.map rBth.enc))]), (9, [.d (DI E.t.wick), .d (DI E.t.top), .d (DI E.t.foot)]), (11, [.d (DI E.want.lo), .d (DI E.want.hi)]), (13, [.d (.sl 4 ((planP E.kinds p).map rDip.enc)), .d (.sl 1 (p.map rowN))])], [], []⟩) E.kinds.length rfl; rotate_left; (show _ < 281474976710656; omega); rfl; rotate_left; all_goals clear hLoopQ)
            · intro k hk
              have hc' := hcall k hk
              rw [show (fnd (n, p ++ [k], vA E n p v k, E)).1 = none from hno k hk] at hc'
              have hkl : (k : Int) < E.kinds.length := by omega
              have w1 := wrap_small ((k : Int) + 1) (by omega) (by omega)
              have hkk : kindAt E.kinds k = E.kinds[k] := getD_at _ _ _ hk
              rw [hkk] at hc'
              simp only [out73] at hc'
              simp [kp73, rDip_enc, hk, hkl, hnp, hn1, hc', w1, hplan, c1, c2, c3, c4, c5, c6, hlenA]
            · have hav' : at' < (vA E n p v E.kinds.length).length := by rw [hlenA]; exact hav
              have hav1 : at' + 1 ≤ (vA E n p v E.kinds.length).length := hav'
              have hav2 : at' + 1 ≤ v.length := hav
              rw [hfv]
              simp [kp73, hKI, hK, hav, hav', hav1, hav2, hatI, hlenA]
              rfl
          · rw [hres] at hfv
            simp only at hfv
            (generalize hLoopQ : Cx.loop _ _ _ = rLoopQ; apply loop_then hLoopQ (fun k => ⟨[(2, .d (.sl 4 (E.kinds.map rDip.enc))), (4, .d (DI E.bound)), (6, .d (DI ((n : Int) + 1))), (7, .bs 1000 0 v.length 1), (8, .loc 8 0), (9, .loc 9 0), (11, .loc 11 0), (13, .loc 13 0), (18, .d (DI at')), (23, .d (DB true)), (24, .d (DI k))], [(1000, (vA E n p v k).map fB), (8, [.d (DI E.x.melt), .d (DI E.x.coat), .d (DI E.x.thin), .d (DI E.x.hold), .d (DI E.x.back), .d (DI E.x.draw), .d (DI E.x.set), .d (DI E.x.run), .d (.sl 3 (E.x.baths.map rBth.enc))]), (9, [.d (DI E.t.wick), .d (DI E.t.top), .d (DI E.t.foot)]), (11, [.d (DI E.want.lo), .d (DI E.want.hi)]), (13, [.d (.sl 4 ((planP E.kinds p).map rDip.enc)), .d (.sl 1 (p.map rowN))])], [], []⟩) J rfl; rotate_left; (show _ < 281474976710656; omega); rfl; rotate_left; all_goals clear hLoopQ)
            · intro k hk
              have hkK : k < E.kinds.length := by omega
              have hc' := hcall k hkK
              rw [show (fnd (n, p ++ [k], vA E n p v k, E)).1 = none from hno k hk] at hc'
              have hkl : (k : Int) < E.kinds.length := by omega
              have w1 := wrap_small ((k : Int) + 1) (by omega) (by omega)
              have hkk : kindAt E.kinds k = E.kinds[k] := getD_at _ _ _ hkK
              rw [hkk] at hc'
              simp only [out73] at hc'
              simp [kp73, rDip_enc, hk, hkK, hkl, hnp, hn1, hc', w1, hplan, c1, c2, c3, c4, c5, c6, hlenA]
            · have hc' := hcall J hJ
              rw [show (fnd (n, p ++ [J], vA E n p v J, E)).1 = some a from hyes] at hc'
              have hkl : (J : Int) < E.kinds.length := by omega
              have hkk : kindAt E.kinds J = E.kinds[J] := getD_at _ _ _ hJ
              rw [hkk] at hc'
              simp only [out73] at hc'
              rw [hfv]
              simp [kp73, rDip_enc, hJ, hkl, hnp, hn1, hc', hplan, c1, c2, c3, c4, c5, c6, hlenA]
              rfl
  · cases hr
end Go.Proofs.YtcgacojnfkklaaaGreatDoor
