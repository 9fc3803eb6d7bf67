/-
  The program of the dip chapter: Follow. Conditions: none.
-/
import Derived.Test.YtcgacojnfkklaaaGreatDoorZPrB
import Derived.Test.YtcgacojnfkklaaaGreatDoorZRefG
namespace Go.Proofs.YtcgacojnfkklaaaGreatDoor
open Go.RowKit
set_option linter.unusedSimpArgs false
set_option linter.unusedVariables false
def cIntsP : Cod (List Int) := ⟨fun l => .dat 1 [[(cList rInt).enc l]] 0 0, fun d => match d with | .dat 1 [[y]] 0 0 => (cList rInt).dec y | _ => none, fun d x h => by
  split at h
  · exact dat_imp ⟨_, _, rfl, (cList rInt).ed _ _ h, rfl⟩
  · cases h⟩
theorem cIntsP_enc (l : List Int) : cIntsP.enc l = .dat 1 [[.sl 1 (l.map rInt.enc)]] 0 0 := rfl
theorem cIntsP_dec (l : List Int) : cIntsP.dec (.dat 1 [[.sl 1 (l.map rInt.enc)]] 0 0) = some l := rInt_decL l
theorem fnc_imp {g : Nat} {a b : List D} (h : LImp a b) : DImp (.fn g [] a) (.fn g [] b) := fun m w v hr => by
  simp only [Rel] at hr ⊢
  obtain ⟨fs, cs, h1, h2, h3⟩ := hr
  exact ⟨fs, cs, h1, h2, h.rel h3⟩
def cFol1 : Cod (Dsh × List Int) := ⟨fun p => .fn 56 [] [cShP.enc p.1, cIntsP.enc p.2], fun d => match d with | .fn 56 [] [a, b] => (match cShP.dec a, cIntsP.dec b with | some x, some w => some (x, w) | _, _ => none) | _ => none, fun d x h => by
  split at h
  · split at h
    · rename_i h1 h2
      cases h
      exact fnc_imp ⟨_, _, rfl, cShP.ed _ _ h1, _, _, rfl, cIntsP.ed _ _ h2, rfl⟩
    · cases h
  · cases h⟩
theorem cFol1_enc (x : Dsh) (w : List Int) : cFol1.enc (x, w) = .fn 56 [] [.dat 9 [[DI x.melt, DI x.coat, DI x.thin, DI x.hold, DI x.back, DI x.draw, DI x.set, DI x.run, .sl 3 (x.baths.map rBth.enc)]] 0 0, .dat 1 [[.sl 1 (w.map rInt.enc)]] 0 0] := rfl
theorem cFol1_dec (x : Dsh) (w : List Int) : cFol1.dec (.fn 56 [] [.dat 9 [[DI x.melt, DI x.coat, DI x.thin, DI x.hold, DI x.back, DI x.draw, DI x.set, DI x.run, .sl 3 (x.baths.map rBth.enc)]] 0 0, .dat 1 [[.sl 1 (w.map rInt.enc)]] 0 0]) = some (x, w) := by
  simp only [cFol1, cShP_dec, cIntsP_dec]
def s56 : List D → Option D := sp4 cInt (cAgg rDip) cShP cIntsP cInt fun i d x w => if okD x d ∧ 0 ≤ i ∧ i < w.length then some (if inR (w.getD i.toNat 0) (warmV x d).lo (warmV x d).hi = true then 0 else 7) else none
theorem ok56 : ∀ ds d, s56 ds = some d → PureC Tryz.prog 56 ds d := ok_sp4 fun i d x w r hr => by
  split at hr
  · rename_i hc
    cases hr
    obtain ⟨hd, i0, i1⟩ := hc
    obtain ⟨B, e1, hB, e2, _, g1, g2, _, _⟩ := okD_bath hd
    obtain ⟨k, rfl⟩ : ∃ k : Nat, i = k := ⟨i.toNat, by omega⟩
    have hk : k < w.length := by omega
    have hB' : (B : Int) < x.baths.length := by omega
    rw [e2, Int.toNat_natCast, getD_at _ _ _ hk]
    refine pure_of_call (mkCx_ok dq8 26 kp56 []) Tryz.func56 rfl rfl (Nat.le_of_ble_eq_true rfl) (by kernel_rfl) ?_
    rw [Tryz.results56]
    cases h1 : inR w[k] x.baths[B].warm.lo x.baths[B].warm.hi
    · simp [kp56, cShP_enc, cIntsP_enc, rDip_enc, rBth_enc, rInt_enc, e1, hB, hB', hk, i1, q8, q7, q6, q5, q4, q3, s48, int_dec1, out1, h1]
    · simp [kp56, cShP_enc, cIntsP_enc, rDip_enc, rBth_enc, rInt_enc, e1, hB, hB', hk, i1, q8, q7, q6, q5, q4, q3, s48, int_dec1, out1, h1]
  · cases hr
theorem call56 (xs : Array Value) (w : World) : (callFunc 56 xs).run Tryz.prog w = .ok (.enter 56 xs) w := by kernel_rfl
def h1l : List (Nat × (List D → Option D)) := (56, s56) :: q8
theorem dh1 : DelOk Tryz.prog (delOf h1l) := del_cons dq8 call56 ok56
def warmF (x : Dsh) (w : List Int) (i : Nat) (d : Dip) : Int := if inR (w.getD i 0) (warmV x d).lo (warmV x d).hi = true then 0 else 7
def s55b : List D → Option D := sp2 (cList rDip) cFol1 (cTup2 cInt cInt) fun l p => if okL p.1 l ∧ l.length ≤ p.2.length then some (findI (warmF p.1 p.2) 0 l) else none
set_option maxHeartbeats 1000000 in
theorem ok55b : ∀ ds d, s55b ds = some d → PureC Tryz.prog 55 ds d := ok_sp2 fun l p r hr => by
  obtain ⟨x, w⟩ := p
  split at hr
  · rename_i hc
    cases hr
    obtain ⟨hl, hlw⟩ := hc
    simp only at hl hlw
    have hlm : l.length < 1000000 := by have := hl.2.1; omega
    refine pure_of_call (mkCx_ok dh1 24 kp55 []) Tryz.func55 rfl rfl (Nat.le_of_ble_eq_true rfl) (by kernel_rfl) ?_
    rw [Tryz.results55]
    simp [kp55, cFol1_enc, rDip_k]
    have fact : ∀ j (hj : j < l.length), okD x l[j] ∧ ∃ hw : j < w.length, warmF x w j l[j] = if inR w[j] (warmV x l[j]).lo (warmV x l[j]).hi = true then 0 else 7 := fun j hj => ⟨okL_at hl j hj, by omega, by unfold warmF; rw [getD_at _ _ _ (by omega)]⟩
    rcases findI_cases (warmF x w) l with ⟨e1, hall⟩ | ⟨k, hk, e1, hbad, hgood⟩
    · rw [e1]
      (generalize hLoopQ : Cx.loop _ _ _ = rLoopQ; apply loop_then hLoopQ (fun k => ⟨[(1, .d (.fn 56 [] [.dat 9 [[DI x.melt, DI x.coat, DI x.thin, DI x.hold, DI x.back, DI x.draw, DI x.set, DI x.run, .sl 3 (x.baths.map rBth.enc)]] 0 0, .dat 1 [[.sl 1 (w.map rInt.enc)]] 0 0])), (8, .d (.sl 4 (l.map rDip.enc))), (9, .d (DI l.length)), (10, .d (DI k))], [], [], []⟩) l.length rfl; rotate_left; (show _ < 281474976710656; omega); rfl; rotate_left; all_goals clear hLoopQ)
      · intro j hj
        have w1 := wrap_small ((j : Int) + 1) (by omega) (by omega)
        have hjl : (j : Int) < l.length := by omega
        obtain ⟨hd, hw, f1⟩ := fact j hj
        have hn := hall j hj
        rw [f1] at hn
        have hjw : (j : Int) < w.length := by omega
        have hq : inR w[j] (warmV x l[j]).lo (warmV x l[j]).hi = true := by
          cases hq : inR w[j] (warmV x l[j]).lo (warmV x l[j]).hi
          · rw [hq] at hn; simp at hn
          · rfl
        simp [kp55, cShP_dec, cIntsP_dec, rDip_enc, rDip_dec, h1l, s56, hd, hj, hjl, hw, hjw, hq, w1]
      · simp [kp55]
    · rw [e1]
      (generalize hLoopQ : Cx.loop _ _ _ = rLoopQ; apply loop_then hLoopQ (fun k => ⟨[(1, .d (.fn 56 [] [.dat 9 [[DI x.melt, DI x.coat, DI x.thin, DI x.hold, DI x.back, DI x.draw, DI x.set, DI x.run, .sl 3 (x.baths.map rBth.enc)]] 0 0, .dat 1 [[.sl 1 (w.map rInt.enc)]] 0 0])), (8, .d (.sl 4 (l.map rDip.enc))), (9, .d (DI l.length)), (10, .d (DI k))], [], [], []⟩) k rfl; rotate_left; (show _ < 281474976710656; omega); rfl; rotate_left; all_goals clear hLoopQ)
      · intro j hj'
        have hj : j < l.length := by omega
        have w1 := wrap_small ((j : Int) + 1) (by omega) (by omega)
        have hjl : (j : Int) < l.length := by omega
        obtain ⟨hd, hw, f1⟩ := fact j hj
        have hn := hgood j hj hj'
        rw [f1] at hn
        have hjw : (j : Int) < w.length := by omega
        have hq : inR w[j] (warmV x l[j]).lo (warmV x l[j]).hi = true := by
          cases hq : inR w[j] (warmV x l[j]).lo (warmV x l[j]).hi
          · rw [hq] at hn; simp at hn
          · rfl
        simp [kp55, cShP_dec, cIntsP_dec, rDip_enc, rDip_dec, h1l, s56, hd, hj, hjl, hw, hjw, hq, w1]
      · have hkl : (k : Int) < l.length := by omega
        obtain ⟨hd, hw, f1⟩ := fact k hk
        have hjw : (k : Int) < w.length := by omega
        rw [f1] at hbad ⊢
        have hq : inR w[k] (warmV x l[k]).lo (warmV x l[k]).hi = false := by
          cases hq : inR w[k] (warmV x l[k]).lo (warmV x l[k]).hi
          · rfl
          · rw [hq] at hbad; simp at hbad
        simp [kp55, cShP_dec, cIntsP_dec, rDip_enc, rDip_dec, h1l, s56, hd, hk, hkl, hw, hjw, hq]
  · cases hr
def kp57 (r : Nat) : List (Nat × Option Nat) := match r with
  | 0 => [(0, none), (2, none), (3, none), (4, none), (6, none)]
  | 1 => [(4, none), (8, none)]
  | 2 => [(4, none)]
  | 3 => [(35, none)]
  | 4 => [(7, none)]
  | 5 => [(7, none)]
  | _ => []
theorem row_inj {α : Type} (r : Row α) {x y : α} (h : r.enc x = r.enc y) : x = y := by
  have := r.de x
  rw [h, r.de] at this
  exact (Option.some.inj this).symm
theorem rows_inj {α : Type} (r : Row α) {l l' : List α} (h : l.map r.enc = l'.map r.enc) : l = l' := by
  have := decRows_enc r l
  rw [h, decRows_enc] at this
  exact (Option.some.inj this).symm
theorem xd_inj {l l' : List D} (h : l.map X.d = l'.map X.d) : l = l' := (List.map_inj_right fun a b hab => by cases hab; rfl).1 h
def cFol (x : Dsh) (w : List Int) (t : Tap) : List Cont := [.cells ((rDsh.enc x).map .d), .cells [.d (.sl 1 (w.map rInt.enc))], .cells ((rTap.enc t).map .d)]
def enc57 (p : Nat × Dip × Dsh × List Int × Tap) : List X × List Cont × List Nat := ([.d (DI p.1), .d (.agg (rDip.enc p.2.1)), .loc 1000 0, .loc 1001 0, .loc 1002 0], cFol p.2.2.1 p.2.2.2.1 p.2.2.2.2, [])
def res57 (p : Nat × Dip × Dsh × List Int × Tap) : Option (D × List Cont × List Nat) := if p.1 < p.2.2.2.1.length ∧ gOk p.2.2.1 p.2.1 (p.2.2.2.1.getD p.1 0) ∧ tapOk p.2.2.2.2 then some (DI (if lostB (dippedV p.2.2.1 p.2.2.2.2 p.2.1 (p.2.2.2.1.getD p.1 0)) = true then 9 else 0), cFol p.2.2.1 p.2.2.2.1 (dippedV p.2.2.1 p.2.2.2.2 p.2.1 (p.2.2.2.1.getD p.1 0)), []) else none
theorem cFol_inj {x x' : Dsh} {w w' : List Int} {t t' : Tap} (h : cFol x w t = cFol x' w' t') : x = x' ∧ w = w' ∧ t = t' := by
  simp only [cFol, List.cons.injEq, Cont.cells.injEq, X.d.injEq, D.sl.injEq, and_true, true_and] at h
  exact ⟨row_inj _ (xd_inj h.1), rows_inj _ h.2.1, row_inj _ (xd_inj h.2.2)⟩
theorem inj57 (p q : Nat × Dip × Dsh × List Int × Tap) (h : enc57 p = enc57 q) : res57 p = res57 q := by
  obtain ⟨i, d, x, w, t⟩ := p
  obtain ⟨i', d', x', w', t'⟩ := q
  simp only [enc57, Prod.mk.injEq, List.cons.injEq, X.d.injEq, D.v.injEq, D.agg.injEq, Value.int.injEq, Int.natCast_inj, and_true, true_and] at h
  obtain ⟨⟨rfl, h2⟩, h3⟩ := h
  obtain ⟨rfl, rfl, rfl⟩ := cFol_inj h3
  have := row_inj _ h2
  subst this; rfl
noncomputable def e57 : EffSp := effBy enc57 res57
theorem e57_at (i : Nat) (d : Dip) (x : Dsh) (w : List Int) (t : Tap) : e57 [.d (DI i), .d (.agg [DI d.bath, DI d.secs, DI d.pause, DB d.turned]), .loc 1000 0, .loc 1001 0, .loc 1002 0] [.cells [.d (DI x.melt), .d (DI x.coat), .d (DI x.thin), .d (DI x.hold), .d (DI x.back), .d (DI x.draw), .d (DI x.set), .d (DI x.run), .d (.sl 3 (x.baths.map rBth.enc))], .cells [.d (.sl 1 (w.map rInt.enc))], .cells [.d (DI t.wick), .d (DI t.top), .d (DI t.foot)]] [] = res57 (i, d, x, w, t) := effBy_at inj57 (i, d, x, w, t) rfl
set_option maxHeartbeats 1000000 in
theorem oe57 : EffOk1 Tryz.prog 57 e57 := ok_effBy fun p r hr => by
  obtain ⟨k, d, x, w, t⟩ := p
  unfold res57 at hr
  simp only at hr
  split at hr
  · rename_i hc
    cases hr
    obtain ⟨hk, hg, ht⟩ := hc
    rw [getD_at _ _ _ hk] at hg
    rw [getD_at _ _ _ hk]
    have i1 : (k : Int) < w.length := by omega
    have hb := grow_bd hg
    obtain ⟨⟨b1, b2⟩, b3, b4⟩ := hb
    obtain ⟨⟨t1, t2⟩, t3, t4⟩ := ht
    have w1 := wrap_small (t.top + (growV x d w[k]).top) (by omega) (by omega)
    have w2 := wrap_small (t.foot + (growV x d w[k]).foot) (by omega) (by omega)
    have hdv : dippedV x t d w[k] = ⟨t.wick, t.top + (growV x d w[k]).top, t.foot + (growV x d w[k]).foot⟩ := rfl
    rw [hdv]
    generalize hG : growV x d w[k] = G at *
    refine eff_of_call (mkCxE_ok dg2 eff_nil keys_nil seq_nil 36 kp57 [] (fun r => if r = 2 then [(8, 11)] else []) (fun _ => 0)) Tryz.func57 rfl rfl (Nat.le_of_ble_eq_true rfl) (by kernel_rfl) (by kernel_rfl) ?_
    rw [Tryz.results57]
    unfold lostB
    by_cases h1 : t.top + G.top < t.wick
    · have hm : (if t.foot + G.foot < t.top + G.top then t.foot + G.foot else t.top + G.top) < t.wick := by split <;> omega
      simp [kp57, enc57, cFol, rDsh_enc, rDsh_dec, rTap_enc, rDip_enc, rDip_dec, rGrw_enc, g2l, s58, hk, i1, hg, hG, w1, w2, h1, hm]
    · by_cases h2 : t.foot + G.foot < t.wick
      · have hm : (if t.foot + G.foot < t.top + G.top then t.foot + G.foot else t.top + G.top) < t.wick := by split <;> omega
        simp [kp57, enc57, cFol, rDsh_enc, rDsh_dec, rTap_enc, rDip_enc, rDip_dec, rGrw_enc, g2l, s58, hk, i1, hg, hG, w1, w2, h1, h2, hm]
      · have hm : ¬ (if t.foot + G.foot < t.top + G.top then t.foot + G.foot else t.top + G.top) < t.wick := by split <;> omega
        simp [kp57, enc57, cFol, rDsh_enc, rDsh_dec, rTap_enc, rDip_enc, rDip_dec, rGrw_enc, g2l, s58, hk, i1, hg, hG, w1, w2, h1, h2, hm]
  · cases hr
theorem call57 (xs : Array Value) (w : World) : (callFunc 57 xs).run Tryz.prog w = .ok (.enter 57 xs) w := by kernel_rfl
noncomputable def el1 : List (Nat × EffSp) := [(57, e57)]
theorem del1e : EffOk Tryz.prog (effOf el1) := eff_cons eff_nil call57 oe57
def folF (x : Dsh) (t : Tap) (l : List Dip) (w : List Int) : (Int × Int) × Tap :=
  match (List.range l.length).find? (fun k => lostB (flS x t l w (k + 1))) with
  | some k => (((k : Int), 9), flS x t l w (k + 1))
  | none => ((0, 0), flS x t l w l.length)
theorem find_first {p : Nat → Bool} {n k : Nat} (hk : k < n) (hp : p k = true) (hb : ∀ j, j < k → p j = false) : (List.range n).find? p = some k := by
  rw [List.find?_range_eq_some]
  exact ⟨hp, by simpa using hk, fun j hj => by simp [hb j hj]⟩
theorem fol_fact {x : Dsh} {t : Tap} {l : List Dip} {w : List Int} (hl : okL x l) (ht : tapE t = 0) (h2 : warmE x l w = 0) : ∀ j (hj : j < l.length), ∃ hw : j < w.length, gOk x l[j] w[j] ∧ tapOk (flS x t l w j) ∧ flS x t l w (j + 1) = dippedV x (flS x t l w j) l[j] w[j] := fun j hj => by
  obtain ⟨hwl, hwa⟩ := warm_at h2
  have hw : j < w.length := by omega
  obtain ⟨B, e1, hB, e2, _, g1, g2, _, g3⟩ := okD_bath (okL_at hl j hj)
  have hb := hwa j hj hw
  have sb := flS_bd hl ht h2 j (by omega)
  have hl30 := hl.2.1
  refine ⟨hw, g3 _ hb.1 hb.2, ⟨⟨?_, ?_⟩, ?_, ?_⟩, by rw [flS, getD_at _ _ _ hj, getD_at _ _ _ hw]⟩ <;> omega
def enc55 (p : List Dip × Dsh × List Int × Tap) : List X × List Cont × List Nat := ([.d (.sl 4 (p.1.map rDip.enc)), .fx 57 [] [.inl 1000, .inl 1001, .inl 1002]], cFol p.2.1 p.2.2.1 p.2.2.2, [])
def res55 (p : List Dip × Dsh × List Int × Tap) : Option (D × List Cont × List Nat) := if okL p.2.1 p.1 ∧ tapE p.2.2.2 = 0 ∧ warmE p.2.1 p.1 p.2.2.1 = 0 then some (.tup [DI (folF p.2.1 p.2.2.2 p.1 p.2.2.1).1.1, DI (folF p.2.1 p.2.2.2 p.1 p.2.2.1).1.2], cFol p.2.1 p.2.2.1 (folF p.2.1 p.2.2.2 p.1 p.2.2.1).2, []) else none
theorem inj55 (p q : List Dip × Dsh × List Int × Tap) (h : enc55 p = enc55 q) : res55 p = res55 q := by
  obtain ⟨l, x, w, t⟩ := p
  obtain ⟨l', x', w', t'⟩ := q
  simp only [enc55, Prod.mk.injEq, List.cons.injEq, X.d.injEq, D.sl.injEq, and_true, true_and] at h
  obtain ⟨h1, h3⟩ := h
  obtain ⟨rfl, rfl, rfl⟩ := cFol_inj h3
  have := rows_inj _ h1
  subst this; rfl
noncomputable def e55 : EffSp := effBy enc55 res55
theorem e55_at (l : List Dip) (x : Dsh) (w : List Int) (t : Tap) : e55 [.d (.sl 4 (l.map rDip.enc)), .fx 57 [] [.inl 1000, .inl 1001, .inl 1002]] [.cells [.d (DI x.melt), .d (DI x.coat), .d (DI x.thin), .d (DI x.hold), .d (DI x.back), .d (DI x.draw), .d (DI x.set), .d (DI x.run), .d (.sl 3 (x.baths.map rBth.enc))], .cells [.d (.sl 1 (w.map rInt.enc))], .cells [.d (DI t.wick), .d (DI t.top), .d (DI t.foot)]] [] = res55 (l, x, w, t) := effBy_at inj55 (l, x, w, t) rfl
set_option maxHeartbeats 1000000 in
theorem oe55 : EffOk1 Tryz.prog 55 e55 := ok_effBy fun p r hr => by
  obtain ⟨l, x, w, t⟩ := p
  unfold res55 at hr
  simp only at hr
  split at hr
  · rename_i hc
    cases hr
    obtain ⟨hl, ht, h2⟩ := hc
    have hlm : l.length < 1000000 := by have := hl.2.1; omega
    refine eff_of_call (mkCxE_ok del_nil del1e keys_nil seq_nil 24 kp55 [] (fun _ => []) (fun _ => 0)) Tryz.func55 rfl rfl (Nat.le_of_ble_eq_true rfl) (by kernel_rfl) (by kernel_rfl) ?_
    rw [Tryz.results55]
    simp [kp55, enc55, cFol, rDsh_enc, rDsh_dec, rTap_enc, rDip_k]
    have fact := fol_fact hl ht h2
    rcases first_not (fun k => !lostB (flS x t l w (k + 1))) l.length with hall | ⟨k, hk, hbad, hgood⟩
    · have e1 : folF x t l w = ((0, 0), flS x t l w l.length) := by
        unfold folF
        rw [List.find?_eq_none.2 fun j hj => by have := hall j (by simpa using hj); simpa using this]
      rw [e1]
      (generalize hLoopQ : Cx.loop _ _ _ = rLoopQ; apply loop_then hLoopQ (fun k => ⟨[(1, .fx 57 [] [.inl 1000, .inl 1001, .inl 1002]), (8, .d (.sl 4 (l.map rDip.enc))), (9, .d (DI l.length)), (10, .d (DI k))], [(1000, (rDsh.enc x).map .d), (1001, [.d (.sl 1 (w.map rInt.enc))]), (1002, (rTap.enc (flS x t l w k)).map .d)], [], []⟩) l.length rfl; rotate_left; (show _ < 281474976710656; omega); rfl; rotate_left; all_goals clear hLoopQ)
      · intro j hj
        have w1 := wrap_small ((j : Int) + 1) (by omega) (by omega)
        have hjl : (j : Int) < l.length := by omega
        obtain ⟨hw, f1, f2, f3⟩ := fact j hj
        have hjw : (j : Int) < w.length := by omega
        have hlo : lostB (dippedV x (flS x t l w j) l[j] w[j]) = false := by have := hall j hj; rw [f3] at this; simpa using this
        rw [f3]
        simp [kp55, el1, e57_at, res57, cFol, rDsh_enc, rTap_enc, rDip_enc, hj, hjl, hw, hjw, f1, f2, hlo, w1]
      · simp [kp55, rDsh_enc, rTap_enc, cFol]
    · have e1 : folF x t l w = (((k : Int), 9), flS x t l w (k + 1)) := by
        unfold folF
        rw [find_first hk (by simpa using hbad) fun j hj => by have := hgood j hj; simpa using this]
      rw [e1]
      (generalize hLoopQ : Cx.loop _ _ _ = rLoopQ; apply loop_then hLoopQ (fun k => ⟨[(1, .fx 57 [] [.inl 1000, .inl 1001, .inl 1002]), (8, .d (.sl 4 (l.map rDip.enc))), (9, .d (DI l.length)), (10, .d (DI k))], [(1000, (rDsh.enc x).map .d), (1001, [.d (.sl 1 (w.map rInt.enc))]), (1002, (rTap.enc (flS x t l w k)).map .d)], [], []⟩) k rfl; rotate_left; (show _ < 281474976710656; omega); rfl; rotate_left; all_goals clear hLoopQ)
      · intro j hj'
        have hj : j < l.length := by omega
        have w1 := wrap_small ((j : Int) + 1) (by omega) (by omega)
        have hjl : (j : Int) < l.length := by omega
        obtain ⟨hw, f1, f2, f3⟩ := fact j hj
        have hjw : (j : Int) < w.length := by omega
        have hlo : lostB (dippedV x (flS x t l w j) l[j] w[j]) = false := by have := hgood j hj'; rw [f3] at this; simpa using this
        rw [f3]
        simp [kp55, el1, e57_at, res57, cFol, rDsh_enc, rTap_enc, rDip_enc, hj, hjl, hw, hjw, f1, f2, hlo, w1]
      · have hkl : (k : Int) < l.length := by omega
        obtain ⟨hw, f1, f2, f3⟩ := fact k hk
        have hjw : (k : Int) < w.length := by omega
        have hlo : lostB (dippedV x (flS x t l w k) l[k] w[k]) = true := by rw [f3] at hbad; simpa using hbad
        rw [f3]
        simp [kp55, el1, e57_at, res57, cFol, rDsh_enc, rTap_enc, rDip_enc, hk, hkl, hw, hjw, f1, f2, hlo]
  · cases hr
noncomputable def el2 : List (Nat × EffSp) := [(55, e55)]
theorem del2e : EffOk Tryz.prog (effOf el2) := eff_cons eff_nil call55 oe55
def h2l : List (Nat × (List D → Option D)) := (54, s54) :: (55, s55b) :: h1l
theorem dh2 : DelOk Tryz.prog (delOf h2l) := del_cons (del_cons dh1 call55 ok55b) call54 ok54
theorem cFol1_57 (a b : List D) : cFol1.dec (.fn 57 a b) = none := rfl
def kp20 (r : Nat) : List (Nat × Option Nat) := match r with
  | 0 => [(2, none), (4, none), (5, none), (7, none), (8, none)]
  | 1 => [(2, none), (5, none), (7, none), (8, none), (10, none), (11, none)]
  | 2 => [(2, none), (5, none), (7, none), (8, none), (10, none), (11, none), (27, none)]
  | 3 => [(2, none), (5, none), (7, none), (8, none), (10, none), (11, none)]
  | 4 => [(2, none), (5, none), (7, none), (8, none), (10, none), (11, none), (29, none)]
  | 5 => [(2, none), (5, none), (7, none), (8, none), (10, none), (11, none)]
  | 6 => [(2, none), (5, none), (7, none), (8, none), (10, none), (11, none), (37, none)]
  | 7 => [(5, none), (8, none), (11, none)]
  | 8 => [(5, none), (8, none), (11, none), (45, none)]
  | 9 => [(8, none), (9, none)]
  | 10 => [(8, none), (9, none)]
  | _ => []
theorem followR_eq {x : Dsh} {t : Tap} {l : List Dip} {w : List Int} (h1 : askedE x t l = 0) (h2 : warmE x l w = 0) : followR x t l w = if (folF x t l w).1.2 = 0 then ((folF x t l w).2, 0) else (⟨0, 0, 0⟩, (folF x t l w).1.2) := by
  unfold followR folF
  rw [if_neg (by simpa using h1), if_neg (by simpa using h2)]
  rcases first_not (fun k => !lostB (flS x t l w (k + 1))) l.length with hall | ⟨k, hk, hbad, hgood⟩
  · rw [List.find?_eq_none.2 fun j hj => by have := hall j (by simpa using hj); simpa using this]
    rw [if_neg]
    · simp
    · simp only [List.any_eq_true, List.mem_range, not_exists, not_and]
      intro j hj
      have := hall j hj
      simpa using this
  · rw [find_first hk (by simpa using hbad) fun j hj => by have := hgood j hj; simpa using this]
    rw [if_pos (List.any_eq_true.2 ⟨k, by simpa using hk, by simpa using hbad⟩)]
    simp
theorem warmE_eq (x : Dsh) (l : List Dip) (w : List Int) : warmE x l w = if ¬ w.length = l.length then 3 else (findI (warmF x w) 0 l).2 := by
  unfold warmE warmF; rfl
def s20 : List D → Option D := sp4 (cAgg rDsh) (cAgg rTap) (cList rDip) (cList rInt) (cTup2 (cAgg rTap) cInt) fun x t l w => if namesOk x then some (followR x t l w) else none
set_option maxHeartbeats 4000000 in
theorem ok20 : ∀ ds d, s20 ds = some d → PureC Tryz.prog 20 ds d := ok_sp4 fun x t l w r hr => by
  split at hr
  · rename_i hc
    cases hr
    have hs := hc
    have hlm := blen_or x
    refine pure_of_dec (cTup2 (cAgg rTap) cInt) _ (mkCxE_ok dh2 del2e keys_nil seq_nil 49 kp20 [] (fun _ => []) (fun _ => 0)) Tryz.func20 rfl rfl (Nat.le_of_ble_eq_true rfl) (by kernel_rfl) ?_
    rw [Tryz.results20]
    have z0 : rTap.dec [DI 0, DI 0, DI 0] = some ⟨0, 0, 0⟩ := rfl
    by_cases h1 : askedE x t l = 0
    · obtain ⟨hx, ht, hl⟩ := asked_ok h1
      by_cases h2 : w.length = l.length
      · have h2' : (w.length : Int) = l.length := by omega
        obtain ⟨fi, fe, hf⟩ : ∃ fi fe, findI (warmF x w) 0 l = (fi, fe) := ⟨_, _, rfl⟩
        have hwe : warmE x l w = fe := by rw [warmE_eq, if_neg (by simpa using h2), hf]
        by_cases h3 : fe = 0
        · have h3' : warmE x l w = 0 := by rw [hwe, h3]
          rw [followR_eq h1 h3']
          obtain ⟨gi, ge, gt, hg⟩ : ∃ gi ge gt, folF x t l w = ((gi, ge), gt) := ⟨_, _, _, rfl⟩
          rw [hg]
          by_cases h4 : ge = 0
          · simp [kp20, rDsh_enc, rDsh_dec, rTap_enc, rTap_dec, rDip_k, rDip_decL, h2l, s54, s55b, el2, e55_at, res55, cFol, cFol1_dec, cFol1_57, hs, hlm, h1, h2, h2', hl, ht, hf, h3, h3', hg, h4]
          · have h4' : (ge != 0) = true := by simpa using h4
            simp [kp20, rDsh_enc, rDsh_dec, rTap_enc, rTap_dec, rDip_k, rDip_decL, h2l, s54, s55b, el2, e55_at, res55, cFol, cFol1_dec, cFol1_57, hs, hlm, h1, h2, h2', hl, ht, hf, h3, h3', hg, h4, h4', z0]
        · have h3' : (fe != 0) = true := by simpa using h3
          have h3'' : (fe == 0) = false := by simpa using h3
          have hR : followR x t l w = (⟨0, 0, 0⟩, fe) := by unfold followR; rw [if_neg (by simpa using h1), if_pos (by rw [hwe]; exact h3), hwe]
          rw [hR]
          simp [kp20, rDsh_enc, rDsh_dec, rTap_enc, rTap_dec, rDip_k, rDip_decL, h2l, s54, s55b, el2, e55_at, res55, cFol, cFol1_dec, cFol1_57, hs, hlm, h1, h2, h2', hl, ht, hf, h3, h3', h3'', z0]
      · have h2' : ¬ (w.length : Int) = l.length := by omega
        have h2'' : ((w.length : Int) != l.length) = true := by simpa using h2'
        have hR : followR x t l w = (⟨0, 0, 0⟩, 3) := by unfold followR; rw [if_neg (by simpa using h1), warmE_eq, if_pos h2]; rfl
        rw [hR]
        simp [kp20, rDsh_enc, rDsh_dec, rTap_enc, rTap_dec, rDip_k, rDip_decL, h2l, s54, hs, hlm, h1, h2, h2', h2'', z0]
    · have h1' : (askedE x t l == 0) = false := by simpa using h1
      have h1'' : (askedE x t l != 0) = true := by simpa using h1
      have hR : followR x t l w = (⟨0, 0, 0⟩, askedE x t l) := by unfold followR; rw [if_pos h1]
      rw [hR]
      simp [kp20, rDsh_enc, rDsh_dec, rTap_enc, rTap_dec, rDip_k, rDip_decL, h2l, s54, hs, hlm, h1, h1', h1'', z0]
  · cases hr
theorem call20 (xs : Array Value) (w : World) : (callFunc 20 xs).run Tryz.prog w = .ok (.enter 20 xs) w := by kernel_rfl
end Go.Proofs.YtcgacojnfkklaaaGreatDoor
