/-
  The program's search for the fewest dips: the function that tries. Conditions: none.
-/
import Derived.Test.YtcgacojnfkklaaaGreatDoorZFewC
namespace Go.Proofs.YtcgacojnfkklaaaGreatDoor
open Go.RowKit
set_option linter.unusedSimpArgs false
set_option linter.unusedVariables false
def eqsF : List (TypeId × Nat) := (123, 341) :: eqsC
attribute [local simp] eqsF
theorem eqs_okF : ∀ (T : TypeId) (n : Nat), getA eqsF T = some n → EqOk Tryz.prog T n := fun T n h => by
  simp only [eqsF, getA] at h
  split at h
  · rename_i e; simp only [Option.some.injEq] at h; subst h; subst e; exact eqOk123
  · exact eqs_ok T n h
def mkCxF (l : List (Nat × (List D → Option D))) (le : List (Nat × EffSp)) (N : Nat) (kp : Nat → List (Nat × Option Nat)) (kb : List (Nat × Nat × Nat)) (df : Nat → List (Nat × Nat)) (md : Nat → Nat) : Cx := { Γ := tys, eqs := eqsF, Δ := delOf l, N := N, F := fuel, kp := kp, kb := kb, Δe := effOf le, diff := df, md := md, keys := [(125, 19530)], seq := seqOf [(101, s101)] }
attribute [local simp] mkCxF
theorem call101 (xs : Array Value) (w : World) : (callFunc 101 xs).run Tryz.prog w = .ok (.enter 101 xs) w := by kernel_rfl
theorem seq101 : SeqOk Tryz.prog (seqOf [(101, s101)]) := fun gf caps l h => by
  simp only [seqOf, getA] at h
  split at h
  · rename_i s hs
    split at hs
    · rename_i e; simp only [Option.some.injEq] at hs; subst hs; subst e
      exact ⟨call101, ok101 _ _ h⟩
    · cases hs
  · cases h
theorem mkCxF_ok {l : List (Nat × (List D → Option D))} (h : DelOk Tryz.prog (delOf l)) {le : List (Nat × EffSp)} (he : EffOk Tryz.prog (effOf le)) (N : Nat) (kp : Nat → List (Nat × Option Nat)) (kb : List (Nat × Nat × Nat)) (df : Nat → List (Nat × Nat)) (md : Nat → Nat) : CxOk Tryz.prog (mkCxF l le N kp kb df md) :=
  ⟨tys_ok, eqs_okF, h, he, by kernel_rfl, keys125, pan_none, seq101⟩
def kp70 (r : Nat) : List (Nat × Option Nat) := match r with
  | 0 => [(3, none), (4, none), (5, none), (6, none), (7, none), (8, none), (9, none), (10, none), (11, none), (12, none), (13, none), (14, none)]
  | 1 => [(3, none), (4, none), (5, none), (6, none), (7, none), (8, none), (9, none), (10, none), (11, none), (12, none), (13, none), (14, none), (15, none)]
  | 2 => [(3, none), (5, none), (6, none), (7, none), (8, none), (9, none), (10, none), (11, none), (12, none), (13, none), (14, none), (15, none), (41, none)]
  | 3 => [(14, none)]
  | 4 => [(3, none), (5, none), (6, none), (7, none), (8, none), (9, none), (10, none), (11, none), (12, none), (13, none), (14, none), (15, none), (43, none)]
  | 5 => [(14, none)]
  | 6 => [(3, none), (7, none), (8, none), (9, none), (10, none), (12, none), (13, none), (14, none), (15, none), (80, none)]
  | 7 => [(3, none), (7, none), (8, none), (9, none), (10, none), (12, none), (13, none), (14, none), (15, none), (16, none), (82, none)]
  | 8 => [(3, none), (7, none), (8, none), (9, none), (10, none), (12, none), (13, none), (14, none), (15, none), (16, none), (17, none)]
  | 9 => [(3, none), (7, none), (8, none), (9, none), (10, none), (12, none), (13, none), (14, none), (15, none), (16, none), (17, none)]
  | 10 => [(3, none), (7, none), (8, none), (9, none), (10, none), (12, none), (13, none), (14, none), (15, none), (98, none)]
  | 11 => [(14, none)]
  | 12 => [(3, none), (7, none), (8, none), (9, none), (10, none), (12, none), (13, none), (14, none), (15, none)]
  | 13 => [(14, none)]
  | 14 => [(14, none)]
  | _ => []
def md70 (r : Nat) : Nat := if r = 10 then 1 else if r = 13 then 2 else 0
def caps70 : List (Sum Nat D) := [.inl 1000, .inl 1001, .inl 1002, .inl 1003, .inl 1004, .inl 1005, .inl 1006, .inl 1007]
attribute [local simp] caps70
def rowN (k : Nat) : List D := [DI k]
def cFew (E : Few) (best : List Nat) (M : List (Value × Int)) (tok : Nat) : List Cont :=
  [.cells [.mp 1008], .cells ((rTap.enc E.t).map .d), .cells ((rSpn.enc E.want).map .d), .cells [.d (DI E.bound)], .cells [.d (.sl 4 (E.kinds.map rDip.enc))], .cells [.sl 1 (best.map rowN) (.own tok)], .cells [.fx 70 [] caps70], .cells ((rDsh.enc E.x).map .d), .map (19530, encM M)]
theorem cFew_eq (E : Few) (best : List Nat) (M : List (Value × Int)) (tok : Nat) : cFew E best M tok = [.cells [.mp 1008], .cells [.d (DI E.t.wick), .d (DI E.t.top), .d (DI E.t.foot)], .cells [.d (DI E.want.lo), .d (DI E.want.hi)], .cells [.d (DI E.bound)], .cells [.d (.sl 4 (E.kinds.map rDip.enc))], .cells [.sl 1 (best.map rowN) (.own tok)], .cells [.fx 70 [] caps70], .cells [.d (DI E.x.melt), .d (DI E.x.coat), .d (DI E.x.thin), .d (DI E.x.hold), .d (DI E.x.back), .d (DI E.x.draw), .d (DI E.x.set), .d (DI E.x.run), .d (.sl 3 (E.x.baths.map rBth.enc))], .map (19530, encM M)] := rfl
def cntD (p : List Nat) : List D := [DI (p.count 0 : Nat), DI (p.count 1 : Nat), DI (p.count 2 : Nat), DI (p.count 3 : Nat), DI (p.count 4 : Nat)]
def enc70 (a : Nat × List Nat × List (Value × Int) × Few) : List X × List Cont × List Nat :=
  ([.d (.agg (cntD a.2.1)), .d (.agg (rRng.enc (rP a.2.2.2.x a.2.2.2.t a.2.2.2.kinds a.2.1))), .d (DI a.1), .loc 1000 0, .loc 1001 0, .loc 1002 0, .loc 1003 0, .loc 1004 0, .loc 1005 0, .loc 1006 0, .loc 1007 0], cFew a.2.2.2 a.2.1 a.2.2.1 tokE, [tokE])
instance (E : Few) : Decidable (FewOk E) := inferInstanceAs (Decidable ((_ ∧ _ ∧ ∀ d ∈ _, _) ∧ _ ∧ _ ∧ _ ∧ _))
def res70 (n : Nat) (a : Nat × List Nat × List (Value × Int) × Few) : Option (D × List Cont × List Nat) :=
  if a.1 = n ∧ FewOk a.2.2.2 ∧ a.1 + a.2.1.length ≤ 10 ∧ ∀ k ∈ a.2.1, k < a.2.2.2.kinds.length then some (DB (tryM a.2.2.2 a.1 a.2.1 a.2.2.1).1.isSome, cFew a.2.2.2 ((tryM a.2.2.2 a.1 a.2.1 a.2.2.1).1.getD a.2.1) (tryM a.2.2.2 a.1 a.2.1 a.2.2.1).2 200500, [200500]) else none
theorem rowN_inj {p q : List Nat} (h : p.map rowN = q.map rowN) : p = q := by
  refine (List.map_inj_right fun a b hab => ?_).1 h
  simp only [rowN, List.cons.injEq, D.v.injEq, Value.int.injEq, true_and, and_true] at hab
  omega
theorem cFew_inj {E E' : Few} {p p' : List Nat} {M M' : List (Value × Int)} {tok tok' : Nat} (h : cFew E p M tok = cFew E' p' M' tok') : E = E' ∧ p = p' ∧ M = M' := by
  obtain ⟨x, t, kinds, want, bound⟩ := E
  obtain ⟨x', t', kinds', want', bound'⟩ := E'
  simp only [cFew, List.cons.injEq, Cont.cells.injEq, Cont.map.injEq, X.d.injEq, X.sl.injEq, D.sl.injEq, D.v.injEq, Value.int.injEq, Prod.mk.injEq, and_true, true_and] at h
  obtain ⟨h1, h2, h3, h4, h5, h6, h7⟩ := h
  have e1 := row_inj _ (xd_inj h1)
  have e2 := row_inj _ (xd_inj h2)
  have e4 := rows_inj _ h4
  have e6 := row_inj _ (xd_inj h6)
  subst e1; subst e2; subst h3; subst e4; subst e6
  exact ⟨rfl, rowN_inj h5.1, encM_inj h7⟩
theorem inj70 (n : Nat) (a b : Nat × List Nat × List (Value × Int) × Few) (h : enc70 a = enc70 b) : res70 n a = res70 n b := by
  obtain ⟨l, p, M, E⟩ := a
  obtain ⟨l', p', M', E'⟩ := b
  simp only [enc70, Prod.mk.injEq] at h
  obtain ⟨h1, h2, _⟩ := h
  obtain ⟨rfl, rfl, rfl⟩ := cFew_inj h2
  simp only [List.cons.injEq, X.d.injEq, D.v.injEq, Value.int.injEq, Int.natCast_inj, and_true, true_and] at h1
  subst h1; rfl
noncomputable def e70 (n : Nat) : EffSp := effBy enc70 (res70 n)
theorem call70 (xs : Array Value) (w : World) : (callFunc 70 xs).run Tryz.prog w = .ok (.enter 70 xs) w := by kernel_rfl
theorem e70_at (n : Nat) (p : List Nat) (M : List (Value × Int)) (E : Few) (k : Nat) : e70 n [.d (.agg (cntD (p ++ [k]))), .d (.agg (rRng.enc (rP E.x E.t E.kinds (p ++ [k])))), .d (DI n), .loc 1000 0, .loc 1001 0, .loc 1002 0, .loc 1003 0, .loc 1004 0, .loc 1005 0, .loc 1006 0, .loc 1007 0] [.cells [.mp 1008], .cells [.d (DI E.t.wick), .d (DI E.t.top), .d (DI E.t.foot)], .cells [.d (DI E.want.lo), .d (DI E.want.hi)], .cells [.d (DI E.bound)], .cells [.d (.sl 4 (E.kinds.map rDip.enc))], .cells [.sl 1 (p.map rowN ++ [[DI k]]) (.own 900000)], .cells [.fx 70 [] [.inl 1000, .inl 1001, .inl 1002, .inl 1003, .inl 1004, .inl 1005, .inl 1006, .inl 1007]], .cells [.d (DI E.x.melt), .d (DI E.x.coat), .d (DI E.x.thin), .d (DI E.x.hold), .d (DI E.x.back), .d (DI E.x.draw), .d (DI E.x.set), .d (DI E.x.run), .d (.sl 3 (E.x.baths.map rBth.enc))], .map (19530, encM M)] [900000] = res70 n (n, p ++ [k], M, E) := effBy_at (inj70 n) (n, p ++ [k], M, E) (by
  rw [enc70, cFew_eq]
  simp only [List.map_append, List.map_cons, List.map_nil, rowN]
  rfl)
def g70l : List (Nat × (List D → Option D)) := (71, s71) :: (48, s48) :: g6l
theorem dg70 : DelOk Tryz.prog (delOf g70l) := del_cons (del_cons dg6 call48 ok48) call71 ok71
theorem wf_small (x : Nat) (h : x ≤ 10) : (Lit.int .i64 (x : Int)).wf = true := by
  have e : IntKind.i64.min = -9223372036854775808 := by decide
  have e2 : IntKind.i64.max = 9223372036854775807 := by decide
  simp only [Lit.wf, e, e2, Bool.and_eq_true, decide_eq_true_eq]
  omega
theorem int_dec4 (a b c d : Int) : (cList rInt).dec (.sl 1 [[DI a], [DI b], [DI c], [DI d]]) = some [a, b, c, d] := rfl
theorem cnt_ne {p : List Nat} (h5 : ∀ k ∈ p, k < 5) (h : p ≠ []) : (([((p.count 0 : Nat) : Int), ((p.count 1 : Nat) : Int), ((p.count 2 : Nat) : Int), ((p.count 3 : Nat) : Int), ((p.count 4 : Nat) : Int)] : List Int) != [0, 0, 0, 0, 0]) = true := by
  rw [bne_iff_ne]
  intro e
  simp only [List.cons.injEq, and_true] at e
  obtain ⟨e0, e1, e2, e3, e4⟩ := e
  refine h (List.Perm.eq_nil (count_perm (q := []) h5 (fun k hk => by cases hk) fun k hk => ?_))
  rw [List.count_nil]
  rcases (by omega : k = 0 ∨ k = 1 ∨ k = 2 ∨ k = 3 ∨ k = 4) with rfl | rfl | rfl | rfl | rfl <;> omega
set_option maxHeartbeats 2000000 in
theorem oe70_0 : EffOk1 Tryz.prog 70 (e70 0) := ok_effBy fun a r hr => by
  obtain ⟨l, p, M, E⟩ := a
  unfold res70 at hr
  simp only at hr
  split at hr
  · rename_i hc
    cases hr
    obtain ⟨rfl, hE, hlen, hp⟩ := hc
    have hq := (rP_bd hE _ p rfl hp).2
    have hm := makes_out hq E.want E.bound
    obtain ⟨hl, ht, h5, hb0, hb1⟩ := id hE
    have hwb := wrap_small (-E.bound) (by omega) (by omega)
    have w0 := wf_small (p.count 0) (by have := List.count_le_length (a := 0) (l := p); omega)
    have w1 := wf_small (p.count 1) (by have := List.count_le_length (a := 1) (l := p); omega)
    have w2 := wf_small (p.count 2) (by have := List.count_le_length (a := 2) (l := p); omega)
    have w3 := wf_small (p.count 3) (by have := List.count_le_length (a := 3) (l := p); omega)
    have w4 := wf_small (p.count 4) (by have := List.count_le_length (a := 4) (l := p); omega)
    have wn : (Lit.int .i64 (0 : Int)).wf = true := by decide
    refine eff_of_call (mkCxF_ok dg70 eff_nil 110 kp70 [(1005, 0, 1001)] (fun _ => []) md70) Tryz.func70 rfl rfl (Nat.le_of_ble_eq_true rfl) (by kernel_rfl) (by kernel_rfl) ?_
    rw [Tryz.results70]
    have hmin : (if (rP E.x E.t E.kinds p).foot.lo < (rP E.x E.t E.kinds p).top.lo then (rP E.x E.t E.kinds p).foot.lo else (rP E.x E.t E.kinds p).top.lo) = min (rP E.x E.t E.kinds p).top.lo (rP E.x E.t E.kinds p).foot.lo := by split <;> omega
    simp only [enc70, cFew_eq, cntD]
    by_cases h1 : 0 < lookI M (keyN p 0)
    · have htr : tryM E 0 p M = (none, M) := by unfold tryM; rw [if_pos h1]
      rw [htr]
      simp only [keyN, cntV, List.cons_append, List.nil_append, Int.natCast_zero] at h1
      simp [kp70, md70, rRng_enc, look_enc, w0, w1, w2, w3, w4, wn, h1]
    have hr0 : ∀ b : Bool, deadP E.x E.t E.kinds p = false → makesB (rP E.x E.t E.kinds p) E.want E.bound = b → tryM E 0 p M = (if b = true then some p else none, M) := fun b q1 q2 => by
      unfold tryM
      rw [if_neg h1, if_neg (by rw [q1]; simp), q2]
      cases b <;> rfl
    have hz : deadP E.x E.t E.kinds p = true → tryM E 0 p M = (none, M) := fun q => by
      unfold tryM
      rw [if_neg h1, if_pos q]
    simp only [keyN, cntV, List.cons_append, List.nil_append, Int.natCast_zero] at h1
    by_cases h2 : min (rP E.x E.t E.kinds p).top.lo (rP E.x E.t E.kinds p).foot.lo < E.t.wick
    · by_cases hp0 : p = []
      · subst hp0
        have hd : deadP E.x E.t E.kinds [] = false := by simp [deadP]
        rw [hr0 _ hd hm.symm]
        simp only [List.count_nil, Int.natCast_zero] at h1 w0
        cases k1 : outB E.want.lo E.want.hi [(rP E.x E.t E.kinds []).top.lo, (rP E.x E.t E.kinds []).top.hi, (rP E.x E.t E.kinds []).foot.lo, (rP E.x E.t E.kinds []).foot.hi]
        · cases k2 : outB (-E.bound) E.bound [(rP E.x E.t E.kinds []).skew.lo, (rP E.x E.t E.kinds []).skew.hi]
          · simp [kp70, md70, rRng_enc, look_enc, w0, w1, w2, w3, w4, wn, h1, hmin, h2, hwb, k1, k2, g70l, s48, int_dec2, int_dec4]
          · simp [kp70, md70, rRng_enc, look_enc, w0, w1, w2, w3, w4, wn, h1, hmin, h2, hwb, k1, k2, g70l, s48, int_dec2, int_dec4]
        · simp [kp70, md70, rRng_enc, look_enc, w0, w1, w2, w3, w4, wn, h1, hmin, h2, hwb, k1, g70l, s48, int_dec2, int_dec4]
      · rw [hz (by simp [deadP, lostR, h2, hp0])]
        have hne := cnt_ne (fun k hk => by have := hp k hk; omega) hp0
        simp [kp70, md70, rRng_enc, look_enc, w0, w1, w2, w3, w4, wn, h1, hmin, h2, hne]
    · have hd : deadP E.x E.t E.kinds p = false := by simp [deadP, lostR, h2]
      rw [hr0 _ hd hm.symm]
      cases k1 : outB E.want.lo E.want.hi [(rP E.x E.t E.kinds p).top.lo, (rP E.x E.t E.kinds p).top.hi, (rP E.x E.t E.kinds p).foot.lo, (rP E.x E.t E.kinds p).foot.hi]
      · cases k2 : outB (-E.bound) E.bound [(rP E.x E.t E.kinds p).skew.lo, (rP E.x E.t E.kinds p).skew.hi]
        · simp [kp70, md70, rRng_enc, look_enc, w0, w1, w2, w3, w4, wn, h1, hmin, h2, hwb, k1, k2, g70l, s48, int_dec2, int_dec4]
        · simp [kp70, md70, rRng_enc, look_enc, w0, w1, w2, w3, w4, wn, h1, hmin, h2, hwb, k1, k2, g70l, s48, int_dec2, int_dec4]
      · simp [kp70, md70, rRng_enc, look_enc, w0, w1, w2, w3, w4, wn, h1, hmin, h2, hwb, k1, g70l, s48, int_dec2, int_dec4]
  · cases hr
theorem s101_at (K : Nat) (p : List Nat) (hK : K ≤ 5) (hp : p.length ≤ 10) : s101 [.dat 1 [[DI K]] 0 0, .dat 5 [[DI (p.count 0 : Nat), DI (p.count 1 : Nat), DI (p.count 2 : Nat), DI (p.count 3 : Nat), DI (p.count 4 : Nat)]] 0 0] = some (withL K (cntP p)) := by
  have c0 := List.count_le_length (a := 0) (l := p)
  have c1 := List.count_le_length (a := 1) (l := p)
  have c2 := List.count_le_length (a := 2) (l := p)
  have c3 := List.count_le_length (a := 3) (l := p)
  have c4 := List.count_le_length (a := 4) (l := p)
  unfold s101
  simp only
  rw [if_pos ⟨⟨by omega, by omega⟩, ⟨by omega, by omega⟩, ⟨by omega, by omega⟩, ⟨by omega, by omega⟩, ⟨by omega, by omega⟩, by omega, by omega⟩]
  rfl
def mapA (E : Few) (n : Nat) (p : List Nat) (M : List (Value × Int)) (j : Nat) : List (Value × Int) := restM (fun k M => tryM E n (p ++ [k]) M) M j
set_option maxHeartbeats 4000000 in
theorem oe70_s (n : Nat) (ih : EffOk1 Tryz.prog 70 (e70 n)) : EffOk1 Tryz.prog 70 (e70 (n + 1)) := ok_effBy fun a r hr => by
  obtain ⟨l, p, M, E⟩ := a
  unfold res70 at hr
  simp only at hr
  split at hr
  · rename_i hc
    cases hr
    obtain ⟨rfl, hE, hlen, hp⟩ := hc
    obtain ⟨hl, ht, h5, hb0, hb1⟩ := id hE
    have w0 := wf_small (p.count 0) (by have := List.count_le_length (a := 0) (l := p); omega)
    have w1 := wf_small (p.count 1) (by have := List.count_le_length (a := 1) (l := p); omega)
    have w2 := wf_small (p.count 2) (by have := List.count_le_length (a := 2) (l := p); omega)
    have w3 := wf_small (p.count 3) (by have := List.count_le_length (a := 3) (l := p); omega)
    have w4 := wf_small (p.count 4) (by have := List.count_le_length (a := 4) (l := p); omega)
    have wn : (Lit.int .i64 ((n : Int) + 1)).wf = true := wf_small (n + 1) (by omega)
    have hn0 : ((n : Int) + 1 == 0) = false := by rw [beq_eq_false_iff_ne]; omega
    have hn1 := wrap_small (n : Int) (by omega) (by omega)
    have hn1' := wrap_small ((n : Int) + 1 - 1) (by omega) (by omega)
    refine eff_of_call (mkCxF_ok dg70 (eff_cons eff_nil call70 ih) 110 kp70 [(1005, 0, 1001)] (fun _ => []) md70) Tryz.func70 rfl rfl (Nat.le_of_ble_eq_true rfl) (by kernel_rfl) (by kernel_rfl) ?_
    rw [Tryz.results70]
    have hmin : (if (rP E.x E.t E.kinds p).foot.lo < (rP E.x E.t E.kinds p).top.lo then (rP E.x E.t E.kinds p).foot.lo else (rP E.x E.t E.kinds p).top.lo) = min (rP E.x E.t E.kinds p).top.lo (rP E.x E.t E.kinds p).foot.lo := by split <;> omega
    simp only [enc70, cFew_eq, cntD]
    by_cases h1 : 0 < lookI M (keyN p (n + 1))
    · have htr : tryM E (n + 1) p M = (none, M) := by unfold tryM; rw [if_pos h1]
      rw [htr]
      simp only [keyN, cntV, List.cons_append, List.nil_append, Int.natCast_add, Int.natCast_one] at h1
      simp [kp70, md70, rRng_enc, look_enc, w0, w1, w2, w3, w4, wn, h1]
    by_cases hd : deadP E.x E.t E.kinds p = true
    · have htr : tryM E (n + 1) p M = (none, M) := by
        unfold tryM
        rw [if_neg h1, if_pos hd]
      rw [htr]
      simp only [keyN, cntV, List.cons_append, List.nil_append, Int.natCast_add, Int.natCast_one] at h1
      simp only [deadP, lostR, Bool.and_eq_true, decide_eq_true_eq, Bool.not_eq_true', List.isEmpty_eq_false_iff] at hd
      have hne := cnt_ne (fun k hk => by have := hp k hk; omega) hd.2
      simp [kp70, md70, rRng_enc, look_enc, w0, w1, w2, w3, w4, wn, h1, hmin, hd.1, hne]
    have htr : tryM E (n + 1) p M = match loopM (fun k M => tryM E n (p ++ [k]) M) 0 E.kinds.length M with
      | (some a, M') => (some a, M')
      | (none, M') => (none, (keyN p (n + 1), IntKind.i64.wrap (lookI M' (keyN p (n + 1)) + 1)) :: M') := by
      conv => lhs; unfold tryM
      rw [if_neg h1, if_neg hd]
      rfl
    simp only [keyN, cntV, List.cons_append, List.nil_append, Int.natCast_add, Int.natCast_one] at h1
    have hs := s101_at E.kinds.length p h5 (by omega)
    have hcase : (min (rP E.x E.t E.kinds p).top.lo (rP E.x E.t E.kinds p).foot.lo < E.t.wick ∧ (([((p.count 0 : Nat) : Int), ((p.count 1 : Nat) : Int), ((p.count 2 : Nat) : Int), ((p.count 3 : Nat) : Int), ((p.count 4 : Nat) : Int)] : List Int) != [0, 0, 0, 0, 0]) = false) ∨ ¬ min (rP E.x E.t E.kinds p).top.lo (rP E.x E.t E.kinds p).foot.lo < E.t.wick := by
      by_cases h2 : min (rP E.x E.t E.kinds p).top.lo (rP E.x E.t E.kinds p).foot.lo < E.t.wick
      · have hp0 : p = [] := by
          simp [deadP, lostR, h2] at hd
          exact hd
        subst hp0
        exact .inl ⟨h2, rfl⟩
      · exact .inr h2
    have hx : ∀ j x, (withL E.kinds.length (cntP p))[j]? = some x → ∃ hj : j < E.kinds.length, x = [.int .i64 j, .agg #[.int .i64 ((p ++ [j]).count 0 : Nat), .int .i64 ((p ++ [j]).count 1 : Nat), .int .i64 ((p ++ [j]).count 2 : Nat), .int .i64 ((p ++ [j]).count 3 : Nat), .int .i64 ((p ++ [j]).count 4 : Nat)]] := fun j x h => by
      have hj : j < E.kinds.length := by
        have := (List.getElem?_eq_some_iff.1 h).1
        simpa [withL] using this
      rw [withL_at _ hj, with_cnt (by omega)] at h
      exact ⟨hj, (Option.some.inj h).symm⟩
    have hcall : ∀ (j : Nat), j < E.kinds.length → e70 n [.d (.agg [DI ((p ++ [j]).count 0 : Nat), DI ((p ++ [j]).count 1 : Nat), DI ((p ++ [j]).count 2 : Nat), DI ((p ++ [j]).count 3 : Nat), DI ((p ++ [j]).count 4 : Nat)]), .d (.agg [DI (rP E.x E.t E.kinds (p ++ [j])).top.lo, DI (rP E.x E.t E.kinds (p ++ [j])).top.hi, DI (rP E.x E.t E.kinds (p ++ [j])).foot.lo, DI (rP E.x E.t E.kinds (p ++ [j])).foot.hi, DI (rP E.x E.t E.kinds (p ++ [j])).skew.lo, DI (rP E.x E.t E.kinds (p ++ [j])).skew.hi]), .d (DI n), .loc 1000 0, .loc 1001 0, .loc 1002 0, .loc 1003 0, .loc 1004 0, .loc 1005 0, .loc 1006 0, .loc 1007 0] [.cells [.mp 1008], .cells [.d (DI E.t.wick), .d (DI E.t.top), .d (DI E.t.foot)], .cells [.d (DI E.want.lo), .d (DI E.want.hi)], .cells [.d (DI E.bound)], .cells [.d (.sl 4 (E.kinds.map rDip.enc))], .cells [.sl 1 (p.map rowN ++ [[DI j]]) (.own 900000)], .cells [.fx 70 [] [.inl 1000, .inl 1001, .inl 1002, .inl 1003, .inl 1004, .inl 1005, .inl 1006, .inl 1007]], .cells [.d (DI E.x.melt), .d (DI E.x.coat), .d (DI E.x.thin), .d (DI E.x.hold), .d (DI E.x.back), .d (DI E.x.draw), .d (DI E.x.set), .d (DI E.x.run), .d (.sl 3 (E.x.baths.map rBth.enc))], .map (19530, encM (mapA E n p M j))] [900000] = some (DB (tryM E n (p ++ [j]) (mapA E n p M j)).1.isSome, cFew E ((tryM E n (p ++ [j]) (mapA E n p M j)).1.getD (p ++ [j])) (mapA E n p M (j + 1)) 200500, [200500]) := fun j hj => by
      have := e70_at n p (mapA E n p M j) E j
      rw [cntD, rRng_enc] at this
      rw [this]
      unfold res70
      rw [if_pos ⟨rfl, hE, by simp only [List.length_append, List.length_cons, List.length_nil]; omega, fun k hk => by
        show k < E.kinds.length
        rcases List.mem_append.1 hk with hk | hk
        · exact hp k hk
        · simp at hk; omega⟩]
      rfl
    rcases hcase with ⟨h2, hne⟩ | h2
    all_goals first
      | simp [kp70, md70, rRng_enc, look_enc, w0, w1, w2, w3, w4, wn, h1, hmin, h2, hne, hn0, g70l, s71, rCnt_enc, rCnt_dec, cWith_enc, hs]
      | simp [kp70, md70, rRng_enc, look_enc, w0, w1, w2, w3, w4, wn, h1, hmin, h2, hn0, g70l, s71, rCnt_enc, rCnt_dec, cWith_enc, hs]
    all_goals
      have hrok := rP_ok hE hp (by omega)
      have hpl := wrap_small (p.length : Int) (by omega) (by omega)
      have hpp : (p.length : Int) ≤ p.length + 1 := by omega
      have hcap : p.length ≤ 140737488355327 := by omega
      have hcap' : (p.length + 1) * 8 ≤ 140737488355328 := by omega
      rcases loopM_cases (fun k M => tryM E n (p ++ [k]) M) M E.kinds.length with ⟨hno, hres⟩ | ⟨J, a, hJ, hno, hyes, hres⟩
      · rw [hres] at htr
        simp only at htr
        (generalize hLoopQ : Cx.rounds _ _ _ _ _ _ _ _ = rLoopQ; have hEndQ := rounds_then_all hLoopQ (fun j => ⟨[(3, .loc 1000 0), (7, .loc 1004 0), (8, .loc 1005 0), (9, .loc 1006 0), (10, .loc 1007 0), (12, .loc 12 0), (13, .loc 13 0), (14, .loc 14 0), (15, .loc 15 0), (80, .d (.fn 101 [] [.dat 1 [[DI E.kinds.length]] 0 0, .dat 5 [[DI (p.count 0 : Nat), DI (p.count 1 : Nat), DI (p.count 2 : Nat), DI (p.count 3 : Nat), DI (p.count 4 : Nat)]] 0 0]))], [(1001, [.d (DI E.t.wick), .d (DI E.t.top), .d (DI E.t.foot)]), (1002, [.d (DI E.want.lo), .d (DI E.want.hi)]), (1003, [.d (DI E.bound)]), (1000, [.mp 1008]), (1004, [.d (.sl 4 (E.kinds.map rDip.enc))]), (1005, [.sl 1 (p.map rowN) (.own 200500)]), (1006, [.fx 70 [] [.inl 1000, .inl 1001, .inl 1002, .inl 1003, .inl 1004, .inl 1005, .inl 1006, .inl 1007]]), (1007, [.d (DI E.x.melt), .d (DI E.x.coat), .d (DI E.x.thin), .d (DI E.x.hold), .d (DI E.x.back), .d (DI E.x.draw), .d (DI E.x.set), .d (DI E.x.run), .d (.sl 3 (E.x.baths.map rBth.enc))]), (12, [.d (DI (rP E.x E.t E.kinds p).top.lo), .d (DI (rP E.x E.t E.kinds p).top.hi), .d (DI (rP E.x E.t E.kinds p).foot.lo), .d (DI (rP E.x E.t E.kinds p).foot.hi), .d (DI (rP E.x E.t E.kinds p).skew.lo), .d (DI (rP E.x E.t E.kinds p).skew.hi)]), (13, [.d (DI ((n : Int) + 1))]), (14, [.d (DB false)]), (15, [.d (DI (p.count 0 : Nat)), .d (DI (p.count 1 : Nat)), .d (DI (p.count 2 : Nat)), .d (DI (p.count 3 : Nat)), .d (DI (p.count 4 : Nat)), .d (DI ((n : Int) + 1))])], [200500], [(1008, (19530, encM (mapA E n p M j)))]⟩) rfl ?_; rotate_left; all_goals clear hLoopQ)
        · intro j x hxj
          obtain ⟨hj, hx'⟩ := hx j x hxj
          have hE' := hcall j hj
          rw [show (tryM E n (p ++ [j]) (mapA E n p M j)).1 = none from hno j hj] at hE'
          have hn : nextR E.x (rP E.x E.t E.kinds p) E.kinds[j] = rP E.x E.t E.kinds (p ++ [j]) := by rw [rP_app, show kindAt E.kinds j = E.kinds[j] from getD_at _ _ _ hj]
          have hdj := okL_at hl j hj
          have hjl : (j : Int) < E.kinds.length := by omega
          generalize (p ++ [j]).count 0 = d0 at hE' hx'
          generalize (p ++ [j]).count 1 = d1 at hE' hx'
          generalize (p ++ [j]).count 2 = d2 at hE' hx'
          generalize (p ++ [j]).count 3 = d3 at hE' hx'
          generalize (p ++ [j]).count 4 = d4 at hE' hx'
          generalize rP E.x E.t E.kinds (p ++ [j]) = R' at hE' hn
          simp only [Option.isSome_none, Option.getD_none, cFew_eq, caps70, List.map_append, List.map_cons, List.map_nil, rowN] at hE'
          subst hx'
          simp [kp70, md70, rRng_enc, rDip_enc, rDip_dec, rDsh_enc, rDsh_dec, rRng_dec, g70l, g6l, s64, hj, hjl, hdj, hrok, hn, hn1, hn1', hE', hpl, hpp, hcap, hcap']
        have hkl : (withL E.kinds.length (cntP p)).length = E.kinds.length := by simp [withL]
        rw [hkl] at hEndQ
        rw [hEndQ, htr]
        simp [kp70, md70, look_enc, w0, w1, w2, w3, w4, wn]
        rfl
      · rw [hres] at htr
        simp only at htr
        have hyes' : (tryM E n (p ++ [J]) (mapA E n p M J)).1 = some a := hyes
        have hE' := hcall J hJ
        rw [hyes'] at hE'
        have hxJ : (withL E.kinds.length (cntP p))[J]? = some [.int .i64 J, .agg #[.int .i64 ((p ++ [J]).count 0 : Nat), .int .i64 ((p ++ [J]).count 1 : Nat), .int .i64 ((p ++ [J]).count 2 : Nat), .int .i64 ((p ++ [J]).count 3 : Nat), .int .i64 ((p ++ [J]).count 4 : Nat)]] := by rw [withL_at _ hJ, with_cnt (by omega)]; rfl
        have hn : nextR E.x (rP E.x E.t E.kinds p) E.kinds[J] = rP E.x E.t E.kinds (p ++ [J]) := by rw [rP_app, show kindAt E.kinds J = E.kinds[J] from getD_at _ _ _ hJ]
        have hdj := okL_at hl J hJ
        have hjl : (J : Int) < E.kinds.length := by omega
        generalize (p ++ [J]).count 0 = d0 at hE' hxJ
        generalize (p ++ [J]).count 1 = d1 at hE' hxJ
        generalize (p ++ [J]).count 2 = d2 at hE' hxJ
        generalize (p ++ [J]).count 3 = d3 at hE' hxJ
        generalize (p ++ [J]).count 4 = d4 at hE' hxJ
        generalize rP E.x E.t E.kinds (p ++ [J]) = R' at hE' hn
        simp only [Option.isSome_some, Option.getD_some, cFew_eq, caps70, List.map_append, List.map_cons, List.map_nil, rowN] at hE'
        (generalize hLoopQ : Cx.rounds _ _ _ _ _ _ _ _ = rLoopQ; have hEndQ := rounds_then_at hLoopQ (fun j => ⟨[(3, .loc 1000 0), (7, .loc 1004 0), (8, .loc 1005 0), (9, .loc 1006 0), (10, .loc 1007 0), (12, .loc 12 0), (13, .loc 13 0), (14, .loc 14 0), (15, .loc 15 0), (80, .d (.fn 101 [] [.dat 1 [[DI E.kinds.length]] 0 0, .dat 5 [[DI (p.count 0 : Nat), DI (p.count 1 : Nat), DI (p.count 2 : Nat), DI (p.count 3 : Nat), DI (p.count 4 : Nat)]] 0 0]))], [(1001, [.d (DI E.t.wick), .d (DI E.t.top), .d (DI E.t.foot)]), (1002, [.d (DI E.want.lo), .d (DI E.want.hi)]), (1003, [.d (DI E.bound)]), (1000, [.mp 1008]), (1004, [.d (.sl 4 (E.kinds.map rDip.enc))]), (1005, [.sl 1 (p.map rowN) (.own 200500)]), (1006, [.fx 70 [] [.inl 1000, .inl 1001, .inl 1002, .inl 1003, .inl 1004, .inl 1005, .inl 1006, .inl 1007]]), (1007, [.d (DI E.x.melt), .d (DI E.x.coat), .d (DI E.x.thin), .d (DI E.x.hold), .d (DI E.x.back), .d (DI E.x.draw), .d (DI E.x.set), .d (DI E.x.run), .d (.sl 3 (E.x.baths.map rBth.enc))]), (12, [.d (DI (rP E.x E.t E.kinds p).top.lo), .d (DI (rP E.x E.t E.kinds p).top.hi), .d (DI (rP E.x E.t E.kinds p).foot.lo), .d (DI (rP E.x E.t E.kinds p).foot.hi), .d (DI (rP E.x E.t E.kinds p).skew.lo), .d (DI (rP E.x E.t E.kinds p).skew.hi)]), (13, [.d (DI ((n : Int) + 1))]), (14, [.d (DB false)]), (15, [.d (DI (p.count 0 : Nat)), .d (DI (p.count 1 : Nat)), .d (DI (p.count 2 : Nat)), .d (DI (p.count 3 : Nat)), .d (DI (p.count 4 : Nat)), .d (DI ((n : Int) + 1))])], [200500], [(1008, (19530, encM (mapA E n p M j)))]⟩) J ([.int .i64 J, .agg #[.int .i64 d0, .int .i64 d1, .int .i64 d2, .int .i64 d3, .int .i64 d4]]) rfl hxJ ?_; rotate_left; all_goals clear hLoopQ)
        · intro j x hjJ hxj
          obtain ⟨hj, hx'⟩ := hx j x hxj
          have hE' := hcall j hj
          rw [show (tryM E n (p ++ [j]) (mapA E n p M j)).1 = none from hno j hjJ] at hE'
          have hn : nextR E.x (rP E.x E.t E.kinds p) E.kinds[j] = rP E.x E.t E.kinds (p ++ [j]) := by rw [rP_app, show kindAt E.kinds j = E.kinds[j] from getD_at _ _ _ hj]
          have hdj := okL_at hl j hj
          have hjl : (j : Int) < E.kinds.length := by omega
          generalize (p ++ [j]).count 0 = d0 at hE' hx'
          generalize (p ++ [j]).count 1 = d1 at hE' hx'
          generalize (p ++ [j]).count 2 = d2 at hE' hx'
          generalize (p ++ [j]).count 3 = d3 at hE' hx'
          generalize (p ++ [j]).count 4 = d4 at hE' hx'
          generalize rP E.x E.t E.kinds (p ++ [j]) = R' at hE' hn
          simp only [Option.isSome_none, Option.getD_none, cFew_eq, caps70, List.map_append, List.map_cons, List.map_nil, rowN] at hE'
          subst hx'
          simp [kp70, md70, rRng_enc, rDip_enc, rDip_dec, rDsh_enc, rDsh_dec, rRng_dec, g70l, g6l, s64, hj, hjl, hdj, hrok, hn, hn1, hn1', hE', hpl, hpp, hcap, hcap']
        rw [hEndQ, htr]
        simp [contR_r, kp70, md70, rRng_enc, rDip_enc, rDip_dec, rDsh_enc, rDsh_dec, rRng_dec, g70l, g6l, s64, hJ, hjl, hdj, hrok, hn, hn1, hn1', hE', hpl, hpp, hcap, hcap']
        rfl
  · cases hr
end Go.Proofs.YtcgacojnfkklaaaGreatDoor
