/-
  Reference functions of the dip chapter: what a taper can be. Conditions: none.
-/
import Derived.Test.YtcgacojnfkklaaaGreatDoorZRefA
namespace Go.Proofs.YtcgacojnfkklaaaGreatDoor
open Go.RowKit
set_option linter.unusedSimpArgs false
set_option linter.unusedVariables false
def kp65 (r : Nat) : List (Nat × Option Nat) := match r with
  | 0 => [(2, none), (3, none), (4, none)]
  | 1 => [(2, none), (3, none), (4, none), (8, none), (9, none)]
  | 2 => [(2, none), (3, none), (8, none), (9, none), (10, none)]
  | 3 => [(2, none), (3, none), (8, none), (9, none), (10, none), (11, some 6)]
  | 4 => [(2, none), (3, none), (8, none), (9, none), (10, none), (11, some 6), (12, none)]
  | 5 => [(2, none), (3, none), (8, none), (9, none), (10, none), (11, some 6), (12, none), (32, none)]
  | 6 => [(2, none), (3, none), (8, none), (9, none), (10, none), (11, some 6), (12, none)]
  | 7 => [(2, none), (3, none), (8, none), (9, none), (10, none), (11, some 6), (12, none), (13, none)]
  | 8 => [(2, none), (3, none), (8, none), (9, none), (10, none), (11, some 6), (12, none)]
  | 9 => [(2, none), (3, none), (8, none), (9, none), (10, none), (11, some 6), (12, none), (64, none)]
  | 10 => [(6, some 6), (7, none)]
  | 11 => [(2, none), (3, none), (8, none), (9, none), (10, none), (11, some 6), (12, none), (14, none), (15, none)]
  | 12 => [(2, none), (3, none), (8, none), (9, none), (10, none), (11, some 6), (12, none)]
  | 13 => [(2, none), (3, none), (8, none), (9, none), (10, none), (11, some 6), (12, none)]
  | 14 => [(6, some 6), (7, none)]
  | _ => []
def kp25 (r : Nat) : List (Nat × Option Nat) := match r with
  | 0 => [(0, none), (1, none)]
  | 1 => [(0, none), (1, none), (10, none)]
  | 2 => [(4, none)]
  | 3 => [(0, none), (1, none), (5, none)]
  | 4 => [(0, none), (1, none), (5, none), (14, none)]
  | 5 => [(0, none), (1, none), (5, none)]
  | 6 => [(0, none), (1, none), (5, none), (25, none)]
  | 7 => [(4, none)]
  | 8 => [(4, none)]
  | _ => []
def kp28 (r : Nat) : List (Nat × Option Nat) := match r with
  | 0 => [(0, none), (1, none)]
  | 1 => [(0, none), (1, none), (10, none)]
  | 2 => [(4, none)]
  | 3 => [(0, none), (1, none), (5, none)]
  | 4 => [(0, none), (1, none), (5, none), (14, none)]
  | 5 => [(0, none), (1, none), (5, none)]
  | 6 => [(0, none), (1, none), (5, none), (25, none)]
  | 7 => [(4, none)]
  | 8 => [(4, none)]
  | _ => []
def kp35 (r : Nat) : List (Nat × Option Nat) := match r with
  | 0 => [(0, none), (1, none)]
  | 1 => [(0, none), (1, none), (10, none)]
  | 2 => [(4, none)]
  | 3 => [(0, none), (1, none), (5, none)]
  | 4 => [(0, none), (1, none), (5, none), (14, none)]
  | 5 => [(0, none), (1, none), (5, none)]
  | 6 => [(0, none), (1, none), (5, none), (25, none)]
  | 7 => [(4, none)]
  | 8 => [(4, none)]
  | _ => []
def stepA (x : Dsh) (s : Tap × Tap × Spn) (d : Dip) : Tap × Tap × Spn :=
  (dippedV x s.1 d (warmV x d).lo, dippedV x s.2.1 d (warmV x d).hi, ⟨s.2.2.lo + skewV x d (endsV x d).1, s.2.2.hi + skewV x d (endsV x d).2⟩)
def stA (x : Dsh) (t : Tap) (l : List Dip) : Nat → Tap × Tap × Spn
  | 0 => (t, t, ⟨t.foot - t.top, t.foot - t.top⟩)
  | k + 1 => stepA x (stA x t l k) (l.getD k default)
def rngOf (s : Tap × Tap × Spn) : Rng := ⟨⟨s.2.1.top, s.1.top⟩, ⟨s.2.1.foot, s.1.foot⟩, s.2.2⟩
def lostAt (x : Dsh) (t : Tap) (l : List Dip) (k : Nat) : Bool := lostB (stA x t l (k + 1)).2.1
def afterL (x : Dsh) (t : Tap) (l : List Dip) (k : Nat) : List Rng := (List.range k).map fun i => rngOf (stA x t l (i + 1))
theorem afterL_succ (x : Dsh) (t : Tap) (l : List Dip) (k : Nat) : afterL x t l (k + 1) = afterL x t l k ++ [rngOf (stA x t l (k + 1))] := by simp [afterL, List.range_succ]
theorem afterL_len (x : Dsh) (t : Tap) (l : List Dip) (k : Nat) : (afterL x t l k).length = k := by simp [afterL]
def afterR (x : Dsh) (t : Tap) (l : List Dip) : Option (List Rng) := if (List.range l.length).any (lostAt x t l) then none else some (afterL x t l l.length)
theorem asked_ok {x : Dsh} {t : Tap} {l : List Dip} (h : askedE x t l = 0) : (dchk x).2.2 = 0 ∧ tapE t = 0 ∧ okL x l := by
  unfold askedE at h
  by_cases h1 : (dchk x).2.2 = 0
  · rw [if_neg (by simpa using h1)] at h
    by_cases h2 : tapE t = 0
    · rw [if_neg (by simpa using h2)] at h
      unfold planE at h
      by_cases h3 : 30 < l.length
      · rw [if_pos h3] at h; cases h
      · rw [if_neg h3] at h
        refine ⟨h1, h2, h1, by omega, fun d hd => ?_⟩
        rcases findI_cases (fun _ d => dipE x d) l with ⟨_, hall⟩ | ⟨k, hk, e1, hbad, _⟩
        · obtain ⟨j, hj, rfl⟩ := List.getElem_of_mem hd; exact hall j hj
        · rw [e1] at h; exact absurd h hbad
    · rw [if_pos h2] at h; exact absurd h h2
  · rw [if_pos h1] at h; exact absurd h h1
theorem tapE_bd {t : Tap} (h : tapE t = 0) : (0 ≤ t.wick ∧ t.wick ≤ 100000) ∧ (0 ≤ t.top ∧ t.top ≤ 100000) ∧ (0 ≤ t.foot ∧ t.foot ≤ 100000) ∧ t.wick ≤ t.top ∧ t.wick ≤ t.foot := by
  unfold tapE at h
  split at h
  · cases h
  · rename_i h1
    split at h
    · cases h
    · rename_i h2
      have h1' : (inR t.wick 0 100000 && inR t.top 0 100000 && inR t.foot 0 100000) = true := by simpa using h1
      simp only [Bool.and_eq_true, inR_iff] at h1'
      omega
theorem ends_ok {x : Dsh} {d : Dip} (h : okD x d) : gOk x d (endsV x d).1 ∧ gOk x d (endsV x d).2 := by
  obtain ⟨B, e1, hB, e2, _, g1, g2, _, _⟩ := okD_bath h
  unfold endsV
  split
  · exact ⟨g1, g2⟩
  · split
    · exact ⟨g2, g1⟩
    · exact ⟨g1, g1⟩
theorem skew_bd {x : Dsh} {d : Dip} {w : Int} (h : gOk x d w) : -50000000 ≤ skewV x d w ∧ skewV x d w ≤ 50000000 := by
  have := grown_bd h
  unfold skewV
  omega
theorem stA_bd {x : Dsh} {t : Tap} {l : List Dip} (hl : okL x l) (ht : tapE t = 0) : ∀ k, k ≤ l.length → ((-25000000 * k ≤ (stA x t l k).1.top ∧ (stA x t l k).1.top ≤ 100000 + 25000000 * k) ∧ -25000000 * k ≤ (stA x t l k).1.foot ∧ (stA x t l k).1.foot ≤ 100000 + 25000000 * k) ∧
    ((-25000000 * k ≤ (stA x t l k).2.1.top ∧ (stA x t l k).2.1.top ≤ 100000 + 25000000 * k) ∧ -25000000 * k ≤ (stA x t l k).2.1.foot ∧ (stA x t l k).2.1.foot ≤ 100000 + 25000000 * k) ∧
    ((-100000 - 50000000 * k ≤ (stA x t l k).2.2.lo ∧ (stA x t l k).2.2.lo ≤ 100000 + 50000000 * k) ∧ -100000 - 50000000 * k ≤ (stA x t l k).2.2.hi ∧ (stA x t l k).2.2.hi ≤ 100000 + 50000000 * k) ∧ (stA x t l k).1.wick = t.wick ∧ (stA x t l k).2.1.wick = t.wick := by
  intro k
  induction k with
  | zero =>
    intro _
    have := tapE_bd ht
    simp only [stA]
    refine ⟨⟨⟨?_, ?_⟩, ?_, ?_⟩, ⟨⟨?_, ?_⟩, ?_, ?_⟩, ⟨⟨?_, ?_⟩, ?_, ?_⟩, ?_, ?_⟩ <;> simp <;> omega
  | succ k ih =>
    intro hk
    have hk' : k < l.length := by omega
    have i := ih (by omega)
    have hd := okL_at hl k hk'
    obtain ⟨B, e1, hB, e2, _, g1, g2, _, _⟩ := okD_bath hd
    have b1 := grown_bd g1
    have b2 := grown_bd g2
    obtain ⟨h1, h2⟩ := ends_ok hd
    have b3 := skew_bd h1
    have b4 := skew_bd h2
    have e : stA x t l (k + 1) = stepA x (stA x t l k) l[k] := by rw [stA, getD_at _ _ _ hk']
    rw [e]
    simp only [stepA, dippedV]
    push_cast
    omega
def l8 : List (Nat × (List D → Option D)) := (68, s68) :: (60, s60) :: l7
theorem del8 : DelOk Tryz.prog (delOf l8) := del_cons (del_cons del7 call60 ok60) call68 ok68
def s65 : List D → Option D := sp3 (cAgg rDsh) (cAgg rTap) (cList rDip) (cTup2 (cList rRng) cBool) fun x t l => if askedE x t l = 0 then some ((afterR x t l).getD [], (afterR x t l).isSome) else none
set_option maxHeartbeats 4000000 in
theorem ok65 : ∀ ds d, s65 ds = some d → PureC Tryz.prog 65 ds d := ok_sp3 fun x t l r hr => by
  split at hr
  · rename_i ha
    cases hr
    obtain ⟨hc, ht, hl⟩ := asked_ok ha
    have hl30 := hl.2.1
    have tb := tapE_bd ht
    have w0 := wrap_small (t.foot - t.top) (by omega) (by omega)
    have fact : ∀ j (hj : j < l.length), ∃ B : Nat, ∃ hB : B < x.baths.length, l[j].bath = B ∧ warmV x l[j] = x.baths[B].warm ∧ okD x l[j] ∧ gOk x l[j] x.baths[B].warm.lo ∧ gOk x l[j] x.baths[B].warm.hi ∧ gOk x l[j] (endsV x l[j]).1 ∧ gOk x l[j] (endsV x l[j]).2 ∧
        (tapOk (stA x t l j).1 ∧ tapOk (stA x t l j).2.1) ∧ IntKind.i64.wrap ((stA x t l j).2.2.lo + skewV x l[j] (endsV x l[j]).1) = (stA x t l j).2.2.lo + skewV x l[j] (endsV x l[j]).1 ∧ IntKind.i64.wrap ((stA x t l j).2.2.hi + skewV x l[j] (endsV x l[j]).2) = (stA x t l j).2.2.hi + skewV x l[j] (endsV x l[j]).2 ∧
        stA x t l (j + 1) = stepA x (stA x t l j) l[j] := fun j hj => by
      have hd := okL_at hl j hj
      obtain ⟨B, e1, hB, e2, _, g1, g2, _, _⟩ := okD_bath hd
      obtain ⟨h1, h2⟩ := ends_ok hd
      have b3 := skew_bd h1
      have b4 := skew_bd h2
      have sb := stA_bd hl ht j (by omega)
      refine ⟨B, hB, e1, e2, hd, by rw [← e2]; exact g1, by rw [← e2]; exact g2, h1, h2, ⟨⟨⟨?_, ?_⟩, ?_, ?_⟩, ⟨?_, ?_⟩, ?_, ?_⟩, wrap_small _ (by omega) (by omega), wrap_small _ (by omega) (by omega), by rw [stA, getD_at _ _ _ hj]⟩ <;> omega
    have hdd : ∀ j (hj : j < l.length) (B : Nat), l[j].bath = B → rDip.dec [DI (B : Int), DI l[j].secs, DI l[j].pause, DB l[j].turned] = some l[j] := fun j hj B hB => by rw [← hB]; exact rDip_dec _
    refine pure_of_call (mkCx_ok del8 111 kp65 []) Tryz.func65 rfl rfl (Nat.le_of_ble_eq_true rfl) (by kernel_rfl) ?_
    rw [Tryz.results65]
    unfold afterR
    simp [kp65, rDsh_enc, rTap_enc, rDip_k, w0]
    rcases first_not (fun k => !lostAt x t l k) l.length with hall | ⟨k, hk, hbad, hgood⟩
    · have hany : (List.range l.length).any (lostAt x t l) = false := by
        rw [List.any_eq_false]
        intro j hj
        have := hall j (List.mem_range.1 hj)
        simpa using this
      have hany' : ¬ ∃ j, j < l.length ∧ lostAt x t l j = true := by
        rintro ⟨j, hj, h⟩
        have := hall j hj
        rw [h] at this; cases this
      simp only [hany', if_false]
      (generalize hLoopQ : Cx.loop _ _ _ = rLoopQ; apply loop_then hLoopQ (fun k => ⟨[(2, .d (.sl 4 (l.map rDip.enc))), (3, .loc 3 0), (8, .loc 8 0), (9, .loc 9 0), (10, .loc 10 0), (11, .sl 6 ((afterL x t l k).map rRng.enc) (.tok 11)), (12, .d (DI k))], [(3, [.d (DI x.melt), .d (DI x.coat), .d (DI x.thin), .d (DI x.hold), .d (DI x.back), .d (DI x.draw), .d (DI x.set), .d (DI x.run), .d (.sl 3 (x.baths.map rBth.enc))]), (8, [.d (DI (stA x t l k).1.wick), .d (DI (stA x t l k).1.top), .d (DI (stA x t l k).1.foot)]), (9, [.d (DI (stA x t l k).2.1.wick), .d (DI (stA x t l k).2.1.top), .d (DI (stA x t l k).2.1.foot)]), (10, [.d (DI (stA x t l k).2.2.lo), .d (DI (stA x t l k).2.2.hi)])], [11], []⟩) l.length rfl; rotate_left; (show _ < 281474976710656; omega); rfl; rotate_left; all_goals clear hLoopQ)
      · intro j hj
        obtain ⟨B, hB, e1, e2, hd, g1, g2, g3, g4, ⟨t1, t2⟩, w1, w2, e3⟩ := fact j hj
        have wj := wrap_small ((j : Int) + 1) (by omega) (by omega)
        have hjl : (j : Int) < l.length := by omega
        have hn := hall j hj
        have hdec := hdd j hj B e1
        have c1 : j + 1 ≤ 140737488355328 := by omega
        have c2 : (j + 1) * 48 ≤ 140737488355328 := by omega
        have hlen := afterL_len x t l j
        have hlost : lostB (dippedV x (stA x t l j).2.1 l[j] x.baths[B].warm.hi) = false := by
          have h : lostAt x t l j = false := by simpa using hn
          unfold lostAt at h
          rw [e3] at h
          simp only [stepA, e2] at h
          exact h
        rw [afterL_succ]
        simp only [e3, stepA, rngOf, e2]
        generalize afterL x t l j = AL at *
        simp [kp65, rDsh_dec, rTap_enc, rTap_dec, rDip_enc, hdec, rBth_enc, rRng_enc, l8, l7, l6, l5, l4, l3, l2, l1, s61, s62, s68, s100, hj, hjl, hB, e1, hd, g1, g2, g3, g4, t1, t2, w1, w2, wj, c1, c2, hlen, hlost]
      · simp [kp65, rRng_k]
    · have hex : ∃ j, j < l.length ∧ lostAt x t l j = true := ⟨k, hk, by simpa using hbad⟩
      simp only [hex, if_true]
      (generalize hLoopQ : Cx.loop _ _ _ = rLoopQ; apply loop_then hLoopQ (fun k => ⟨[(2, .d (.sl 4 (l.map rDip.enc))), (3, .loc 3 0), (8, .loc 8 0), (9, .loc 9 0), (10, .loc 10 0), (11, .sl 6 ((afterL x t l k).map rRng.enc) (.tok 11)), (12, .d (DI k))], [(3, [.d (DI x.melt), .d (DI x.coat), .d (DI x.thin), .d (DI x.hold), .d (DI x.back), .d (DI x.draw), .d (DI x.set), .d (DI x.run), .d (.sl 3 (x.baths.map rBth.enc))]), (8, [.d (DI (stA x t l k).1.wick), .d (DI (stA x t l k).1.top), .d (DI (stA x t l k).1.foot)]), (9, [.d (DI (stA x t l k).2.1.wick), .d (DI (stA x t l k).2.1.top), .d (DI (stA x t l k).2.1.foot)]), (10, [.d (DI (stA x t l k).2.2.lo), .d (DI (stA x t l k).2.2.hi)])], [11], []⟩) k rfl; rotate_left; (show _ < 281474976710656; omega); rfl; rotate_left; all_goals clear hLoopQ)
      · intro j hj'
        have hj : j < l.length := by omega
        obtain ⟨B, hB, e1, e2, hd, g1, g2, g3, g4, ⟨t1, t2⟩, w1, w2, e3⟩ := fact j hj
        have wj := wrap_small ((j : Int) + 1) (by omega) (by omega)
        have hjl : (j : Int) < l.length := by omega
        have hn := hgood j hj'
        have hdec := hdd j hj B e1
        have c1 : j + 1 ≤ 140737488355328 := by omega
        have c2 : (j + 1) * 48 ≤ 140737488355328 := by omega
        have hlen := afterL_len x t l j
        have hlost : lostB (dippedV x (stA x t l j).2.1 l[j] x.baths[B].warm.hi) = false := by
          have h : lostAt x t l j = false := by simpa using hn
          unfold lostAt at h
          rw [e3] at h
          simp only [stepA, e2] at h
          exact h
        rw [afterL_succ]
        simp only [e3, stepA, rngOf, e2]
        generalize afterL x t l j = AL at *
        simp [kp65, rDsh_dec, rTap_enc, rTap_dec, rDip_enc, hdec, rBth_enc, rRng_enc, l8, l7, l6, l5, l4, l3, l2, l1, s61, s62, s68, s100, hj, hjl, hB, e1, hd, g1, g2, g3, g4, t1, t2, w1, w2, wj, c1, c2, hlen, hlost]
      · obtain ⟨B, hB, e1, e2, hd, g1, g2, g3, g4, ⟨t1, t2⟩, w1, w2, e3⟩ := fact k hk
        have hkl : (k : Int) < l.length := by omega
        have hdec := hdd k hk B e1
        have hlost : lostB (dippedV x (stA x t l k).2.1 l[k] x.baths[B].warm.hi) = true := by
          have h : lostAt x t l k = true := by simpa using hbad
          unfold lostAt at h
          rw [e3] at h
          simp only [stepA, e2] at h
          exact h
        simp [kp65, rDsh_dec, rTap_enc, rTap_dec, rDip_enc, hdec, rBth_enc, rRng_enc, l8, l7, l6, l5, l4, l3, l2, l1, s61, s62, s68, s100, hk, hkl, hB, e1, hd, g1, g2, g3, g4, t1, t2, hlost, rRng_k]
  · cases hr
theorem call65 (xs : Array Value) (w : World) : (callFunc 65 xs).run Tryz.prog w = .ok (.enter 65 xs) w := by kernel_rfl
end Go.Proofs.YtcgacojnfkklaaaGreatDoor
namespace Go.Proofs.YtcgacojnfkklaaaGreatDoor
open Go.RowKit
set_option linter.unusedSimpArgs false
set_option linter.unusedVariables false
def l9 : List (Nat × (List D → Option D)) := (65, s65) :: l8
theorem del9 : DelOk Tryz.prog (delOf l9) := del_cons del8 call65 ok65
def afterE (x : Dsh) (t : Tap) (l : List Dip) : List Rng × Int := if ¬ askedE x t l = 0 then ([], askedE x t l) else match afterR x t l with | none => ([], 9) | some r => (r, 0)
def begR (t : Tap) : Rng := ⟨⟨t.top, t.top⟩, ⟨t.foot, t.foot⟩, ⟨t.foot - t.top, t.foot - t.top⟩⟩
def lastV (x : Dsh) (t : Tap) (l : List Dip) : Rng := if ((afterR x t l).getD []).length = 0 then begR t else ((afterR x t l).getD []).getD (((afterR x t l).getD []).length - 1) default
theorem afterR_len (x : Dsh) (t : Tap) (l : List Dip) : ((afterR x t l).getD []).length ≤ l.length := by
  unfold afterR
  split
  · simp
  · simp [afterL_len]
def eqBy {α β : Type} [DecidableEq β] (f : α → β) (a b : List α) : Bool := decide (a.map f = b.map f)
theorem eqBy_len {α β : Type} [DecidableEq β] (f : α → β) {a b : List α} (h : ¬ a.length = b.length) : eqBy f a b = false := by
  unfold eqBy
  rw [decide_eq_false_iff_not]
  intro e
  have := congrArg List.length e
  simp at this
  exact h this
theorem eqBy_cases {α β : Type} [DecidableEq β] (f : α → β) {a b : List α} (h : a.length = b.length) : (eqBy f a b = true ∧ ∀ k (h1 : k < a.length) (h2 : k < b.length), f a[k] = f b[k]) ∨ (eqBy f a b = false ∧ ∃ k, ∃ h1 : k < a.length, ∃ h2 : k < b.length, ¬ f a[k] = f b[k] ∧ ∀ j (h3 : j < a.length) (h4 : j < b.length), j < k → f a[j] = f b[j]) := by
  rcases first_not (fun k => decide ((a.map f)[k]? = (b.map f)[k]?)) a.length with hall | ⟨k, hk, hbad, hgood⟩
  · refine .inl ⟨?_, fun k h1 h2 => ?_⟩
    · unfold eqBy
      rw [decide_eq_true_iff]
      apply List.ext_getElem?
      intro k
      by_cases hk : k < a.length
      · simpa using hall k hk
      · rw [List.getElem?_eq_none (by simp; omega), List.getElem?_eq_none (by simp; omega)]
    · have := hall k h1
      simpa [h1, h2] using this
  · have hk2 : k < b.length := by omega
    have hne : ¬ f a[k] = f b[k] := by simpa [hk, hk2] using hbad
    refine .inr ⟨?_, k, hk, hk2, hne, fun j h3 h4 hj => ?_⟩
    · unfold eqBy
      rw [decide_eq_false_iff_not]
      intro e
      rw [e] at hbad
      simp at hbad
    · have := hgood j hj
      simpa [h3, h4] using this
def rngC (r : Rng) : List Int := [r.top.lo, r.top.hi, r.foot.lo, r.foot.hi, r.skew.lo, r.skew.hi]
def dipC (d : Dip) : List Int := [d.bath, d.secs, d.pause, if d.turned = true then 1 else 0]
def s25 : List D → Option D := sp2 (cList rRng) (cList rRng) cBool fun a b => if a.length < 1000000 then some (eqBy rngC a b) else none
set_option maxHeartbeats 2000000 in
theorem ok25 : ∀ ds d, s25 ds = some d → PureC Tryz.prog 25 ds d := ok_sp2 fun a b r hr => by
  split at hr
  · rename_i hlm
    cases hr
    refine pure_of_call (mkCx_ok del9 26 kp25 []) Tryz.func25 rfl rfl (Nat.le_of_ble_eq_true rfl) (by kernel_rfl) ?_
    rw [Tryz.results25]
    by_cases h1 : a.length = b.length
    · have h1' : ((a.length : Int) != (b.length : Int)) = false := by simp [h1]
      simp [kp25, rRng_k, h1, h1']
      rcases eqBy_cases rngC h1 with ⟨e1, hall⟩ | ⟨e1, k, hk, hk2, hbad, hgood⟩
      · rw [e1]
        (generalize hLoopQ : Cx.loop _ _ _ = rLoopQ; apply loop_then hLoopQ (fun k => ⟨[(0, .d (.sl 6 (a.map rRng.enc))), (1, .d (.sl 6 (b.map rRng.enc))), (5, .d (DI k))], [], [], []⟩) a.length rfl; rotate_left; (show _ < 281474976710656; omega); rfl; rotate_left; all_goals clear hLoopQ)
        · intro j hj
          have w1 := wrap_small ((j : Int) + 1) (by omega) (by omega)
          have hjb : j < b.length := by omega
          have hjl : (j : Int) < a.length := by omega
          have hjl2 : (j : Int) < b.length := by omega
          have hn := hall j hj hjb
          have hn' : ([a[j].top.lo, a[j].top.hi, a[j].foot.lo, a[j].foot.hi, a[j].skew.lo, a[j].skew.hi] != [b[j].top.lo, b[j].top.hi, b[j].foot.lo, b[j].foot.hi, b[j].skew.lo, b[j].skew.hi]) = false := by
            have h : [a[j].top.lo, a[j].top.hi, a[j].foot.lo, a[j].foot.hi, a[j].skew.lo, a[j].skew.hi] = [b[j].top.lo, b[j].top.hi, b[j].foot.lo, b[j].foot.hi, b[j].skew.lo, b[j].skew.hi] := hn
            rw [h]; simp
          simp [kp25, rRng_enc, hj, hjb, hjl, hjl2, h1, w1, hn', -List.cons_beq_cons]
        · simp [kp25, h1]
      · rw [e1]
        (generalize hLoopQ : Cx.loop _ _ _ = rLoopQ; apply loop_then hLoopQ (fun k => ⟨[(0, .d (.sl 6 (a.map rRng.enc))), (1, .d (.sl 6 (b.map rRng.enc))), (5, .d (DI k))], [], [], []⟩) k rfl; rotate_left; (show _ < 281474976710656; omega); rfl; rotate_left; all_goals clear hLoopQ)
        · intro j hj'
          have hj : j < a.length := by omega
          have w1 := wrap_small ((j : Int) + 1) (by omega) (by omega)
          have hjb : j < b.length := by omega
          have hjl : (j : Int) < a.length := by omega
          have hjl2 : (j : Int) < b.length := by omega
          have hn := hgood j hj hjb hj'
          have hn' : ([a[j].top.lo, a[j].top.hi, a[j].foot.lo, a[j].foot.hi, a[j].skew.lo, a[j].skew.hi] != [b[j].top.lo, b[j].top.hi, b[j].foot.lo, b[j].foot.hi, b[j].skew.lo, b[j].skew.hi]) = false := by
            have h : [a[j].top.lo, a[j].top.hi, a[j].foot.lo, a[j].foot.hi, a[j].skew.lo, a[j].skew.hi] = [b[j].top.lo, b[j].top.hi, b[j].foot.lo, b[j].foot.hi, b[j].skew.lo, b[j].skew.hi] := hn
            rw [h]; simp
          simp [kp25, rRng_enc, hj, hjb, hjl, hjl2, h1, w1, hn', -List.cons_beq_cons]
        · have hkl : (k : Int) < a.length := by omega
          have hkl2 : (k : Int) < b.length := by omega
          have hn' : ([a[k].top.lo, a[k].top.hi, a[k].foot.lo, a[k].foot.hi, a[k].skew.lo, a[k].skew.hi] != [b[k].top.lo, b[k].top.hi, b[k].foot.lo, b[k].foot.hi, b[k].skew.lo, b[k].skew.hi]) = true := by
            have h : ¬ [a[k].top.lo, a[k].top.hi, a[k].foot.lo, a[k].foot.hi, a[k].skew.lo, a[k].skew.hi] = [b[k].top.lo, b[k].top.hi, b[k].foot.lo, b[k].foot.hi, b[k].skew.lo, b[k].skew.hi] := hbad
            rw [bne_iff_ne]; exact h
          simp [kp25, rRng_enc, hk, hk2, hkl, hkl2, h1, hn', -List.cons_beq_cons]
    · have h1' : ((a.length : Int) != (b.length : Int)) = true := by simp; omega
      rw [eqBy_len rngC h1]
      simp [kp25, rRng_k, h1, h1']
  · cases hr
theorem call25 (xs : Array Value) (w : World) : (callFunc 25 xs).run Tryz.prog w = .ok (.enter 25 xs) w := by kernel_rfl
def s35 : List D → Option D := sp2 (cList rDip) (cList rDip) cBool fun a b => if a.length < 1000000 then some (eqBy dipC a b) else none
set_option maxHeartbeats 2000000 in
theorem ok35 : ∀ ds d, s35 ds = some d → PureC Tryz.prog 35 ds d := ok_sp2 fun a b r hr => by
  split at hr
  · rename_i hlm
    cases hr
    refine pure_of_call (mkCx_ok del9 26 kp35 []) Tryz.func35 rfl rfl (Nat.le_of_ble_eq_true rfl) (by kernel_rfl) ?_
    rw [Tryz.results35]
    by_cases h1 : a.length = b.length
    · have h1' : ((a.length : Int) != (b.length : Int)) = false := by simp [h1]
      simp [kp35, rDip_k, h1, h1']
      rcases eqBy_cases dipC h1 with ⟨e1, hall⟩ | ⟨e1, k, hk, hk2, hbad, hgood⟩
      · rw [e1]
        (generalize hLoopQ : Cx.loop _ _ _ = rLoopQ; apply loop_then hLoopQ (fun k => ⟨[(0, .d (.sl 4 (a.map rDip.enc))), (1, .d (.sl 4 (b.map rDip.enc))), (5, .d (DI k))], [], [], []⟩) a.length rfl; rotate_left; (show _ < 281474976710656; omega); rfl; rotate_left; all_goals clear hLoopQ)
        · intro j hj
          have w1 := wrap_small ((j : Int) + 1) (by omega) (by omega)
          have hjb : j < b.length := by omega
          have hjl : (j : Int) < a.length := by omega
          have hjl2 : (j : Int) < b.length := by omega
          have hn := hall j hj hjb
          have hn' : ([a[j].bath, a[j].secs, a[j].pause, if a[j].turned = true then (1 : Int) else 0] != [b[j].bath, b[j].secs, b[j].pause, if b[j].turned = true then (1 : Int) else 0]) = false := by
            have h : [a[j].bath, a[j].secs, a[j].pause, if a[j].turned = true then (1 : Int) else 0] = [b[j].bath, b[j].secs, b[j].pause, if b[j].turned = true then (1 : Int) else 0] := hn
            rw [h]; simp
          simp [kp35, rDip_enc, hj, hjb, hjl, hjl2, h1, w1, hn', -List.cons_beq_cons]
        · simp [kp35, h1]
      · rw [e1]
        (generalize hLoopQ : Cx.loop _ _ _ = rLoopQ; apply loop_then hLoopQ (fun k => ⟨[(0, .d (.sl 4 (a.map rDip.enc))), (1, .d (.sl 4 (b.map rDip.enc))), (5, .d (DI k))], [], [], []⟩) k rfl; rotate_left; (show _ < 281474976710656; omega); rfl; rotate_left; all_goals clear hLoopQ)
        · intro j hj'
          have hj : j < a.length := by omega
          have w1 := wrap_small ((j : Int) + 1) (by omega) (by omega)
          have hjb : j < b.length := by omega
          have hjl : (j : Int) < a.length := by omega
          have hjl2 : (j : Int) < b.length := by omega
          have hn := hgood j hj hjb hj'
          have hn' : ([a[j].bath, a[j].secs, a[j].pause, if a[j].turned = true then (1 : Int) else 0] != [b[j].bath, b[j].secs, b[j].pause, if b[j].turned = true then (1 : Int) else 0]) = false := by
            have h : [a[j].bath, a[j].secs, a[j].pause, if a[j].turned = true then (1 : Int) else 0] = [b[j].bath, b[j].secs, b[j].pause, if b[j].turned = true then (1 : Int) else 0] := hn
            rw [h]; simp
          simp [kp35, rDip_enc, hj, hjb, hjl, hjl2, h1, w1, hn', -List.cons_beq_cons]
        · have hkl : (k : Int) < a.length := by omega
          have hkl2 : (k : Int) < b.length := by omega
          have hn' : ([a[k].bath, a[k].secs, a[k].pause, if a[k].turned = true then (1 : Int) else 0] != [b[k].bath, b[k].secs, b[k].pause, if b[k].turned = true then (1 : Int) else 0]) = true := by
            have h : ¬ [a[k].bath, a[k].secs, a[k].pause, if a[k].turned = true then (1 : Int) else 0] = [b[k].bath, b[k].secs, b[k].pause, if b[k].turned = true then (1 : Int) else 0] := hbad
            rw [bne_iff_ne]; exact h
          simp [kp35, rDip_enc, hk, hk2, hkl, hkl2, h1, hn', -List.cons_beq_cons]
    · have h1' : ((a.length : Int) != (b.length : Int)) = true := by simp; omega
      rw [eqBy_len dipC h1]
      simp [kp35, rDip_k, h1, h1']
  · cases hr
theorem call35 (xs : Array Value) (w : World) : (callFunc 35 xs).run Tryz.prog w = .ok (.enter 35 xs) w := by kernel_rfl
def s28 : List D → Option D := sp2 (cList rInt) (cList rInt) cBool fun a b => if a.length < 1000000 then some (eqBy (fun n : Int => n) a b) else none
set_option maxHeartbeats 2000000 in
theorem ok28 : ∀ ds d, s28 ds = some d → PureC Tryz.prog 28 ds d := ok_sp2 fun a b r hr => by
  split at hr
  · rename_i hlm
    cases hr
    refine pure_of_call (mkCx_ok del9 26 kp28 []) Tryz.func28 rfl rfl (Nat.le_of_ble_eq_true rfl) (by kernel_rfl) ?_
    rw [Tryz.results28]
    by_cases h1 : a.length = b.length
    · have h1' : ((a.length : Int) != (b.length : Int)) = false := by simp [h1]
      simp [kp28, rInt_k, h1, h1']
      rcases eqBy_cases (fun n : Int => n) h1 with ⟨e1, hall⟩ | ⟨e1, k, hk, hk2, hbad, hgood⟩
      · rw [e1]
        (generalize hLoopQ : Cx.loop _ _ _ = rLoopQ; apply loop_then hLoopQ (fun k => ⟨[(0, .d (.sl 1 (a.map rInt.enc))), (1, .d (.sl 1 (b.map rInt.enc))), (5, .d (DI k))], [], [], []⟩) a.length rfl; rotate_left; (show _ < 281474976710656; omega); rfl; rotate_left; all_goals clear hLoopQ)
        · intro j hj
          have w1 := wrap_small ((j : Int) + 1) (by omega) (by omega)
          have hjb : j < b.length := by omega
          have hjl : (j : Int) < a.length := by omega
          have hjl2 : (j : Int) < b.length := by omega
          have hn := hall j hj hjb
          have hn' : (a[j] != b[j]) = false := by
            have h : a[j] = b[j] := hn
            rw [h]; simp
          simp [kp28, rInt_enc, hj, hjb, hjl, hjl2, h1, w1, hn', -List.cons_beq_cons]
        · simp [kp28, h1]
      · rw [e1]
        (generalize hLoopQ : Cx.loop _ _ _ = rLoopQ; apply loop_then hLoopQ (fun k => ⟨[(0, .d (.sl 1 (a.map rInt.enc))), (1, .d (.sl 1 (b.map rInt.enc))), (5, .d (DI k))], [], [], []⟩) k rfl; rotate_left; (show _ < 281474976710656; omega); rfl; rotate_left; all_goals clear hLoopQ)
        · intro j hj'
          have hj : j < a.length := by omega
          have w1 := wrap_small ((j : Int) + 1) (by omega) (by omega)
          have hjb : j < b.length := by omega
          have hjl : (j : Int) < a.length := by omega
          have hjl2 : (j : Int) < b.length := by omega
          have hn := hgood j hj hjb hj'
          have hn' : (a[j] != b[j]) = false := by
            have h : a[j] = b[j] := hn
            rw [h]; simp
          simp [kp28, rInt_enc, hj, hjb, hjl, hjl2, h1, w1, hn', -List.cons_beq_cons]
        · have hkl : (k : Int) < a.length := by omega
          have hkl2 : (k : Int) < b.length := by omega
          have hn' : (a[k] != b[k]) = true := by
            rw [bne_iff_ne]; exact hbad
          simp [kp28, rInt_enc, hk, hk2, hkl, hkl2, h1, hn', -List.cons_beq_cons]
    · have h1' : ((a.length : Int) != (b.length : Int)) = true := by simp; omega
      rw [eqBy_len (fun n : Int => n) h1]
      simp [kp28, rInt_k, h1, h1']
  · cases hr
theorem call28 (xs : Array Value) (w : World) : (callFunc 28 xs).run Tryz.prog w = .ok (.enter 28 xs) w := by kernel_rfl
end Go.Proofs.YtcgacojnfkklaaaGreatDoor
