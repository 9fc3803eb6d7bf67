/-
  Reference functions of the wax chapter: Sold, Detect. Conditions: none.
-/
import Derived.Test.YtkldmnladkcfeaaGreatDoorZRefB
import Derived.Lib.ItoaNum
namespace Go.Proofs.YtkldmnladkcfeaaGreatDoor
open Go.RowKit
set_option linter.unusedSimpArgs false
set_option linter.unusedVariables false
def kp31 (r : Nat) : List (Nat × Option Nat) := match r with
  | 0 => [(1, none), (2, none), (3, none), (6, none)]
  | 1 => [(1, none), (2, none), (3, none), (6, none), (9, none)]
  | 2 => [(1, none), (2, none), (3, none), (6, none), (9, none), (28, none)]
  | 3 => [(1, none), (2, none), (3, none), (6, none), (9, none)]
  | 4 => [(1, none), (2, none), (3, none), (6, none), (9, none), (30, none)]
  | 5 => [(6, none), (7, none), (8, none)]
  | 6 => [(1, none), (2, none), (3, none), (6, none), (10, none)]
  | 7 => [(1, none), (2, none), (3, none), (6, none), (10, none), (11, none)]
  | 8 => [(1, none), (2, none), (3, none), (6, none), (10, none), (11, none), (38, none)]
  | 9 => [(1, none), (2, none), (3, none), (6, none), (10, none), (11, none)]
  | 10 => [(1, none), (2, none), (3, none), (6, none), (10, none), (11, none), (12, none)]
  | 11 => [(1, none), (2, none), (3, none), (6, none), (10, none), (11, none), (12, none), (45, none)]
  | 12 => [(1, none), (2, none), (3, none), (6, none), (10, none), (11, none), (12, none)]
  | 13 => [(1, none), (2, none), (3, none), (6, none), (10, none), (11, none), (12, none), (13, none), (14, none)]
  | 14 => [(1, none), (2, none), (3, none), (6, none), (10, none), (11, none), (12, none), (13, none), (57, none)]
  | 15 => [(1, none), (2, none), (3, none), (6, none), (10, none), (11, none), (12, none), (13, none), (70, none)]
  | 16 => [(1, none), (2, none), (3, none), (6, none), (10, none), (11, none), (12, none), (13, none)]
  | 17 => [(1, none), (2, none), (3, none), (6, none), (10, none), (11, none), (12, none), (13, none), (74, none)]
  | 18 => [(1, none), (2, none), (3, none), (6, none), (10, none), (11, none), (12, none), (13, none)]
  | 19 => [(1, none), (2, none), (3, none), (6, none), (10, none), (11, none), (12, none), (13, none), (84, none)]
  | 20 => [(1, none), (2, none), (3, none), (6, none), (10, none), (11, none), (12, none), (13, none)]
  | 21 => [(1, none), (2, none), (3, none), (6, none), (10, none), (11, none), (12, none)]
  | 22 => [(3, none), (6, none), (10, none), (99, none)]
  | 23 => [(6, none), (7, none), (8, none)]
  | 24 => [(3, none), (6, none), (10, none), (105, none)]
  | 25 => [(6, none), (7, none), (8, none)]
  | 26 => [(6, none), (10, none), (111, none)]
  | 27 => [(6, none), (7, none), (8, none)]
  | 28 => [(6, none), (7, none), (8, none)]
  | _ => []
def kp65 (r : Nat) : List (Nat × Option Nat) := match r with
  | 0 => [(1, none), (2, none), (3, none), (4, none)]
  | 1 => [(1, none), (2, none), (3, none), (4, none), (9, none)]
  | 2 => [(1, none), (2, none), (3, none), (4, none), (9, none), (17, none)]
  | 3 => [(1, none), (2, none), (3, none), (4, none), (9, none)]
  | 4 => [(1, none), (2, none), (3, none), (4, none), (9, none), (10, none), (11, none), (12, none)]
  | 5 => [(1, none), (2, none), (3, none), (4, none), (9, none), (64, none)]
  | 6 => [(8, none)]
  | 7 => [(8, none)]
  | _ => []
def kp24 (r : Nat) : List (Nat × Option Nat) := match r with
  | 0 => [(1, none), (2, none), (3, none)]
  | 1 => [(1, none), (2, none), (3, none), (10, none)]
  | 2 => [(1, none), (2, none), (3, none), (10, none), (11, none)]
  | 3 => [(1, none), (2, none), (3, none), (10, none), (36, none)]
  | 4 => [(1, none), (2, none), (3, none), (10, none)]
  | 5 => [(1, none), (2, none), (3, none), (10, none), (43, none)]
  | 6 => [(1, none), (2, none), (3, none), (10, none)]
  | 7 => [(1, none), (2, none), (3, none), (10, none), (45, none)]
  | 8 => [(6, none), (7, none)]
  | 9 => [(1, none), (2, none), (3, none), (12, none)]
  | 10 => [(1, none), (2, none), (3, none), (12, none), (48, none)]
  | 11 => [(1, none), (2, none), (3, none), (12, none)]
  | 12 => [(1, none), (2, none), (3, none), (12, none), (55, none)]
  | 13 => [(6, none), (7, none)]
  | 14 => [(6, none), (7, none)]
  | _ => []
theorem partK_spec (q : Int → Bool) (lo : Int) : ∀ k, ((partK q lo k).2 = false ∧ ∀ j : Nat, j < k → q (lo + j) = false) ∨ ∃ i j : Nat, i ≤ j ∧ j < k ∧ partK q lo k = (⟨lo + i, lo + j⟩, true) ∧ q (lo + i) = true ∧ q (lo + j) = true ∧ (∀ n : Nat, n < i → q (lo + n) = false) ∧ ∀ n : Nat, j < n → n < k → q (lo + n) = false
  | 0 => .inl ⟨rfl, fun j h => absurd h (by omega)⟩
  | k + 1 => by
    cases hq : q (lo + k) with
    | false =>
      have e : partK q lo (k + 1) = partK q lo k := by rw [partK, hq]; rfl
      rw [e]
      rcases partK_spec q lo k with ⟨h1, h2⟩ | ⟨i, j, h1, h2, h3, h4, h5, h6, h7⟩
      · refine .inl ⟨h1, fun j hj => ?_⟩
        by_cases hjk : j = k
        · subst hjk; exact hq
        · exact h2 j (by omega)
      · refine .inr ⟨i, j, h1, by omega, h3, h4, h5, h6, fun n hn1 hn2 => ?_⟩
        by_cases hnk : n = k
        · subst hnk; exact hq
        · exact h7 n hn1 (by omega)
    | true =>
      have e : partK q lo (k + 1) = (⟨if (partK q lo k).2 then (partK q lo k).1.lo else lo + k, lo + k⟩, true) := by rw [partK, hq]; rfl
      rcases partK_spec q lo k with ⟨h1, h2⟩ | ⟨i, j, h1, h2, h3, h4, h5, h6, h7⟩
      · refine .inr ⟨k, k, Nat.le_refl _, by omega, by rw [e, h1]; rfl, hq, hq, fun n hn => h2 n hn, fun n h1 h2 => by omega⟩
      · refine .inr ⟨i, k, by omega, by omega, by rw [e, h3]; rfl, h4, hq, h6, fun n h1 h2 => by omega⟩
theorem parts_spec (x : Tbl) (l : List Int) (a b : Nat) (lo hi : Int) : ((partsR x l a b lo hi).2 = false ∧ ∀ n : Int, lo ≤ n → n ≤ hi → explB x l a b n = false) ∨ ∃ u v : Int, lo ≤ u ∧ u ≤ v ∧ v ≤ hi ∧ partsR x l a b lo hi = (⟨u, v⟩, true) ∧ explB x l a b u = true ∧ explB x l a b v = true ∧ (∀ n : Int, lo ≤ n → n < u → explB x l a b n = false) ∧ ∀ n : Int, v < n → n ≤ hi → explB x l a b n = false := by
  unfold partsR
  rcases partK_spec (explB x l a b) lo (hi + 1 - lo).toNat with ⟨h1, h2⟩ | ⟨i, j, h1, h2, h3, h4, h5, h6, h7⟩
  · refine .inl ⟨h1, fun n hn1 hn2 => ?_⟩
    have := h2 (n - lo).toNat (by omega)
    rwa [show lo + ((n - lo).toNat : Int) = n by omega] at this
  · refine .inr ⟨lo + i, lo + j, by omega, by omega, by omega, h3, h4, h5, fun n hn1 hn2 => ?_, fun n hn1 hn2 => ?_⟩
    · have := h6 (n - lo).toNat (by omega)
      rwa [show lo + ((n - lo).toNat : Int) = n by omega] at this
    · have := h7 (n - lo).toNat (by omega) (by omega)
      rwa [show lo + ((n - lo).toNat : Int) = n by omega] at this
def adjV (kind : Int) (a b : Nat) (s : Spn) : Spn :=
  if ¬ (a : Int) = kind ∧ (¬ (b : Int) = kind ∨ a = b) then ⟨0, 0⟩ else if ¬ (a : Int) = kind then ⟨1000 - s.hi, 1000 - s.lo⟩ else if (b : Int) = kind then ⟨1000, 1000⟩ else s
def hullV (o s : Spn) : Spn := ⟨if s.lo < o.lo then s.lo else o.lo, if o.hi < s.hi then s.hi else o.hi⟩
def soldB (x : Tbl) (l : List Int) (kind : Int) (a : Nat) (o : Spn) : Nat → Spn
  | 0 => o
  | b + 1 => if (partsR x l a b 1 1000).2 = true then hullV (soldB x l kind a o b) (adjV kind a b (partsR x l a b 1 1000).1) else soldB x l kind a o b
def soldA (x : Tbl) (l : List Int) (kind : Int) : Nat → Spn
  | 0 => ⟨1001, -1⟩
  | a + 1 => soldB x l kind a (soldA x l kind a) x.kinds.length
@[simp] theorem soldB_zero (x : Tbl) (l : List Int) (kind : Int) (a : Nat) (o : Spn) : soldB x l kind a o 0 = o := rfl
@[simp] theorem soldA_zero (x : Tbl) (l : List Int) (kind : Int) : soldA x l kind 0 = ⟨1001, -1⟩ := rfl
def verdV (x : Tbl) (o : Spn) : Spn × Int × Int := if o.hi < 0 then (⟨0, 0⟩, 0, 9) else if x.purity ≤ o.lo then (o, 1, 0) else if o.hi < x.purity then (o, 0, 0) else (o, 2, 0)
def oneE (x : Tbl) (e kind : Int) : Int := if ¬ e = 0 then e else if inR kind 0 ((x.kinds.length : Int) - 1) = false then 4 else 0
def soldR (x : Tbl) (l : List Int) (kind : Int) : Spn × Int × Int :=
  if ¬ oneE x (readE x l) kind = 0 then (⟨0, 0⟩, 0, oneE x (readE x l) kind) else verdV x (soldA x l kind x.kinds.length)
def g31 : List (Nat × (List D → Option D)) := (44, s44) :: (46, s46) :: l1
theorem dg31 : DelOk Tryz.prog (delOf g31) := del_cons (del_cons del1 call46 ok46) call44 ok44
def s31 : List D → Option D := sp3 (cAgg rTbl) (cList rInt) cInt (cTup3 (cAgg rSpn) cInt cInt) fun x l kind => some (soldR x l kind)
set_option maxHeartbeats 8000000 in
theorem ok31 : ∀ ds d, s31 ds = some d → PureC Tryz.prog 31 ds d := ok_sp3 fun x l kind r hr => by
  cases hr
  refine pure_of_call (mkCx_ok dg31 114 kp31 []) Tryz.func31 rfl rfl (Nat.le_of_ble_eq_true rfl) (by kernel_rfl) ?_
  rw [Tryz.results31]
  unfold soldR oneE
  by_cases h1 : readE x l = 0
  · have hR : okR x l := h1
    have f := fine_of (okR_of hR).1
    have hk8 := f.k8
    have w0 := wrap_small ((x.kinds.length : Int) - 1) (by omega) (by omega)
    have hB : bdsOk 1 1000 := by decide
    cases h2 : inR kind 0 ((x.kinds.length : Int) - 1)
    · simp [kp31, rTbl_enc, rTbl_dec, rKnd_k, rInt_k, rSpn_enc, g31, l1, s44, s58, h1, w0, h2]
    · rw [if_neg (by simp [h1])]
      obtain ⟨K, rfl⟩ : ∃ K : Nat, kind = K := ⟨kind.toNat, by have := inR_iff.1 h2; omega⟩
      simp [kp31, rTbl_enc, rTbl_dec, rKnd_k, rInt_k, rSpn_enc, g31, l1, s44, s58, h1, w0, h2]
      (generalize hLoopQ : Cx.loop _ _ _ = rLoopQ; apply loop_then hLoopQ (fun k => ⟨[(1, .d (.sl 1 (l.map rInt.enc))), (2, .d (DI K)), (3, .loc 3 0), (6, .loc 6 0), (10, .loc 10 0), (11, .d (DI k))], [(3, [.d (.sl 2 (x.props.map rPrp.enc)), .d (.sl 2 (x.kinds.map rKnd.enc)), .d (DI x.purity)]), (6, [.d (DI 0), .d (DI 0)]), (10, [.d (DI (soldA x l K k).lo), .d (DI (soldA x l K k).hi)])], [], []⟩) x.kinds.length (by first | (simp; done) | (simp; rfl) | (simp; simp [*])); rotate_left; (show _ < 281474976710656; omega); rfl; rotate_left; all_goals clear hLoopQ)
      · intro a ha
        have w1 := wrap_small ((a : Int) + 1) (by omega) (by omega)
        have hal : (a : Int) < x.kinds.length := by omega
        have hka : kdOk x (a : Int) := ⟨by omega, hal⟩
        simp only [soldA]
        generalize soldA x l K a = o at *
        simp [kp31, hal]
        (generalize hLoopQ : Cx.loop _ _ _ = rLoopQ; apply loop_then hLoopQ (fun b => ⟨[(1, .d (.sl 1 (l.map rInt.enc))), (2, .d (DI K)), (3, .loc 3 0), (6, .loc 6 0), (10, .loc 10 0), (11, .d (DI a)), (12, .d (DI b))], [(3, [.d (.sl 2 (x.props.map rPrp.enc)), .d (.sl 2 (x.kinds.map rKnd.enc)), .d (DI x.purity)]), (6, [.d (DI 0), .d (DI 0)]), (10, [.d (DI (soldB x l K a o b).lo), .d (DI (soldB x l K a o b).hi)])], [], []⟩) x.kinds.length (by first | (simp; done) | (simp; rfl) | (simp; simp [*])); rotate_left; (show _ < 281474976710656; omega); rfl; rotate_left; all_goals clear hLoopQ)
        · intro b hb
          have wb := wrap_small ((b : Int) + 1) (by omega) (by omega)
          have hbl : (b : Int) < x.kinds.length := by omega
          have hkb : kdOk x (b : Int) := ⟨by omega, hbl⟩
          simp only [soldB]
          generalize soldB x l K a o b = o2 at *
          rcases parts_spec x l a b 1 1000 with ⟨p1, _⟩ | ⟨u, v, p1, p2, p3, p4, _⟩
          · simp [kp31, g31, l1, s46, rTbl_dec, rSpn_enc, hbl, hR, hka, hkb, hB, p1, wb]
          · have wu := wrap_small (1000 - u) (by omega) (by omega)
            have wv := wrap_small (1000 - v) (by omega) (by omega)
            rw [p4]
            unfold adjV hullV
            by_cases e1 : a = K
            · subst e1
              by_cases e2 : b = a
              · subst e2
                simp [kp31, g31, l1, s46, rTbl_dec, rSpn_enc, hbl, hR, hka, hkb, hB, p4, wb]
              · have f2 : ((b : Int) == (a : Int)) = false := beq_eq_false_iff_ne.2 (by omega)
                have f3 : ¬ (b : Int) = (a : Int) := by omega
                simp [kp31, g31, l1, s46, rTbl_dec, rSpn_enc, hbl, hR, hka, hkb, hB, p4, wb, e2, f2, f3]
            · have f1 : ((a : Int) != (K : Int)) = true := bne_iff_ne.2 (by omega)
              have f0 : ¬ (a : Int) = (K : Int) := by omega
              by_cases e2 : b = K
              · subst e2
                have f3 : ((a : Int) == (b : Int)) = false := beq_eq_false_iff_ne.2 (by omega)
                simp [kp31, g31, l1, s46, rTbl_dec, rSpn_enc, hbl, hR, hka, hkb, hB, p4, wb, e1, f0, f1, f3, wu, wv]
              · have f2 : ((b : Int) != (K : Int)) = true := bne_iff_ne.2 (by omega)
                have f3 : ¬ (b : Int) = (K : Int) := by omega
                simp [kp31, g31, l1, s46, rTbl_dec, rSpn_enc, hbl, hR, hka, hkb, hB, p4, wb, e1, e2, f0, f1, f2, f3]
        · simp [kp31, w1]
      · generalize soldA x l K x.kinds.length = o at *
        unfold verdV
        by_cases q1 : o.hi < 0
        · simp [kp31, rSpn_enc, q1]
        · by_cases q2 : x.purity ≤ o.lo
          · simp [kp31, rSpn_enc, q1, q2]
          · by_cases q3 : o.hi < x.purity
            · simp [kp31, rSpn_enc, q1, q2, q3]
            · simp [kp31, rSpn_enc, q1, q2, q3]
  · have h2 : (readE x l != 0) = true := by simpa using h1
    have h3 : (readE x l == 0) = false := by simpa using h1
    simp [kp31, rTbl_enc, rTbl_dec, rKnd_k, rSpn_enc, g31, l1, s44, s58, h1, h2, h3]
theorem call31 (xs : Array Value) (w : World) : (callFunc 31 xs).run Tryz.prog w = .ok (.enter 31 xs) w := by kernel_rfl
def toldAt (x : Tbl) (pu ot : Nat) (n : Int) (p : Nat) : Bool :=
  decide (1000 * ((rngV x pu p).hi + errV x p) < (valV x p ot pu n).lo - 1000 * errV x p) || decide ((valV x p ot pu n).hi + 1000 * errV x p < 1000 * ((rngV x pu p).lo - errV x p))
def toldB (x : Tbl) (pu ot : Nat) (n : Int) : Bool := (List.range x.props.length).any fun p => toldAt x pu ot n p
def df65 (r : Nat) : List (Nat × Nat) := if r = 4 then [(7, 23), (11, 23), (14, 23), (16, 23), (20, 23), (16, 24), (20, 24)] else []
def s65 : List D → Option D := sp4 (cAgg rTbl) cInt cInt cInt cBool fun x a b n => if okT x ∧ kdOk x a ∧ kdOk x b ∧ ptOk n then some (toldB x a.toNat b.toNat n) else none
set_option maxHeartbeats 4000000 in
theorem ok65 : ∀ ds d, s65 ds = some d → PureC Tryz.prog 65 ds d := ok_sp4 fun x a b n r hr => by
  split at hr
  · rename_i hc
    cases hr
    obtain ⟨hT, ⟨a0, a1⟩, ⟨b0, b1⟩, hn⟩ := hc
    obtain ⟨A, rfl⟩ : ∃ A : Nat, a = A := ⟨a.toNat, by omega⟩
    obtain ⟨B, rfl⟩ : ∃ B : Nat, b = B := ⟨b.toNat, by omega⟩
    simp only [Int.toNat_natCast]
    have f := fine_of hT
    have ha : A < x.kinds.length := by omega
    have hb : B < x.kinds.length := by omega
    have k1 : kdOk x A := ⟨a0, a1⟩
    have k2 : kdOk x B := ⟨b0, b1⟩
    have hp5 := f.p5
    have round : ∀ j, j < x.props.length → ∃ (hpa : j < x.kinds[A].props.length), x.kinds[A].props[j] = rngV x A j ∧ (j : Int) < x.kinds[A].props.length ∧ (j : Int) < x.props.length ∧ ppOk x j ∧ (∀ h : j < x.props.length, x.props[j].err = errV x j) ∧ IntKind.i64.wrap (1000 * errV x j) = 1000 * errV x j ∧ IntKind.i64.wrap ((valV x j B A n).lo - 1000 * errV x j) = (valV x j B A n).lo - 1000 * errV x j ∧ IntKind.i64.wrap ((rngV x A j).hi + errV x j) = (rngV x A j).hi + errV x j ∧ IntKind.i64.wrap (1000 * ((rngV x A j).hi + errV x j)) = 1000 * ((rngV x A j).hi + errV x j) ∧
        IntKind.i64.wrap ((valV x j B A n).hi + 1000 * errV x j) = (valV x j B A n).hi + 1000 * errV x j ∧ IntKind.i64.wrap ((rngV x A j).lo - errV x j) = (rngV x A j).lo - errV x j ∧ IntKind.i64.wrap (1000 * ((rngV x A j).lo - errV x j)) = 1000 * ((rngV x A j).lo - errV x j) := by
      intro j hj
      obtain ⟨hpa, ea, r1, r2, r3⟩ := f.rng ha hj
      obtain ⟨q1, q2, q3, q4⟩ := val_bd f hj hb ha hn
      have e1 : x.props[j].err = errV x j := by unfold errV; rw [getD_at _ _ _ hj]
      have e2 := f.err j hj
      rw [e1] at e2
      have v1 : (valV x j B A n).lo = n * (rngV x B j).lo + (1000 - n) * (rngV x A j).lo := rfl
      have v2 : (valV x j B A n).hi = n * (rngV x B j).hi + (1000 - n) * (rngV x A j).hi := rfl
      refine ⟨hpa, ea, by omega, by omega, ⟨by omega, by omega⟩, fun _ => e1, ?_, ?_, ?_, ?_, ?_, ?_, ?_⟩ <;> exact wrap_small _ (by omega) (by omega)
    refine pure_of_call (mkCxE_ok dg41 eff_nil keys_nil (sq := []) (fun _ _ _ h => by cases h) 65 kp65 [] df65 (fun _ => 0)) Tryz.func65 rfl rfl (Nat.le_of_ble_eq_true rfl) (by kernel_rfl) ?_
    rw [Tryz.results65]
    rcases first_not (fun p => !toldAt x A B n p) x.props.length with hall | ⟨k, hk, hbad, hgood⟩
    · have hr : toldB x A B n = false := by
        unfold toldB
        rw [List.any_eq_false]
        intro p hp
        have := hall p (List.mem_range.1 hp)
        simpa using this
      rw [hr]
      simp [kp65, df65, rTbl_enc, rPrp_k]
      (generalize hLoopQ : Cx.loop _ _ _ = rLoopQ; apply loop_then hLoopQ (fun k => ⟨[(1, .d (DI A)), (2, .d (DI B)), (3, .d (DI n)), (4, .loc 4 0), (9, .d (DI k))], [(4, [.d (.sl 2 (x.props.map rPrp.enc)), .d (.sl 2 (x.kinds.map rKnd.enc)), .d (DI x.purity)])], [], []⟩) x.props.length rfl; rotate_left; (show _ < 281474976710656; omega); rfl; rotate_left; all_goals clear hLoopQ)
      · intro j hj
        obtain ⟨hpa, ea, hpaI, hjl, hpp, he, w2, w3, w4, w5, w6, w7, w8⟩ := round j hj
        have he := he hj
        have w1 := wrap_small ((j : Int) + 1) (by omega) (by omega)
        have hx := hall j hj
        unfold toldAt at hx
        simp only [Bool.not_eq_true', Bool.or_eq_false_iff, decide_eq_false_iff_not] at hx
        simp [kp65, df65, g41, s47, rTbl_dec, rPrp_enc, rKnd_enc, rKnd_k, rSpn_enc, rSpn_k, hT, hpp, k1, k2, hn, hj, hjl, ha, a1, hpa, ea, hpaI, he, hx.1, hx.2, w1, w2, w3, w4, w5, w6, w7, w8]
      · simp [kp65, rPrp_k]
    · have hbad : toldAt x A B n k = true := by simpa using hbad
      have hr : toldB x A B n = true := by
        unfold toldB
        rw [List.any_eq_true]
        exact ⟨k, List.mem_range.2 hk, hbad⟩
      rw [hr]
      simp [kp65, df65, rTbl_enc, rPrp_k]
      (generalize hLoopQ : Cx.loop _ _ _ = rLoopQ; apply loop_then hLoopQ (fun k => ⟨[(1, .d (DI A)), (2, .d (DI B)), (3, .d (DI n)), (4, .loc 4 0), (9, .d (DI k))], [(4, [.d (.sl 2 (x.props.map rPrp.enc)), .d (.sl 2 (x.kinds.map rKnd.enc)), .d (DI x.purity)])], [], []⟩) k rfl; rotate_left; (show _ < 281474976710656; omega); rfl; rotate_left; all_goals clear hLoopQ)
      · intro j hj0
        have hj : j < x.props.length := by omega
        obtain ⟨hpa, ea, hpaI, hjl, hpp, he, w2, w3, w4, w5, w6, w7, w8⟩ := round j hj
        have he := he hj
        have w1 := wrap_small ((j : Int) + 1) (by omega) (by omega)
        have hx := hgood j hj0
        unfold toldAt at hx
        simp only [Bool.not_eq_true', Bool.or_eq_false_iff, decide_eq_false_iff_not] at hx
        simp [kp65, df65, g41, s47, rTbl_dec, rPrp_enc, rKnd_enc, rKnd_k, rSpn_enc, rSpn_k, hT, hpp, k1, k2, hn, hj, hjl, ha, a1, hpa, ea, hpaI, he, hx.1, hx.2, w1, w2, w3, w4, w5, w6, w7, w8]
      · obtain ⟨hpa, ea, hpaI, hjl, hpp, he, w2, w3, w4, w5, w6, w7, w8⟩ := round k hk
        have he := he hk
        unfold toldAt at hbad
        simp only [Bool.or_eq_true, decide_eq_true_eq] at hbad
        by_cases hc1 : 1000 * ((rngV x A k).hi + errV x k) < (valV x k B A n).lo - 1000 * errV x k
        · simp [kp65, df65, g41, s47, rTbl_dec, rPrp_enc, rPrp_k, rKnd_enc, rKnd_k, rSpn_enc, rSpn_k, hT, hpp, k1, k2, hn, hk, hjl, ha, a1, hpa, ea, hpaI, he, hc1, w2, w3, w4, w5, w6, w7, w8]
        · have hc2 := hbad.resolve_left hc1
          simp [kp65, df65, g41, s47, rTbl_dec, rPrp_enc, rPrp_k, rKnd_enc, rKnd_k, rSpn_enc, rSpn_k, hT, hpp, k1, k2, hn, hk, hjl, ha, a1, hpa, ea, hpaI, he, hc1, hc2, w2, w3, w4, w5, w6, w7, w8]
  · cases hr
theorem call65 (xs : Array Value) (w : World) : (callFunc 65 xs).run Tryz.prog w = .ok (.enter 65 xs) w := by kernel_rfl
def firstN (q : Int → Bool) : Nat → Option Int
  | 0 => none
  | k + 1 => match firstN q k with
    | some n => some n
    | none => if q ((k : Int) + 1) = true then some ((k : Int) + 1) else none
theorem firstN_spec (q : Int → Bool) : ∀ k, (firstN q k = none ∧ ∀ j : Nat, j < k → q ((j : Int) + 1) = false) ∨ ∃ i : Nat, i < k ∧ firstN q k = some ((i : Int) + 1) ∧ q ((i : Int) + 1) = true ∧ ∀ j : Nat, j < i → q ((j : Int) + 1) = false
  | 0 => .inl ⟨rfl, fun j h => by omega⟩
  | k + 1 => by
    rcases firstN_spec q k with ⟨h1, h2⟩ | ⟨i, h1, h2, h3, h4⟩
    · cases hq : q ((k : Int) + 1) with
      | false => exact .inl ⟨by unfold firstN; rw [h1, hq]; rfl, fun j hj => by
          by_cases e : j = k
          · subst e; exact hq
          · exact h2 j (by omega)⟩
      | true => exact .inr ⟨k, by omega, by unfold firstN; rw [h1, hq]; rfl, hq, h2⟩
    · exact .inr ⟨i, by omega, by unfold firstN; rw [h2], h3, h4⟩
def detR (x : Tbl) (a b : Int) : Int × Int :=
  if ¬ twoE x (chk x).2.2 a b = 0 then (0, twoE x (chk x).2.2 a b) else match firstN (toldB x a.toNat b.toNat) 1000 with
  | some n => (n, 0)
  | none => (0, 9)
def g24 : List (Nat × (List D → Option D)) := (17, s17) :: (65, s65) :: l1
theorem dg24 : DelOk Tryz.prog (delOf g24) := del_cons (del_cons del1 call65 ok65) call17 ok17
def s24 : List D → Option D := sp3 (cAgg rTbl) cInt cInt (cTup2 cInt cInt) fun x a b => some (detR x a b)
set_option maxHeartbeats 4000000 in
theorem ok24 : ∀ ds d, s24 ds = some d → PureC Tryz.prog 24 ds d := ok_sp3 fun x a b r hr => by
  cases hr
  refine pure_of_call (mkCx_ok dg24 57 kp24 []) Tryz.func24 rfl rfl (Nat.le_of_ble_eq_true rfl) (by kernel_rfl) ?_
  rw [Tryz.results24]
  unfold detR twoE
  by_cases h1 : (chk x).2.2 = 0
  · have hT : okT x := h1
    have f := fine_of hT
    have hk8 := f.k8
    have w0 := wrap_small ((x.kinds.length : Int) - 1) (by omega) (by omega)
    cases h2 : inR a 0 ((x.kinds.length : Int) - 1)
    · simp [kp24, rTbl_enc, rTbl_dec, rKnd_k, g24, l1, s17, s58, h1, w0, h2]
    · cases h3 : inR b 0 ((x.kinds.length : Int) - 1)
      · simp [kp24, rTbl_enc, rTbl_dec, rKnd_k, g24, l1, s17, s58, h1, w0, h2, h3]
      · by_cases h4 : a = b
        · subst h4
          simp [kp24, rTbl_enc, rTbl_dec, rKnd_k, g24, l1, s17, s58, h1, w0, h2, h3]
        · have h4' : (a == b) = false := by simpa using h4
          have k1 := kd_in h2
          have k2 := kd_in h3
          rw [if_neg (by simp [h1, h4])]
          simp [kp24, rTbl_enc, rTbl_dec, rKnd_k, g24, l1, s17, s58, h1, w0, h2, h3, h4']
          rcases firstN_spec (toldB x a.toNat b.toNat) 1000 with ⟨e1, e2⟩ | ⟨i, e1, e2, e3, e4⟩
          · rw [e1]
            (generalize hLoopQ : Cx.loop _ _ _ = rLoopQ; apply loop_then hLoopQ (fun k => ⟨[(1, .d (DI a)), (2, .d (DI b)), (3, .loc 3 0), (12, .d (DI ((k : Int) + 1)))], [(3, [.d (.sl 2 (x.props.map rPrp.enc)), .d (.sl 2 (x.kinds.map rKnd.enc)), .d (DI x.purity)])], [], []⟩) 1000 (by first | (simp; done) | (simp; rfl) | (simp; simp [*])); rotate_left; (show _ < 281474976710656; omega); rfl; rotate_left; all_goals clear hLoopQ)
            · intro j hj
              have w1 := wrap_small ((j : Int) + 1 + 1) (by omega) (by omega)
              have hj1 : (j : Int) + 1 ≤ 1000 := by omega
              have hpt : ptOk ((j : Int) + 1) := ⟨by omega, by omega⟩
              have hx := e2 j hj
              simp [kp24, g24, l1, s65, rTbl_dec, hT, k1, k2, hpt, hj1, hx, w1]
            · simp [kp24]
          · rw [e2]
            (generalize hLoopQ : Cx.loop _ _ _ = rLoopQ; apply loop_then hLoopQ (fun k => ⟨[(1, .d (DI a)), (2, .d (DI b)), (3, .loc 3 0), (12, .d (DI ((k : Int) + 1)))], [(3, [.d (.sl 2 (x.props.map rPrp.enc)), .d (.sl 2 (x.kinds.map rKnd.enc)), .d (DI x.purity)])], [], []⟩) i (by first | (simp; done) | (simp; rfl) | (simp; simp [*])); rotate_left; (show _ < 281474976710656; omega); rfl; rotate_left; all_goals clear hLoopQ)
            · intro j hj
              have w1 := wrap_small ((j : Int) + 1 + 1) (by omega) (by omega)
              have hj1 : (j : Int) + 1 ≤ 1000 := by omega
              have hpt : ptOk ((j : Int) + 1) := ⟨by omega, by omega⟩
              have hx := e4 j hj
              simp [kp24, g24, l1, s65, rTbl_dec, hT, k1, k2, hpt, hj1, hx, w1]
            · have hj1 : (i : Int) + 1 ≤ 1000 := by omega
              have hpt : ptOk ((i : Int) + 1) := ⟨by omega, by omega⟩
              simp [kp24, g24, l1, s65, rTbl_dec, hT, k1, k2, hpt, hj1, e3]
  · have h2 : ((chk x).2.2 != 0) = true := by simpa using h1
    have h3 : ((chk x).2.2 == 0) = false := by simpa using h1
    simp [kp24, rTbl_enc, rTbl_dec, rKnd_k, g24, l1, s17, s58, h1, h2, h3]
theorem call24 (xs : Array Value) (w : World) : (callFunc 24 xs).run Tryz.prog w = .ok (.enter 24 xs) w := by kernel_rfl
end Go.Proofs.YtkldmnladkcfeaaGreatDoor
namespace Go.Proofs.YtkldmnladkcfeaaGreatDoor
open Go.RowKit
set_option linter.unusedSimpArgs false
set_option linter.unusedVariables false
def digV (n : Nat) : ByteArray := ⟨(Lib.decDigits n).toArray⟩
theorem digV_small {n : Nat} (h : n < 10) : digV n = strOfNums [48 + (n : Int)] := by
  unfold digV
  rw [Lib.decDigits, dif_pos h]
  rfl
theorem digV_step {n : Nat} (h : 10 ≤ n) : digV n = digV (n / 10) ++ strOfNums [48 + ((n % 10 : Nat) : Int)] := by
  unfold digV
  rw [Lib.decDigits, dif_neg (by omega)]
  apply ByteArray.ext
  apply Array.toList_inj.1
  rw [ByteArray.data_append, Array.toList_append]
  rfl
theorem nDigits_le : ∀ (k u : Nat), 1 ≤ k → u < 10 ^ k → Lib.nDigits u ≤ k
  | 0, u, h, _ => by omega
  | k + 1, u, _, h => by
    rw [Lib.nDigits]
    split
    · omega
    · rename_i h10
      have hk : 1 ≤ k := by
        cases k with
        | zero => simp at h; omega
        | succ k => omega
      have := nDigits_le k (u / 10) hk (by rw [Nat.pow_succ] at h; omega)
      omega
theorem digV_size {n k : Nat} (hk : 1 ≤ k) (h : n < 10 ^ k) : (digV n).size ≤ k := by
  have := nDigits_le k n hk h
  unfold digV
  simp only [ByteArray.size, List.size_toArray, Lib.decDigits_length]
  exact this
def natLt (n : Int) (k : Nat) : Prop := 0 ≤ n ∧ n.toNat < 10 ^ k
instance (n : Int) (k : Nat) : Decidable (natLt n k) := inferInstanceAs (Decidable (_ ∧ _))
def kp94 (r : Nat) : List (Nat × Option Nat) := match r with
  | 0 => [(0, none)]
  | 1 => [(0, none), (3, none)]
  | 2 => [(0, none), (3, none), (11, none)]
  | 3 => [(3, none)]
  | 4 => [(2, none)]
  | _ => []
def s94 (k : Nat) : List D → Option D := sp1 cInt cStr fun n => if natLt n k then some (digV n.toNat) else none
theorem call94 (xs : Array Value) (w : World) : (callFunc 94 xs).run Tryz.prog w = .ok (.enter 94 xs) w := by kernel_rfl
theorem ok94_s (k : Nat) (hk : k ≤ 5) (ih : ∀ ds d, s94 k ds = some d → PureC Tryz.prog 94 ds d) : ∀ ds d, s94 (k + 1) ds = some d → PureC Tryz.prog 94 ds d := ok_sp1 fun n r hr => by
  split at hr
  · rename_i hc
    cases hr
    obtain ⟨h0, h1⟩ := hc
    obtain ⟨N, rfl⟩ : ∃ N : Nat, n = N := ⟨n.toNat, by omega⟩
    rw [Int.toNat_natCast] at h1 ⊢
    have hpow : 10 ^ (k + 1) ≤ 10 ^ 6 := Nat.pow_le_pow_right (by omega) (by omega)
    have hlt : N < 1000000 := by omega
    have hm : ((N : Int).tmod 10) = ((N % 10 : Nat) : Int) := by rw [Int.tmod_eq_emod_of_nonneg (by omega)]; omega
    have hq : ((N : Int).tdiv 10) = ((N / 10 : Nat) : Int) := by rw [Int.tdiv_eq_ediv_of_nonneg (by omega)]; omega
    have w1 := wrap_small (48 + ((N % 10 : Nat) : Int)) (by omega) (by omega)
    have w2 : IntKind.u8.wrap (48 + ((N % 10 : Nat) : Int)) = 48 + ((N % 10 : Nat) : Int) := by
      simp [IntKind.wrap, IntKind.bits]
      omega
    have w3 := wrap_small ((N / 10 : Nat) : Int) (by omega) (by omega)
    refine pure_of_call (mkCx_ok (del_cons del_nil call94 ih) 18 kp94 []) Tryz.func94 rfl rfl (Nat.le_of_ble_eq_true rfl) (by kernel_rfl) ?_
    rw [Tryz.results94]
    by_cases h10 : 10 ≤ N
    · have hI : (10 : Int) ≤ N := by omega
      have hdiv : natLt ((N / 10 : Nat) : Int) k := ⟨by omega, by rw [Int.toNat_natCast]; rw [Nat.pow_succ] at h1; omega⟩
      rw [digV_step h10]
      have hdn : ((N / 10 : Nat) : Int).toNat = N / 10 := Int.toNat_natCast _
      have hsz : (digV (N / 10)).size ≤ 9223372036854775806 := by
        have := digV_size (n := N / 10) (k := 6) (by omega) (by omega)
        omega
      generalize hQ : ((N / 10 : Nat) : Int) = Q at *
      generalize hR : ((N % 10 : Nat) : Int) = R at *
      simp [hm, hq, w1, w2, w3, hI, hdiv, kp94, s94, hdn, strOfNums_size, hsz]
    · have hI : ¬ (10 : Int) ≤ N := by omega
      have hs : N % 10 = N := by omega
      rw [digV_small (by omega)]
      rw [hs] at hm w1 w2
      simp [kp94, hm, w1, w2, hI]
  · cases hr
theorem ok94_0 : ∀ ds d, s94 0 ds = some d → PureC Tryz.prog 94 ds d := ok_sp1 fun n r hr => by
  split at hr
  · rename_i hc
    cases hr
    obtain ⟨h0, h1⟩ := hc
    have : n = 0 := by simp at h1; omega
    subst this
    refine pure_of_call (mkCx_ok del_nil 18 kp94 []) Tryz.func94 rfl rfl (Nat.le_of_ble_eq_true rfl) (by kernel_rfl) ?_
    rw [Tryz.results94]
    have w1 := wrap_small 48 (by omega) (by omega)
    have w2 : IntKind.u8.wrap 48 = 48 := by decide
    have hd : digV 0 = strOfNums [48] := digV_small (by omega)
    simp [kp94, w1, w2, hd]
  · cases hr
theorem ok94 : ∀ k, k ≤ 6 → ∀ ds d, s94 k ds = some d → PureC Tryz.prog 94 ds d
  | 0, _ => ok94_0
  | k + 1, h => ok94_s k (by omega) (ok94 k (by omega))
def spB : ByteArray := ⟨#[32]⟩
def nlB : ByteArray := ⟨#[10]⟩
def tsB : ByteArray := ⟨#[116, 101, 115, 116, 115]⟩
def puB : ByteArray := ⟨#[10, 112, 117, 114, 101, 32]⟩
theorem z_sp : spB.size = 1 := rfl
theorem z_nl : nlB.size = 1 := rfl
theorem z_ts : tsB.size = 5 := rfl
theorem z_pu : puB.size = 6 := rfl
def textP (x : Tbl) : Nat → ByteArray
  | 0 => tsB
  | p + 1 => textP x p ++ spB ++ (x.props.getD p default).name ++ spB ++ digV (errV x p).toNat
def textQ (x : Tbl) (k : Nat) (o : ByteArray) : Nat → ByteArray
  | 0 => o
  | p + 1 => textQ x k o p ++ spB ++ digV (rngV x k p).lo.toNat ++ spB ++ digV (rngV x k p).hi.toNat
def textK (x : Tbl) : Nat → ByteArray
  | 0 => textP x x.props.length ++ puB ++ digV x.purity.toNat ++ nlB
  | k + 1 => textQ x k (textK x k ++ (x.kinds.getD k default).name) x.props.length ++ nlB
def textV (x : Tbl) : ByteArray := textK x x.kinds.length
@[simp] theorem textP_zero (x : Tbl) : textP x 0 = tsB := rfl
@[simp] theorem textQ_zero (x : Tbl) (k : Nat) (o : ByteArray) : textQ x k o 0 = o := rfl
theorem name_le {s : ByteArray} (h : refName s = true) : s.size ≤ 20 := by
  unfold refName at h
  simp only [Bool.and_eq_true, inR_iff] at h
  omega
theorem named_ok {s : ByteArray} {l : List ByteArray} (h : namedE s l = 0) : refName s = true := by
  unfold namedE at h
  cases q : refName s with
  | true => rfl
  | false => rw [q] at h; simp at h
theorem Fine.pname {x : Tbl} (f : Fine x) {p : Nat} (h : p < x.props.length) : x.props[p].name.size ≤ 20 := name_le (named_ok (prpE_zero (f.pr p h)).1)
theorem Fine.kname {x : Tbl} (f : Fine x) {k : Nat} (h : k < x.kinds.length) : x.kinds[k].name.size ≤ 20 := name_le (named_ok (kndE_zero (f.kn k h)).1)
theorem dig6 {n : Int} (h : n ≤ 100000) : (digV n.toNat).size ≤ 6 := digV_size (by omega) (by omega)
theorem nat6 {n : Int} (h0 : 0 ≤ n) (h : n ≤ 100000) : natLt n 6 := ⟨h0, by omega⟩
theorem errV_at {x : Tbl} {p : Nat} (h : p < x.props.length) : x.props[p].err = errV x p := by unfold errV; rw [getD_at _ _ _ h]
theorem Fine.errv {x : Tbl} (f : Fine x) {p : Nat} (h : p < x.props.length) : 0 ≤ errV x p ∧ errV x p ≤ 10000 := by rw [← errV_at h]; exact f.err p h
theorem textP_size {x : Tbl} (f : Fine x) : ∀ k, k ≤ x.props.length → (textP x k).size ≤ 5 + 28 * k
  | 0, _ => by simp [z_ts]
  | k + 1, hk => by
    have h1 := textP_size f k (by omega)
    have h2 := f.pname (p := k) (by omega)
    have h3 := dig6 (n := errV x k) (by have := f.errv (p := k) (by omega); omega)
    rw [textP, getD_at _ _ _ (by omega)]
    simp only [ByteArray.size_append, z_sp]
    omega
theorem textQ_size {x : Tbl} (f : Fine x) {k : Nat} (hk : k < x.kinds.length) (o : ByteArray) : ∀ p, p ≤ x.props.length → (textQ x k o p).size ≤ o.size + 14 * p
  | 0, _ => by simp
  | p + 1, hp => by
    have h1 := textQ_size f hk o p (by omega)
    obtain ⟨_, _, r1, r2, r3⟩ := f.rng hk (p := p) (by omega)
    have h2 := dig6 (n := (rngV x k p).lo) (by omega)
    have h3 := dig6 (n := (rngV x k p).hi) (by omega)
    rw [textQ]
    simp only [ByteArray.size_append, z_sp]
    omega
theorem textK_size {x : Tbl} (f : Fine x) : ∀ k, k ≤ x.kinds.length → (textK x k).size ≤ 200 + 100 * k
  | 0, _ => by
    have h1 := textP_size f x.props.length (Nat.le_refl _)
    have h2 := f.p5
    have h3 := dig6 (n := x.purity) (by have := f.u2; omega)
    simp only [textK, ByteArray.size_append, z_pu, z_nl]
    omega
  | k + 1, hk => by
    have h1 := textK_size f k (by omega)
    have h2 := f.kname (k := k) (by omega)
    have h3 := textQ_size f (k := k) (by omega) (textK x k ++ x.kinds[k].name) x.props.length (Nat.le_refl _)
    have h4 := f.p5
    rw [textK, getD_at _ _ _ (by omega)]
    simp only [ByteArray.size_append, z_nl] at h3 ⊢
    omega
def kp70 (r : Nat) : List (Nat × Option Nat) := match r with
  | 0 => [(1, none)]
  | 1 => [(1, none), (3, none)]
  | 2 => [(1, none), (3, none), (4, none)]
  | 3 => [(1, none), (3, none), (4, none), (11, none)]
  | 4 => [(1, none), (3, none), (4, none)]
  | 5 => [(1, none), (3, none), (4, none)]
  | 6 => [(1, none), (3, none)]
  | 7 => [(1, none), (3, none), (5, none)]
  | 8 => [(1, none), (3, none), (5, none), (43, none)]
  | 9 => [(1, none), (3, none), (5, none)]
  | 10 => [(1, none), (3, none), (5, none)]
  | 11 => [(1, none), (3, none), (5, none), (6, none)]
  | 12 => [(1, none), (3, none), (5, none), (6, none), (58, none)]
  | 13 => [(1, none), (3, none), (5, none), (6, none)]
  | 14 => [(1, none), (3, none), (5, none), (6, none)]
  | 15 => [(1, none), (3, none), (5, none)]
  | 16 => [(2, none)]
  | _ => []
def kp33 (r : Nat) : List (Nat × Option Nat) := match r with
  | 0 => [(1, none)]
  | 1 => [(1, none), (6, none)]
  | 2 => [(1, none), (6, none), (14, none)]
  | 3 => [(2, none), (3, none)]
  | 4 => [(2, none), (3, none)]
  | _ => []
def g70 : List (Nat × (List D → Option D)) := [(94, s94 6)]
theorem dg70 : DelOk Tryz.prog (delOf g70) := del_cons del_nil call94 (ok94 6 (by omega))
def s70 : List D → Option D := sp1 (cAgg rTbl) cStr fun x => if okT x then some (textV x) else none
set_option maxHeartbeats 4000000 in
theorem ok70 : ∀ ds d, s70 ds = some d → PureC Tryz.prog 70 ds d := ok_sp1 fun x r hr => by
  split at hr
  · rename_i hT
    cases hr
    have f := fine_of hT
    have hp5 := f.p5
    have hk8 := f.k8
    have c1 : spB = ⟨#[32]⟩ := rfl
    have c2 : nlB = ⟨#[10]⟩ := rfl
    have c3 : tsB = ⟨#[116, 101, 115, 116, 115]⟩ := rfl
    have c4 : puB = ⟨#[10, 112, 117, 114, 101, 32]⟩ := rfl
    have z1 : (⟨#[32]⟩ : ByteArray).size = 1 := rfl
    have z2 : (⟨#[10]⟩ : ByteArray).size = 1 := rfl
    have z4 : (⟨#[10, 112, 117, 114, 101, 32]⟩ : ByteArray).size = 6 := rfl
    refine pure_of_call (mkCx_ok dg70 91 kp70 []) Tryz.func70 rfl rfl (Nat.le_of_ble_eq_true rfl) (by kernel_rfl) ?_
    rw [Tryz.results70]
    simp [kp70, rTbl_enc]
    (generalize hLoopQ : Cx.loop _ _ _ = rLoopQ; apply loop_then hLoopQ (fun k => ⟨[(1, .loc 1 0), (3, .d (DS (textP x k))), (4, .d (DI k))], [(1, [.d (.sl 2 (x.props.map rPrp.enc)), .d (.sl 2 (x.kinds.map rKnd.enc)), .d (DI x.purity)])], [], []⟩) x.props.length (by first | (simp; done) | (simp; rfl) | (simp; simp [*])); rotate_left; (show _ < 281474976710656; omega); rfl; rotate_left; all_goals clear hLoopQ)
    · intro j hj
      have w1 := wrap_small ((j : Int) + 1) (by omega) (by omega)
      have hjl : (j : Int) < x.props.length := by omega
      have hz := textP_size f j (by omega)
      have hn := f.pname hj
      have he := errV_at hj
      have hev := f.errv hj
      have hd := dig6 (n := errV x j) (by omega)
      have n1 := nat6 hev.1 (by omega)
      rw [textP, getD_at _ _ _ hj, c1]
      generalize textP x j = o at *
      have k1 : o.size + 1 ≤ 9223372036854775807 := by omega
      have k1' : o.size ≤ 9223372036854775806 := by omega
      have k2 : o.size + 1 + x.props[j].name.size ≤ 9223372036854775807 := by omega
      have k3 : o.size + 1 + x.props[j].name.size + 1 ≤ 9223372036854775807 := by omega
      have k3' : o.size + 1 + x.props[j].name.size ≤ 9223372036854775806 := by omega
      have k4 : o.size + 1 + x.props[j].name.size + 1 + (digV (errV x j).toNat).size ≤ 9223372036854775807 := by omega
      simp [kp70, g70, s94, rPrp_enc, hj, hjl, he, n1, w1, z1, k1, k1', k2, k3, k3', k4, ByteArray.size_append]
    · have hz := textP_size f x.props.length (Nat.le_refl _)
      have hd := dig6 (n := x.purity) (by have := f.u2; omega)
      have n1 := nat6 (n := x.purity) (by have := f.u1; omega) (by have := f.u2; omega)
      have hK0 : textK x 0 = textP x x.props.length ++ puB ++ digV x.purity.toNat ++ nlB := rfl
      rw [c4, c2] at hK0
      generalize textP x x.props.length = o at *
      have k1 : o.size + 6 ≤ 9223372036854775807 := by omega
      have k1' : o.size ≤ 9223372036854775801 := by omega
      have k2 : o.size + 6 + (digV x.purity.toNat).size ≤ 9223372036854775807 := by omega
      have k3 : o.size + 6 + (digV x.purity.toNat).size + 1 ≤ 9223372036854775807 := by omega
      have k3' : o.size + 6 + (digV x.purity.toNat).size ≤ 9223372036854775806 := by omega
      simp [kp70, g70, s94, n1, z2, z4, k1, k1', k2, k3, k3', ByteArray.size_append, rPrp_k]
      (generalize hLoopQ : Cx.loop _ _ _ = rLoopQ; apply loop_then hLoopQ (fun k => ⟨[(1, .loc 1 0), (3, .d (DS (textK x k))), (5, .d (DI k))], [(1, [.d (.sl 2 (x.props.map rPrp.enc)), .d (.sl 2 (x.kinds.map rKnd.enc)), .d (DI x.purity)])], [], []⟩) x.kinds.length (by first | (simp; done) | (simp; rfl) | (simp; simp [*])); rotate_left; (show _ < 281474976710656; omega); rfl; rotate_left; all_goals clear hLoopQ)
      · intro j hj
        have w1 := wrap_small ((j : Int) + 1) (by omega) (by omega)
        have hjl : (j : Int) < x.kinds.length := by omega
        have hz := textK_size f j (by omega)
        have hn := f.kname hj
        rw [textK, getD_at _ _ _ hj, c2]
        have hzo : (textK x j ++ x.kinds[j].name).size ≤ 1020 := by rw [ByteArray.size_append]; omega
        have k0 : (textK x j).size + x.kinds[j].name.size ≤ 9223372036854775807 := by omega
        generalize hO : textK x j ++ x.kinds[j].name = o at *
        simp [kp70, g70, rKnd_enc, hj, hjl, k0, hO]
        (generalize hLoopQ : Cx.loop _ _ _ = rLoopQ; apply loop_then hLoopQ (fun p => ⟨[(1, .loc 1 0), (3, .d (DS (textQ x j o p))), (5, .d (DI j)), (6, .d (DI p))], [(1, [.d (.sl 2 (x.props.map rPrp.enc)), .d (.sl 2 (x.kinds.map rKnd.enc)), .d (DI x.purity)])], [], []⟩) x.props.length (by first | (simp; done) | (simp; rfl) | (simp; simp [*])); rotate_left; (show _ < 281474976710656; omega); rfl; rotate_left; all_goals clear hLoopQ)
        · intro p hp
          have wp := wrap_small ((p : Int) + 1) (by omega) (by omega)
          have hpl : (p : Int) < x.props.length := by omega
          obtain ⟨hpa, ea, r1, r2, r3⟩ := f.rng hj hp
          have hpaI : (p : Int) < x.kinds[j].props.length := by omega
          have hq := textQ_size f hj o p (by omega)
          have hd1 := dig6 (n := (rngV x j p).lo) (by omega)
          have hd2 := dig6 (n := (rngV x j p).hi) (by omega)
          have n1 := nat6 r1 (by omega)
          have n2 := nat6 (n := (rngV x j p).hi) (by omega) r3
          rw [textQ, c1]
          generalize textQ x j o p = q at *
          have k1 : q.size + 1 ≤ 9223372036854775807 := by omega
          have k1' : q.size ≤ 9223372036854775806 := by omega
          have k2 : q.size + 1 + (digV (rngV x j p).lo.toNat).size ≤ 9223372036854775807 := by omega
          have k3 : q.size + 1 + (digV (rngV x j p).lo.toNat).size + 1 ≤ 9223372036854775807 := by omega
          have k3' : q.size + 1 + (digV (rngV x j p).lo.toNat).size ≤ 9223372036854775806 := by omega
          have k4 : q.size + 1 + (digV (rngV x j p).lo.toNat).size + 1 + (digV (rngV x j p).hi.toNat).size ≤ 9223372036854775807 := by omega
          simp [kp70, g70, s94, rKnd_enc, rSpn_enc, hj, hjl, hp, hpl, hpa, hpaI, ea, n1, n2, wp, z1, k1, k1', k2, k3, k3', k4, ByteArray.size_append]
        · have hq := textQ_size f hj o x.props.length (Nat.le_refl _)
          generalize textQ x j o x.props.length = q at *
          have k1 : q.size + 1 ≤ 9223372036854775807 := by omega
          have k1' : q.size ≤ 9223372036854775806 := by omega
          simp [kp70, rPrp_k, w1, z2, k1, k1', ByteArray.size_append]
      · simp [kp70, rKnd_k, textV]
  · cases hr
theorem call70 (xs : Array Value) (w : World) : (callFunc 70 xs).run Tryz.prog w = .ok (.enter 70 xs) w := by kernel_rfl
def writeR (x : Tbl) : ByteArray × Int := if okT x then (textV x, 0) else (⟨#[]⟩, (chk x).2.2)
def g33 : List (Nat × (List D → Option D)) := (17, s17) :: (70, s70) :: []
theorem dg33 : DelOk Tryz.prog (delOf g33) := del_cons (del_cons del_nil call70 ok70) call17 ok17
def s33 : List D → Option D := sp1 (cAgg rTbl) (cTup2 cStr cInt) fun x => some (writeR x)
theorem ok33 : ∀ ds d, s33 ds = some d → PureC Tryz.prog 33 ds d := ok_sp1 fun x r hr => by
  cases hr
  refine pure_of_call (mkCx_ok dg33 18 kp33 []) Tryz.func33 rfl rfl (Nat.le_of_ble_eq_true rfl) (by kernel_rfl) ?_
  rw [Tryz.results33]
  by_cases h : okT x
  · have h0 : (chk x).2.2 = 0 := h
    rw [show writeR x = (textV x, 0) from if_pos h]
    simp [kp33, rTbl_enc, rTbl_dec, g33, s17, s70, h0, h]
  · have h' : ((chk x).2.2 != 0) = true := by unfold okT at h; simpa using h
    rw [show writeR x = (⟨#[]⟩, (chk x).2.2) from if_neg h]
    simp [kp33, rTbl_enc, rTbl_dec, g33, s17, h']
theorem call33 (xs : Array Value) (w : World) : (callFunc 33 xs).run Tryz.prog w = .ok (.enter 33 xs) w := by kernel_rfl
def kp98 (r : Nat) : List (Nat × Option Nat) := match r with
  | 0 => [(0, none), (1, none)]
  | 1 => [(0, none), (1, none), (5, some 1)]
  | 2 => [(0, none), (1, none), (5, some 1), (6, none)]
  | 3 => [(0, none), (1, none), (5, some 1), (6, none), (7, none)]
  | 4 => [(0, none), (1, none), (5, some 1), (6, none), (7, none), (11, none)]
  | 5 => [(0, none), (1, none), (5, some 1), (6, none), (7, none)]
  | 6 => [(0, none), (1, none), (5, some 1), (6, none), (7, none), (18, none)]
  | 7 => [(0, none), (1, none), (5, some 1), (7, none)]
  | 8 => [(0, none), (1, none), (5, some 1), (6, none), (7, none)]
  | 9 => [(4, some 1)]
  | _ => []
def kp99 (r : Nat) : List (Nat × Option Nat) := match r with
  | 0 => [(0, none)]
  | 1 => [(0, none), (8, none)]
  | 2 => [(2, none)]
  | 3 => [(0, none), (3, none)]
  | 4 => [(0, none), (3, none), (4, none)]
  | 5 => [(0, none), (3, none), (4, none), (12, none)]
  | 6 => [(0, none), (3, none), (4, none)]
  | 7 => [(0, none), (3, none), (4, none), (20, none)]
  | 8 => [(2, none)]
  | 9 => [(0, none), (3, none), (4, none)]
  | 10 => [(2, none)]
  | _ => []
def splitS (s : ByteArray) (b : Int) : Nat → List ByteArray × Nat
  | 0 => ([], 0)
  | i + 1 => if byteAt s i = b then ((splitS s b i).1 ++ [s.extract (splitS s b i).2 i], i + 1) else splitS s b i
def splitV (s : ByteArray) (b : Int) : List ByteArray := (splitS s b s.size).1 ++ [s.extract (splitS s b s.size).2 s.size]
theorem splitS_le (s : ByteArray) (b : Int) : ∀ i, (splitS s b i).2 ≤ i ∧ (splitS s b i).1.length ≤ i
  | 0 => ⟨Nat.le_refl _, Nat.le_refl _⟩
  | i + 1 => by
    have := splitS_le s b i
    unfold splitS
    split
    · simp; omega
    · omega
def s98 : List D → Option D := sp2 cStr (cK .u8) (cList rStr) fun s b => if s.size ≤ 2000 then some (splitV s b) else none
set_option maxHeartbeats 2000000 in
theorem ok98 : ∀ ds d, s98 ds = some d → PureC Tryz.prog 98 ds d := ok_sp2 fun s b r hr => by
  split at hr
  · rename_i hs
    cases hr
    refine pure_of_call (mkCx_ok del_nil 34 kp98 []) Tryz.func98 rfl rfl (Nat.le_of_ble_eq_true rfl) (by kernel_rfl) ?_
    rw [Tryz.results98]
    simp [kp98]
    (generalize hLoopQ : Cx.loop _ _ _ = rLoopQ; apply loop_then hLoopQ (fun i => ⟨[(0, .d (DS s)), (1, .d (.v (.int .u8 b))), (5, .sl 1 ((splitS s b i).1.map rStr.enc) (.tok 5)), (6, .d (DI (splitS s b i).2)), (7, .d (DI i))], [], [5], []⟩) s.size rfl; rotate_left; (show _ < 281474976710656; omega); rfl; rotate_left; all_goals clear hLoopQ)
    · intro i hi
      have hiI : (i : Int) < s.size := by omega
      have hle := splitS_le s b i
      have hb1 : ((splitS s b i).2 : Int) ≤ i := by omega
      have hb2 : (i : Int) ≤ s.size := by omega
      have w1 := wrap_small ((i : Int) + 1) (by omega) (by omega)
      have c1 : (splitS s b i).1.length ≤ 140737488355327 := by omega
      have c2 : ((splitS s b i).1.length + 1) * 16 ≤ 140737488355328 := by omega
      by_cases he : byteAt s i = b
      · have hS : splitS s b (i + 1) = ((splitS s b i).1 ++ [s.extract (splitS s b i).2 i], i + 1) := by rw [splitS, if_pos he]
        rw [hS]
        simp [kp98, rStr_enc, hi, hiI, he, hb1, hb2, w1, c1, c2]
      · have hS : splitS s b (i + 1) = splitS s b i := by rw [splitS, if_neg he]
        have he' : (byteAt s i == b) = false := by simpa using he
        rw [hS]
        simp [kp98, hi, hiI, he', w1]
    · have hle := splitS_le s b s.size
      have hb1 : ((splitS s b s.size).2 : Int) ≤ s.size := by omega
      have c1 : (splitS s b s.size).1.length ≤ 140737488355327 := by omega
      have c2 : ((splitS s b s.size).1.length + 1) * 16 ≤ 140737488355328 := by omega
      simp [kp98, rStr_enc, splitV, hb1, c1, c2]
  · cases hr
theorem call98 (xs : Array Value) (w : World) : (callFunc 98 xs).run Tryz.prog w = .ok (.enter 98 xs) w := by kernel_rfl
def digB (s : ByteArray) (i : Nat) : Bool := inR (byteAt s i) 48 57
def numS (s : ByteArray) : Nat → Int
  | 0 => 0
  | i + 1 => 10 * numS s i + (byteAt s i - 48)
def numV (s : ByteArray) : Int := if inR s.size 1 6 = false then -1 else if (List.range s.size).all (digB s) = true then numS s s.size else -1
theorem numS_bd (s : ByteArray) : ∀ i, (∀ j, j < i → digB s j = true) → 0 ≤ numS s i ∧ numS s i + 1 ≤ 10 ^ i
  | 0, _ => by simp [numS]
  | i + 1, h => by
    have h1 := numS_bd s i fun j hj => h j (by omega)
    have h2 := h i (by omega)
    unfold digB at h2
    rw [inR_iff] at h2
    have hp : (10 : Int) ^ (i + 1) = 10 ^ i * 10 := Int.pow_succ ..
    rw [numS, hp]
    omega
def s99 : List D → Option D := sp1 cStr cInt fun s => some (numV s)
set_option maxHeartbeats 2000000 in
theorem ok99 : ∀ ds d, s99 ds = some d → PureC Tryz.prog 99 ds d := ok_sp1 fun s r hr => by
  cases hr
  refine pure_of_call (mkCx_ok del1 30 kp99 []) Tryz.func99 rfl rfl (Nat.le_of_ble_eq_true rfl) (by kernel_rfl) ?_
  rw [Tryz.results99]
  by_cases h1 : inR s.size 1 6 = true
  · have h1b := inR_iff.1 h1
    have hconv : ∀ i, IntKind.i64.wrap (byteAt s i) = byteAt s i := fun i => by have := byteAt_bd s i; exact wrap_small _ (by omega) (by omega)
    simp [kp99, l1, s58, h1]
    rcases first_not (digB s) s.size with hall | ⟨K, hK, hbad, hgood⟩
    · have hV : numV s = numS s s.size := by
        unfold numV
        rw [if_neg (by simp [h1]), if_pos (List.all_eq_true.2 fun j hj => hall j (by simpa using hj))]
      rw [hV]
      (generalize hLoopQ : Cx.loop _ _ _ = rLoopQ; apply loop_then hLoopQ (fun i => ⟨[(0, .d (DS s)), (3, .d (DI (numS s i))), (4, .d (DI i))], [], [], []⟩) s.size rfl; rotate_left; (show _ < 281474976710656; omega); rfl; rotate_left; all_goals clear hLoopQ)
      · intro i hi
        have hiI : (i : Int) < s.size := by omega
        have hd : inR (byteAt s i) 48 57 = true := hall i hi
        have hdb := inR_iff.1 hd
        have hb := numS_bd s i fun j hj => hall j (by omega)
        have hp : (10 : Int) ^ i ≤ 1000000 := by
          have : (10 : Nat) ^ i ≤ 10 ^ 6 := Nat.pow_le_pow_right (by omega) (by omega)
          have h2 : ((10 ^ i : Nat) : Int) = (10 : Int) ^ i := by simp
          omega
        have w1 := wrap_small ((i : Int) + 1) (by omega) (by omega)
        have w2 := wrap_small (10 * numS s i) (by omega) (by omega)
        have w3 : IntKind.u8.wrap (byteAt s i - 48) = byteAt s i - 48 := by
          simp [IntKind.wrap, IntKind.bits]
          omega
        have w4 := wrap_small (byteAt s i - 48) (by omega) (by omega)
        have w5 := wrap_small (10 * numS s i + (byteAt s i - 48)) (by omega) (by omega)
        simp [kp99, l1, s58, hi, hiI, hconv, hd, w1, w2, w3, w4, w5, numS]
      · simp [kp99]
    · have hV : numV s = -1 := by
        unfold numV
        rw [if_neg (by simp [h1]), if_neg]
        intro ha
        have := List.all_eq_true.1 ha K (by simpa using hK)
        rw [hbad] at this; cases this
      rw [hV]
      (generalize hLoopQ : Cx.loop _ _ _ = rLoopQ; apply loop_then hLoopQ (fun i => ⟨[(0, .d (DS s)), (3, .d (DI (numS s i))), (4, .d (DI i))], [], [], []⟩) K rfl; rotate_left; (show _ < 281474976710656; omega); rfl; rotate_left; all_goals clear hLoopQ)
      · intro i hi
        have hiI : (i : Int) < s.size := by omega
        have his : i < s.size := by omega
        have hd : inR (byteAt s i) 48 57 = true := hgood i hi
        have hdb := inR_iff.1 hd
        have hb := numS_bd s i fun j hj => hgood j (by omega)
        have hp : (10 : Int) ^ i ≤ 1000000 := by
          have : (10 : Nat) ^ i ≤ 10 ^ 6 := Nat.pow_le_pow_right (by omega) (by omega)
          have h2 : ((10 ^ i : Nat) : Int) = (10 : Int) ^ i := by simp
          omega
        have w1 := wrap_small ((i : Int) + 1) (by omega) (by omega)
        have w2 := wrap_small (10 * numS s i) (by omega) (by omega)
        have w3 : IntKind.u8.wrap (byteAt s i - 48) = byteAt s i - 48 := by
          simp [IntKind.wrap, IntKind.bits]
          omega
        have w4 := wrap_small (byteAt s i - 48) (by omega) (by omega)
        have w5 := wrap_small (10 * numS s i + (byteAt s i - 48)) (by omega) (by omega)
        simp [kp99, l1, s58, hi, his, hiI, hconv, hd, w1, w2, w3, w4, w5, numS]
      · have hKI : (K : Int) < s.size := by omega
        have hd : inR (byteAt s K) 48 57 = false := hbad
        simp [kp99, l1, s58, hK, hKI, hconv, hd]
  · have h1' : inR s.size 1 6 = false := by simpa using h1
    rw [show numV s = -1 from if_pos h1']
    simp [kp99, l1, s58, h1']
theorem call99 (xs : Array Value) (w : World) : (callFunc 99 xs).run Tryz.prog w = .ok (.enter 99 xs) w := by kernel_rfl
end Go.Proofs.YtkldmnladkcfeaaGreatDoor
