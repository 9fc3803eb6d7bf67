/-
  Reference functions of the colour chapter: what can show, rinses, what is left. Conditions: none.
-/
import Derived.Test.YtpkjmnfgpbliaaaZRefA
import Derived.Test.YtpkjmnfgpbliaaaZLeft
import Derived.Test.YtpkjmnfgpbliaaaZRound
namespace Go.Proofs.Ytpkjmnfgpbliaaa
open Go.RowKit
set_option linter.unusedSimpArgs false
set_option linter.unusedVariables false

theorem rInt_dec1 (a : Int) : (cList rInt).dec (.sl 1 [[DI a]]) = some [a] := rfl
theorem rInt_dec2 (a b : Int) : (cList rInt).dec (.sl 1 [[DI a], [DI b]]) = some [a, b] := rfl
theorem call73 (xs : Array Value) (w : World) : (callFunc 73 xs).run Try.prog w = .ok (.enter 73 xs) w := by kernel_rfl
theorem call42 (xs : Array Value) (w : World) : (callFunc 42 xs).run Try.prog w = .ok (.enter 42 xs) w := by kernel_rfl
def l6 : List (Nat × (List D → Option D)) := (73, s73) :: (42, s42) :: l5
theorem del6 : DelOk Try.prog (delOf l6) := del_cons (del_cons del5 call42 ok42) call73 ok73
theorem powR_eq (n : Int) (h0 : 0 ≤ n) (h1 : n ≤ 1000) (k : Nat) (hk : k ≤ 3) : powR n k = n ^ k ∧ 0 ≤ n ^ k ∧ n ^ k ≤ 1000000000 := by
  have key : ∀ k, k ≤ 3 → 0 ≤ n ^ k ∧ n ^ k ≤ 1000000000 := fun k hk => by
    have := pow_bd 1 n (by omega) (by omega) h0 h1 k hk
    have e0 : 0 ≤ n * n := Int.mul_nonneg h0 h0
    have e1 : n * n ≤ 1000 * 1000 := Int.mul_le_mul h1 h1 h0 (by omega)
    have e2 : 0 ≤ n * n * n := Int.mul_nonneg e0 h0
    have e3 : n * n * n ≤ 1000 * 1000 * 1000 := Int.mul_le_mul e1 h1 h0 (by omega)
    have h3 : k = 0 ∨ k = 1 ∨ k = 2 ∨ k = 3 := by omega
    rcases h3 with h | h | h | h <;> subst h
    · rw [show n ^ 0 = 1 from by grind]; omega
    · rw [show n ^ 1 = n from by grind]; omega
    · rw [show n ^ 2 = n * n from by grind]; omega
    · rw [show n ^ 3 = n * n * n from by grind]; omega
  refine ⟨?_, key k hk⟩
  induction k with
  | zero => simp [powR]
  | succ k ih =>
    rw [powR, ih (by omega), show n ^ k * n = n ^ (k + 1) from (Int.pow_succ n k).symm]
    have := key (k + 1) hk
    exact wrap_small _ (by omega) (by omega)
def kp66 (r : Nat) : List (Nat × Option Nat) := match r with
  | 0 => [(1, none), (3, none), (4, none), (6, none)]
  | 1 => [(1, none), (3, none), (4, none), (6, none), (9, none)]
  | 2 => [(8, none)]
  | _ => []
def kp60 (r : Nat) : List (Nat × Option Nat) := match r with
  | 0 => [(1, none), (3, none), (5, none)]
  | 1 => [(1, none), (3, none), (5, none), (7, none)]
  | 2 => [(1, none), (3, none), (5, none), (7, none), (9, none)]
  | 3 => [(1, none), (3, none), (5, none), (7, none)]
  | 4 => [(1, none), (3, none), (5, none), (7, none), (17, none)]
  | 5 => [(6, none)]
  | 6 => [(6, none)]
  | _ => []
def kp20 (r : Nat) : List (Nat × Option Nat) := match r with
  | 0 => [(1, none), (3, none), (5, none)]
  | 1 => [(1, none), (3, none), (5, none), (8, none)]
  | 2 => [(1, none), (3, none), (5, none), (8, none), (15, none)]
  | 3 => [(1, none), (3, none), (5, none), (8, none)]
  | 4 => [(1, none), (3, none), (5, none), (8, none), (20, none)]
  | 5 => [(6, none), (7, none)]
  | 6 => [(9, none)]
  | 7 => [(9, none), (27, none)]
  | 8 => [(6, none), (7, none)]
  | 9 => [(6, none), (7, none)]
  | _ => []
def kp18 (r : Nat) : List (Nat × Option Nat) := match r with
  | 0 => [(1, none), (2, none), (3, none), (6, none)]
  | 1 => [(1, none), (2, none), (3, none), (6, none), (8, none)]
  | 2 => [(1, none), (2, none), (3, none), (6, none), (8, none), (21, none)]
  | 3 => [(1, none), (2, none), (3, none), (6, none), (8, none)]
  | 4 => [(1, none), (2, none), (3, none), (6, none), (8, none), (23, none)]
  | 5 => [(6, none), (7, none)]
  | 6 => [(2, none), (3, none), (6, none), (9, none), (10, none)]
  | 7 => [(6, none), (7, none)]
  | _ => []
def canOk (s : Shp) (bf : Int) (b : Bat) : Prop := (chk s).2.2 = 0 ∧ batErr s b = 0 ∧ 0 ≤ bf ∧ bf < s.cols.length
instance (s : Shp) (bf : Int) (b : Bat) : Decidable (canOk s bf b) := inferInstanceAs (Decidable (_ ∧ _))
def s66 : List D → Option D := sp4 (cAgg rShp) cInt (cAgg rBat) cInt cBool fun s bf b r => if canOk s bf b ∧ 0 ≤ r ∧ r ≤ 3 then some (canShow s bf.toNat b r.toNat) else none

theorem ok66 : ∀ ds d, s66 ds = some d → PureC Try.prog 66 ds d := ok_sp4 fun s bf b r res hr => by
  split at hr
  · rename_i hc
    cases hr
    obtain ⟨⟨hc1, hc2, hb0, hb1⟩, hr0, hr1⟩ := hc
    have hg := good_of_chk hc1
    obtain ⟨⟨hk0, hk1⟩, hg0, hg1⟩ := okBat_of hc2
    obtain ⟨B, rfl⟩ : ∃ B : Nat, bf = B := ⟨bf.toNat, by omega⟩
    obtain ⟨R, rfl⟩ : ∃ B : Nat, r = B := ⟨r.toNat, by omega⟩
    obtain ⟨C, hC⟩ : ∃ B : Nat, b.c = B := ⟨b.c.toNat, by omega⟩
    have hB : B < s.cols.length := by omega
    have hR : R ≤ 3 := by omega
    have hCn : C < s.cols.length := by omega
    have hst := hg.st B hB
    have hsv := hg.sv B C hB hCn
    have hsh := hg.sh B hB
    rw [getD_at _ _ _ hB] at hst hsv hsh
    have hCl : C < s.cols[B].shows.length := by omega
    rw [getD_at _ _ _ hCl] at hsv
    have w1 := wrap_small (1000 * s.cols[B].stay.hi) (by omega) (by omega)
    obtain ⟨p1, p2, p3⟩ := powR_eq s.keep.hi (by have := hg.k0; have := hg.k1; omega) hg.k2 R hR
    obtain ⟨q1, q2, q3⟩ := powR_eq 1000 (by omega) (by omega) R hR
    have m1 : 0 ≤ 1000 * s.cols[B].stay.hi * s.keep.hi ^ R ∧ 1000 * s.cols[B].stay.hi * s.keep.hi ^ R ≤ 1000000 * 1000000000 := ⟨Int.mul_nonneg (by omega) p2, Int.mul_le_mul (by omega) p3 p2 (by omega)⟩
    have w2 := wrap_small _ (show -9223372036854775808 ≤ 1000 * s.cols[B].stay.hi * s.keep.hi ^ R by omega) (by omega)
    have m2 : 0 ≤ b.g * s.cols[B].shows[C] ∧ b.g * s.cols[B].shows[C] ≤ 100000 * 1000 := ⟨Int.mul_nonneg (by omega) hsv.1, Int.mul_le_mul hg1 hsv.2 hsv.1 (by omega)⟩
    have w3 := wrap_small _ (show -9223372036854775808 ≤ b.g * s.cols[B].shows[C] by omega) (by omega)
    have m3 : 0 ≤ b.g * s.cols[B].shows[C] * 1000 ^ R ∧ b.g * s.cols[B].shows[C] * 1000 ^ R ≤ 100000000 * 1000000000 := ⟨Int.mul_nonneg (by omega) q2, Int.mul_le_mul m2.2 q3 q2 (by omega)⟩
    have w4 := wrap_small _ (show -9223372036854775808 ≤ b.g * s.cols[B].shows[C] * 1000 ^ R by omega) (by omega)
    have e : canShow s (B : Int).toNat b (R : Int).toNat = (!decide ((B : Int) = b.c) && decide (b.g * s.cols[B].shows[C] * 1000 ^ R < 1000 * s.cols[B].stay.hi * s.keep.hi ^ R)) := by
      unfold canShow
      simp only [Int.toNat_natCast, hC, getD_at _ _ _ hB, getD_at _ _ _ hCl]
    have hb9 : (R : Int) < 100 := by omega
    rw [e]
    refine pure_of_call (mkCx_ok del6 44 kp66 []) Try.func66 rfl rfl (Nat.le_of_ble_eq_true rfl) (by kernel_rfl) ?_
    rw [Try.results66]
    rw [cAgg_enc, cAgg_enc, rShp_enc, rBat_enc, hC]
    cases hne : ((B : Int) != (C : Int))
    · have : (B : Int) = C := by simpa using hne
      have : B = C := by omega
      simp [kp66, hB, rCol_enc, hne, this, hCn]
    · have : ¬ (B : Int) = C := by simpa using hne
      have : ¬ B = C := by omega
      simp [kp66, hB, hCl, rCol_enc, hne, l6, l5, l4, l3, l2, l1, s39, hb9, w1, w2, w3, w4, p1, q1, this]
      intro _; omega
  · cases hr
theorem call66 (xs : Array Value) (w : World) : (callFunc 66 xs).run Try.prog w = .ok (.enter 66 xs) w := by kernel_rfl
def l7 : List (Nat × (List D → Option D)) := (66, s66) :: l6
theorem del7 : DelOk Try.prog (delOf l7) := del_cons del6 call66 ok66
theorem needs_all {s : Shp} {bf : Nat} {b : Bat} (h : ∀ k, k < 4 → canShow s bf b k = true) : needs s bf b = -1 := by
  unfold needs; simp [h 0, h 1, h 2, h 3]
theorem needs_first {s : Shp} {bf : Nat} {b : Bat} {k : Nat} (hk : k < 4) (h : canShow s bf b k = false) (hj : ∀ j, j < k → canShow s bf b j = true) : needs s bf b = k := by
  unfold needs
  have h3 : k = 0 ∨ k = 1 ∨ k = 2 ∨ k = 3 := by omega
  rcases h3 with e | e | e | e <;> subst e
  · simp [h]
  · simp [h, hj 0]
  · simp [h, hj 0, hj 1]
  · simp [h, hj 0, hj 1, hj 2]
def s60 : List D → Option D := sp3 (cAgg rShp) cInt (cAgg rBat) cInt fun s bf b => if canOk s bf b then some (needs s bf.toNat b) else none
theorem ok60 : ∀ ds d, s60 ds = some d → PureC Try.prog 60 ds d := ok_sp3 fun s bf b res hr => by
  split at hr
  · rename_i hc
    cases hr
    refine pure_of_call (mkCx_ok del7 19 kp60 []) Try.func60 rfl rfl (Nat.le_of_ble_eq_true rfl) (by kernel_rfl) ?_
    rw [Try.results60]
    simp [kp60, rShp_enc, rBat_enc]
    rcases first_not (fun k => canShow s bf.toNat b k) 4 with hall | ⟨k, hk, hbad, hgood⟩
    · rw [needs_all hall]
      (generalize hLoopQ : Cx.loop _ _ _ = rLoopQ; apply loop_then hLoopQ (fun k => ⟨[(1, .d (DI bf)), (3, .loc 3 0), (5, .loc 5 0), (7, .d (DI k))], [(3, [.d (.sl 4 (s.cols.map rCol.enc)), .d (DI s.keep.lo), .d (DI s.keep.hi), .d (DI s.rinse)]), (5, [.d (DI b.c), .d (DI b.g)])], []⟩) 4 rfl; rotate_left; (show _ < 281474976710656; omega); rfl; rotate_left; all_goals clear hLoopQ)
      · intro j hj
        have h1 : (j : Int) ≤ 3 := by omega
        have h2 := wrap_small ((j : Int) + 1) (by omega) (by omega)
        have h3 := hall j hj
        simp [kp60, rShp_dec, rBat_dec, l7, s66, hc, h1, h2, h3]
      · simp [kp60]
    · rw [needs_first hk hbad hgood]
      (generalize hLoopQ : Cx.loop _ _ _ = rLoopQ; apply loop_then hLoopQ (fun k => ⟨[(1, .d (DI bf)), (3, .loc 3 0), (5, .loc 5 0), (7, .d (DI k))], [(3, [.d (.sl 4 (s.cols.map rCol.enc)), .d (DI s.keep.lo), .d (DI s.keep.hi), .d (DI s.rinse)]), (5, [.d (DI b.c), .d (DI b.g)])], []⟩) k rfl; rotate_left; (show _ < 281474976710656; omega); rfl; rotate_left; all_goals clear hLoopQ)
      · intro j hj
        have h1 : (j : Int) ≤ 3 := by omega
        have h2 := wrap_small ((j : Int) + 1) (by omega) (by omega)
        have h3 := hgood j hj
        simp [kp60, rShp_dec, rBat_dec, l7, s66, hc, h1, h2, h3]
      · have h1 : (k : Int) ≤ 3 := by omega
        simp [kp60, rShp_dec, rBat_dec, l7, s66, hc, h1, hbad]
  · cases hr
theorem call60 (xs : Array Value) (w : World) : (callFunc 60 xs).run Try.prog w = .ok (.enter 60 xs) w := by kernel_rfl
def l8 : List (Nat × (List D → Option D)) := (60, s60) :: l7
theorem del8 : DelOk Try.prog (delOf l8) := del_cons del7 call60 ok60
theorem colE_one {s : Shp} {x : Int} (h : colE s [x] = 0) : (chk s).2.2 = 0 ∧ 0 ≤ x ∧ x < s.cols.length := by
  unfold colE at h
  by_cases h1 : (chk s).2.2 = 0
  · rw [if_neg (by simpa using h1)] at h
    by_cases h2 : outB 0 ((s.cols.length : Int) - 1) [x] = true
    · rw [if_pos h2] at h; omega
    · have := (outB_one _ _ _).1 (by simpa using h2)
      omega
  · rw [if_pos h1] at h; exact absurd h h1
theorem openErr_eq (s : Shp) (l : List Bat) (st : List Int) : openErr s l st = if colE s st = 0 then batsE s l else colE s st := by
  unfold openErr colE batsE
  by_cases h1 : (chk s).2.2 = 0
  · cases outB 0 ((s.cols.length : Int) - 1) st <;> simp [h1]
  · simp [h1]
theorem batsE_one (s : Shp) (b : Bat) : batsE s [b] = batErr s b := by
  unfold batsE batsErr batsErr
  by_cases h : batErr s b = 0 <;> simp [h]
def s20 : List D → Option D := sp3 (cAgg rShp) cInt (cAgg rBat) (cTup2 cInt cInt) fun s bf b => some (rinsesR s bf b)
theorem ok20 : ∀ ds d, s20 ds = some d → PureC Try.prog 20 ds d := ok_sp3 fun s bf b res hr => by
  cases hr
  refine pure_of_call (mkCx_ok del8 29 kp20 []) Try.func20 rfl rfl (Nat.le_of_ble_eq_true rfl) (by kernel_rfl) ?_
  rw [Try.results20]
  unfold rinsesR
  rw [openErr_eq, batsE_one]
  by_cases h1 : colE s [bf] = 0
  · obtain ⟨hc, hb0, hb1⟩ := colE_one h1
    have hlen : s.cols.length < 1000000 := by have := (good_of_chk hc).n1; omega
    by_cases h2 : batErr s b = 0
    · have hok : canOk s bf b := ⟨hc, h2, hb0, hb1⟩
      by_cases h3 : needs s bf.toNat b < 0 <;> simp [kp20, rShp_enc, rBat_enc, rShp_dec, rBat_dec, rInt_dec1, l8, l7, l6, l5, s57, s59, s60, h1, h2, h3, hlen, hok]
    · have h2' : (batErr s b != 0) = true := by simpa using h2
      simp [kp20, rShp_enc, rBat_enc, rShp_dec, rBat_dec, rInt_dec1, l8, l7, l6, l5, s57, s59, h1, h2, h2', hlen]
  · have h1' : (colE s [bf] != 0) = true := by simpa using h1
    have h1'' : (colE s [bf] == 0) = false := by simpa using h1
    simp [kp20, rShp_enc, rBat_enc, rShp_dec, rBat_dec, rInt_dec1, l8, l7, l6, l5, s57, h1, h1', h1'']
end Go.Proofs.Ytpkjmnfgpbliaaa
namespace Go.Proofs.Ytpkjmnfgpbliaaa
open Go.RowKit
set_option linter.unusedSimpArgs false
set_option linter.unusedVariables false

def kq18 (r : Nat) : List (Nat × Option Nat) := match r with
  | 0 => [(1, none), (2, none), (3, none), (6, none)]
  | 1 => [(1, none), (2, none), (3, none), (6, none), (8, none)]
  | 2 => [(1, none), (2, none), (3, none), (6, none), (8, none), (21, none)]
  | 3 => [(1, none), (2, none), (3, none), (6, none), (8, none)]
  | 4 => [(1, none), (2, none), (3, none), (6, none), (8, none), (23, none)]
  | 5 => [(6, none), (7, none)]
  | 6 => [(2, none), (3, none), (6, none), (9, none), (10, none)]
  | 7 => [(6, none), (7, none)]
  | _ => []
def kp43 (r : Nat) : List (Nat × Option Nat) := match r with
  | 0 => [(1, none), (2, none), (3, none)]
  | 1 => [(1, none), (2, none), (3, none), (7, none)]
  | 2 => [(1, none), (2, none), (3, none), (7, none), (8, none)]
  | 3 => [(1, none), (2, none), (3, none), (7, none), (8, none), (13, none)]
  | 4 => [(1, none), (2, none), (3, none), (7, none), (8, none)]
  | 5 => [(2, none), (3, none), (7, none), (8, none), (9, none)]
  | 6 => [(2, none), (3, none), (7, none), (8, none), (9, none), (24, none)]
  | 7 => [(6, none)]
  | 8 => [(1, none), (2, none), (3, none), (7, none), (8, none)]
  | 9 => [(6, none)]
  | _ => []
def kp44 (r : Nat) : List (Nat × Option Nat) := match r with
  | 0 => [(0, none), (1, none)]
  | 1 => [(0, none), (1, none), (5, some 2)]
  | 2 => [(0, none), (1, none), (5, some 2), (6, none)]
  | 3 => [(0, none), (1, none), (5, some 2), (6, none), (10, none)]
  | 4 => [(0, none), (1, none), (5, some 2), (6, none)]
  | 5 => [(0, none), (1, none), (5, some 2), (6, none)]
  | 6 => [(4, some 2)]
  | _ => []
def kp64 (r : Nat) : List (Nat × Option Nat) := match r with
  | 0 => [(1, none), (2, none), (3, none), (4, none)]
  | 1 => [(2, none), (3, none), (4, none), (9, none)]
  | 2 => [(2, none), (3, none), (4, none), (9, none), (15, none)]
  | 3 => [(2, none), (3, none), (9, none)]
  | 4 => [(2, none), (3, none), (9, none), (20, none)]
  | 5 => [(9, none)]
  | 6 => [(8, none)]
  | _ => []
def s18 : List D → Option D := sp3 (cAgg rShp) cInt cInt (cTup2 (cAgg rSpn) cInt) fun s co r => some (leftR s co r)
theorem ok18 : ∀ ds d, s18 ds = some d → PureC Try.prog 18 ds d := ok_sp3 fun s co r res hr => by
  cases hr
  refine pure_of_call (mkCx_ok del8 60 kq18 []) Try.func18 rfl rfl (Nat.le_of_ble_eq_true rfl) (by kernel_rfl) ?_
  rw [Try.results18]
  unfold leftR
  rw [openErr_eq, show batsE s [] = 0 from rfl]
  by_cases h1 : colE s [co] = 0
  · obtain ⟨hc, hb0, hb1⟩ := colE_one h1
    have hg := good_of_chk hc
    rw [outB_inR]
    cases h2 : inR r 0 3
    · simp [kq18, rShp_enc, rShp_dec, rSpn_enc, rInt_dec1, l8, l7, l6, l5, l4, l3, l2, l1, s57, s51, h1, h2]
    · have hr' : 0 ≤ r ∧ r ≤ 3 := by simpa [inR] using h2
      obtain ⟨B, rfl⟩ : ∃ B : Nat, co = B := ⟨co.toNat, by omega⟩
      obtain ⟨R, rfl⟩ : ∃ B : Nat, r = B := ⟨r.toNat, by omega⟩
      have hB : B < s.cols.length := by omega
      have hR : R ≤ 3 := by omega
      have hst := hg.st B hB
      rw [getD_at _ _ _ hB] at hst
      have hb9 : (R : Int) < 100 := by omega
      have k0 := hg.k0
      have k1 := hg.k1
      have k2 := hg.k2
      obtain ⟨p1, p2, p3⟩ := powR_eq s.keep.hi (by omega) k2 R hR
      obtain ⟨o1, o2, o3⟩ := powR_eq s.keep.lo k0 (by omega) R hR
      obtain ⟨q1, q2, q3⟩ := powR_eq 1000 (by omega) (by omega) R hR
      have q4 : (0 : Int) < 1000 ^ R := Int.pow_pos (by omega)
      have w1 := wrap_small (1000 * s.cols[B].stay.hi) (by omega) (by omega)
      have w2 := wrap_small (1000 * s.cols[B].stay.lo) (by omega) (by omega)
      have m1 : 0 ≤ 1000 * s.cols[B].stay.hi * s.keep.hi ^ R ∧ 1000 * s.cols[B].stay.hi * s.keep.hi ^ R ≤ 1000000 * 1000000000 := ⟨Int.mul_nonneg (by omega) p2, Int.mul_le_mul (by omega) p3 p2 (by omega)⟩
      have m2 : 0 ≤ 1000 * s.cols[B].stay.lo * s.keep.lo ^ R ∧ 1000 * s.cols[B].stay.lo * s.keep.lo ^ R ≤ 1000000 * 1000000000 := ⟨Int.mul_nonneg (by omega) o2, Int.mul_le_mul (by omega) o3 o2 (by omega)⟩
      have w3 := wrap_small _ (show -9223372036854775808 ≤ 1000 * s.cols[B].stay.hi * s.keep.hi ^ R by omega) (by omega)
      have w4 := wrap_small _ (show -9223372036854775808 ≤ 1000 * s.cols[B].stay.lo * s.keep.lo ^ R by omega) (by omega)
      have w5 := wrap_small _ (show -9223372036854775808 ≤ 1000 * s.cols[B].stay.hi * s.keep.hi ^ R + 1000 ^ R by omega) (by omega)
      have w6 := wrap_small _ (show -9223372036854775808 ≤ 1000 * s.cols[B].stay.hi * s.keep.hi ^ R + 1000 ^ R - 1 by omega) (by omega)
      have d1 : (1000 * s.cols[B].stay.hi * s.keep.hi ^ R + 1000 ^ R - 1).tdiv (1000 ^ R) = (1000 * s.cols[B].stay.hi * s.keep.hi ^ R + 1000 ^ R - 1) / 1000 ^ R := Int.tdiv_eq_ediv_of_nonneg (by omega)
      have d2 : (1000 * s.cols[B].stay.lo * s.keep.lo ^ R).tdiv (1000 ^ R) = 1000 * s.cols[B].stay.lo * s.keep.lo ^ R / 1000 ^ R := Int.tdiv_eq_ediv_of_nonneg (by omega)
      have e1 := Int.ediv_le_self (1000 ^ R) (show 0 ≤ 1000 * s.cols[B].stay.hi * s.keep.hi ^ R + 1000 ^ R - 1 by omega)
      have e2 := Int.ediv_le_self (1000 ^ R) m2.1
      have e3 := Int.ediv_nonneg (show 0 ≤ 1000 * s.cols[B].stay.hi * s.keep.hi ^ R + 1000 ^ R - 1 by omega) q2
      have e4 := Int.ediv_nonneg m2.1 q2
      have w7 := wrap_small _ (show -9223372036854775808 ≤ (1000 * s.cols[B].stay.hi * s.keep.hi ^ R + 1000 ^ R - 1) / 1000 ^ R by omega) (by omega)
      have w8 := wrap_small _ (show -9223372036854775808 ≤ 1000 * s.cols[B].stay.lo * s.keep.lo ^ R / 1000 ^ R by omega) (by omega)
      have q5 : ¬ (1000 : Int) ^ R = 0 := by omega
      simp [kq18, rShp_enc, rShp_dec, rCol_enc, rInt_dec1, l8, l7, l6, l5, l4, l3, l2, l1, s57, s51, s39, h1, h2, hB, hb9, p1, o1, q1, w1, w2, w3, w4, w5, w6, w7, w8, d1, d2, q5, getD_at _ _ _ hB, rSpn_enc]
  · have h1' : (colE s [co] != 0) = true := by simpa using h1
    have h1'' : (colE s [co] == 0) = false := by simpa using h1
    simp [kq18, rShp_enc, rShp_dec, rSpn_enc, rInt_dec1, l8, l7, l6, l5, s57, h1, h1', h1'']
/-- The loss and the colour after so many batches. -/
def stL (s : Shp) (bf : Int) (l : List Bat) (k : Nat) : Option (Int × Int) := (l.take k).foldl (stepL s) (some (0, bf))
theorem stL_succ (s : Shp) (bf : Int) (l : List Bat) (k : Nat) (h : k < l.length) : stL s bf l (k + 1) = stepL s (stL s bf l k) l[k] := by
  unfold stL; rw [List.take_succ_eq_append_getElem h, List.foldl_append]; rfl
theorem stL_none (s : Shp) (bf : Int) (l : List Bat) (k : Nat) (h : stL s bf l k = none) : lossB s bf l = -1 := by
  unfold lossB
  have : l.foldl (stepL s) (some (0, bf)) = none := by
    conv => lhs; rw [← List.take_append_drop k l]
    rw [List.foldl_append]
    unfold stL at h
    rw [h, foldL_none]
  rw [this]
theorem needs_bd (s : Shp) (bf : Nat) (b : Bat) : -1 ≤ needs s bf b ∧ needs s bf b ≤ 3 := by
  unfold needs; repeat' split
  all_goals omega
theorem stL_bd {s : Shp} (hg : Good s) {bf : Int} (h0 : 0 ≤ bf) (h1 : bf < s.cols.length) {l : List Bat} (hok : ∀ j (hj : j < l.length), okBat s l[j]) : ∀ (k : Nat) (x c : Int), k ≤ l.length → stL s bf l k = some (x, c) → (0 ≤ c ∧ c < s.cols.length) ∧ 0 ≤ x ∧ x ≤ 30000 * k
  | 0, x, c, _, h => by
    simp [stL] at h; obtain ⟨rfl, rfl⟩ := h; exact ⟨⟨h0, h1⟩, by omega⟩
  | k + 1, x, c, hk, h => by
    rw [stL_succ s bf l k (by omega)] at h
    cases hs : stL s bf l k with
    | none => rw [hs] at h; cases h
    | some p =>
      obtain ⟨y, d⟩ := p
      have ih := stL_bd hg h0 h1 hok k y d (by omega) hs
      rw [hs] at h
      unfold stepL at h
      simp only at h
      split at h
      · cases h
      · rename_i hn
        simp only [Option.some.injEq, Prod.mk.injEq] at h
        obtain ⟨rfl, rfl⟩ := h
        have hb := hok k (by omega)
        have n2 := needs_bd s d.toNat l[k]
        have r0 := hg.r0
        have r1 := hg.r1
        have m0 : 0 ≤ needs s d.toNat l[k] * s.rinse := Int.mul_nonneg (by omega) r0
        have m1 : needs s d.toNat l[k] * s.rinse ≤ 3 * 10000 := Int.mul_le_mul n2.2 r1 r0 (by omega)
        exact ⟨hb.1, by omega⟩
def losOk (s : Shp) (bf : Int) (l : List Bat) : Prop := (chk s).2.2 = 0 ∧ batsErr s l = 0 ∧ 0 ≤ bf ∧ bf < s.cols.length ∧ l.length < 1000
instance (s : Shp) (bf : Int) (l : List Bat) : Decidable (losOk s bf l) := inferInstanceAs (Decidable (_ ∧ _))
theorem batErr_of (s : Shp) (b : Bat) (h : okBat s b) : batErr s b = 0 := by
  unfold batErr
  rw [if_neg, if_neg]
  · rw [(outB_one _ _ _).2 h.2]; simp
  · rw [(outB_one _ _ _).2 ⟨h.1.1, by have := h.1.2; omega⟩]; simp
def s43 : List D → Option D := sp3 (cAgg rShp) cInt (cList rBat) cInt fun s bf l => if losOk s bf l then some (lossB s bf l) else none
theorem ok43 : ∀ ds d, s43 ds = some d → PureC Try.prog 43 ds d := ok_sp3 fun s bf l res hr => by
  split at hr
  · rename_i hc
    cases hr
    obtain ⟨hc1, hc2, hb0, hb1, hlen⟩ := hc
    have hg := good_of_chk hc1
    have hok := okBat_all hc2
    refine pure_of_call (mkCx_ok del8 37 kp43 []) Try.func43 rfl rfl (Nat.le_of_ble_eq_true rfl) (by kernel_rfl) ?_
    rw [Try.results43]
    simp [kp43, rShp_enc, rBat_k]
    have run : ∀ j (hj : j < l.length) x c, stL s bf l j = some (x, c) → 0 ≤ needs s c.toNat l[j] → canOk s c l[j] ∧ IntKind.i64.wrap (needs s c.toNat l[j] * s.rinse) = needs s c.toNat l[j] * s.rinse ∧ IntKind.i64.wrap (x + needs s c.toNat l[j] * s.rinse) = x + needs s c.toNat l[j] * s.rinse ∧ stL s bf l (j + 1) = some (x + needs s c.toNat l[j] * s.rinse, l[j].c) := by
      intro j hj x c hs hn
      have hbd := stL_bd hg hb0 hb1 hok j x c (by omega) hs
      have n2 := needs_bd s c.toNat l[j]
      have r0 := hg.r0
      have r1 := hg.r1
      have m0 : 0 ≤ needs s c.toNat l[j] * s.rinse := Int.mul_nonneg (by omega) r0
      have m1 : needs s c.toNat l[j] * s.rinse ≤ 3 * 10000 := Int.mul_le_mul n2.2 r1 r0 (by omega)
      refine ⟨⟨hc1, batErr_of s _ (hok j hj), hbd.1.1, hbd.1.2⟩, wrap_small _ (by omega) (by omega), wrap_small _ (by omega) (by omega), ?_⟩
      rw [stL_succ s bf l j hj, hs]
      unfold stepL
      simp only
      rw [if_neg (by omega)]
    have stp : ∀ j (hj : j < l.length) x c, stL s bf l j = some (x, c) → needs s c.toNat l[j] < 0 → canOk s c l[j] ∧ stL s bf l (j + 1) = none := by
      intro j hj x c hs hn
      have hbd := stL_bd hg hb0 hb1 hok j x c (by omega) hs
      refine ⟨⟨hc1, batErr_of s _ (hok j hj), hbd.1.1, hbd.1.2⟩, ?_⟩
      rw [stL_succ s bf l j hj, hs]
      unfold stepL
      simp only
      rw [if_pos hn]
    have one : ∀ j, j < l.length → (stL s bf l j).isSome = true → (stL s bf l (j + 1)).isSome = true → ∃ x c x', ∃ hj : j < l.length, stL s bf l j = some (x, c) ∧ stL s bf l (j + 1) = some (x', l[j].c) ∧ canOk s c l[j] ∧ ¬ needs s c.toNat l[j] < 0 ∧ IntKind.i64.wrap (needs s c.toNat l[j] * s.rinse) = needs s c.toNat l[j] * s.rinse ∧ IntKind.i64.wrap (x + needs s c.toNat l[j] * s.rinse) = x' := by
      intro j hj h1 h2
      obtain ⟨⟨x, c⟩, hs⟩ := Option.isSome_iff_exists.1 h1
      by_cases hn : needs s c.toNat l[j] < 0
      · rw [(stp j hj x c hs hn).2] at h2; cases h2
      · obtain ⟨e1, e2, e3, e4⟩ := run j hj x c hs (by omega)
        exact ⟨x, c, _, hj, hs, e4, e1, hn, e2, e3⟩
    rcases first_not (fun k => (stL s bf l (k + 1)).isSome) l.length with hall | ⟨k, hk, hbad, hgood⟩
    · have hsome : ∀ j, j ≤ l.length → (stL s bf l j).isSome = true := by
        intro j hj
        cases j with
        | zero => rfl
        | succ j => exact hall j (by omega)
      obtain ⟨⟨x, c⟩, hend⟩ := Option.isSome_iff_exists.1 (hsome l.length (Nat.le_refl _))
      have hL : lossB s bf l = x := by
        unfold lossB
        unfold stL at hend
        rw [List.take_length] at hend
        rw [hend]
      rw [hL]
      (generalize hLoopQ : Cx.loop _ _ _ = rLoopQ; apply loop_then hLoopQ (fun k => ⟨[(1, .d (DI ((stL s bf l k).getD (0, 0)).2)), (2, .d (.sl 2 (l.map rBat.enc))), (3, .loc 3 0), (7, .d (DI ((stL s bf l k).getD (0, 0)).1)), (8, .d (DI k))], [(3, [.d (.sl 4 (s.cols.map rCol.enc)), .d (DI s.keep.lo), .d (DI s.keep.hi), .d (DI s.rinse)])], []⟩) l.length rfl; rotate_left; (show _ < 281474976710656; omega); rfl; rotate_left; all_goals clear hLoopQ)
      · intro j hj
        obtain ⟨x, c, x', _, hs, hs', h3, h4, h5, h6⟩ := one j hj (hsome j (by omega)) (hsome (j + 1) (by omega))
        have h2 := wrap_small ((j : Int) + 1) (by omega) (by omega)
        rw [hs, hs']
        simp [kp43, rShp_dec, rBat_dec, rBat_enc, l8, s60, hj, h2, h3, h4, h5, h6]
      · rw [hend]
        simp [kp43]
    · have hsome : ∀ j, j ≤ k → (stL s bf l j).isSome = true := by
        intro j hj
        cases j with
        | zero => rfl
        | succ j => exact hgood j (by omega)
      have hno : stL s bf l (k + 1) = none := by simpa using hbad
      rw [stL_none s bf l _ hno]
      (generalize hLoopQ : Cx.loop _ _ _ = rLoopQ; apply loop_then hLoopQ (fun k => ⟨[(1, .d (DI ((stL s bf l k).getD (0, 0)).2)), (2, .d (.sl 2 (l.map rBat.enc))), (3, .loc 3 0), (7, .d (DI ((stL s bf l k).getD (0, 0)).1)), (8, .d (DI k))], [(3, [.d (.sl 4 (s.cols.map rCol.enc)), .d (DI s.keep.lo), .d (DI s.keep.hi), .d (DI s.rinse)])], []⟩) k rfl; rotate_left; (show _ < 281474976710656; omega); rfl; rotate_left; all_goals clear hLoopQ)
      · intro j hj
        have hj' : j < l.length := by omega
        obtain ⟨x, c, x', _, hs, hs', h3, h4, h5, h6⟩ := one j hj' (hsome j (by omega)) (hsome (j + 1) (by omega))
        have h2 := wrap_small ((j : Int) + 1) (by omega) (by omega)
        rw [hs, hs']
        simp [kp43, rShp_dec, rBat_dec, rBat_enc, l8, s60, hj', h2, h3, h4, h5, h6]
      · obtain ⟨⟨x, c⟩, hs⟩ := Option.isSome_iff_exists.1 (hsome k (Nat.le_refl _))
        rw [hs]
        by_cases hn : needs s c.toNat l[k] < 0
        · obtain ⟨h3, _⟩ := stp k hk x c hs hn
          simp [kp43, rShp_dec, rBat_dec, rBat_enc, l8, s60, hk, hn, h3]
        · obtain ⟨_, _, _, e4⟩ := run k hk x c hs (by omega)
          rw [e4] at hno; cases hno
  · cases hr
def putOk (l : List Bat) (o : List Int) : Prop := outB 0 ((l.length : Int) - 1) o = false ∧ o.length < 1000
instance (l : List Bat) (o : List Int) : Decidable (putOk l o) := inferInstanceAs (Decidable (_ ∧ _))
def s44 : List D → Option D := sp2 (cList rBat) (cList rInt) (cList rBat) fun l o => if putOk l o then some (putL l o) else none
theorem putL_succ (l : List Bat) (o : List Int) (k : Nat) (hk : k < o.length) (C : Nat) (hC : o[k] = C) (hCl : C < l.length) : putL l (o.take (k + 1)) = putL l (o.take k) ++ [l[C]] := by
  unfold putL
  rw [List.take_succ_eq_append_getElem hk, List.map_append]
  simp [hC, getD_at _ _ _ hCl, List.getD, hCl]
theorem ok44 : ∀ ds d, s44 ds = some d → PureC Try.prog 44 ds d := ok_sp2 fun l o res hr => by
  split at hr
  · rename_i hc
    cases hr
    obtain ⟨hc1, hlen⟩ := hc
    have hin := (outB_all _ _ _).1 hc1
    refine pure_of_call (mkCx_ok del8 24 kp44 []) Try.func44 rfl rfl (Nat.le_of_ble_eq_true rfl) (by kernel_rfl) ?_
    rw [Try.results44]
    simp [kp44, rBat_k]
    (generalize hLoopQ : Cx.loop _ _ _ = rLoopQ; apply loop_then hLoopQ (fun k => ⟨[(0, .d (.sl 2 (l.map rBat.enc))), (1, .d (.sl 1 (o.map rInt.enc))), (5, .sl 2 ((putL l (o.take k)).map rBat.enc) (.tok 5)), (6, .d (DI k))], [], [5]⟩) o.length rfl; rotate_left; (show _ < 281474976710656; omega); rfl; rotate_left; all_goals clear hLoopQ)
    · intro j hj
      have h1 := hin j hj
      rw [getD_at _ _ _ hj] at h1
      obtain ⟨C, hC⟩ : ∃ B : Nat, o[j] = B := ⟨o[j].toNat, by omega⟩
      have hCl : C < l.length := by omega
      have h2 := wrap_small ((j : Int) + 1) (by omega) (by omega)
      have h3 := putL_succ l o j hj C hC hCl
      have h4 : (putL l (o.take j)).length ≤ j := by simp [putL]; omega
      have h8 : (putL l (o.take j)).length ≤ 140737488355327 ∧ ((putL l (o.take j)).length + 1) * 16 ≤ 140737488355328 := by omega
      simp [kp44, rBat_enc, hj, hC, hCl, h2, h3, h8]
    · simp [kp44, List.take_length, rBat_k]
  · cases hr
end Go.Proofs.Ytpkjmnfgpbliaaa
namespace Go.Proofs.Ytpkjmnfgpbliaaa
open Go.RowKit
set_option linter.unusedSimpArgs false
set_option linter.unusedVariables false

def kp23 (r : Nat) : List (Nat × Option Nat) := match r with
  | 0 => [(1, none), (2, none), (3, none), (4, none)]
  | 1 => [(1, none), (2, none), (3, none), (4, none), (10, none)]
  | 2 => [(1, none), (2, none), (3, none), (4, none), (10, none), (18, none)]
  | 3 => [(8, none), (9, none)]
  | 4 => [(11, none)]
  | 5 => [(11, none), (27, none)]
  | 6 => [(8, none), (9, none)]
  | 7 => [(8, none), (9, none)]
  | _ => []
def kp25 (r : Nat) : List (Nat × Option Nat) := match r with
  | 0 => [(1, none), (2, none), (3, none), (4, none), (5, none)]
  | 1 => [(1, none), (2, none), (3, none), (4, none), (5, none), (12, none)]
  | 2 => [(1, none), (2, none), (3, none), (4, none), (5, none), (12, none), (30, none)]
  | 3 => [(1, none), (2, none), (3, none), (4, none), (5, none), (12, none)]
  | 4 => [(1, none), (2, none), (3, none), (4, none), (5, none), (12, none), (13, none)]
  | 5 => [(1, none), (2, none), (3, none), (4, none), (5, none), (12, none), (13, none), (38, none)]
  | 6 => [(1, none), (2, none), (3, none), (4, none), (5, none), (12, none), (13, none)]
  | 7 => [(1, none), (2, none), (3, none), (4, none), (5, none), (12, none), (13, none), (46, none)]
  | 8 => [(1, none), (2, none), (3, none), (4, none), (5, none), (12, none), (13, none)]
  | 9 => [(1, none), (2, none), (3, none), (4, none), (5, none), (12, none), (48, none)]
  | 10 => [(10, none), (11, none)]
  | 11 => [(2, none), (3, none), (4, none), (5, none), (14, none)]
  | 12 => [(2, none), (3, none), (4, none), (5, none), (14, none), (15, none)]
  | 13 => [(2, none), (3, none), (4, none), (5, none), (14, none), (15, none), (54, none)]
  | 14 => [(2, none), (3, none), (4, none), (5, none), (14, none), (15, none)]
  | 15 => [(2, none), (3, none), (4, none), (5, none), (14, none), (15, none), (16, none)]
  | 16 => [(2, none), (3, none), (4, none), (5, none), (15, none), (16, none), (71, none)]
  | 17 => [(10, none), (11, none)]
  | 18 => [(2, none), (3, none), (4, none), (5, none), (14, none), (15, none)]
  | 19 => [(10, none), (11, none)]
  | _ => []
def askE (s : Shp) (st : Int) (l : List Bat) (o : List Int) : Int := if ¬ openErr s l [st] = 0 then openErr s l [st] else strangeE l.length o
theorem strangeE_zero {n : Nat} {o : List Int} (h : strangeE n o = 0) : o.length = n ∧ outB 0 ((n : Int) - 1) o = false ∧ o.Nodup := by
  unfold strangeE at h
  by_cases h1 : o.length = n
  · rw [if_neg (by simpa using h1)] at h
    cases h2 : outB 0 ((n : Int) - 1) o with
    | true => rw [h2] at h; simp at h
    | false =>
      rw [h2] at h
      by_cases h3 : o.Nodup
      · exact ⟨h1, rfl, h3⟩
      · simp [h3] at h
  · rw [if_pos h1] at h; omega
theorem openErr_zeroR {s : Shp} {l : List Bat} {st : List Int} (h : openErr s l st = 0) : colE s st = 0 ∧ l.length ≤ 7 ∧ batsErr s l = 0 := by
  rw [openErr_eq] at h
  by_cases h1 : colE s st = 0
  · rw [if_pos h1] at h
    unfold batsE at h
    by_cases h2 : 7 < l.length
    · rw [if_pos h2] at h; omega
    · rw [if_neg h2] at h; exact ⟨h1, by omega, h⟩
  · rw [if_neg h1] at h; exact absurd h h1
theorem batsErr_all {s : Shp} {l : List Bat} (h : ∀ b ∈ l, batErr s b = 0) : batsErr s l = 0 := by
  induction l with
  | nil => rfl
  | cons b t ih => rw [batsErr, if_pos (h b (by simp))]; exact ih (fun b hb => h b (by simp [hb]))
theorem putL_lenR (l : List Bat) (o : List Int) : (putL l o).length = o.length := by simp [putL]
theorem putL_at {l : List Bat} {o : List Int} (h : outB 0 ((l.length : Int) - 1) o = false) (k : Nat) (hk : k < o.length) : ∃ C : Nat, o[k] = C ∧ ∃ hC : C < l.length, (putL l o)[k]'(by rw [putL_lenR]; exact hk) = l[C] := by
  have h1 := (outB_all _ _ _).1 h k hk
  rw [getD_at _ _ _ hk] at h1
  refine ⟨o[k].toNat, by omega, by omega, ?_⟩
  simp [putL, getD_at _ _ _ (show o[k].toNat < l.length by omega), List.getD, show o[k].toNat < l.length by omega]
theorem putL_okR {s : Shp} {l : List Bat} {o : List Int} (h : outB 0 ((l.length : Int) - 1) o = false) (hb : batsErr s l = 0) : batsErr s (putL l o) = 0 := by
  apply batsErr_all
  intro b hm
  obtain ⟨k, hk, rfl⟩ := List.getElem_of_mem hm
  have hk' : k < o.length := by rwa [putL_lenR] at hk
  obtain ⟨C, _, hC, e⟩ := putL_at h k hk'
  rw [e]
  exact batErr_of s _ (okBat_all hb C hC)
theorem ask_zero {s : Shp} {st : Int} {l : List Bat} {o : List Int} (h : askE s st l o = 0) : openErr s l [st] = 0 ∧ strangeE l.length o = 0 ∧ (chk s).2.2 = 0 ∧ 0 ≤ st ∧ st < s.cols.length ∧ l.length ≤ 7 ∧ batsErr s l = 0 ∧ o.length = l.length ∧ outB 0 ((l.length : Int) - 1) o = false ∧ o.Nodup := by
  unfold askE at h
  by_cases h1 : openErr s l [st] = 0
  · rw [if_neg (by simpa using h1)] at h
    obtain ⟨a, b, c⟩ := openErr_zeroR h1
    obtain ⟨d, e, f⟩ := strangeE_zero h
    obtain ⟨g, i, j⟩ := colE_one a
    exact ⟨h1, h, g, i, j, b, c, d, e, f⟩
  · rw [if_pos h1] at h; exact absurd h h1
def s64 : List D → Option D := sp4 (cAgg rShp) cInt (cList rBat) (cList rInt) cInt fun s st l o => some (askE s st l o)
theorem ok64 : ∀ ds d, s64 ds = some d → PureC Try.prog 64 ds d := ok_sp4 fun s st l o res hr => by
  cases hr
  refine pure_of_call (mkCx_ok del8 26 kp64 []) Try.func64 rfl rfl (Nat.le_of_ble_eq_true rfl) (by kernel_rfl) ?_
  rw [Try.results64]
  unfold askE
  rw [openErr_eq]
  by_cases h1 : colE s [st] = 0
  · obtain ⟨hc, hb0, hb1⟩ := colE_one h1
    have hlen : s.cols.length < 1000000 := by have := (good_of_chk hc).n1; omega
    by_cases h2 : batsE s l = 0
    · have hl7 : l.length ≤ 7 := by
        unfold batsE at h2
        by_cases h : 7 < l.length
        · rw [if_pos h] at h2; omega
        · omega
      have hll : (l.length : Int) < 1000000 := by omega
      simp [kp64, rShp_enc, rShp_dec, rBat_k, rBat_decL, rInt_dec1, l8, l7, l6, l5, s57, s73, s42, h1, h2, hlen, hll, orderE_eq]
    · have h2' : (batsE s l == 0) = false := by simpa using h2
      simp [kp64, rShp_enc, rShp_dec, rBat_k, rBat_decL, rInt_dec1, l8, l7, l6, l5, s57, s73, h1, h2, h2', hlen]
  · have h1'' : (colE s [st] == 0) = false := by simpa using h1
    simp [kp64, rShp_enc, rShp_dec, rBat_k, rInt_dec1, l8, l7, l6, l5, s57, h1, h1'']
theorem call64 (xs : Array Value) (w : World) : (callFunc 64 xs).run Try.prog w = .ok (.enter 64 xs) w := by kernel_rfl
theorem call43 (xs : Array Value) (w : World) : (callFunc 43 xs).run Try.prog w = .ok (.enter 43 xs) w := by kernel_rfl
theorem call44 (xs : Array Value) (w : World) : (callFunc 44 xs).run Try.prog w = .ok (.enter 44 xs) w := by kernel_rfl
def l9 : List (Nat × (List D → Option D)) := (64, s64) :: (43, s43) :: (44, s44) :: l8
theorem del9 : DelOk Try.prog (delOf l9) := del_cons (del_cons (del_cons del8 call44 ok44) call43 ok43) call64 ok64
def s23 : List D → Option D := sp4 (cAgg rShp) cInt (cList rBat) (cList rInt) (cTup2 cInt cInt) fun s st l o => some (lostR s st l o)
theorem lostR_eq (s : Shp) (st : Int) (l : List Bat) (o : List Int) : lostR s st l o = if ¬ askE s st l o = 0 then (0, askE s st l o) else if lossB s st (putL l o) < 0 then (0, 9) else (lossB s st (putL l o), 0) := by
  unfold lostR askE
  by_cases h1 : openErr s l [st] = 0 <;> by_cases h2 : strangeE l.length o = 0 <;> simp [h1, h2]
theorem ok23 : ∀ ds d, s23 ds = some d → PureC Try.prog 23 ds d := ok_sp4 fun s st l o res hr => by
  cases hr
  refine pure_of_call (mkCx_ok del9 29 kp23 []) Try.func23 rfl rfl (Nat.le_of_ble_eq_true rfl) (by kernel_rfl) ?_
  rw [Try.results23, lostR_eq]
  by_cases h1 : askE s st l o = 0
  · obtain ⟨_, _, hc, hs0, hs1, hl7, hb, hol, hob, _⟩ := ask_zero h1
    have hp : putOk l o := ⟨hob, by omega⟩
    have hlo : losOk s st (putL l o) := ⟨hc, putL_okR hob hb, hs0, hs1, by rw [putL_lenR]; omega⟩
    by_cases h2 : lossB s st (putL l o) < 0 <;> simp [kp23, rShp_enc, rShp_dec, rBat_k, rBat_decL, l9, s64, s43, s44, h1, h2, hp, hlo]
  · have h1' : (askE s st l o != 0) = true := by simpa using h1
    simp [kp23, rShp_enc, rShp_dec, rBat_k, rBat_decL, l9, s64, h1, h1']
/-- The colour in front of a batch. -/
def bfAt (st : Int) (l : List Bat) (k : Nat) : Int := if k = 0 then st else (l.getD (k - 1) default).c
def canAt (s : Shp) (st : Int) (l : List Bat) (rin : List Int) (k : Nat) : Bool := canShow s (bfAt st l k).toNat (l.getD k default) (rin.getD k 0).toNat
theorem stS_at (s : Shp) (st : Int) (l : List Bat) (rin : List Int) (k : Nat) (hk : k ≤ l.length) (h : ∀ j, j < k → canAt s st l rin j = false) : (l.take k).foldl (stepS s rin) (.inr (st, 0)) = .inr (bfAt st l k, k) := by
  induction k with
  | zero => rfl
  | succ k ih =>
    rw [List.take_succ_eq_append_getElem (show k < l.length by omega), List.foldl_append, ih (by omega) (fun j hj => h j (by omega))]
    have hk := h k (by omega)
    unfold canAt at hk
    rw [getD_at _ _ _ (show k < l.length by omega)] at hk
    show stepS s rin (.inr (bfAt st l k, k)) l[k] = _
    unfold stepS
    simp only [hk]
    simp [bfAt, List.getD, show k < l.length by omega]
theorem showAt_all (s : Shp) (st : Int) (l : List Bat) (rin : List Int) (h : ∀ j, j < l.length → canAt s st l rin j = false) : showAt s st l rin = -1 := by
  have := stS_at s st l rin l.length (Nat.le_refl _) h
  rw [List.take_length] at this
  unfold showAt; rw [this]; rfl
theorem showAt_at (s : Shp) (st : Int) (l : List Bat) (rin : List Int) (k : Nat) (hk : k < l.length) (hb : canAt s st l rin k = true) (h : ∀ j, j < k → canAt s st l rin j = false) : showAt s st l rin = k := by
  unfold showAt
  conv => lhs; rw [← List.take_append_drop k l]
  rw [List.foldl_append, stS_at s st l rin k (by omega) h, List.drop_eq_getElem_cons hk, List.foldl_cons]
  unfold canAt at hb
  rw [getD_at _ _ _ hk] at hb
  rw [show stepS s rin (.inr (bfAt st l k, k)) l[k] = .inl k by unfold stepS; simp only [hb]; rfl, foldS_inl]
  rfl
theorem showsR_eq (s : Shp) (st : Int) (l : List Bat) (o rin : List Int) : showsR s st l o rin = if ¬ askE s st l o = 0 then (0, askE s st l o) else if ¬ rin.length = l.length then (0, 3) else if outB 0 3 rin then (0, 7) else (showAt s st (putL l o) rin, 0) := by
  unfold showsR askE
  by_cases h1 : openErr s l [st] = 0 <;> by_cases h2 : strangeE l.length o = 0 <;> simp [h1, h2]
def s25 : List D → Option D := sp5 (cAgg rShp) cInt (cList rBat) (cList rInt) (cList rInt) (cTup2 cInt cInt) fun s st l o rin => some (showsR s st l o rin)
theorem ok25 : ∀ ds d, s25 ds = some d → PureC Try.prog 25 ds d := ok_sp5 fun s st l o rin res hr => by
  cases hr
  refine pure_of_call (mkCx_ok del9 75 kp25 []) Try.func25 rfl rfl (Nat.le_of_ble_eq_true rfl) (by kernel_rfl) ?_
  rw [Try.results25, showsR_eq]
  by_cases h1 : askE s st l o = 0
  · obtain ⟨_, _, hc, hs0, hs1, hl7, hb, hol, hob, _⟩ := ask_zero h1
    by_cases h2 : rin.length = l.length
    · have h2' : ((rin.length : Int) != (l.length : Int)) = false := by rw [h2]; simp
      rcases outB_first 0 3 rin with ⟨ho, hall⟩ | ⟨ho, k, hk, hbad, hgood⟩
      · have hin := (outB_all _ _ _).1 ho
        simp [kp25, rShp_enc, rShp_dec, rBat_k, rBat_decL, l9, s64, h1, h2, h2', ho]
        (generalize hLoopQ : Cx.loop _ _ _ = rLoopQ; apply loop_then hLoopQ (fun k => ⟨[(1, .d (DI st)), (2, .d (.sl 2 (l.map rBat.enc))), (3, .d (.sl 1 (o.map rInt.enc))), (4, .d (.sl 1 (rin.map rInt.enc))), (5, .loc 5 0), (12, .d (DI 0)), (13, .d (DI k))], [(5, [.d (.sl 4 (s.cols.map rCol.enc)), .d (DI s.keep.lo), .d (DI s.keep.hi), .d (DI s.rinse)])], []⟩) rin.length rfl; rotate_left; (show _ < 281474976710656; omega); rfl; rotate_left; all_goals clear hLoopQ)
        · intro j hj
          have h3 := wrap_small ((j : Int) + 1) (by omega) (by omega)
          have hn := hall j hj
          rw [getD_at _ _ _ hj] at hn
          simp [kp25, l9, l8, l7, l6, l5, l4, l3, l2, l1, s51, hj, hn, h3]
        · simp [kp25]
          have fact : ∀ j (hj : j < o.length), ∃ C : Nat, ∃ hC : C < l.length, ∃ R : Nat, ∃ hR : j < rin.length, o[j] = C ∧ rin[j] = R ∧ bfAt st (putL l o) (j + 1) = l[C].c ∧ IntKind.i64.wrap ((j : Int) + 1) = (j : Int) + 1 ∧ (canOk s (bfAt st (putL l o) j) l[C] ∧ 0 ≤ (R : Int) ∧ (R : Int) ≤ 3) ∧ canShow s (bfAt st (putL l o) j).toNat l[C] R = canAt s st (putL l o) rin j := by
            intro j hj
            obtain ⟨C, hoC, hC, hP⟩ := putL_at hob j hj
            have hR : j < rin.length := by omega
            have hr := hin j hR
            rw [getD_at _ _ _ hR] at hr
            have hjP : j < (putL l o).length := by rw [putL_lenR]; exact hj
            refine ⟨C, hC, rin[j].toNat, hR, hoC, by omega, ?_, wrap_small _ (by omega) (by omega), ⟨⟨hc, batErr_of s _ (okBat_all hb C hC), ?_⟩, by omega, by omega⟩, ?_⟩
            · simp [bfAt, getD_at _ _ _ hjP, hP, List.getD, hjP]
            · unfold bfAt
              by_cases hj0 : j = 0
              · rw [if_pos hj0]; exact ⟨hs0, hs1⟩
              · rw [if_neg hj0]
                obtain ⟨C', _, hC', hP'⟩ := putL_at hob (j - 1) (by omega)
                rw [getD_at _ _ _ (show j - 1 < (putL l o).length by omega), hP']
                exact (okBat_all hb C' hC').1
            · unfold canAt
              rw [getD_at _ _ _ hjP, getD_at _ _ _ hR, hP]
          rcases first_not (fun k => !canAt s st (putL l o) rin k) o.length with hsall | ⟨k, hk, hsbad, hsgood⟩
          · rw [showAt_all s st (putL l o) rin (fun j hj => by have := hsall j (by rwa [putL_lenR] at hj); simpa using this)]
            (generalize hLoopQ : Cx.loop _ _ _ = rLoopQ; apply loop_then hLoopQ (fun k => ⟨[(2, .d (.sl 2 (l.map rBat.enc))), (3, .d (.sl 1 (o.map rInt.enc))), (4, .d (.sl 1 (rin.map rInt.enc))), (5, .loc 5 0), (14, .d (DI (bfAt st (putL l o) k))), (15, .d (DI k))], [(5, [.d (.sl 4 (s.cols.map rCol.enc)), .d (DI s.keep.lo), .d (DI s.keep.hi), .d (DI s.rinse)])], []⟩) o.length rfl; rotate_left; (show _ < 281474976710656; omega); rfl; rotate_left; all_goals clear hLoopQ)
            · intro j hj
              obtain ⟨C, hC, R, hR, e1, e2, e3, e4, e5, e6⟩ := fact j hj
              have e7 : canAt s st (putL l o) rin j = false := by have := hsall j hj; simpa using this
              rw [e7] at e6
              simp [kp25, l9, l8, l7, s66, rShp_dec, rBat_dec, rBat_enc, hj, hC, hR, e1, e2, e3, e4, e5, e6]
            · simp [kp25]
          · rw [showAt_at s st (putL l o) rin k (by rw [putL_lenR]; exact hk) (by simpa using hsbad) (fun j hj => by have := hsgood j hj; simpa using this)]
            (generalize hLoopQ : Cx.loop _ _ _ = rLoopQ; apply loop_then hLoopQ (fun k => ⟨[(2, .d (.sl 2 (l.map rBat.enc))), (3, .d (.sl 1 (o.map rInt.enc))), (4, .d (.sl 1 (rin.map rInt.enc))), (5, .loc 5 0), (14, .d (DI (bfAt st (putL l o) k))), (15, .d (DI k))], [(5, [.d (.sl 4 (s.cols.map rCol.enc)), .d (DI s.keep.lo), .d (DI s.keep.hi), .d (DI s.rinse)])], []⟩) k rfl; rotate_left; (show _ < 281474976710656; omega); rfl; rotate_left; all_goals clear hLoopQ)
            · intro j hj
              have hj' : j < o.length := by omega
              obtain ⟨C, hC, R, hR, e1, e2, e3, e4, e5, e6⟩ := fact j hj'
              have e7 : canAt s st (putL l o) rin j = false := by have := hsgood j hj; simpa using this
              rw [e7] at e6
              simp [kp25, l9, l8, l7, s66, rShp_dec, rBat_dec, rBat_enc, hj', hC, hR, e1, e2, e3, e4, e5, e6]
            · obtain ⟨C, hC, R, hR, e1, e2, e3, e4, e5, e6⟩ := fact k hk
              have e7 : canAt s st (putL l o) rin k = true := by simpa using hsbad
              rw [e7] at e6
              simp [kp25, l9, l8, l7, s66, rShp_dec, rBat_dec, rBat_enc, hk, hC, hR, e1, e2, e3, e4, e5, e6]
      · simp [kp25, rShp_enc, rShp_dec, rBat_k, rBat_decL, l9, s64, h1, h2, h2', ho]
        (generalize hLoopQ : Cx.loop _ _ _ = rLoopQ; apply loop_then hLoopQ (fun j => ⟨[(1, .d (DI st)), (2, .d (.sl 2 (l.map rBat.enc))), (3, .d (.sl 1 (o.map rInt.enc))), (4, .d (.sl 1 (rin.map rInt.enc))), (5, .loc 5 0), (12, .d (DI (if j ≤ k then 0 else 7))), (13, .d (DI j))], [(5, [.d (.sl 4 (s.cols.map rCol.enc)), .d (DI s.keep.lo), .d (DI s.keep.hi), .d (DI s.rinse)])], []⟩) (k + 1) rfl; rotate_left; (show _ < 281474976710656; omega); rfl; rotate_left; all_goals clear hLoopQ)
        · intro j hj
          have hj' : j < rin.length := by omega
          have h3 := wrap_small ((j : Int) + 1) (by omega) (by omega)
          by_cases hjk : j = k
          · subst hjk
            rw [getD_at _ _ _ hj'] at hbad
            simp [kp25, l9, l8, l7, l6, l5, l4, l3, l2, l1, s51, hj', hbad, h3]
          · have hn := hgood j (by omega)
            rw [getD_at _ _ _ hj'] at hn
            have hjk1 : j ≤ k := by omega
            have hjk2 : j + 1 ≤ k := by omega
            simp [kp25, l9, l8, l7, l6, l5, l4, l3, l2, l1, s51, hj', hn, h3, hjk1, hjk2]
        · have hk2 : ¬ k + 1 ≤ k := by omega
          by_cases hk1 : (k : Int) + 1 < rin.length <;> simp [kp25, hk1, hk2]
    · have h2' : ((rin.length : Int) != (l.length : Int)) = true := by
        have : ¬ (rin.length : Int) = l.length := by omega
        simpa using this
      simp [kp25, rShp_enc, rShp_dec, rBat_k, rBat_decL, l9, s64, h1, h2, h2']
      (generalize hLoopQ : Cx.loop _ _ _ = rLoopQ; apply loop_then hLoopQ (fun j => ⟨[(1, .d (DI st)), (2, .d (.sl 2 (l.map rBat.enc))), (3, .d (.sl 1 (o.map rInt.enc))), (4, .d (.sl 1 (rin.map rInt.enc))), (5, .loc 5 0), (12, .d (DI 3)), (13, .d (DI j))], [(5, [.d (.sl 4 (s.cols.map rCol.enc)), .d (DI s.keep.lo), .d (DI s.keep.hi), .d (DI s.rinse)])], []⟩) 0 rfl; rotate_left; (show _ < 281474976710656; omega); rfl; rotate_left; all_goals clear hLoopQ)
      · intro j hj; omega
      · by_cases hk1 : 0 < rin.length <;> simp [kp25, hk1]
  · have h1' : (askE s st l o != 0) = true := by simpa using h1
    have h1'' : (askE s st l o == 0) = false := by simpa using h1
    simp [kp25, rShp_enc, rShp_dec, rBat_k, rBat_decL, l9, s64, h1, h1', h1'']
    (generalize hLoopQ : Cx.loop _ _ _ = rLoopQ; apply loop_then hLoopQ (fun j => ⟨[(1, .d (DI st)), (2, .d (.sl 2 (l.map rBat.enc))), (3, .d (.sl 1 (o.map rInt.enc))), (4, .d (.sl 1 (rin.map rInt.enc))), (5, .loc 5 0), (12, .d (DI (askE s st l o))), (13, .d (DI j))], [(5, [.d (.sl 4 (s.cols.map rCol.enc)), .d (DI s.keep.lo), .d (DI s.keep.hi), .d (DI s.rinse)])], []⟩) 0 rfl; rotate_left; (show _ < 281474976710656; omega); rfl; rotate_left; all_goals clear hLoopQ)
    · intro j hj; omega
    · by_cases hk1 : 0 < rin.length <;> simp [kp25, hk1, h1, h1', h1'']
end Go.Proofs.Ytpkjmnfgpbliaaa
