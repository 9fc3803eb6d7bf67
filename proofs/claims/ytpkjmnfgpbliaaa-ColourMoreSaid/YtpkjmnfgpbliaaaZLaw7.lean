/-
  The law of the truth (ColourTruth): it returns true. Conditions: none.
-/
import Derived.Test.YtpkjmnfgpbliaaaZLaw12
namespace Go.Proofs.Ytpkjmnfgpbliaaa
open Go.RowKit
set_option linter.unusedSimpArgs false
set_option linter.unusedVariables false

def mostV (s : Shp) (B : Nat) (r : Nat) : Int := (s.cols.getD B default).stay.hi * s.keep.hi ^ r
theorem canShow_most (s : Shp) (B : Nat) (b : Bat) (r : Nat) : canShow s B b r = shownV s B b (mostV s B r) r := by
  unfold canShow shownV mostV
  rw [Int.mul_assoc 1000]
theorem shown_left {s : Shp} (hg : Good s) {B : Nat} (hB : B < s.cols.length) (b : Bat) (x : Sty) (r : Nat) (h : canShow s B b r = false) : shownV s B b (leftV s B x r) r = false := by
  rw [canShow_most] at h
  unfold shownV at h ⊢
  have := leftV_hi hg hB x r
  unfold mostV at h
  cases hc : decide ((B : Int) = b.c)
  · rw [hc] at h
    simp only [Bool.not_false, Bool.true_and, decide_eq_false_iff_not] at h ⊢
    omega
  · simp
theorem needs_cases (s : Shp) (B : Nat) (b : Bat) : (needs s B b = -1 ∧ canShow s B b 3 = true) ∨ ∃ k : Nat, k ≤ 3 ∧ needs s B b = k ∧ canShow s B b k = false ∧ (1 ≤ k → canShow s B b (k - 1) = true) := by
  unfold needs
  cases h0 : canShow s B b 0
  · exact .inr ⟨0, by omega, by simp, h0, fun h => by omega⟩
  · cases h1 : canShow s B b 1
    · exact .inr ⟨1, by omega, by simp, h1, fun _ => h0⟩
    · cases h2 : canShow s B b 2
      · exact .inr ⟨2, by omega, by simp, h2, fun _ => h1⟩
      · cases h3 : canShow s B b 3
        · exact .inr ⟨3, by omega, by simp, h3, fun _ => h2⟩
        · exact .inl ⟨by simp, rfl⟩
theorem most_bd {s : Shp} (hg : Good s) {B : Nat} (hB : B < s.cols.length) (r : Nat) (hr : r ≤ 3) : 0 ≤ mostV s B r ∧ mostV s B r ≤ 1000000000000 := by
  have hst := hg.st B hB
  obtain ⟨_, g0, g1⟩ := powR_eq s.keep.hi (by have := hg.k0; have := hg.k1; omega) hg.k2 r hr
  unfold mostV
  refine ⟨Int.mul_nonneg (by omega) g0, ?_⟩
  have := Int.mul_le_mul hst.2.2 g1 g0 (by omega)
  omega
theorem valid_open (s : Shp) (b : Bat) : openErr s [b] [0] = validE s [b] := by
  rw [openErr_eq]
  unfold validE colE
  by_cases h : (chk s).2.2 = 0
  · have hn := (good_of_chk h).n0
    have ho : outB 0 ((s.cols.length : Int) - 1) [0] = false := (outB_one _ _ _).2 ⟨by omega, by omega⟩
    simp [h, ho]
  · simp [h]
theorem bats1d (b : Bat) : (cList rBat).dec (.sl 2 [[DI b.c, DI b.g]]) = some [b] := rfl
def kp7 (r : Nat) : List (Nat × Option Nat) := match r with
  | 0 => [(3, none), (4, none), (5, none)]
  | 1 => [(3, none), (4, none), (5, none), (7, none)]
  | 2 => [(3, none), (4, none), (5, none), (7, none), (20, none)]
  | 3 => [(7, none), (9, none)]
  | 4 => [(6, none)]
  | 5 => [(3, none), (4, none), (5, none), (10, none)]
  | 6 => [(3, none), (4, none), (5, none), (10, none), (11, none), (12, none)]
  | 7 => [(3, none), (4, none), (5, none), (10, none), (11, none), (12, none), (60, none)]
  | 8 => [(6, none)]
  | 9 => [(3, none), (4, none), (5, none), (10, none), (11, none), (12, none), (13, none)]
  | 10 => [(3, none), (4, none), (5, none), (10, none), (11, none), (13, none), (64, none)]
  | 11 => [(3, none), (4, none), (10, none), (13, none)]
  | 12 => [(3, none), (4, none), (10, none), (13, none), (74, none)]
  | 13 => [(6, none)]
  | 14 => [(3, none), (4, none), (10, none), (13, none), (14, none)]
  | 15 => [(6, none)]
  | _ => []
theorem call36' (xs : Array Value) (w : World) : (callFunc 36 xs).run Try.prog w = .ok (.enter 36 xs) w := by kernel_rfl
theorem call37' (xs : Array Value) (w : World) : (callFunc 37 xs).run Try.prog w = .ok (.enter 37 xs) w := by kernel_rfl
def pd : List (Nat × (List D → Option D)) := (36, s36) :: (37, s37) :: (19, sRinses) :: pc
theorem depd : DelOk Try.prog (delOf pd) := del_cons (del_cons (del_cons depc call19 okRinses) call37' ok37) call36' ok36
def s7 : List D → Option D := sp3 (cAgg rShp) (cAgg rBat) (cAgg rSty) cBool fun s b x => if namesOk s ∧ styOk x then some true else none
set_option maxHeartbeats 8000000 in
theorem ok7 : ∀ ds d, s7 ds = some d → PureC Try.prog 7 ds d := ok_sp3 fun s b x r hr => by
  split at hr
  · rename_i hc
    cases hr
    obtain ⟨hs, hx⟩ := hc
    refine pure_of_call (mkCx_ok depd 102 kp7 []) Try.func7 rfl rfl (Nat.le_of_ble_eq_true rfl) (by kernel_rfl) ?_
    rw [Try.results7]
    by_cases h1 : validE s [b] = 0
    · have h2 : (chk s).2.2 = 0 := by
        unfold validE at h1
        by_cases h : (chk s).2.2 = 0
        · exact h
        · rw [if_neg h] at h1; exact h1
      have h3 : batErr s b = 0 := by
        unfold validE at h1
        rw [if_pos h2, batsE_one] at h1; exact h1
      have hg := good_of_chk h2
      have hn0 := hg.n0
      have hx' := hx
      obtain ⟨⟨x1, x2⟩, _⟩ := hx'
      have hne : ¬ (s.cols.length : Int) = 0 := by omega
      have hne' : ¬ s.cols = [] := fun h => by rw [h] at hn0; simp at hn0
      have w1 := wrapS x.before x1 (by omega)
      obtain ⟨B, hBe⟩ : ∃ B : Nat, x.before.tmod s.cols.length = B := ⟨(x.before.tmod s.cols.length).toNat, by rw [Int.toNat_of_nonneg]; rw [Int.tmod_eq_emod_of_nonneg x1]; exact Int.emod_nonneg _ hne⟩
      have hB : B < s.cols.length := by
        have := Int.emod_lt_of_pos x.before (show (0 : Int) < s.cols.length by omega)
        rw [Int.tmod_eq_emod_of_nonneg x1] at hBe
        omega
      have hop : openErr s [b] [(B : Int)] = 0 := by
        have ho : outB 0 ((s.cols.length : Int) - 1) [(B : Int)] = false := (outB_one _ _ _).2 ⟨by omega, by omega⟩
        rw [openErr_eq]
        unfold colE
        simp [h2, ho, batsE_one, h3]
      have hcan : canOk s B b := ⟨h2, h3, by omega, by omega⟩
      have hlen : s.cols.length < 1000000 := by have := hg.n1; omega
      have hgd : s.cols.getD B default = s.cols[B] := getD_at _ _ _ hB
      rcases needs_cases s B b with ⟨hn, hcs⟩ | ⟨k, hk, hn, hcs, hless⟩
      · have hr1 : rinsesR s B b = (0, 9) := by
          unfold rinsesR
          rw [if_neg (by simpa using hop), Int.toNat_natCast, if_pos (by omega)]
        have hmb := most_bd hg hB 3 (by omega)
        obtain ⟨q1, q2, q3⟩ := powR_eq s.keep.hi (by have := hg.k0; have := hg.k1; omega) hg.k2 3 (by omega)
        rw [canShow_most] at hcs
        unfold mostV at hmb hcs
        rw [hgd] at hmb hcs
        have w2 := wrap_small (s.cols[B].stay.hi * s.keep.hi ^ 3) (by omega) (by omega)
        simp [kp7, pd, pc, sAwake, s36, s37, s38, s39, sRinses, rShp_enc, rShp_dec, rSty_enc, rSty_decX, rBat_enc, rBat_dec, bats1d, rCol_enc, hs, hx, h1, hne, hne', w1, hBe, hB, hr1, hcan, q1, w2, hmb, hcs, hlen]
      · have hr1 : rinsesR s B b = ((k : Int), 0) := by
          unfold rinsesR
          rw [if_neg (by simpa using hop), Int.toNat_natCast, if_neg (by omega), hn]
        have hsl := shown_left hg hB b x k hcs
        have hlv := leftV_bd hg hB x k
        have hlv2 : leftV s B x k ≤ 1000000000000 := Int.le_trans hlv.2 (by have := (pow1000 k hk).2; omega)
        have hk1 : ¬ (k : Int) < 0 := by omega
        have hk2 : ¬ (3 : Int) < k := by omega
        have hk3 : (k : Int) ≤ 3 := by omega
        have w3 := wrap_small ((k : Int) - 1) (by omega) (by omega)
        by_cases hk0 : k = 0
        · subst hk0
          have hmb := most_bd hg hB 0 (by omega)
          unfold mostV at hmb
          rw [hgd] at hmb
          have w2 := wrap_small (s.cols[B].stay.hi) (by simp at hmb; omega) (by simp at hmb; omega)
          have wM : IntKind.i64.wrap (-1) = -1 := by decide
          simp [kp7, pd, pc, sAwake, s36, s37, s38, s39, powR, sRinses, rShp_enc, rShp_dec, rSty_enc, rSty_decX, rBat_enc, rBat_dec, bats1d, rCol_enc, hs, hx, h1, h2, hne, hne', w1, hBe, hB, hr1, hcan, w2, w3, wM, hsl, hlv.1, hlv2, hlen]
        · have hcs2 := hless (by omega)
          obtain ⟨j, rfl⟩ : ∃ j, k = j + 1 := ⟨k - 1, by omega⟩
          have e1 : ((j + 1 : Nat) : Int) - 1 = (j : Int) := by omega
          rw [e1] at w3
          have hmb := most_bd hg hB j (by omega)
          obtain ⟨q1, q2, q3⟩ := powR_eq s.keep.hi (by have := hg.k0; have := hg.k1; omega) hg.k2 j (by omega)
          rw [show j + 1 - 1 = j from rfl, canShow_most] at hcs2
          unfold mostV at hmb hcs2
          rw [hgd] at hmb hcs2
          have w2 := wrap_small (s.cols[B].stay.hi * s.keep.hi ^ j) (by omega) (by omega)
          have hj0 : ¬ (j : Int) < 0 := by omega
          have hj3 : (j : Int) ≤ 3 := by omega
          have hj9 : (j : Int) < 100 := by omega
          have hmx2 : (if 0 < j then (j : Int) else 0) = j := by split <;> omega
          have hmx : (if (0 : Int) < j then (j : Int) else 0) = j := by split <;> omega
          generalize hK : ((j + 1 : Nat) : Int) = K at *
          have hKn : K.toNat = j + 1 := by omega
          have hK0 : 0 ≤ K := by omega
          have hK9 : ¬ K = 9 := by omega
          simp [kp7, pd, pc, sAwake, s36, s37, s38, s39, sRinses, rShp_enc, rShp_dec, rSty_enc, rSty_decX, rBat_enc, rBat_dec, bats1d, rCol_enc, hs, hx, h1, h2, hne, hne', w1, hBe, hB, hr1, hcan, q1, w2, w3, e1, hsl, hlv.1, hlv2, hmb, hcs2, hk1, hk2, hk3, hj0, hj3, hj9, hmx, hmx2, hKn, hK0, hK9, hlen]
    · have h1' : (validE s [b] == 0) = false := by simpa using h1
      have h1'' : (validE s [b] != 0) = true := by simpa using h1
      have hr1 : rinsesR s 0 b = (0, validE s [b]) := by
        unfold rinsesR
        rw [valid_open, if_pos h1]
      simp [kp7, pd, pc, sAwake, s36, sRinses, rShp_enc, rShp_dec, rSty_enc, rSty_decX, rBat_enc, rBat_dec, bats1d, hs, h1, h1', h1'', hr1]
  · cases hr
end Go.Proofs.Ytpkjmnfgpbliaaa
