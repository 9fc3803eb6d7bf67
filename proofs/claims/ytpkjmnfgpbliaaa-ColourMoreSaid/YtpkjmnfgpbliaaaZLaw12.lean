/-
  The law of what is left (ColourLeft): it returns true. Conditions: none.
-/
import Derived.Test.YtpkjmnfgpbliaaaZAwake
namespace Go.Proofs.Ytpkjmnfgpbliaaa
open Go.RowKit
set_option linter.unusedSimpArgs false
set_option linter.unusedVariables false

theorem leftV_lo {s : Shp} (hg : Good s) {bf : Nat} (hb : bf < s.cols.length) (x : Sty) : ∀ k, (s.cols.getD bf default).stay.lo * s.keep.lo ^ k ≤ leftV s bf x k
  | 0 => by
    have h := hg.st bf hb
    have := among_bd (s := (s.cols.getD bf default).stay) (n := x.stay) h.2.1
    rw [leftV, Int.pow_zero, Int.mul_one]; omega
  | k + 1 => by
    have ih := leftV_lo hg hb x k
    have hp := (leftV_bd hg hb x k).1
    have := among_bd (s := s.keep) (n := keepOf x k) hg.k1
    rw [leftV, Int.pow_succ, ← Int.mul_assoc]
    have k0 := hg.k0
    exact Int.mul_le_mul ih this.1 k0 hp
theorem leftV_hi {s : Shp} (hg : Good s) {bf : Nat} (hb : bf < s.cols.length) (x : Sty) : ∀ k, leftV s bf x k ≤ (s.cols.getD bf default).stay.hi * s.keep.hi ^ k
  | 0 => by
    have h := hg.st bf hb
    have := among_bd (s := (s.cols.getD bf default).stay) (n := x.stay) h.2.1
    rw [leftV, Int.pow_zero, Int.mul_one]; omega
  | k + 1 => by
    have ih := leftV_hi hg hb x k
    have hp := (leftV_bd hg hb x k).1
    have := among_bd (s := s.keep) (n := keepOf x k) hg.k1
    have k0 := hg.k0
    rw [leftV, Int.pow_succ, ← Int.mul_assoc]
    exact Int.mul_le_mul ih this.2 (by omega) (Int.le_trans hp ih)
theorem div_lo (L B : Int) (hB : 0 < B) : L / B * B ≤ L := Int.ediv_mul_le L (by omega)
theorem div_hi (H B : Int) (hB : 0 < B) : H ≤ (H + B - 1) / B * B := by
  have h := Int.lt_ediv_add_one_mul_self (H + B - 1) hB
  rw [Int.add_mul] at h
  omega
theorem div_hi2 (H B : Int) (hB : 0 < B) : (H + B - 1) / B * B ≤ H + B - 1 := Int.ediv_mul_le _ (by omega)
theorem more_lo (L B k : Int) (hL : 0 ≤ L) (hB : 0 < B) (h0 : 0 ≤ k) (h1 : k ≤ 1000) : L * k / (B * 1000) ≤ L / B := by
  have e : L * 1000 / (B * 1000) = L / B := Int.mul_ediv_mul_of_pos_left _ _ (by omega)
  rw [← e]
  exact Int.ediv_le_ediv (by omega) (Int.mul_le_mul_of_nonneg_left h1 hL)
theorem more_hi (H B k : Int) (hH : 0 ≤ H) (hB : 0 < B) (h0 : 0 ≤ k) (h1 : k ≤ 1000) : (H * k + B * 1000 - 1) / (B * 1000) ≤ (H + B - 1) / B := by
  have hq := div_hi H B hB
  generalize (H + B - 1) / B = q at *
  have h2 : H * k ≤ H * 1000 := Int.mul_le_mul_of_nonneg_left h1 hH
  have h3 : H * 1000 ≤ q * B * 1000 := Int.mul_le_mul_of_nonneg_right hq (by omega)
  have h4 : (H * k + B * 1000 - 1) / (B * 1000) < q + 1 := by
    apply Int.ediv_lt_of_lt_mul (by omega)
    rw [Int.add_mul, ← Int.mul_assoc]
    omega
  omega
structure LeftLaw (s : Shp) (x : Sty) (B R : Nat) (lo hi : Int) : Prop where
  l0 : 0 ≤ lo
  l1 : lo * 1000 ^ R ≤ 1000 * leftV s B x R
  h0 : 1000 * leftV s B x R ≤ hi * 1000 ^ R
  h1 : hi * 1000 ^ R ≤ 2000000000000000
theorem leftR_ok {s : Shp} (hc : (chk s).2.2 = 0) {B R : Nat} (hB : B < s.cols.length) (hR : R ≤ 3) : leftR s B R = (⟨1000 * (s.cols.getD B default).stay.lo * s.keep.lo ^ R / 1000 ^ R, (1000 * (s.cols.getD B default).stay.hi * s.keep.hi ^ R + 1000 ^ R - 1) / 1000 ^ R⟩, 0) := by
  have ho : openErr s [] [(B : Int)] = 0 := by
    unfold openErr
    rw [if_neg (by simpa using hc), if_neg (by rw [(outB_one _ _ _).2 ⟨by omega, by omega⟩]; simp), if_neg (by simp)]
    rfl
  unfold leftR
  rw [if_neg (by simpa using ho), if_neg (by rw [(outB_one _ _ _).2 ⟨by omega, by omega⟩]; simp)]
  simp only [Int.toNat_natCast]
theorem leftR_bad {s : Shp} (hc : ¬ (chk s).2.2 = 0) : leftR s 0 0 = (⟨0, 0⟩, (chk s).2.2) := by
  have ho : openErr s [] [0] = (chk s).2.2 := by unfold openErr; rw [if_pos hc]
  unfold leftR
  rw [if_pos (by rw [ho]; exact hc), ho]
theorem pow1000 (R : Nat) (hR : R ≤ 3) : (0 : Int) < 1000 ^ R ∧ (1000 : Int) ^ R ≤ 1000000000 := by
  have h3 : R = 0 ∨ R = 1 ∨ R = 2 ∨ R = 3 := by omega
  rcases h3 with e | e | e | e <;> subst e <;> decide
theorem left_law {s : Shp} (hc : (chk s).2.2 = 0) {B R : Nat} (hB : B < s.cols.length) (hR : R ≤ 3) (x : Sty) : LeftLaw s x B R (leftR s B R).1.lo (leftR s B R).1.hi := by
  have hg := good_of_chk hc
  have hst := hg.st B hB
  have h1 := leftV_lo hg hB x R
  have h2 := leftV_hi hg hB x R
  obtain ⟨hP, hP2⟩ := pow1000 R hR
  obtain ⟨_, l0, l1⟩ := powR_eq s.keep.lo hg.k0 (by have := hg.k1; have := hg.k2; omega) R hR
  obtain ⟨_, g0, g1⟩ := powR_eq s.keep.hi (by have := hg.k0; have := hg.k1; omega) hg.k2 R hR
  rw [leftR_ok hc hB hR]
  dsimp only
  have e1 : 1000 * (s.cols.getD B default).stay.lo * s.keep.lo ^ R = 1000 * ((s.cols.getD B default).stay.lo * s.keep.lo ^ R) := Int.mul_assoc _ _ _
  have e2 : 1000 * (s.cols.getD B default).stay.hi * s.keep.hi ^ R = 1000 * ((s.cols.getD B default).stay.hi * s.keep.hi ^ R) := Int.mul_assoc _ _ _
  have n1 : 0 ≤ (s.cols.getD B default).stay.lo * s.keep.lo ^ R := Int.mul_nonneg hst.1 l0
  have n2 : (s.cols.getD B default).stay.hi * s.keep.hi ^ R ≤ 1000 * 1000000000 := Int.mul_le_mul hst.2.2 g1 g0 (by omega)
  rw [e1, e2]
  generalize (s.cols.getD B default).stay.lo * s.keep.lo ^ R = L at *
  generalize (s.cols.getD B default).stay.hi * s.keep.hi ^ R = H at *
  have d1 := div_lo (1000 * L) (1000 ^ R) hP
  have d2 := div_hi (1000 * H) (1000 ^ R) hP
  have d3 := div_hi2 (1000 * H) (1000 ^ R) hP
  exact ⟨Int.ediv_nonneg (by omega) (by omega), by omega, by omega, by omega⟩
theorem left_more {s : Shp} (hc : (chk s).2.2 = 0) {B R : Nat} (hB : B < s.cols.length) (hR : R ≤ 2) : (leftR s B ((R : Int) + 1)).1.lo ≤ (leftR s B R).1.lo ∧ (leftR s B ((R : Int) + 1)).1.hi ≤ (leftR s B R).1.hi ∧ (leftR s B ((R : Int) + 1)).2 = 0 := by
  have hg := good_of_chk hc
  have hst := hg.st B hB
  have k0 := hg.k0
  have k1 := hg.k1
  have k2 := hg.k2
  obtain ⟨hP, hP2⟩ := pow1000 R (by omega)
  obtain ⟨_, l0, l1⟩ := powR_eq s.keep.lo hg.k0 (by omega) R (by omega)
  obtain ⟨_, g0, g1⟩ := powR_eq s.keep.hi (by omega) hg.k2 R (by omega)
  have e : ((R : Int) + 1) = ((R + 1 : Nat) : Int) := by push_cast; rfl
  rw [e, leftR_ok hc hB (show R ≤ 3 by omega), leftR_ok hc hB (show R + 1 ≤ 3 by omega)]
  dsimp only
  rw [Int.pow_succ, Int.pow_succ, Int.pow_succ, ← Int.mul_assoc, ← Int.mul_assoc]
  exact ⟨more_lo _ _ _ (Int.mul_nonneg (by omega) l0) hP (by omega) (by omega), more_hi _ _ _ (Int.mul_nonneg (by omega) g0) hP (by omega) (by omega), rfl⟩
def kp12 (r : Nat) : List (Nat × Option Nat) := match r with
  | 0 => [(2, none), (3, none)]
  | 1 => [(2, none), (3, none), (7, none)]
  | 2 => [(2, none), (3, none), (7, none), (25, none)]
  | 3 => [(7, none), (8, none), (9, none)]
  | 4 => [(4, none)]
  | 5 => [(2, none), (3, none), (10, none), (11, none)]
  | 6 => [(2, none), (3, none), (10, none), (11, none), (12, none), (13, none)]
  | 7 => [(2, none), (10, none), (11, none), (12, none), (13, none), (14, none), (15, none)]
  | 8 => [(2, none), (10, none), (11, none), (12, none), (90, none)]
  | 9 => [(4, none)]
  | 10 => [(2, none), (10, none), (11, none), (12, none), (92, none)]
  | 11 => [(4, none)]
  | 12 => [(12, none), (16, none), (17, none)]
  | 13 => [(4, none)]
  | _ => []
theorem call21c (xs : Array Value) (w : World) : (callFunc 21 xs).run Try.prog w = .ok (.enter 21 xs) w := by kernel_rfl
theorem call16' (xs : Array Value) (w : World) : (callFunc 16 xs).run Try.prog w = .ok (.enter 16 xs) w := by kernel_rfl
theorem call38' (xs : Array Value) (w : World) : (callFunc 38 xs).run Try.prog w = .ok (.enter 38 xs) w := by kernel_rfl
theorem call39' (xs : Array Value) (w : World) : (callFunc 39 xs).run Try.prog w = .ok (.enter 39 xs) w := by kernel_rfl
def pc : List (Nat × (List D → Option D)) := (21, sAwake) :: (16, s16) :: (38, s38) :: (39, s39) :: (17, sLeft) :: o2
theorem depc : DelOk Try.prog (delOf pc) := del_cons (del_cons (del_cons (del_cons (del_cons deo2 call17 okLeft) call39' ok39) call38' ok38) call16' ok16) call21c ok21
theorem rSty_decX (x : Sty) : rSty.dec [.v (.int .u8 x.before), .v (.int .u16 x.stay), .v (.int .u16 x.k0), .v (.int .u16 x.k1), .v (.int .u16 x.k2), .v (.int .u8 x.rinses)] = some x := rSty.de x
theorem wrapS (x : Int) (h0 : 0 ≤ x) (h1 : x ≤ 65535) : IntKind.i64.wrap x = x := wrap_small x (by omega) (by omega)
def s12 : List D → Option D := sp2 (cAgg rShp) (cAgg rSty) cBool fun s x => if namesOk s ∧ styOk x then some true else none
set_option maxHeartbeats 4000000 in
theorem ok12 : ∀ ds d, s12 ds = some d → PureC Try.prog 12 ds d := ok_sp2 fun s x r hr => by
  split at hr
  · rename_i hc
    cases hr
    obtain ⟨hs, hx⟩ := hc
    refine pure_of_call (mkCx_ok depc 121 kp12 []) Try.func12 rfl rfl (Nat.le_of_ble_eq_true rfl) (by kernel_rfl) ?_
    rw [Try.results12]
    by_cases h1 : (chk s).2.2 = 0
    · have hg := good_of_chk h1
      have hn0 := hg.n0
      have hx' := hx
      obtain ⟨⟨x1, x2⟩, ⟨x3, x4⟩, ⟨x5, x6⟩, ⟨x7, x8⟩, ⟨x9, x10⟩, x11, x12⟩ := hx'
      have hne : ¬ (s.cols.length : Int) = 0 := by omega
      have hne' : ¬ s.cols = [] := fun h => by rw [h] at hn0; simp at hn0
      have w1 := wrapS x.before x1 (by omega)
      have w2 := wrapS x.rinses x11 (by omega)
      obtain ⟨B, hBe⟩ : ∃ B : Nat, x.before.tmod s.cols.length = B := ⟨(x.before.tmod s.cols.length).toNat, by rw [Int.toNat_of_nonneg]; rw [Int.tmod_eq_emod_of_nonneg x1]; exact Int.emod_nonneg _ hne⟩
      have hB : B < s.cols.length := by
        have := Int.emod_lt_of_pos x.before (show (0 : Int) < s.cols.length by omega)
        rw [Int.tmod_eq_emod_of_nonneg x1] at hBe
        omega
      obtain ⟨R, hRe⟩ : ∃ B : Nat, x.rinses.tmod 4 = B := ⟨(x.rinses.tmod 4).toNat, by rw [Int.toNat_of_nonneg]; rw [Int.tmod_eq_emod_of_nonneg x11]; omega⟩
      have hR : R ≤ 3 := by rw [Int.tmod_eq_emod_of_nonneg x11] at hRe; omega
      have hl := left_law h1 hB hR x
      have hz : (leftR s B R).2 = 0 := by rw [leftR_ok h1 hB hR]
      obtain ⟨hP, hP2⟩ := pow1000 R hR
      obtain ⟨q1, _, _⟩ := powR_eq 1000 (by omega) (by omega) R hR
      have hv := (leftV_bd hg hB x R).1
      have hv2 : leftV s B x R ≤ 1000 * 1000000000 := Int.le_trans (leftV_bd hg hB x R).2 (Int.mul_le_mul_of_nonneg_left hP2 (by omega))
      have c1 : ¬ (leftR s B R).1.lo < 0 := by have := hl.l0; omega
      have c2 : ¬ 1000 * leftV s B x R < (leftR s B R).1.lo * 1000 ^ R := by have := hl.l1; omega
      have c3 : ¬ (leftR s B R).1.hi * 1000 ^ R < 1000 * leftV s B x R := by have := hl.h0; omega
      have w3 := wrap_small (1000 * leftV s B x R) (by omega) (by omega)
      have w4 := wrap_small ((leftR s B R).1.lo * 1000 ^ R) (by have := Int.mul_nonneg hl.l0 (by omega : (0 : Int) ≤ 1000 ^ R); omega) (by have := hl.l1; omega)
      have w5 := wrap_small ((leftR s B R).1.hi * 1000 ^ R) (by have := hl.h0; omega) (by have := hl.h1; omega)
      have hR9 : (R : Int) < 100 := by omega
      have hR3 : (R : Int) ≤ 3 := by omega
      have w6 := wrap_small ((R : Int) + 1) (by omega) (by omega)
      have hlen : s.cols.length < 1000000 := by have := hg.n1; omega
      by_cases h3 : R = 3
      · have h3b : ((R : Int) == 3) = true := by rw [h3]; rfl
        simp [kp12, pc, sAwake, s16, s38, s39, sLeft, rShp_enc, rShp_dec, rSty_enc, rSpn_enc, rSty_decX, hs, hx, h1, hne, hne', w1, w2, hBe, hRe, hB, hR3, hR9, hz, q1, c1, c2, c3, w3, w4, w5, w6, h3b, hlen]
      · obtain ⟨m1, m2, m3⟩ := left_more h1 hB (show R ≤ 2 by omega)
        have h3' : ¬ (R : Int) = 3 := by omega
        have h3b : ((R : Int) == 3) = false := by simpa using h3'
        simp [kp12, pc, sAwake, s16, s38, s39, sLeft, rShp_enc, rShp_dec, rSty_enc, rSpn_enc, rSty_decX, hs, hx, h1, hne, hne', w1, w2, hBe, hRe, hB, hR3, hR9, hz, q1, c1, c2, c3, w3, w4, w5, w6, h3', h3b, m1, m2, m3, hlen]
    · have h1' : ((chk s).2.2 == 0) = false := by simpa using h1
      have h1'' : ((chk s).2.2 != 0) = true := by simpa using h1
      have hbad := leftR_bad h1
      simp [kp12, pc, sAwake, s16, sLeft, rShp_enc, rShp_dec, rSty_enc, rSpn_enc, rSty_decX, hs, h1, h1', h1'', hbad]
  · cases hr
end Go.Proofs.Ytpkjmnfgpbliaaa
