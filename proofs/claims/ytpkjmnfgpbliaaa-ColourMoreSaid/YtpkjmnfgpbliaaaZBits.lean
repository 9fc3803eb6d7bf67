/-
  Bits of small numbers as the walk spells them. No program here.
-/
import Derived.Test.YtpkjmnfgpbliaaaZColA
namespace Go.Proofs.Ytpkjmnfgpbliaaa
open Go.RowKit
set_option linter.unusedSimpArgs false
set_option linter.unusedVariables false

theorem odd_sub (a k : Nat) (h : a % 2 = 1) : (a - 1).testBit k = (a.testBit k && !decide (k = 0)) := by
  obtain ⟨c, rfl⟩ : ∃ c, a = 2 * c + 1 := ⟨a / 2, by omega⟩
  cases k with
  | zero => simp
  | succ k =>
    rw [Nat.testBit_succ, Nat.testBit_succ, show 2 * c + 1 - 1 = 2 * c from by omega, show 2 * c / 2 = c from by omega, show (2 * c + 1) / 2 = c from by omega]
    simp
theorem testBit_sub_pow (lf i j : Nat) (h : lf.testBit i = true) : (lf - 2 ^ i).testBit j = (lf.testBit j && !decide (i = j)) := by
  have ho : lf / 2 ^ i % 2 = 1 := by
    rw [Nat.testBit_eq_decide_div_mod_eq] at h; simpa using h
  have hd := Nat.div_add_mod lf (2 ^ i)
  have hb : lf % 2 ^ i < 2 ^ i := Nat.mod_lt _ (Nat.two_pow_pos i)
  generalize lf / 2 ^ i = a at *
  generalize lf % 2 ^ i = b at *
  subst hd
  have e : 2 ^ i * a + b - 2 ^ i = 2 ^ i * (a - 1) + b := by
    obtain ⟨c, rfl⟩ : ∃ c, a = c + 1 := ⟨a - 1, by omega⟩
    rw [Nat.mul_add]; simp; omega
  rw [e, Nat.testBit_two_pow_mul_add _ hb, Nat.testBit_two_pow_mul_add _ hb]
  by_cases hj : j < i
  · have : ¬ i = j := by omega
    simp [hj, this]
  · rw [if_neg hj, if_neg hj, odd_sub _ _ ho]
    congr 2
    have : (j - i = 0) = (i = j) := by simp only [eq_iff_iff]; omega
    simp only [this]

theorem i64_small (n : Nat) (h : n < 9223372036854775808) : IntKind.i64.wrap (n : Int) = n := IntWalk.i64_in _ (by omega)
theorem i64_and (x y : Nat) (hx : x < 9223372036854775808) (hy : y < 9223372036854775808) : bits .and .i64 (x : Int) (y : Int) = ((x &&& y : Nat) : Int) := by
  have h1 : x &&& y < 9223372036854775808 := Nat.lt_of_le_of_lt Nat.and_le_left hx
  have e : bits .and .i64 (x : Int) (y : Int) = IntKind.i64.wrap ((BitVec.ofNat 64 x &&& BitVec.ofNat 64 y).toNat : Int) := rfl
  rw [e, BitVec.toNat_and, BitVec.toNat_ofNat, BitVec.toNat_ofNat, Nat.mod_eq_of_lt (by omega), Nat.mod_eq_of_lt (by omega)]
  exact i64_small _ h1
theorem and_one (x i : Nat) : x / 2 ^ i &&& 1 = if x.testBit i = true then 1 else 0 := by
  rw [Nat.and_one_is_mod, ← Nat.shiftRight_eq_div_pow]
  simp only [Nat.testBit, Nat.and_comm 1, Nat.and_one_is_mod]
  have := Nat.mod_two_eq_zero_or_one (x >>> i)
  rcases this with h | h <;> rw [h] <;> simp
/-- 'x >> i & 1' -/
theorem bit_at (x i : Nat) (hx : x < 9223372036854775808) : bits .and .i64 ((x : Int) / 2 ^ i) 1 = if x.testBit i = true then 1 else 0 := by
  have e : ((x : Int) / 2 ^ i) = ((x / 2 ^ i : Nat) : Int) := by push_cast; rfl
  have h := i64_and (x / 2 ^ i) 1 (Nat.lt_of_le_of_lt (Nat.div_le_self _ _) hx) (by omega)
  rw [e, show (1 : Int) = ((1 : Nat) : Int) from rfl, h, and_one]
  split <;> rfl
theorem i64_andNot (x y : Nat) (hx : x < 9223372036854775808) (hy : y < 9223372036854775808) : ∃ z : Nat, bits .andNot .i64 (x : Int) (y : Int) = (z : Int) ∧ ∀ j, z.testBit j = (x.testBit j && !y.testBit j) := by
  refine ⟨x &&& (2 ^ 64 - (y + 1)), ?_, ?_⟩
  · have h1 : x &&& (2 ^ 64 - (y + 1)) < 9223372036854775808 := Nat.lt_of_le_of_lt Nat.and_le_left hx
    have e : bits .andNot .i64 (x : Int) (y : Int) = IntKind.i64.wrap ((BitVec.ofNat 64 x &&& ~~~BitVec.ofNat 64 y).toNat : Int) := rfl
    rw [e, BitVec.toNat_and, BitVec.toNat_not, BitVec.toNat_ofNat, BitVec.toNat_ofNat, Nat.mod_eq_of_lt (by omega), Nat.mod_eq_of_lt (by omega), show 2 ^ 64 - 1 - y = 2 ^ 64 - (y + 1) from by omega]
    exact i64_small _ h1
  · intro j
    rw [Nat.testBit_and, Nat.testBit_two_pow_sub_succ (by omega)]
    by_cases hj : j < 64
    · simp [hj]
    · have : x.testBit j = false := Nat.testBit_lt_two_pow (Nat.lt_of_lt_of_le (Nat.lt_trans hx (by decide)) (Nat.pow_le_pow_right (n := 2) (by decide) (show 64 ≤ j by omega)))
      simp [this]
/-- 'x &^ (1 << i)', the bit being set -/
theorem bit_off (x i : Nat) (hx : x < 9223372036854775808) (hi : i < 62) (h : x.testBit i = true) : bits .andNot .i64 (x : Int) ((2 : Int) ^ i) = ((x - 2 ^ i : Nat) : Int) := by
  have hp : 2 ^ i < 9223372036854775808 := Nat.lt_of_le_of_lt (Nat.pow_le_pow_right (n := 2) (by decide) (show i ≤ 62 by omega)) (by decide)
  obtain ⟨z, hz, hb⟩ := i64_andNot x (2 ^ i) hx hp
  have e : ((2 : Int) ^ i) = ((2 ^ i : Nat) : Int) := by push_cast; rfl
  rw [e, hz]
  congr 1
  apply Nat.eq_of_testBit_eq
  intro j
  rw [hb, testBit_sub_pow _ _ _ h, Nat.testBit_two_pow]
/-- 'all &^ set' -/
theorem all_but (n x : Nat) (hn : n < 62) (hx : x < 2 ^ n) : bits .andNot .i64 ((2 ^ n - 1 : Nat) : Int) (x : Int) = ((2 ^ n - 1 - x : Nat) : Int) := by
  have hp : 2 ^ n < 9223372036854775808 := Nat.lt_of_le_of_lt (Nat.pow_le_pow_right (n := 2) (by decide) (show n ≤ 62 by omega)) (by decide)
  obtain ⟨z, hz, hb⟩ := i64_andNot (2 ^ n - 1) x (by omega) (by omega)
  rw [hz]
  congr 1
  apply Nat.eq_of_testBit_eq
  intro j
  rw [hb, show 2 ^ n - 1 - x = 2 ^ n - (x + 1) from by omega, Nat.testBit_two_pow_sub_succ hx, Nat.testBit_two_pow_sub_one]
end Go.Proofs.Ytpkjmnfgpbliaaa
