/-
  colour.rinsed, (*shop).shows, (*shop).rinses, colour.Rinses: what they return. Conditions: a valid shop in memory, numbers in range.
-/
import Derived.Test.YtpkjmnfgpbliaaaZColB
import Derived.Deep.QuietTactic
import Derived.BigQuiet
namespace Go.Proofs.Ytpkjmnfgpbliaaa
open Go.RowKit
set_option linter.unusedSimpArgs false
set_option linter.unusedVariables false

theorem rinsed_any (n keep : Int) (r : Nat) (w : World) (h0 : 0 ≤ n) (h1 : n ≤ 1000000000) (k0 : 0 ≤ keep) (k1 : keep ≤ 1000) (r1 : r ≤ 3) :
    Calls Try.prog 56 #[.int .i64 n, .int .i64 keep, .int .i64 r] w fun e w' => e = .returned (.int .i64 (n * keep ^ r)) ∧ w = w' := by
  go_enter Try.func56, Try.ntmps56
  go_wp2
  go_loop [0, 8] (fun m i => ∃ k : Nat, k ≤ r ∧ i = .int .i64 k ∧ m = .int .i64 (n * keep ^ k)) (fun _ i => r - (intOf i).toNat)
  case atStart => exact ⟨0, by omega, by simp, by simp⟩
  case round =>
    obtain ⟨k, hk, rfl, rfl⟩ := hrel
    by_cases hlt : k < r
    · have hb := pow_bd n keep h0 h1 k0 k1 (k + 1) (by omega)
      have hs : n * keep ^ (k + 1) = n * keep ^ k * keep := by grind
      rw [hs] at hb
      have HS := Lib.hid hs
      clear hs
      go_wp2
      go_round
      case rel => exact ⟨k + 1, by omega, by go_num, by rw [HS.out]⟩
      case measure => simp [intOf]; omega
    · go_wp2
      go_ret
      obtain rfl : k = r := by omega
      exact ⟨rfl, rfl⟩

theorem rinsed_q (n keep : Int) (r : Nat) (w : World) (h0 : 0 ≤ n) (h1 : n ≤ 1000000000) (k0 : 0 ≤ keep) (k1 : keep ≤ 1000) (r1 : r ≤ 3) :
    Calls Try.prog 56 #[.int .i64 n, .int .i64 keep, .int .i64 r] w fun e w' => e = .returned (.int .i64 (n * keep ^ r)) ∧ w' = w :=
  (rinsed_any n keep r w h0 h1 k0 k1 r1).mono fun _ _ ⟨a, b⟩ => ⟨a, b.symm⟩

set_option maxHeartbeats 4000000 in
theorem shows_any (s : Shp) (P M : Nat) (sl lv : Value) (bf bc r : Nat) (g : Int) (w : World) (hS : ShopAt w P M sl lv s) (hc : IsCols w sl s.cols) (hg : Good s) (hbf : bf < s.cols.length) (hbc : bc < s.cols.length) (g0 : 1 ≤ g) (g1 : g ≤ 100000) (hr : r ≤ 3) :
    Calls Try.prog 65 #[.pointer (some ⟨P, 0, none⟩), .int .i64 bf, .agg #[.int .i64 bc, .int .i64 g], .int .i64 r] w fun e w' => e = .returned (.bool (canShow s bf ⟨bc, g⟩ r)) ∧ Below w.heap.size w w' := by
  obtain ⟨W0, eW, y0, y1, hbW, hsz⟩ := box2 w (.int .i64 bc) (.int .i64 g) 28
  have hwlt : w.heap.size < W0.heap.size := by omega
  replace hS := hS.below hbW
  replace hc := hc.below hbW
  have H_hbW := Lib.hid hbW; clear hbW; have H_hsz := Lib.hid hsz; clear hsz
  obtain ⟨a, c, rfl, hlc⟩ := hc.form
  obtain ⟨b, off, sv, rfl, hbb, hsv, hnm, d0, d1, d2, d3⟩ := hc.at bf hbf
  obtain ⟨sa, sc, rfl, _⟩ := hsv.form
  have hsh := hg.sh bf hbf
  have hvv := hg.sv bf bc hbf hbc
  have hst := hg.st bf hbf
  have hkk := hg.k2
  have hk0 : 0 ≤ s.keep.hi := by have := hg.k0; have := hg.k1; omega
  simp only [getD_at _ _ _ hbf] at hsh hvv hst
  obtain ⟨vb, vo, rfl, hvb, e0⟩ := hsv.at bc (by omega)
  simp only [getD_at _ _ _ (show bc < s.cols[bf].shows.length by omega)] at hvv
  have hcan : canShow s bf ⟨bc, g⟩ r = (!decide ((bf : Int) = bc) && decide (g * s.cols[bf].shows[bc] * 1000 ^ r < 1000 * s.cols[bf].stay.hi * s.keep.hi ^ r)) := by
    simp only [canShow, Int.toNat_natCast, getD_at _ _ _ hbf, getD_at _ _ _ (show bc < s.cols[bf].shows.length by omega)]
  have HC := Lib.hid hcan; clear hcan
  have hl := hc.len
  have hm1 : 0 ≤ g * s.cols[bf].shows[bc] ∧ g * s.cols[bf].shows[bc] ≤ 100000 * 1000 := ⟨Int.mul_nonneg (by omega) hvv.1, Int.mul_le_mul g1 hvv.2 hvv.1 (by omega)⟩
  obtain ⟨x0, x1, x2, x3, x4, x5, xlt, xm⟩ := hS
  have hbs : bc < s.cols[bf].shows.length := by omega
  clear hsv hc hg
  have HSH := Lib.hid hsh
  generalize s.cols[bf].shows[bc] = q at *
  generalize s.cols[bf].shows.length = m at *
  generalize s.cols[bf].stay.hi = hi at *
  generalize s.cols[bf].stay.lo = lo at *
  generalize s.cols[bf].name = nm at *
  clear hsh
  have hlv : IntKind.i64.wrap (g * q) = g * q := IntWalk.i64_in _ (by omega)
  have hh1 : IntKind.i64.wrap (1000 * hi) = 1000 * hi := IntWalk.i64_in _ (by omega)
  have hb1 := pow_bd (1000 * hi) s.keep.hi (by omega) (by omega) hk0 hkk r hr
  have hb2 := pow_bd (g * q) 1000 (by omega) (by omega) (by omega) (by omega) r hr
  obtain ⟨W1, eW1, u0, u1, u2, u3, hbW1, hsz1⟩ := box4 W0 (.string nm) (.int .i64 lo) (.int .i64 hi) (.slice (some ⟨vb, vo, none⟩) m sc) 67
  have y0' := (hbW1.cell (p := ⟨w.heap.size, 0, none⟩) hwlt).trans y0
  have y1' := (hbW1.cell (p := ⟨w.heap.size, 1, none⟩) hwlt).trans y1
  have e0' := (hbW1.cell (p := ⟨vb, vo + bc, none⟩) hvb).trans e0
  have x2' := (hbW1.cell (p := ⟨P, 2, none⟩) xlt).trans x2
  have hbn : (bc : Int) < (m : Int) := by omega
  have hbn0 : (0 : Int) ≤ (bc : Int) := by omega
  have H_hbW1 := Lib.hid hbW1; clear hbW1; have H_hsz1 := Lib.hid hsz1; clear hsz1
  by_cases hne : (bf : Int) = bc
  · have hneq : ((bf : Int) != (bc : Int)) = false := by simpa using hne
    have H_hne := Lib.hid hne; clear hne
    go_enter Try.func65, Try.ntmps65
    go_wp2_with fail
    go_quiet (fail)
    go_wp2_with fail
    go_quiet (fail)
    go_wp2_with fail
    go_ret
    exact ⟨by rw [HC.out]; simp [H_hne.out], (H_hbW.out.trans (H_hbW1.out.mono H_hbW.out.size)).trans ⟨rfl, rfl, rfl, by simp, fun _ _ => by simp⟩⟩
  · have hneq : ((bf : Int) != (bc : Int)) = true := by simpa using hne
    go_enter Try.func65, Try.ntmps65
    go_wp2_with fail
    go_quiet (fail)
    go_wp2_with fail
    have v0 : (W1.drewN nq).cell? ⟨w.heap.size, 0, none⟩ = some (.int .i64 bc) := y0'
    have v2 : (W1.drewN nq).cell? ⟨W0.heap.size, 2, none⟩ = some (.int .i64 hi) := u2
    have v3 : (W1.drewN nq).cell? ⟨P, 2, none⟩ = some (.int .i64 s.keep.hi) := x2'
    have hb2 : Below w.heap.size w (W1.drewN nq) := (H_hbW.out.trans (H_hbW1.out.mono H_hbW.out.size)).trans ⟨rfl, rfl, rfl, by simp, fun _ _ => by simp⟩
    generalize W1.drewN nq = W2 at *
    have H_hb2 := Lib.hid hb2; clear hb2
    go_quiet (first | (go_at_call 56; go_must (refine Calls.quiet_of_same (rinsed_q _ _ r _ ?_ ?_ ?_ ?_ hr) <;> omega)))
    go_wp2_with fail
    go_ret
    exact ⟨by rw [HC.out]; simp [hne], H_hb2.out.trans ⟨rfl, rfl, rfl, by simp, fun _ _ => by simp⟩⟩
end Go.Proofs.Ytpkjmnfgpbliaaa
