/-
  (*shop).rinses, colour.Rinses, colour.Left: what they return. Conditions: the values read as a shop, a batch and numbers.
-/
import Derived.Test.YtpkjmnfgpbliaaaZShows
namespace Go.Proofs.Ytpkjmnfgpbliaaa
open Go.RowKit
set_option linter.unusedSimpArgs false
set_option linter.unusedVariables false

theorem needs_at (s : Shp) (bf : Nat) (b : Bat) (k : Nat) (hk : k ≤ 3) (h : ∀ j, j < k → canShow s bf b j = true) (hn : canShow s bf b k = false) : needs s bf b = k := by
  have h3 : k = 0 ∨ k = 1 ∨ k = 2 ∨ k = 3 := by omega
  rcases h3 with e | e | e | e <;> subst e
  · simp [needs, hn]
  · simp [needs, hn, h 0 (by omega)]
  · simp [needs, hn, h 0 (by omega), h 1 (by omega)]
  · simp [needs, hn, h 0 (by omega), h 1 (by omega), h 2 (by omega)]
theorem needs_none (s : Shp) (bf : Nat) (b : Bat) (h : ∀ j, j < 4 → canShow s bf b j = true) : needs s bf b = -1 := by
  simp [needs, h 0 (by omega), h 1 (by omega), h 2 (by omega), h 3 (by omega)]
theorem needs_range (s : Shp) (bf : Nat) (b : Bat) : -1 ≤ needs s bf b ∧ needs s bf b ≤ 3 := by
  unfold needs; split <;> (try split) <;> (try split) <;> (try split) <;> omega

set_option maxHeartbeats 4000000 in
theorem rinses_any (s : Shp) (P M : Nat) (sl lv : Value) (bf bc : Nat) (g : Int) (w : World) (hS : ShopAt w P M sl lv s) (hc : IsCols w sl s.cols) (hg : Good s) (hbf : bf < s.cols.length) (hbc : bc < s.cols.length) (g0 : 1 ≤ g) (g1 : g ≤ 100000) :
    Calls Try.prog 58 #[.pointer (some ⟨P, 0, none⟩), .int .i64 bf, .agg #[.int .i64 bc, .int .i64 g]] w fun e w' => e = .returned (.int .i64 (needs s bf ⟨bc, g⟩)) ∧ Below w.heap.size w w' := by
  obtain ⟨W0, eW, y0, y1, hbW, hsz⟩ := box2 w (.int .i64 bc) (.int .i64 g) 28
  have hwlt : w.heap.size < W0.heap.size := by omega
  replace hS := hS.below hbW
  replace hc := hc.below hbW
  have H_hbW := Lib.hid hbW; clear hbW; have H_hsz := Lib.hid hsz; clear hsz
  go_enter Try.func58, Try.ntmps58
  go_wp2_with fail
  clear eW
  go_loopw [8] (fun i wr => ∃ k : Nat, k ≤ 4 ∧ i = .int .i64 k ∧ (∀ j, j < k → canShow s bf ⟨bc, g⟩ j = true) ∧ Below W0.heap.size W0 wr) (fun i _ => 4 - (intOf i).toNat)
  case atStart => exact ⟨0, by omega, rfl, fun j h => by omega, Below.refl _ _⟩
  case round =>
    obtain ⟨k, hk, rfl, hall, hbr⟩ := hrel
    by_cases hlt : k < 4
    · have z0 := (hbr.cell (p := ⟨w.heap.size, 0, none⟩) hwlt).trans y0
      have z1 := (hbr.cell (p := ⟨w.heap.size, 1, none⟩) hwlt).trans y1
      have hSr := hS.below hbr
      have hcr := hc.below hbr
      have H_hall := Lib.hid hall; clear hall; have H_hbr := Lib.hid hbr; clear hbr
      go_wp2_with fail
      refine (shows_any s P M sl lv bf bc k g wr hSr hcr hg hbf hbc g0 g1 (by omega)).mono ?_
      rintro e w1 ⟨rfl, hb1⟩
      have hb1' := H_hbr.out.trans (hb1.mono H_hbr.out.size)
      by_cases hcs : canShow s bf ⟨bc, g⟩ k = true
      · have hall' : ∀ j, j < k + 1 → canShow s bf ⟨bc, g⟩ j = true := fun j hj => by
          by_cases e : j = k
          · subst e; exact hcs
          · exact H_hall.out j (by omega)
        have H_hall' := Lib.hid hall'; clear hall'; have H_hb1' := Lib.hid hb1'; clear hb1'; have H_hb1 := Lib.hid hb1; clear hb1
        go_wp2
        go_roundw
        case rel => exact ⟨k + 1, by omega, by go_num, H_hall'.out, H_hb1'.out⟩
        case measure => simp [intOf]; omega
      · have hcs : canShow s bf ⟨bc, g⟩ k = false := by simpa using hcs
        have hn := needs_at s bf ⟨bc, g⟩ k (by omega) H_hall.out hcs
        have H_hn := Lib.hid hn; clear hn; have H_hb1' := Lib.hid hb1'; clear hb1'; have H_hb1 := Lib.hid hb1; clear hb1
        go_wp2
        go_ret
        exact ⟨ret_int H_hn.out.symm, H_hbW.out.trans (H_hb1'.out.mono H_hbW.out.size)⟩
    · obtain rfl : k = 4 := by omega
      have hn := needs_none s bf ⟨bc, g⟩ hall
      have H_hn := Lib.hid hn; clear hn; have H_hall := Lib.hid hall; clear hall; have H_hbr := Lib.hid hbr; clear hbr
      go_wp2
      go_ret
      exact ⟨ret_int H_hn.out.symm, H_hbW.out.trans (H_hbr.out.mono H_hbW.out.size)⟩

theorem openErr_zero {s : Shp} {l : List Bat} {st : List Int} (h : openErr s l st = 0) : Good s ∧ outB 0 ((s.cols.length : Int) - 1) st = false ∧ l.length ≤ 7 ∧ batsErr s l = 0 := by
  unfold openErr at h
  by_cases h1 : (chk s).2.2 = 0
  · rw [if_neg (by simpa using h1)] at h
    by_cases h2 : outB 0 ((s.cols.length : Int) - 1) st = true
    · rw [if_pos h2] at h; omega
    rw [if_neg h2] at h
    by_cases h3 : 7 < l.length
    · rw [if_pos h3] at h; omega
    rw [if_neg h3] at h
    exact ⟨good_of_chk h1, by simpa using h2, by omega, h⟩
  · rw [if_pos h1] at h; omega

theorem bats1 (w : World) (b : Bat) (T : TypeId) {H : Nat} (h : w.heap.size = H) : IsBats (w.alloc (.cells #[.int .i64 b.c, .int .i64 b.g] T)) (.slice (some ⟨H, 0, none⟩) 1 1) [b] := by
  subst h
  refine ⟨by simp, _, 1, by simp, rfl, .inr ⟨w.heap.size, 0, rfl, by simp, fun j hj => ?_⟩⟩
  obtain rfl : j = 0 := by simpa using hj
  refine ⟨[.int .i64 b.c, .int .i64 b.g], rfl, rfl, fun i hi => ?_⟩
  have h2 : i = 0 ∨ i = 1 := by simp at hi; omega
  rcases h2 with rfl | rfl <;> simp

theorem boxBat (w : World) (b : Bat) (T : TypeId) : ∃ W, w.alloc (.cells #[.int .i64 b.c, .int .i64 b.g] T) = W ∧ IsBats W (.slice (some ⟨w.heap.size, 0, none⟩) 1 1) [b] ∧ Below w.heap.size w W :=
  ⟨_, rfl, bats1 w b T rfl, (Below.refl _ _).alloc (Nat.le_refl _) _⟩
theorem boxInt (w : World) (x : Int) (T : TypeId) : ∃ W, w.alloc (.cells #[.int .i64 x] T) = W ∧ IsInts W (.slice (some ⟨w.heap.size, 0, none⟩) 1 1) [x] ∧ Below w.heap.size w W :=
  ⟨_, rfl, ints1 w x T rfl, (Below.refl _ _).alloc (Nat.le_refl _) _⟩

/-- What Rinses returns. -/
def rinsesR (s : Shp) (before : Int) (b : Bat) : Int × Int :=
  if ¬ openErr s [b] [before] = 0 then (0, openErr s [b] [before]) else if needs s before.toNat b < 0 then (0, 9) else (needs s before.toNat b, 0)
def tup2 (x : Int × Int) : Value := .tuple #[.int .i64 x.1, .int .i64 x.2]

set_option maxHeartbeats 4000000 in
theorem Rinses_any (v : Value) (s : Shp) (before : Int) (b : Bat) (w : World) (h : IsShop w v s) :
    Calls Try.prog 19 #[v, .int .i64 before, .agg #[.int .i64 b.c, .int .i64 b.g]] w fun e w' => e = .returned (tup2 (rinsesR s before b)) ∧ Below w.heap.size w w' := by
  obtain ⟨sl, rfl, hc⟩ := h
  obtain ⟨a, c, rfl, _⟩ := hc.form
  obtain ⟨W0, eW, x0, x1, x2, x3, hbW, hsz⟩ := box4 w (.slice a s.cols.length c) (.int .i64 s.keep.lo) (.int .i64 s.keep.hi) (.int .i64 s.rinse) 26
  obtain ⟨W1, eW1, y0, y1, hbW1, hsz1⟩ := box2 W0 (.int .i64 b.c) (.int .i64 b.g) 28
  obtain ⟨W2, eW2, hbs, hb2⟩ := boxBat W1 b 28
  obtain ⟨W3, eW3, hI, hb3⟩ := boxInt W2 before 3
  have hW0 : w.heap.size < W0.heap.size := by omega
  have hW1 : W0.heap.size < W1.heap.size := by omega
  obtain ⟨x0, x1, x2, x3, _⟩ := keep4 hbW1 hW0 x0 x1 x2 x3
  have hb13 := hb2.trans (hb3.mono hb2.size)
  have hb03 : Below w.heap.size w W3 := (hbW.trans (hbW1.mono hbW.size)).trans (hb13.mono (by have := hbW.size; have := hbW1.size; omega))
  have z0 := (hb2.cell (p := ⟨W0.heap.size, 0, none⟩) hW1).trans y0
  have z1 := (hb2.cell (p := ⟨W0.heap.size, 1, none⟩) hW1).trans y1
  have z0' := (hb13.cell (p := ⟨W0.heap.size, 0, none⟩) hW1).trans y0
  have z1' := (hb13.cell (p := ⟨W0.heap.size, 1, none⟩) hW1).trans y1
  have hlt3 : W0.heap.size < W3.heap.size := by have := hb13.size; omega
  have hc3 := hc.below hb03
  have hbs3 := hbs.below hb3
  have H_hbW := Lib.hid hbW; clear hbW; have H_hsz := Lib.hid hsz; clear hsz; have H_hbW1 := Lib.hid hbW1; clear hbW1; have H_hsz1 := Lib.hid hsz1; clear hsz1; have H_hc := Lib.hid hc; clear hc; have H_hb2 := Lib.hid hb2; clear hb2; have H_hb3 := Lib.hid hb3; clear hb3; have H_hb13 := Lib.hid hb13; clear hb13; have H_hb03 := Lib.hid hb03; clear hb03; have H_hbs := Lib.hid hbs; clear hbs; have H_hbs3 := Lib.hid hbs3; clear hbs3; have H_hI := Lib.hid hI; clear hI; have H_hc3 := Lib.hid hc3; clear hc3
  go_enter Try.func19, Try.ntmps19
  go_wp2_with fail
  refine (open_any _ _ _ s [b] [before] (.slice a s.cols.length c) W3 H_hc3.out rfl H_hbs3.out H_hI.out).mono ?_
  rintro e W4 ⟨hb4, ⟨he, rfl⟩ | ⟨he, P, M, rfl, hS, hM, _⟩⟩
  · have hr : rinsesR s before b = (0, openErr s [b] [before]) := by rw [rinsesR, if_pos he]
    generalize openErr s [b] [before] = x at *
    have hx : (x == 0) = false := by simpa using he
    have H_hr := Lib.hid hr; clear hr; have H_he := Lib.hid he; clear he
    go_wp2_with fail
    go_ret2
    exact ⟨by rw [H_hr.out]; rfl, H_hb03.out.trans (hb4.mono H_hb03.out.size)⟩
  · obtain ⟨hg, ho, _, hbe⟩ := openErr_zero he
    have ho := (outB_one _ _ _).1 ho
    have hbe := okBat_all hbe 0 (by simp)
    obtain ⟨⟨q1, q2⟩, q3, q4⟩ : okBat s b := hbe
    obtain ⟨bf, rfl⟩ := Int.eq_ofNat_of_zero_le ho.1
    obtain ⟨bc, g⟩ := b
    obtain ⟨bc, rfl⟩ := Int.eq_ofNat_of_zero_le q1
    have v0 := (hb4.cell (p := ⟨W0.heap.size, 0, none⟩) hlt3).trans z0'
    have v1 := (hb4.cell (p := ⟨W0.heap.size, 1, none⟩) hlt3).trans z1'
    have hc4 := H_hc3.out.below hb4
    have hr : rinsesR s bf ⟨bc, g⟩ = if needs s bf ⟨bc, g⟩ < 0 then (0, 9) else (needs s bf ⟨bc, g⟩, 0) := by simp [rinsesR, he]
    have q2' : bc < s.cols.length := by simpa using q2
    have hbf : bf < s.cols.length := by omega
    have q3' : 1 ≤ g := q3
    have q4' : g ≤ 100000 := q4
    have H_hr := Lib.hid hr; clear hr; have H_he := Lib.hid he; clear he; have H_q1 := Lib.hid q1; clear q1; have H_q2 := Lib.hid q2; clear q2; have H_q3 := Lib.hid q3; clear q3; have H_q4 := Lib.hid q4; clear q4
    have hb04 := H_hb03.out.trans (hb4.mono H_hb03.out.size)
    have H_hb4 := Lib.hid hb4; clear hb4; have H_hb04 := Lib.hid hb04; clear hb04
    go_wp2_with fail
    refine (rinses_any s P M _ _ bf bc g W4 hS hc4 hg hbf q2' q3' q4').mono ?_
    rintro e W5 ⟨rfl, hb5⟩
    have hn := needs_range s bf ⟨bc, g⟩
    generalize needs s bf ⟨bc, g⟩ = n at *
    by_cases hn0 : n < 0
    · go_wp2_with fail
      go_ret2
      exact ⟨by rw [H_hr.out, if_pos hn0]; rfl, H_hb04.out.trans (hb5.mono H_hb04.out.size)⟩
    · go_wp2_with fail
      go_ret2
      exact ⟨by rw [H_hr.out, if_neg (by omega)]; rfl, H_hb04.out.trans (hb5.mono H_hb04.out.size)⟩
end Go.Proofs.Ytpkjmnfgpbliaaa
