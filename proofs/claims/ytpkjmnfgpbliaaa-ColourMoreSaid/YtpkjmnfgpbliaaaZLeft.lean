/-
  colour.Left: what it returns. Conditions: the value reads as a shop.
-/
import Derived.Test.YtpkjmnfgpbliaaaZRinses
namespace Go.Proofs.Ytpkjmnfgpbliaaa
open Go.RowKit
set_option linter.unusedSimpArgs false
set_option linter.unusedVariables false

theorem nilList {α : Type} {n : Nat} {R : World → List Value → α → Prop} (w : World) : IsList n R w (.slice none 0 0) ([] : List α) := ⟨by simp, none, 0, by simp, rfl, .inl rfl⟩

theorem pow_pos3 (r : Nat) (h : r ≤ 3) : 1 ≤ (1000 : Int) ^ r ∧ (1000 : Int) ^ r ≤ 1000000000 := by
  have h3 : r = 0 ∨ r = 1 ∨ r = 2 ∨ r = 3 := by omega
  rcases h3 with e | e | e | e <;> subst e <;> decide

/-- What Left returns. -/
def leftR (s : Shp) (colour rinses : Int) : Spn × Int :=
  if ¬ openErr s [] [colour] = 0 then (⟨0, 0⟩, openErr s [] [colour]) else if outB 0 3 [rinses] then (⟨0, 0⟩, 7) else
    (⟨1000 * (s.cols.getD colour.toNat default).stay.lo * s.keep.lo ^ rinses.toNat / 1000 ^ rinses.toNat,
      (1000 * (s.cols.getD colour.toNat default).stay.hi * s.keep.hi ^ rinses.toNat + 1000 ^ rinses.toNat - 1) / 1000 ^ rinses.toNat⟩, 0)
def tupS (x : Spn × Int) : Value := .tuple #[.agg #[.int .i64 x.1.lo, .int .i64 x.1.hi], .int .i64 x.2]

set_option maxHeartbeats 4000000 in
theorem Left_any (v : Value) (s : Shp) (colour rinses : Int) (w : World) (h : IsShop w v s) :
    Calls Try.prog 17 #[v, .int .i64 colour, .int .i64 rinses] w fun e w' => e = .returned (tupS (leftR s colour rinses)) ∧ Below w.heap.size w w' := by
  obtain ⟨sl, rfl, hc⟩ := h
  obtain ⟨a, c, rfl, _⟩ := hc.form
  have hlen := hc.len
  obtain ⟨W0, eW, x0, x1, x2, x3, hbW, hsz⟩ := box4 w (.slice a s.cols.length c) (.int .i64 s.keep.lo) (.int .i64 s.keep.hi) (.int .i64 s.rinse) 26
  obtain ⟨W1, eW1, y0, y1, hbW1, hsz1⟩ := box2 W0 (.int .i64 0) (.int .i64 0) 24
  obtain ⟨W2, eW2, hI, hb2⟩ := boxInt W1 colour 3
  have hW0 : w.heap.size < W0.heap.size := by omega
  have hW1 : W0.heap.size < W1.heap.size := by omega
  have f1 : W1.frozen? ⟨W0.heap.size, 0, none⟩ = false := by rw [← eW1]; simp
  have f2 : W1.frozen? ⟨W0.heap.size, 1, none⟩ = false := by rw [← eW1]; simp
  obtain ⟨x0, x1, x2, x3, hlt1⟩ := keep4 hbW1 hW0 x0 x1 x2 x3
  have hb02 : Below w.heap.size w W2 := (hbW.trans (hbW1.mono hbW.size)).trans (hb2.mono (by have := hbW.size; have := hbW1.size; omega))
  have z0 := (hb2.cell (p := ⟨W0.heap.size, 0, none⟩) hW1).trans y0
  have z1 := (hb2.cell (p := ⟨W0.heap.size, 1, none⟩) hW1).trans y1
  have g1 := (hb2.frozen (p := ⟨W0.heap.size, 0, none⟩) hW1).trans f1
  have g2 := (hb2.frozen (p := ⟨W0.heap.size, 1, none⟩) hW1).trans f2
  have hlt2 : W0.heap.size < W2.heap.size := by have := hb2.size; omega
  have hc2 := hc.below hb02
  have hwW : w.heap.size ≤ W0.heap.size := by omega
  have H_hbW := Lib.hid hbW; clear hbW; have H_hsz := Lib.hid hsz; clear hsz; have H_hbW1 := Lib.hid hbW1; clear hbW1; have H_hsz1 := Lib.hid hsz1; clear hsz1; have H_hc := Lib.hid hc; clear hc; have H_hb2 := Lib.hid hb2; clear hb2; have H_hb02 := Lib.hid hb02; clear hb02; have H_hI := Lib.hid hI; clear hI; have H_hc2 := Lib.hid hc2; clear hc2
  go_enter Try.func17, Try.ntmps17
  go_wp2_with fail
  refine (open_any _ _ _ s [] [colour] (.slice a s.cols.length c) W2 H_hc2.out rfl (nilList _) H_hI.out).mono ?_
  rintro e W3 ⟨hb3, ⟨he, rfl⟩ | ⟨he, P, M, rfl, hS, hM, _⟩⟩
  · have hr : leftR s colour rinses = (⟨0, 0⟩, openErr s [] [colour]) := by rw [leftR, if_pos he]
    generalize openErr s [] [colour] = x at *
    have hx : (x == 0) = false := by simpa using he
    have v0 := (hb3.cell (p := ⟨W0.heap.size, 0, none⟩) hlt2).trans z0
    have v1 := (hb3.cell (p := ⟨W0.heap.size, 1, none⟩) hlt2).trans z1
    have w1 := (hb3.frozen (p := ⟨W0.heap.size, 0, none⟩) hlt2).trans g1
    have w2 := (hb3.frozen (p := ⟨W0.heap.size, 1, none⟩) hlt2).trans g2
    have hb03 := H_hb02.out.trans (hb3.mono H_hb02.out.size)
    have H_hr := Lib.hid hr; clear hr; have H_he := Lib.hid he; clear he; have H_hb3 := Lib.hid hb3; clear hb3; have H_hb03 := Lib.hid hb03; clear hb03
    go_wp2_with fail
    refine bodyPost_ret (v := .tuple #[.agg #[.int .i64 0, .int .i64 0], .int .i64 x]) (by simp [results, Try.results17, go_sem, v0, v1]) rfl ⟨by rw [H_hr.out]; rfl, ?_⟩
    exact (H_hb03.out.setCell (p := ⟨W0.heap.size, 0, none⟩) hwW _).setCell (p := ⟨W0.heap.size, 1, none⟩) hwW _
  · obtain ⟨hg, ho, _, _⟩ := openErr_zero he
    have ho := (outB_one _ _ _).1 ho
    obtain ⟨bf, rfl⟩ := Int.eq_ofNat_of_zero_le ho.1
    have hbf : bf < s.cols.length := by omega
    have v0 := (hb3.cell (p := ⟨W0.heap.size, 0, none⟩) hlt2).trans z0
    have v1 := (hb3.cell (p := ⟨W0.heap.size, 1, none⟩) hlt2).trans z1
    have w1 := (hb3.frozen (p := ⟨W0.heap.size, 0, none⟩) hlt2).trans g1
    have w2 := (hb3.frozen (p := ⟨W0.heap.size, 1, none⟩) hlt2).trans g2
    have hb03 := H_hb02.out.trans (hb3.mono H_hb02.out.size)
    have hc3 := H_hc2.out.below hb3
    have hr : leftR s bf rinses = if outB 0 3 [rinses] then (⟨0, 0⟩, 7) else
      (⟨1000 * (s.cols.getD bf default).stay.lo * s.keep.lo ^ rinses.toNat / 1000 ^ rinses.toNat,
      (1000 * (s.cols.getD bf default).stay.hi * s.keep.hi ^ rinses.toNat + 1000 ^ rinses.toNat - 1) / 1000 ^ rinses.toNat⟩, 0) := by
      simp only [leftR, he, Int.toNat_natCast]; simp
    have hlt3 : W0.heap.size < W3.heap.size := by have := hb3.size; omega
    have H_hr := Lib.hid hr; clear hr; have H_he := Lib.hid he; clear he; have H_hb3 := Lib.hid hb3; clear hb3; have H_hb03 := Lib.hid hb03; clear hb03
    go_wp2_with fail
    refine (outOne _ _ _ W3 rfl).mono ?_
    rintro e W4 ⟨rfl, hb4⟩
    have hc4 := hc3.below hb4
    have hS4 := hS.below hb4
    have hb04 := H_hb03.out.trans (hb4.mono H_hb03.out.size)
    have u0 := (hb4.cell (p := ⟨W0.heap.size, 0, none⟩) hlt3).trans v0
    have u1 := (hb4.cell (p := ⟨W0.heap.size, 1, none⟩) hlt3).trans v1
    have n1 := (hb4.frozen (p := ⟨W0.heap.size, 0, none⟩) hlt3).trans w1
    have n2 := (hb4.frozen (p := ⟨W0.heap.size, 1, none⟩) hlt3).trans w2
    have H_hb4 := Lib.hid hb4; clear hb4; have H_hb04 := Lib.hid hb04; clear hb04; have H_hc3 := Lib.hid hc3; clear hc3; have H_hS := Lib.hid hS; clear hS
    clear v0 v1 w1 w2 z0 z1 g1 g2 y0 y1 f1 f2 x0 x1 x2 x3
    by_cases ht : outB 0 3 [rinses] = true
    · go_wp2_with fail
      refine bodyPost_ret (v := .tuple #[.agg #[.int .i64 0, .int .i64 0], .int .i64 7]) (by simp [results, Try.results17, go_sem, u0, u1]) rfl ⟨by rw [H_hr.out, if_pos ht]; rfl, ?_⟩
      exact (H_hb04.out.setCell (p := ⟨W0.heap.size, 0, none⟩) hwW _).setCell (p := ⟨W0.heap.size, 1, none⟩) hwW _
    · have ht : outB 0 3 [rinses] = false := by simpa using ht
      have hrr := (outB_one _ _ _).1 ht
      obtain ⟨r, rfl⟩ := Int.eq_ofNat_of_zero_le hrr.1
      have hr3 : r ≤ 3 := by omega
      obtain ⟨b, off, sv, rfl, hbb, hsv, hnm, d0, d1, d2, d3⟩ := hc4.at bf hbf
      have hst := hg.st bf hbf
      simp only [getD_at _ _ _ hbf] at hst
      have hres : leftR s bf r = (⟨1000 * s.cols[bf].stay.lo * s.keep.lo ^ r / 1000 ^ r, (1000 * s.cols[bf].stay.hi * s.keep.hi ^ r + 1000 ^ r - 1) / 1000 ^ r⟩, 0) := by
        rw [H_hr.out, if_neg (by simp [ht])]; simp only [getD_at _ _ _ hbf, Int.toNat_natCast]
      obtain ⟨q0, q1, q2, q3, q4, q5, qlt, qM⟩ := hS4
      have hk0 := hg.k0
      have hk1 := hg.k1
      have hk2 := hg.k2
      generalize s.cols[bf].stay.hi = hi at *
      generalize s.cols[bf].stay.lo = lo at *
      have hbfi : (bf : Int) < (s.cols.length : Int) := by omega
      have hbf0 : (0 : Int) ≤ (bf : Int) := by omega
      have hlt4 : W0.heap.size < W4.heap.size := lt_of_cell u0
      clear hc4 hsv hg hrr ho d0 d3
      have hh0 : IntKind.i64.wrap (1000 * lo) = 1000 * lo := IntWalk.i64_in _ (by omega)
      have hh1 : IntKind.i64.wrap (1000 * hi) = 1000 * hi := IntWalk.i64_in _ (by omega)
      obtain ⟨W5, eW5, a0, a1, a2, a3, o0, o1, m1, m2, hlt5, hlt45, hb5⟩ : ∃ W5, (W4.alloc (.cells #[.int .i64 lo, .int .i64 hi] 24)).drew = W5 ∧ W5.cell? ⟨W4.heap.size, 0, none⟩ = some (.int .i64 lo) ∧ W5.cell? ⟨W4.heap.size, 1, none⟩ = some (.int .i64 hi) ∧
          W5.cell? ⟨P, 1, none⟩ = some (.int .i64 s.keep.lo) ∧ W5.cell? ⟨P, 2, none⟩ = some (.int .i64 s.keep.hi) ∧ W5.cell? ⟨W0.heap.size, 0, none⟩ = some (.int .i64 0) ∧ W5.cell? ⟨W0.heap.size, 1, none⟩ = some (.int .i64 0) ∧
          W5.frozen? ⟨W0.heap.size, 0, none⟩ = false ∧ W5.frozen? ⟨W0.heap.size, 1, none⟩ = false ∧ W0.heap.size < W5.heap.size ∧ P < W5.heap.size ∧ Below W4.heap.size W4 W5 :=
        ⟨_, rfl, by simp, by simp, allocO q1 _, allocO q2 _, allocO u0 _, allocO u1 _, allocF hlt4 n1 _, allocF hlt4 n2 _, by simp; omega, by simp; omega, ((Below.refl _ _).alloc (Nat.le_refl _) _).drew⟩
      have s0 := (hb5.cell (p := ⟨P, 0, none⟩) qlt).trans q0
      have s1 := (hb5.cell (p := ⟨b, off + bf * 4 + 1, none⟩) hbb).trans d1
      have s2 := (hb5.cell (p := ⟨b, off + bf * 4 + 2, none⟩) hbb).trans d2
      have hb05 := H_hb04.out.trans (hb5.mono H_hb04.out.size)
      have H_hres := Lib.hid hres; clear hres; have H_hb5 := Lib.hid hb5; clear hb5; have H_hb05 := Lib.hid hb05; clear hb05
      go_wp2_with fail
      go_region_held3 (fun w' => w'.cell? ⟨P, 0, none⟩ = some (.slice (some ⟨b, off, none⟩) s.cols.length c) ∧ w'.cell? ⟨b, off + bf * 4 + 1, none⟩ = some (.int .i64 lo) ∧ w'.cell? ⟨b, off + bf * 4 + 2, none⟩ = some (.int .i64 hi)) (first | go_keep) (first | (go_at_call 56; refine (rinsed_any _ _ r _ (by omega) (by omega) (by omega) (by omega) hr3).mono ?_; rintro e w' ⟨rfl, rfl⟩))
      all_goals go_wp2_with fail
      all_goals clear eW5
      all_goals go_quiet (first | (go_at_call 56; go_must (refine Calls.quiet_of_same (rinsed_q _ _ r _ ?_ ?_ ?_ ?_ hr3) <;> omega)))
      all_goals go_wp2_with fail
      all_goals
        have pA := pow_bd (1000 * lo) s.keep.lo (by omega) (by omega) (by omega) (by omega) r hr3
        have pC := pow_bd (1000 * hi) s.keep.hi (by omega) (by omega) (by omega) (by omega) r hr3
        have pD := pow_pos3 r hr3
        generalize 1000 * lo * s.keep.lo ^ r = A at *
        generalize 1000 * hi * s.keep.hi ^ r = C at *
        generalize (1000 : Int) ^ r = D at *
        have hbq : Below w.heap.size w (W5.drewN nq) := H_hb05.out.trans ⟨rfl, rfl, rfl, by simp, fun _ _ => by simp⟩
        have t0 : (W5.drewN nq).cell? ⟨W0.heap.size, 0, none⟩ = some (.int .i64 0) := o0
        have t1 : (W5.drewN nq).cell? ⟨W0.heap.size, 1, none⟩ = some (.int .i64 0) := o1
        have t2 : (W5.drewN nq).frozen? ⟨W0.heap.size, 0, none⟩ = false := m1
        have t3 : (W5.drewN nq).frozen? ⟨W0.heap.size, 1, none⟩ = false := m2
        generalize W5.drewN nq = W6 at *
        clear o0 o1 m1 m2 s0 s1 s2 a0 a1 a2 a3 u0 u1 n1 n2 q0 q1 q2 q3 q4 q5 d1 d2
        have H_hbq := Lib.hid hbq; clear hbq
        go_region
        have r0 : (((W6.setCell ⟨W0.heap.size, 0, none⟩ (.int .i64 (A / D))).setCell ⟨W0.heap.size, 1, none⟩ (.int .i64 ((C + D - 1) / D))).drew).cell? ⟨W0.heap.size, 0, none⟩ = some (.int .i64 (A / D)) := (World.cell?_setCell_other _ _ _ _ (by simp)).trans (setS t0)
        have r1 : (((W6.setCell ⟨W0.heap.size, 0, none⟩ (.int .i64 (A / D))).setCell ⟨W0.heap.size, 1, none⟩ (.int .i64 ((C + D - 1) / D))).drew).cell? ⟨W0.heap.size, 1, none⟩ = some (.int .i64 ((C + D - 1) / D)) := setS ((World.cell?_setCell_other _ _ _ _ (by simp)).trans t1)
        have hbf6 := ((H_hbq.out.setCell (p := ⟨W0.heap.size, 0, none⟩) hwW (.int .i64 (A / D))).setCell (p := ⟨W0.heap.size, 1, none⟩) hwW (.int .i64 ((C + D - 1) / D))).drew
        generalize ((W6.setCell ⟨W0.heap.size, 0, none⟩ (.int .i64 (A / D))).setCell ⟨W0.heap.size, 1, none⟩ (.int .i64 ((C + D - 1) / D))).drew = W7 at *
        have H_hbf6 := Lib.hid hbf6; clear hbf6
        go_wp2_with fail
        refine bodyPost_ret (v := .tuple #[.agg #[.int .i64 (A / D), .int .i64 ((C + D - 1) / D)], .int .i64 0]) (by simp [results, Try.results17, go_sem, r0, r1]) rfl ⟨by rw [H_hres.out]; rfl, H_hbf6.out⟩
end Go.Proofs.Ytpkjmnfgpbliaaa
