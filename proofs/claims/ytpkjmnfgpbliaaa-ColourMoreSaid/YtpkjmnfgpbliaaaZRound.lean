/-
  colour.Shows: what it returns. Conditions: the values read as a shop, batches, an order, rinses.
-/
import Derived.Test.YtpkjmnfgpbliaaaZReadR
namespace Go.Proofs.Ytpkjmnfgpbliaaa
open Go.RowKit Go.Shelf
set_option linter.unusedSimpArgs false
set_option linter.unusedVariables false
attribute [local go_sem] Oper.semAt_some

def stepS (s : Shp) (rin : List Int) (st : Int ⊕ (Int × Nat)) (b : Bat) : Int ⊕ (Int × Nat) :=
  match st with
  | .inl i => .inl i
  | .inr (bf, k) => if canShow s bf.toNat b (rin.getD k 0).toNat then .inl k else .inr (b.c, k + 1)
def showI : Int ⊕ (Int × Nat) → Int
  | .inl i => i
  | .inr _ => -1
theorem foldS_inl (s : Shp) (rin : List Int) (i : Int) (l : List Bat) : l.foldl (stepS s rin) (.inl i) = .inl i := by
  induction l with
  | nil => rfl
  | cons b t ih => simpa [stepS] using ih
/-- Where the first colour shows (-1: nowhere). -/
def showAt (s : Shp) (bf : Int) (l : List Bat) (rin : List Int) : Int := showI (l.foldl (stepS s rin) (.inr (bf, 0)))
theorem foldS_bd (s : Shp) (rin : List Int) (bf : Int) (hbf : 0 ≤ bf ∧ bf < s.cols.length) (l : List Bat) (hok : ∀ b ∈ l, okBat s b) {c : Int} {k : Nat} (h : l.foldl (stepS s rin) (.inr (bf, 0)) = .inr (c, k)) :
    k = l.length ∧ 0 ≤ c ∧ c < s.cols.length := by
  have key : ∀ (l : List Bat) (c0 : Int) (k0 : Nat), (∀ b ∈ l, okBat s b) → 0 ≤ c0 → c0 < s.cols.length → ∀ c k, l.foldl (stepS s rin) (.inr (c0, k0)) = .inr (c, k) → k = k0 + l.length ∧ 0 ≤ c ∧ c < s.cols.length := by
    intro l
    induction l with
    | nil => intro c0 k0 _ h2 h3 c k h; simp at h; obtain ⟨rfl, rfl⟩ := h; exact ⟨by simp, h2, h3⟩
    | cons b t ih =>
      intro c0 k0 hok h2 h3 c k h
      simp only [List.foldl_cons, stepS] at h
      by_cases hn : canShow s c0.toNat b (rin.getD k0 0).toNat = true
      · rw [if_pos hn, foldS_inl] at h; cases h
      · rw [if_neg hn] at h
        obtain ⟨⟨q1, q2⟩, _⟩ := hok b (by simp)
        have := ih _ _ (fun b hb => hok b (by simp [hb])) q1 q2 c k h
        exact ⟨by rw [this.1]; simp; omega, this.2⟩
  have := key l bf 0 hok hbf.1 hbf.2 c k h
  simpa using this

/-- What Shows returns. -/
def showsR (s : Shp) (start : Int) (l : List Bat) (ord rin : List Int) : Int × Int :=
  if ¬ openErr s l [start] = 0 then (0, openErr s l [start]) else if ¬ strangeE l.length ord = 0 then (0, strangeE l.length ord) else
    if ¬ rin.length = l.length then (0, 3) else if outB 0 3 rin then (0, 7) else (showAt s start (putL l ord) rin, 0)

theorem box6 (w : World) (v0 v1 v2 v3 u1 u2 u3 u4 : Value) (T T1 T2 T3 T4 : TypeId) : ∃ W1 W2 W3 W4 W5, w.alloc (.cells #[v0, v1, v2, v3] T) = W1 ∧ W1.alloc (.cells #[u1] T1) = W2 ∧ W2.alloc (.cells #[u2] T2) = W3 ∧ W3.alloc (.cells #[u3] T3) = W4 ∧ W4.alloc (.cells #[u4] T4) = W5 ∧
    W1.heap.size = w.heap.size + 1 ∧ W2.heap.size = w.heap.size + 2 ∧ W3.heap.size = w.heap.size + 3 ∧ W4.heap.size = w.heap.size + 4 ∧ W5.heap.size = w.heap.size + 5 ∧
    W5.cell? ⟨w.heap.size, 0, none⟩ = some v0 ∧ W5.cell? ⟨w.heap.size, 1, none⟩ = some v1 ∧ W5.cell? ⟨w.heap.size, 2, none⟩ = some v2 ∧ W5.cell? ⟨w.heap.size, 3, none⟩ = some v3 ∧
    Boxed W5 (w.heap.size + 1) T1 u1 ∧ Boxed W5 (w.heap.size + 2) T2 u2 ∧ Boxed W5 (w.heap.size + 3) T3 u3 ∧ Boxed W5 (w.heap.size + 4) T4 u4 ∧ Below w.heap.size w W5 := by
  obtain ⟨W1, e1, x0, x1, x2, x3, hb, hs⟩ := box4 w v0 v1 v2 v3 T
  have b1 := Boxed.new W1 T1 u1
  have b2 := Boxed.new (W1.alloc (.cells #[u1] T1)) T2 u2
  have b3 := Boxed.new ((W1.alloc (.cells #[u1] T1)).alloc (.cells #[u2] T2)) T3 u3
  have b4 := Boxed.new (((W1.alloc (.cells #[u1] T1)).alloc (.cells #[u2] T2)).alloc (.cells #[u3] T3)) T4 u4
  simp only [World.size_alloc, hs] at b1 b2 b3 b4
  refine ⟨W1, _, _, _, _, e1, rfl, rfl, rfl, rfl, hs, by simp [hs], by simp [hs], by simp [hs], by simp [hs], allocO (allocO (allocO (allocO x0 _) _) _) _, allocO (allocO (allocO (allocO x1 _) _) _) _,
    allocO (allocO (allocO (allocO x2 _) _) _) _, allocO (allocO (allocO (allocO x3 _) _) _) _, ((b1.alloc _).alloc _).alloc _, (b2.alloc _).alloc _, b3.alloc _, b4, ?_⟩
  exact (((hb.alloc (by omega) _).alloc (by simp; omega) _).alloc (by simp; omega) _).alloc (by simp; omega) _

theorem KeepB.grown {D : Nat → Prop} {A X Y : World} {row : Option Nat} (h : KeepB D A X) (hg : X.grownBy Y row) (hDA : ∀ k, D k → k < A.heap.size) (hr : ∀ r, row = some r → ¬ D r) : KeepB D A Y :=
  h.trans ⟨hg.os, hg.tape, hg.output, hg.size, fun k hk => hg.block k (Nat.lt_of_lt_of_le (hDA k hk) h.size) (fun e => hr k e.symm hk)⟩
theorem KeepB.shop {D : Nat → Prop} {A X : World} {P M : Nat} {sl lv : Value} {s : Shp} (h : KeepB D A X) (hS : ShopAt A P M sl lv s) (hP : D P) : ShopAt X P M sl lv s :=
  ⟨(h.cell hP).trans hS.c0, (h.cell hP).trans hS.c1, (h.cell hP).trans hS.c2, (h.cell hP).trans hS.c3, (h.cell hP).trans hS.c4, (h.cell hP).trans hS.c5, Nat.lt_of_lt_of_le hS.lt h.size, hS.ltM⟩
theorem KeepB.boxed {D : Nat → Prop} {A X : World} {B : Nat} {t : TypeId} {v : Value} (h : KeepB D A X) (hb : Boxed A B t v) (hB : D B) : Boxed X B t v := (h.block B hB).trans hb

theorem shows_results {W : World} {tmps : Array Value} {B3 B4 : Nat} {x y : Int} {T3 T4 : TypeId} (h3 : Boxed W B3 T3 (.int .i64 x)) (h4 : Boxed W B4 T4 (.int .i64 y)) (h10 : tmps[10]?.getD undef = .pointer (some ⟨B3, 0, none⟩)) (h11 : tmps[11]?.getD undef = .pointer (some ⟨B4, 0, none⟩)) :
    (results Try.f24 tmps).run Try.prog W = .ok (.tuple #[.int .i64 x, .int .i64 y]) W := by
  simp [results, Try.results24, go_sem, h10, h11, h3.cell, h4.cell]

theorem boxStore (w : World) (v0 v : Value) (T : TypeId) : ∃ W, (w.alloc (.cells #[v0] T)).setCell ⟨w.heap.size, 0, none⟩ v = W ∧ Boxed W w.heap.size T v ∧ Below w.heap.size w W ∧ W.heap.size = w.heap.size + 1 :=
  ⟨_, rfl, (Boxed.new w T v0).set v, ((Below.refl _ _).alloc (Nat.le_refl _) _).setCell (p := ⟨w.heap.size, 0, none⟩) (Nat.le_refl _) _, by simp⟩

set_option maxRecDepth 100000 in
set_option maxHeartbeats 4000000 in
theorem Shows_any (v lv ov rv : Value) (s : Shp) (start : Int) (l : List Bat) (ord rin : List Int) (w : World) (h : IsShop w v s) (hl : IsBats w lv l) (ho : IsInts w ov ord) (hri : IsInts w rv rin) :
    Calls Try.prog 24 #[v, .int .i64 start, lv, ov, rv] w fun e w' => e = .returned (tup2 (showsR s start l ord rin)) ∧ Below w.heap.size w w' := by
  obtain ⟨sl, rfl, hc⟩ := h
  obtain ⟨a, c, rfl, _⟩ := hc.form
  obtain ⟨la, lc, hlv, _⟩ := hl.form
  obtain ⟨oa, oc, hov, _⟩ := ho.form
  obtain ⟨ra, rc, hrv, _⟩ := hri.form
  have hrl := hri.len
  have hll := hl.len
  subst hlv hov hrv
  obtain ⟨W1, W2, W3, W4, W5, eW1, eW2, eW3, eW4, eW5, hs1, hs2, hs3, hs4, hs5, x0, x1, x2, x3, b1, b2, b3, b4, hb⟩ :=
    box6 w (.slice a s.cols.length c) (.int .i64 s.keep.lo) (.int .i64 s.keep.hi) (.int .i64 s.rinse) (.int .i64 start) (.slice ra rin.length rc) (.int .i64 0) (.int .i64 0) 26 3 42 3 31
  obtain ⟨W6, eW6, hI, hb6⟩ := boxInt W5 start 3
  have hb06 : Below w.heap.size w W6 := hb.trans (hb6.mono hb.size)
  have hc6 := hc.below hb06
  have hl6 := hl.below hb06
  have c1 := b1.cell
  have c2 := b2.cell
  have c3 := b3.cell
  have c4 := b4.cell
  have H_hb := Lib.hid hb; clear hb; have H_hb6 := Lib.hid hb6; clear hb6; have H_hb06 := Lib.hid hb06; clear hb06; have H_hI := Lib.hid hI; clear hI; have H_hc6 := Lib.hid hc6; clear hc6; have H_hl6 := Lib.hid hl6; clear hl6; have H_b1 := Lib.hid b1; clear b1; have H_b2 := Lib.hid b2; clear b2; have H_b3 := Lib.hid b3; clear b3; have H_b4 := Lib.hid b4; clear b4; have H_hc := Lib.hid hc; clear hc; have H_hl := Lib.hid hl; clear hl; have H_ho := Lib.hid ho; clear ho; have H_hri := Lib.hid hri; clear hri
  refine (callsIn_wide (n := 10)).1 ?_
  refine callsIn_of_wp_marks Try.func24 rfl trivial ?_ rfl
  simp only [Try.ntmps24, List.size_toArray, List.length_cons, List.length_nil, Nat.reduceAdd, Nat.reduceSub, Array.replicate_succ, Array.replicate_zero, List.push_toArray, List.append_toArray, List.nil_append, List.cons_append]
  gi_wp2_with fail
  refine ⟨trivial, ?_⟩
  rw [← hs5]
  refine (callsIn_wide.2 (open_any _ _ _ s l [start] (.slice a s.cols.length c) W6 H_hc6.out rfl H_hl6.out H_hI.out)).mono ?_
  rintro e W7 ⟨hb7, ⟨he, rfl⟩ | ⟨he, P, M, rfl, hS, hM, hM6⟩⟩
  · have hr : showsR s start l ord rin = (0, openErr s l [start]) := by rw [showsR, if_pos he]
    generalize openErr s l [start] = x at *
    have hx : (x == 0) = false := by simpa using he
    obtain ⟨W8, eW8, b8, hb8, hs8⟩ := boxStore W7 (.pointer none) (.pointer none) 101
    have d3 := boxed_below (boxed_below (boxed_below H_b3.out H_hb6.out) hb7) hb8
    have d4 := boxed_below (boxed_below (boxed_below H_b4.out H_hb6.out) hb7) hb8
    have e3 := d3.cell
    have e4 := d4.cell
    have g3 := d3.frozen
    have g4 := d4.frozen
    have hb08 := H_hb06.out.trans ((hb7.trans (hb8.mono hb7.size)).mono H_hb06.out.size)
    have H_hr := Lib.hid hr; clear hr; have H_he := Lib.hid he; clear he; have H_hb7 := Lib.hid hb7; clear hb7; have H_hb8 := Lib.hid hb8; clear hb8; have H_d3 := Lib.hid d3; clear d3; have H_d4 := Lib.hid d4; clear d4; have H_hb08 := Lib.hid hb08; clear hb08; have H_b8 := Lib.hid b8; clear b8
    gi_wp2_with fail
    refine ⟨_, shows_results ((H_d3.out.set (.int .i64 0)).other (by omega) _) ((H_d4.out.other (by omega) _).set (.int .i64 x)) rfl rfl, by rw [H_hr.out]; rfl, ?_⟩
    exact (H_hb08.out.setCell (p := ⟨w.heap.size + 3, 0, none⟩) (by simp) _).setCell (p := ⟨w.heap.size + 4, 0, none⟩) (by simp) _
  · obtain ⟨hg, hst, hl7, hbe⟩ := openErr_zero he
    have hst := (outB_one _ _ _).1 hst
    have hok := okBat_all hbe
    obtain ⟨bf, rfl⟩ := Int.eq_ofNat_of_zero_le hst.1
    have hbf : bf < s.cols.length := by omega
    have hr : showsR s bf l ord rin = if ¬ strangeE l.length ord = 0 then (0, strangeE l.length ord) else if ¬ rin.length = l.length then (0, 3) else if outB 0 3 rin then (0, 7) else (showAt s bf (putL l ord) rin, 0) := by simp [showsR, he]
    obtain ⟨W8, eW8, b8, hb8, hs8⟩ := boxStore W7 (.pointer none) (.pointer (some ⟨P, 0, none⟩)) 101
    have hb08 := H_hb06.out.trans ((hb7.trans (hb8.mono hb7.size)).mono H_hb06.out.size)
    have e8 := b8.cell
    have hb58 := H_hb6.out.trans ((hb7.trans (hb8.mono hb7.size)).mono H_hb6.out.size)
    have d1 := boxed_below H_b1.out hb58
    have d2 := boxed_below H_b2.out hb58
    have d3 := boxed_below H_b3.out hb58
    have d4 := boxed_below H_b4.out hb58
    have hlt7 : w.heap.size + 5 < W7.heap.size := by have h1 := hb7.size; have h2 : W6.heap.size = W5.heap.size + 1 := by rw [← eW6]; simp
                                                     omega
    have hl8 := H_hl.out.below hb08
    have ho8 := H_ho.out.below hb08
    have hS8 := hS.below hb8
    have hMP := hS.ltM
    have hPl := hS.lt
    have p4 := hS8.c4
    have H_hr := Lib.hid hr; clear hr; have H_he := Lib.hid he; clear he; have H_hb7 := Lib.hid hb7; clear hb7; have H_hb8 := Lib.hid hb8; clear hb8; have H_hb08 := Lib.hid hb08; clear hb08; have H_hb58 := Lib.hid hb58; clear hb58; have H_d1 := Lib.hid d1; clear d1; have H_d2 := Lib.hid d2; clear d2; have H_d3 := Lib.hid d3; clear d3; have H_d4 := Lib.hid d4; clear d4; have H_b8 := Lib.hid b8; clear b8; have H_hok := Lib.hid hok; clear hok; have H_hbe := Lib.hid hbe; clear hbe; have H_hM := Lib.hid hM; clear hM; have H_hg := Lib.hid hg; clear hg; have H_hS := Lib.hid hS; clear hS; have H_hS8 := Lib.hid hS8; clear hS8
    gi_wp2_with fail
    refine ⟨trivial, ?_⟩
    refine (callsIn_wide.2 (strange_any P _ _ l ord W8 hl8 ho8 p4 (by omega))).mono ?_
    rintro e W9 ⟨rfl, hb9⟩
    have e9 := (boxed_below H_b8.out hb9).cell
    have f1 := boxed_below H_d1.out hb9
    have f2 := boxed_below H_d2.out hb9
    have f3 := boxed_below H_d3.out hb9
    have f4 := boxed_below H_d4.out hb9
    have b9 := boxed_below H_b8.out hb9
    have hb09 := H_hb08.out.trans (hb9.mono H_hb08.out.size)
    have q3 := f3.cell
    have q4 := f4.cell
    have r3 := f3.frozen
    have r4 := f4.frozen
    by_cases hs : strangeE l.length ord = 0
    · rw [if_neg (by simpa using hs)] at H_hr
      obtain ⟨hol, hoo, _⟩ := strange_zero hs
      rw [hs]
      have hv := ord_range hoo
      have q2 := f2.cell
      have ho9 := ho8.below hb9
      have hr9 := H_hri.out.below hb09
      by_cases hrl2 : rin.length = l.length
      · rw [if_neg (by simpa using hrl2)] at H_hr
        rw [hrl2] at hr9 f2 q2 ⊢
        have H_hb9 := Lib.hid hb9; clear hb9; have H_hb09 := Lib.hid hb09; clear hb09; have H_hs := Lib.hid hs; clear hs; have H_f1 := Lib.hid f1; clear f1; have H_f2 := Lib.hid f2; clear f2; have H_f3 := Lib.hid f3; clear f3; have H_f4 := Lib.hid f4; clear f4; have H_b9 := Lib.hid b9; clear b9; have H_hol := Lib.hid hol; clear hol; have H_hoo := Lib.hid hoo; clear hoo; have H_hv := Lib.hid hv; clear hv; have H_ho9 := Lib.hid ho9; clear ho9; have H_hl8 := Lib.hid hl8; clear hl8; have H_ho8 := Lib.hid ho8; clear ho8
        gi_wp2_with fail
        refine ⟨trivial, ?_⟩
        refine (callsIn_wide.2 (out_any 0 3 _ rin W9 hr9)).mono ?_
        rintro e W10 ⟨rfl, hb10⟩
        have g1 := boxed_below H_f1.out hb10
        have g2 := boxed_below H_f2.out hb10
        have g3 := boxed_below H_f3.out hb10
        have g4 := boxed_below H_f4.out hb10
        have bA := boxed_below H_b9.out hb10
        have t1 := g1.cell
        have t2 := g2.cell
        have t3 := g3.cell
        have t4 := g4.cell
        have tA := bA.cell
        have u3 := g3.frozen
        have u4 := g4.frozen
        have hb010 := H_hb09.out.trans (hb10.mono H_hb09.out.size)
        by_cases ht : outB 0 3 rin = true
        · rw [if_pos ht] at H_hr
          have H_hb10 := Lib.hid hb10; clear hb10; have H_hb010 := Lib.hid hb010; clear hb010; have H_g1 := Lib.hid g1; clear g1; have H_g2 := Lib.hid g2; clear g2; have H_g3 := Lib.hid g3; clear g3; have H_g4 := Lib.hid g4; clear g4; have H_bA := Lib.hid bA; clear bA
          gi_wp2_with fail
          refine ⟨_, shows_results ((H_g3.out.set (.int .i64 0)).other (by omega) _) ((H_g4.out.other (by omega) _).set (.int .i64 7)) rfl rfl, by rw [H_hr.out]; rfl, ?_⟩
          exact (H_hb010.out.setCell (p := ⟨w.heap.size + 3, 0, none⟩) (by simp) _).setCell (p := ⟨w.heap.size + 4, 0, none⟩) (by simp) _
        · rw [if_neg ht] at H_hr
          have ht : outB 0 3 rin = false := by simpa using ht
          obtain ⟨W11, eW11, b11, hb11, hs11⟩ := boxStore W10 (.int .i64 0) (.int .i64 0) 3
          have hbA := (boxed_below bA hb11).cell
          have hb811 := H_hb9.out.trans ((hb10.trans (hb11.mono hb10.size)).mono H_hb9.out.size)
          have ho11 := H_ho8.out.below hb811
          have H_hb10 := Lib.hid hb10; clear hb10; have H_hb010 := Lib.hid hb010; clear hb010; have H_g1 := Lib.hid g1; clear g1; have H_g2 := Lib.hid g2; clear g2; have H_g3 := Lib.hid g3; clear g3; have H_g4 := Lib.hid g4; clear g4; have H_bA := Lib.hid bA; clear bA; have H_b11 := Lib.hid b11; clear b11; have H_hb11 := Lib.hid hb11; clear hb11; have H_hb811 := Lib.hid hb811; clear hb811
          gi_wp2_with fail
          refine ⟨trivial, ?_⟩
          refine (callsIn_wide.2 (put_any P _ ord W11 ho11)).mono ?_
          rintro e W12 ⟨rfl, p0, p1, hb12, hs12⟩
          have hbw := H_hb08.out.trans ((H_hb811.out.trans (hb12.mono H_hb811.out.size)).mono H_hb08.out.size)
          have hb1012 := H_hb11.out.trans (hb12.mono H_hb11.out.size)
          have B1 := boxed_below H_g1.out hb1012
          have B2 := boxed_below H_g2.out hb1012
          have B3 := boxed_below H_g3.out hb1012
          have B4 := boxed_below H_g4.out hb1012
          have BA := boxed_below H_bA.out hb1012
          have BI := boxed_below H_b11.out hb12
          have S12 := H_hS8.out.below (H_hb811.out.trans (hb12.mono H_hb811.out.size))
          have s10 : W7.heap.size < W10.heap.size := H_bA.out.lt
          have hs7 := H_hb7.out.size
          have hs6 := H_hb6.out.size
          have H_hb12 := Lib.hid hb12; clear hb12; have H_hbw := Lib.hid hbw; clear hbw; have H_hb1012 := Lib.hid hb1012; clear hb1012; have H_B1 := Lib.hid B1; clear B1; have H_B2 := Lib.hid B2; clear B2; have H_B3 := Lib.hid B3; clear B3; have H_B4 := Lib.hid B4; clear B4; have H_BA := Lib.hid BA; clear BA; have H_BI := Lib.hid BI; clear BI; have H_S12 := Lib.hid S12; clear S12
          gi_wp2_with fail
          rw [hs11] at p0 p1
          obtain ⟨D, hDd⟩ : ∃ D : Nat → Prop, D = fun k => k < W12.heap.size ∧ k ≠ w.heap.size + 1 ∧ k ≠ W10.heap.size := ⟨_, rfl⟩
          have hDi : ∀ k, k < W12.heap.size → k ≠ w.heap.size + 1 → k ≠ W10.heap.size → D k := fun k h1 h2 h3 => by rw [hDd]; exact ⟨h1, h2, h3⟩
          have hDw : ∀ k, D k → k < W12.heap.size := fun k h => by rw [hDd] at h; exact h.1
          have hDn1 : ¬ D (w.heap.size + 1) := fun h => by rw [hDd] at h; exact h.2.1 rfl
          have hDn2 : ¬ D W10.heap.size := fun h => by rw [hDd] at h; exact h.2.2 rfl
          clear hDd
          have hPW : W6.heap.size ≤ M := hM6
          have hs65 : W6.heap.size = w.heap.size + 6 := by rw [← eW6]; simp [hs5]
          have hDl : ∀ k, k < w.heap.size → D k := fun k hk => hDi k (by omega) (by omega) (by omega)
          have hDP : D P := hDi P (by omega) (by omega) (by omega)
          have hseq : ∀ n, 1 ≤ n → SeqStopsK Fence.wide n Try.prog 88 #[.pointer (some ⟨W10.heap.size + 1 + 1, 0, none⟩), .pointer (some ⟨W10.heap.size + 1, 0, none⟩)] encB (KeepB D) (fun ys => ys = (putL l ord).attach) (fun pre => pre <+: (putL l ord).attach) (putL l ord).length W12 :=
            fun n hn => put1_stops D P _ _ l ord _ _ w W12 H_hbw.out hDl (hDi _ (by omega) (by omega) (by omega)) (hDi _ (by omega) (by omega) (by omega)) hDP (by omega) (by omega) (by omega) H_ho.out H_hl.out p0 p1 H_S12.out.c4 H_hv.out n hn
          have hokP := putL_ok H_hok.out H_hv.out
          have hpL : (putL l ord).length = l.length := by rw [putL_len]; exact H_hol.out
          refine wpIn_rangeFunc_ownH (F := Fence.wide) (n := 10) rfl (by omega) (gf := 88) (lb := #[.pointer (some ⟨W10.heap.size + 1 + 1, 0, none⟩), .pointer (some ⟨W10.heap.size + 1, 0, none⟩)]) rfl trivial call_put1
            (hseq (10 - 1) (by omega)) KeepB.trans (keepB_b hDw) (Below.refl _ _) (fun _ => rfl)
            (fun pre W => (∃ c k, (pre.map Subtype.val).foldl (stepS s rin) (.inr ((bf : Int), 0)) = .inr (c, k) ∧ Boxed W (w.heap.size + 1) 3 (.int .i64 c) ∧ Boxed W W10.heap.size 3 (.int .i64 k)) ∧ KeepB D W12 W)
            (fun c pre W => c = .ret ∧ ∃ i, (pre.map Subtype.val).foldl (stepS s rin) (.inr ((bf : Int), 0)) = .inl i ∧ Boxed W (w.heap.size + 3) 3 (.int .i64 i) ∧ Boxed W (w.heap.size + 4) 31 (.int .i64 0) ∧ Below w.heap.size w W)
            ?hI ?hIx ⟨⟨bf, 0, rfl, H_B1.out, H_BI.out⟩, KeepB.refl _ _⟩
            (fun x a' W => ∃ Bx, W12.heap.size ≤ Bx ∧ W.heap[Bx]? = some (.cells #[.int .i64 x.1.c, .int .i64 x.1.g] 28 (0, 0)) ∧ a' = { tmps := #[.agg #[.slice a s.cols.length c, .int .i64 s.keep.lo, .int .i64 s.keep.hi, .int .i64 s.rinse], .int .i64 bf, .slice la l.length lc, .slice oa ord.length oc, .slice ra l.length rc, .pointer (some ⟨w.heap.size, 0, none⟩), .pointer (some ⟨w.heap.size + 1, 0, none⟩), undef, undef,
              .pointer (some ⟨w.heap.size + 2, 0, none⟩), .pointer (some ⟨w.heap.size + 3, 0, none⟩), .pointer (some ⟨w.heap.size + 4, 0, none⟩), .pointer (some ⟨W7.heap.size, 0, none⟩), .int .i64 0, .pointer (some ⟨W10.heap.size, 0, none⟩), .pointer (some ⟨Bx, 0, none⟩), .tuple #[.pointer (some ⟨P, 0, none⟩), .int .i64 0],
              .agg #[.slice a s.cols.length c, .int .i64 s.keep.lo, .int .i64 s.keep.hi, .int .i64 s.rinse], .slice la l.length lc, .int .i64 bf, .slice (some ⟨w.heap.size + 5, 0, none⟩) 1 1, .tuple #[.pointer (some ⟨P, 0, none⟩), .int .i64 0], .pointer (some ⟨P, 0, none⟩), .int .i64 0, .int .i64 0, .bool true,
              .pointer (some ⟨P, 0, none⟩), .slice oa ord.length oc, .int .i64 0, .bool false, .int .i64 0, .bool false, undef, .bool false, .slice ra l.length rc, .int .i64 l.length, .slice la l.length lc, .int .i64 l.length, .bool false, .bool false, .slice ra l.length rc, .bool false, .pointer (some ⟨P, 0, none⟩), .slice oa ord.length oc,
              .func (.func 88) #[] #[.pointer (some ⟨W10.heap.size + 1 + 1, 0, none⟩), .pointer (some ⟨W10.heap.size + 1, 0, none⟩)], .agg #[.int .i64 x.1.c, .int .i64 x.1.g], undef, undef, undef, undef, undef, undef, undef, undef, undef, undef, undef, undef, undef], defers := [] })
            (fun x a' _ X Y row hs hg hr => by obtain ⟨Bx, h1, h2, h3⟩ := hs; exact ⟨Bx, h1, block_keep h2 hg (fun r e => (hr r e).2), h3⟩)
            ?assign ?body ?done ?stop
          case hI =>
            rintro pre X Y row ⟨⟨x, k, h1, h2, h3⟩, h4⟩ hg hr
            have hr' := fun r e => (hr r e).2
            exact ⟨⟨x, k, h1, boxed_keep h2 hg hr', boxed_keep h3 hg hr'⟩, h4.grown hg hDw (fun r e h => by have h1 := hDw r h; have h2 := (hr r e).1; omega)⟩
          case hIx =>
            rintro c pre X Y row ⟨h0, i, h1, h2, h3, h5⟩ hg hr
            have hr' := fun r e => (hr r e).2
            exact ⟨h0, i, h1, boxed_keep h2 hg hr', boxed_keep h3 hg hr', h5.grown hg h5.size (fun k e => by have := (hr k e).1; have := H_hbw.out.size; omega)⟩
          case assign =>
            rintro l' pre x W K hi hK
            dsimp only [encB]
            gi_wp2
            obtain ⟨⟨y, k, h1, h2, h3⟩, h4⟩ := hi
            exact hK _ _ ((KeepsOthers.alloc _ _).from _) (KeepB.of_below ((Below.refl _ W).alloc (Nat.le_refl _) _) (fun k hk => Nat.lt_of_lt_of_le (hDw k hk) h4.size)) ⟨⟨y, k, h1, h2.alloc _, h3.alloc _⟩, h4.trans (KeepB.of_below ((Below.refl _ W).alloc (Nat.le_refl _) _) (fun k hk => Nat.lt_of_lt_of_le (hDw k hk) h4.size))⟩ ⟨W.heap.size, h4.size, heap_new W _, rfl⟩
          case body =>
            rintro l' pre x a' W hl' ⟨r, hr'⟩ ⟨⟨y, k, hf, bB, bI⟩, hK⟩ ⟨Bx, hBx, bX, rfl⟩ hlt
            have h1' : 1 ≤ 10 - 1 - 1 := by omega
            have hBW : Below w.heap.size w W := H_hbw.out.trans (hK.below hDl)
            have hb2W := hK.boxed H_B2.out (hDi _ (by omega) (by omega) (by omega))
            have hb3W := hK.boxed H_B3.out (hDi _ (by omega) (by omega) (by omega))
            have hb4W := hK.boxed H_B4.out (hDi _ (by omega) (by omega) (by omega))
            have hbAW := hK.boxed H_BA.out (hDi _ (by omega) (by omega) (by omega))
            have hSW := hK.shop H_S12.out hDP
            have hcW := H_hc.out.below hBW
            have hrW := H_hri.out.below hBW
            rw [hrl2] at hrW
            have cB := bB.cell
            have fB := bB.frozen
            have cI := bI.cell
            have fI := bI.frozen
            have cR := hb2W.cell
            have c3 := hb3W.cell
            have k3 := hb3W.frozen
            have c4 := hb4W.cell
            have k4 := hb4W.frozen
            have cA := hbAW.cell
            obtain ⟨cX0, cX1⟩ := cells_of_block2 bX
            have hmem : ∀ b ∈ pre.map Subtype.val, b ∈ putL l ord := fun b hb => by obtain ⟨z, _, rfl⟩ := List.mem_map.1 hb; exact z.2
            obtain ⟨⟨v1, v2⟩, v3, v4⟩ := hokP x.1 x.2
            obtain ⟨hk, y0, y1⟩ := foldS_bd s rin bf ⟨by omega, by omega⟩ (pre.map Subtype.val) (fun b hb => hokP b (hmem b hb)) hf
            have hstep : ((pre ++ [x]).map Subtype.val).foldl (stepS s rin) (.inr ((bf : Int), 0)) = stepS s rin (.inr (y, k)) x.1 := by rw [List.map_append, List.foldl_append, hf]; rfl
            obtain ⟨⟨xc, xg⟩, hx⟩ := x
            obtain ⟨bc, rfl⟩ := Int.eq_ofNat_of_zero_le v1
            obtain ⟨cc, rfl⟩ := Int.eq_ofNat_of_zero_le y0
            have hkp : k = pre.length := by rw [hk, List.length_map]
            have hkl : k < rin.length := by omega
            have hk8 : k < 8 := by omega
            obtain ⟨rb, ro, rfl, hrb, cr⟩ := hrW.at k hkl
            have hrr := (outB_all _ _ _).1 ht k hkl
            rw [getD_at _ _ _ hkl] at hrr
            simp only [stepS, Int.toNat_natCast, getD_at _ _ _ hkl] at hstep
            dsimp only at v2 v3 v4 hstep cX0 cX1 bX
            obtain ⟨rr, hrr'⟩ := Int.eq_ofNat_of_zero_le hrr.1
            rw [hrr'] at hrr cr hstep
            simp only [Int.toNat_natCast] at hstep
            have hq2 : bc < s.cols.length := by omega
            have hcl : cc < s.cols.length := by omega
            have hr3 : rr ≤ 3 := by omega
            have hdr : Below W.heap.size W W.drew := (Below.refl _ _).drew
            have HC : Calls Try.prog 65 #[.pointer (some ⟨P, 0, none⟩), .int .i64 cc, .agg #[.int .i64 bc, .int .i64 xg], .int .i64 rr] W.drew fun e w1 => e = .returned (.bool (canShow s cc ⟨bc, xg⟩ rr)) ∧
                w1.cell? ⟨w.heap.size + 1, 0, none⟩ = some (.int .i64 cc) ∧ w1.frozen? ⟨w.heap.size + 1, 0, none⟩ = false ∧ w1.cell? ⟨W10.heap.size, 0, none⟩ = some (.int .i64 k) ∧ w1.frozen? ⟨W10.heap.size, 0, none⟩ = false ∧
                w1.cell? ⟨w.heap.size + 3, 0, none⟩ = some (.int .i64 0) ∧ w1.frozen? ⟨w.heap.size + 3, 0, none⟩ = false ∧ w1.cell? ⟨w.heap.size + 4, 0, none⟩ = some (.int .i64 0) ∧ w1.frozen? ⟨w.heap.size + 4, 0, none⟩ = false ∧
                w1.cell? ⟨Bx, 0, none⟩ = some (.int .i64 bc) ∧ Hid (Below W.heap.size W w1) :=
              (shows_any s P M _ _ cc bc rr xg W.drew (hSW.below hdr) (hcW.below hdr) (H_hg.out) hcl hq2 v3 v4 hr3).mono fun e w1 ⟨h1, h2'⟩ => have h2 := hdr.trans h2'; ⟨h1, (h2.cell bB.lt).trans cB, (h2.frozen bB.lt).trans fB, (h2.cell bI.lt).trans cI, (h2.frozen bI.lt).trans fI,
                (h2.cell hb3W.lt).trans c3, (h2.frozen hb3W.lt).trans k3, (h2.cell hb4W.lt).trans c4, (h2.frozen hb4W.lt).trans k4, (h2.cell (lt_of_cell cX0)).trans cX0, h2⟩
            have hmx : Try.prog.follows .mixedOrders = true := by kernel_rfl
            have hkb : (k : Int) < (l.length : Int) := by omega
            have hkb0 : (0 : Int) ≤ (k : Int) := by omega
            have hne1 : ¬ w.heap.size + 1 = W10.heap.size := by omega
            have hne2 : ¬ W10.heap.size = w.heap.size + 1 := by omega
            clear hk hrr hrr' hrl hlt y1 v2 hs6 hs7 s10 hs65 hkp
            have H_hmem := Lib.hid hmem; clear hmem; have H_hf := Lib.hid hf; clear hf; have H_hb2W := Lib.hid hb2W; clear hb2W; have H_hb3W := Lib.hid hb3W; clear hb3W; have H_hb4W := Lib.hid hb4W; clear hb4W; have H_hbAW := Lib.hid hbAW; clear hbAW; have H_bB := Lib.hid bB; clear bB; have H_bI := Lib.hid bI; clear bI; have H_bX := Lib.hid bX; clear bX; have H_hBW := Lib.hid hBW; clear hBW; have H_hK := Lib.hid hK; clear hK; have H_hseq := Lib.hid hseq; clear hseq; have H_hDi := Lib.hid hDi; clear hDi; have H_hDw := Lib.hid hDw; clear hDw; have H_hDl := Lib.hid hDl; clear hDl; have H_hDn1 := Lib.hid hDn1; clear hDn1; have H_hDn2 := Lib.hid hDn2; clear hDn2; have H_hDP := Lib.hid hDP; clear hDP; have H_hl' := Lib.hid hl'; clear hl'; have H_hr' := Lib.hid hr'; clear hr'; have H_hcW := Lib.hid hcW; clear hcW; have H_hrW := Lib.hid hrW; clear hrW; have H_hSW := Lib.hid hSW; clear hSW; have H_hokP := Lib.hid hokP; clear hokP; have H_hpL := Lib.hid hpL; clear hpL
            by_cases hcs : canShow s cc ⟨bc, xg⟩ rr = true
            · rw [if_pos hcs] at hstep
              rw [hcs] at HC
              have H_hstep := Lib.hid hstep; clear hstep; have H_hcs := Lib.hid hcs; clear hcs
              gi_wp2_with fail
              refine region_readR [(46, 0, .pointer (some ⟨P, 0, none⟩)), (47, 1, .int .i64 cc), (48, 2, .agg #[.int .i64 bc, .int .i64 xg]), (49, 3, .slice (some ⟨rb, ro, none⟩) l.length rc), (50, 4, .int .i64 k), (51, 5, .pointer (some ⟨rb, ro + k, none⟩)), (52, 6, .int .i64 rr)] 7 hmx (by decide) (by kernel_rfl) (by simp [putAll]) ?_ ?_
              · intro listed i o hs hi hiL hli hdd K hK
                have hi8 : i < 8 := (List.getElem?_eq_some_iff.1 hi).1
                have h7 : i = 0 ∨ i = 1 ∨ i = 2 ∨ i = 3 ∨ i = 4 ∨ i = 5 ∨ i = 6 := by omega
                simp only [List.length_cons, List.length_nil] at hs
                rcases h7 with rfl | rfl | rfl | rfl | rfl | rfl | rfl
                all_goals simp only [List.getElem?_cons_zero, List.getElem?_cons_succ, Option.some.injEq] at hi
                all_goals subst hi
                · have hsz : 0 < listed.size := by omega
                  simp only [putAll, List.foldl_cons, List.foldl_nil, getD_set _ _ _ _ hsz, hli] at hK ⊢
                  clear hs hsz
                  rw [wpOpIn]
                  go_simp
                  simpa using hK
                · have hsz : 1 < listed.size := by omega
                  simp only [putAll, List.foldl_cons, List.foldl_nil, getD_set _ _ _ _ hsz, hli] at hK ⊢
                  clear hs hsz
                  rw [wpOpIn]
                  go_simp
                  simpa using hK
                · have hsz : 2 < listed.size := by omega
                  simp only [putAll, List.foldl_cons, List.foldl_nil, getD_set _ _ _ _ hsz, hli] at hK ⊢
                  clear hs hsz
                  rw [wpOpIn]
                  go_simp
                  simpa using hK
                · have hsz : 3 < listed.size := by omega
                  simp only [putAll, List.foldl_cons, List.foldl_nil, getD_set _ _ _ _ hsz, hli] at hK ⊢
                  clear hs hsz
                  rw [wpOpIn]
                  go_simp
                  simpa using hK
                · have hsz : 4 < listed.size := by omega
                  simp only [putAll, List.foldl_cons, List.foldl_nil, getD_set _ _ _ _ hsz, hli] at hK ⊢
                  clear hs hsz
                  rw [wpOpIn]
                  go_simp
                  simpa using hK
                · have hsz : 5 < listed.size := by omega
                  have d3 := hdd.get 3 (by kernel_rfl)
                  have d4 := hdd.get 4 (by kernel_rfl)
                  simp only [putAll, List.foldl_cons, List.foldl_nil, getD_set _ _ _ _ hsz, hli, d3, d4] at hK ⊢
                  clear hs hsz
                  rw [wpOpIn]
                  go_simp
                  simpa using hK
                · have hsz : 6 < listed.size := by omega
                  have d5 := hdd.get 5 (by kernel_rfl)
                  simp only [putAll, List.foldl_cons, List.foldl_nil, getD_set _ _ _ _ hsz, hli, d5] at hK ⊢
                  clear hs hsz
                  rw [wpOpIn]
                  go_simp
                  simpa using hK
              · intro listed o hs hd ho hdd
                simp only [List.getElem?_cons_zero, List.getElem?_cons_succ, Option.some.injEq] at ho
                subst ho
                have d0 := hdd.get 0 (by kernel_rfl)
                have d1 := hdd.get 1 (by kernel_rfl)
                have d2 := hdd.get 2 (by kernel_rfl)
                have d6 := hdd.get 6 (by kernel_rfl)
                have d5 := (hd 6 _ rfl d6).get 5 (by kernel_rfl)
                have d4 := (hd 5 _ rfl d5).get 4 (by kernel_rfl)
                have d3 := (hd 5 _ rfl d5).get 3 (by kernel_rfl)
                refine ⟨fun j hj hj7 => ?_, fun K hK => ?_⟩
                · have h7 : j = 0 ∨ j = 1 ∨ j = 2 ∨ j = 3 ∨ j = 4 ∨ j = 5 ∨ j = 6 := by simp only [List.length_cons, List.length_nil] at hj; omega
                  rcases h7 with rfl | rfl | rfl | rfl | rfl | rfl | rfl <;> assumption
                · simp only [putAll, List.foldl_cons, List.foldl_nil, d0, d1, d2, d3, d4, d5, d6]
                  clear hd hdd d0 d1 d2 d3 d4 d5 d6
                  rw [wpOpIn]
                  go_simp
                  refine ⟨trivial, ?_⟩
                  refine (CallsIn.inRound l' (callsIn_wide.2 HC)).mono ?_
                  rintro e w1 ⟨rfl, m1, m2, m3, m4, m5, m6, m7, m8, m9, m10⟩
                  refine hK _ _ ?_
                  clear hK
                  gi_wp2_with fail
                  refine ⟨(((keepsOthers_of_below m10.out).trans (KeepsOthers.setCell _ _ _)).trans (KeepsOthers.setCell _ _ _)).from _, rfl, k, H_hstep.out, ((boxed_below H_hb3W.out m10.out).set (.int .i64 k)).other (by omega) _, ((boxed_below H_hb4W.out m10.out).other (by omega) _).set (.int .i64 0), ?_⟩
                  exact ((H_hBW.out.trans (m10.out.mono H_hBW.out.size)).setCell (p := ⟨w.heap.size + 3, 0, none⟩) (by simp) _).setCell (p := ⟨w.heap.size + 4, 0, none⟩) (by simp) _
            · rw [if_neg hcs] at hstep
              rw [show canShow s cc ⟨bc, xg⟩ rr = false by simpa using hcs] at HC
              have H_hstep := Lib.hid hstep; clear hstep; have H_hcs := Lib.hid hcs; clear hcs
              gi_wp2_with fail
              refine region_readR [(46, 0, .pointer (some ⟨P, 0, none⟩)), (47, 1, .int .i64 cc), (48, 2, .agg #[.int .i64 bc, .int .i64 xg]), (49, 3, .slice (some ⟨rb, ro, none⟩) l.length rc), (50, 4, .int .i64 k), (51, 5, .pointer (some ⟨rb, ro + k, none⟩)), (52, 6, .int .i64 rr)] 7 hmx (by decide) (by kernel_rfl) (by simp [putAll]) ?_ ?_
              · intro listed i o hs hi hiL hli hdd K hK
                have hi8 : i < 8 := (List.getElem?_eq_some_iff.1 hi).1
                have h7 : i = 0 ∨ i = 1 ∨ i = 2 ∨ i = 3 ∨ i = 4 ∨ i = 5 ∨ i = 6 := by omega
                simp only [List.length_cons, List.length_nil] at hs
                rcases h7 with rfl | rfl | rfl | rfl | rfl | rfl | rfl
                all_goals simp only [List.getElem?_cons_zero, List.getElem?_cons_succ, Option.some.injEq] at hi
                all_goals subst hi
                · have hsz : 0 < listed.size := by omega
                  simp only [putAll, List.foldl_cons, List.foldl_nil, getD_set _ _ _ _ hsz, hli] at hK ⊢
                  clear hs hsz
                  rw [wpOpIn]
                  go_simp
                  simpa using hK
                · have hsz : 1 < listed.size := by omega
                  simp only [putAll, List.foldl_cons, List.foldl_nil, getD_set _ _ _ _ hsz, hli] at hK ⊢
                  clear hs hsz
                  rw [wpOpIn]
                  go_simp
                  simpa using hK
                · have hsz : 2 < listed.size := by omega
                  simp only [putAll, List.foldl_cons, List.foldl_nil, getD_set _ _ _ _ hsz, hli] at hK ⊢
                  clear hs hsz
                  rw [wpOpIn]
                  go_simp
                  simpa using hK
                · have hsz : 3 < listed.size := by omega
                  simp only [putAll, List.foldl_cons, List.foldl_nil, getD_set _ _ _ _ hsz, hli] at hK ⊢
                  clear hs hsz
                  rw [wpOpIn]
                  go_simp
                  simpa using hK
                · have hsz : 4 < listed.size := by omega
                  simp only [putAll, List.foldl_cons, List.foldl_nil, getD_set _ _ _ _ hsz, hli] at hK ⊢
                  clear hs hsz
                  rw [wpOpIn]
                  go_simp
                  simpa using hK
                · have hsz : 5 < listed.size := by omega
                  have d3 := hdd.get 3 (by kernel_rfl)
                  have d4 := hdd.get 4 (by kernel_rfl)
                  simp only [putAll, List.foldl_cons, List.foldl_nil, getD_set _ _ _ _ hsz, hli, d3, d4] at hK ⊢
                  clear hs hsz
                  rw [wpOpIn]
                  go_simp
                  simpa using hK
                · have hsz : 6 < listed.size := by omega
                  have d5 := hdd.get 5 (by kernel_rfl)
                  simp only [putAll, List.foldl_cons, List.foldl_nil, getD_set _ _ _ _ hsz, hli, d5] at hK ⊢
                  clear hs hsz
                  rw [wpOpIn]
                  go_simp
                  simpa using hK
              · intro listed o hs hd ho hdd
                simp only [List.getElem?_cons_zero, List.getElem?_cons_succ, Option.some.injEq] at ho
                subst ho
                have d0 := hdd.get 0 (by kernel_rfl)
                have d1 := hdd.get 1 (by kernel_rfl)
                have d2 := hdd.get 2 (by kernel_rfl)
                have d6 := hdd.get 6 (by kernel_rfl)
                have d5 := (hd 6 _ rfl d6).get 5 (by kernel_rfl)
                have d4 := (hd 5 _ rfl d5).get 4 (by kernel_rfl)
                have d3 := (hd 5 _ rfl d5).get 3 (by kernel_rfl)
                refine ⟨fun j hj hj7 => ?_, fun K hK => ?_⟩
                · have h7 : j = 0 ∨ j = 1 ∨ j = 2 ∨ j = 3 ∨ j = 4 ∨ j = 5 ∨ j = 6 := by simp only [List.length_cons, List.length_nil] at hj; omega
                  rcases h7 with rfl | rfl | rfl | rfl | rfl | rfl | rfl <;> assumption
                · simp only [putAll, List.foldl_cons, List.foldl_nil, d0, d1, d2, d3, d4, d5, d6]
                  clear hd hdd d0 d1 d2 d3 d4 d5 d6
                  rw [wpOpIn]
                  go_simp
                  refine ⟨trivial, ?_⟩
                  refine (CallsIn.inRound l' (callsIn_wide.2 HC)).mono ?_
                  rintro e w1 ⟨rfl, m1, m2, m3, m4, m5, m6, m7, m8, m9, m10⟩
                  refine hK _ _ ?_
                  clear hK
                  gi_wp2_with fail
                  have hkp : KeepB D W ((w1.setCell ⟨w.heap.size + 1, 0, none⟩ (.int .i64 bc)).setCell ⟨W10.heap.size, 0, none⟩ (.int .i64 (k + 1))) :=
                    ((KeepB.of_below m10.out (fun k hk => Nat.lt_of_lt_of_le (H_hDw.out k hk) H_hK.out.size)).setCell _ _ H_hDn1.out _).setCell _ _ H_hDn2.out _
                  refine ⟨(((keepsOthers_of_below m10.out).trans (KeepsOthers.setCell _ _ _)).trans (KeepsOthers.setCell _ _ _)).from _, hkp, ⟨bc, k + 1, H_hstep.out, ((boxed_below H_bB.out m10.out).set (.int .i64 bc)).other hne1 _, ?_⟩, H_hK.out.trans hkp⟩
                  have := ((boxed_below H_bI.out m10.out).other hne2 (.int .i64 bc)).set (.int .i64 (k + 1))
                  simpa using this
          case done =>
            rintro Dd ys W hD rfl ⟨⟨y, k, hf, bB, bI⟩, hK⟩ hKd
            have hb3W := hK.boxed H_B3.out (hDi _ (by omega) (by omega) (by omega))
            have hb4W := hK.boxed H_B4.out (hDi _ (by omega) (by omega) (by omega))
            have hBW : Below w.heap.size w W := H_hbw.out.trans (hK.below hDl)
            have c3 := hb3W.cell
            have k3 := hb3W.frozen
            have c4 := hb4W.cell
            have k4 := hb4W.frozen
            have hDd : w.heap.size ≤ Dd := by have := H_hbw.out.size; omega
            have hfin : showAt s bf (putL l ord) rin = -1 := by
              rw [showAt]
              rw [show (putL l ord).attach.map Subtype.val = putL l ord from by simp] at hf
              rw [hf]; rfl
            rw [hfin] at H_hr
            have H_hf := Lib.hid hf; clear hf; have H_bB := Lib.hid bB; clear bB; have H_bI := Lib.hid bI; clear bI; have H_hK := Lib.hid hK; clear hK; have H_hb3W := Lib.hid hb3W; clear hb3W; have H_hb4W := Lib.hid hb4W; clear hb4W; have H_hBW := Lib.hid hBW; clear hBW; have H_hfin := Lib.hid hfin; clear hfin; have H_hKd := Lib.hid hKd; clear hKd; have H_hDi := Lib.hid hDi; clear hDi; have H_hDw := Lib.hid hDw; clear hDw; have H_hDl := Lib.hid hDl; clear hDl; have H_hDn1 := Lib.hid hDn1; clear hDn1; have H_hDn2 := Lib.hid hDn2; clear hDn2; have H_hDP := Lib.hid hDP; clear hDP; have H_hseq := Lib.hid hseq; clear hseq; have H_hokP := Lib.hid hokP; clear hokP; have H_hpL := Lib.hid hpL; clear hpL
            gi_wp2
            have hK2 : ((W.setCell ⟨w.heap.size + 3, 0, none⟩ (.int .i64 (-1))).setCell ⟨w.heap.size + 4, 0, none⟩ (.int .i64 0)).heap[Dd]? = some (.deferred (some [])) := ((KeepsOthers.setCell _ _ _).trans (KeepsOthers.setCell _ _ _)).same Dd _ H_hKd.out rfl
            refine ⟨by simp, .inl ⟨_, _, rfl, run_takeDeferred hK2, ?_⟩⟩
            have r3 := boxed_keep ((H_hb3W.out.set (.int .i64 (-1))).other (show w.heap.size + 3 ≠ w.heap.size + 4 by omega) (.int .i64 0)) (grownBy_putObj' _ Dd (.deferred none)) (fun r e => by cases e; exact ⟨_, hK2, rfl⟩)
            have r4 := boxed_keep ((H_hb4W.out.other (show w.heap.size + 4 ≠ w.heap.size + 3 by omega) (.int .i64 (-1))).set (.int .i64 0)) (grownBy_putObj' _ Dd (.deferred none)) (fun r e => by cases e; exact ⟨_, hK2, rfl⟩)
            refine ⟨_, shows_results r3 r4 rfl rfl, by rw [H_hr.out]; rfl, ?_⟩
            exact ((H_hBW.out.setCell (p := ⟨w.heap.size + 3, 0, none⟩) (by simp) _).setCell (p := ⟨w.heap.size + 4, 0, none⟩) (by simp) _).trans (belowK_b (w := w) (Nat.le_refl _) _ Dd _ _ hDd hK2 rfl rfl)
          case stop =>
            rintro Dd c pre W hD hpre ⟨rfl, i, hf, b3, b4, hB⟩ hKd
            have hDd : w.heap.size ≤ Dd := by have := H_hbw.out.size; omega
            have hfin : showAt s bf (putL l ord) rin = i := by
              obtain ⟨t, ht⟩ := hpre
              have h2 : putL l ord = pre.map Subtype.val ++ t.map Subtype.val := by rw [← List.map_append, ht]; simp
              rw [showAt, h2, List.foldl_append, hf, foldS_inl]; rfl
            rw [hfin] at H_hr
            have H_hf := Lib.hid hf; clear hf; have H_b3 := Lib.hid b3; clear b3; have H_b4 := Lib.hid b4; clear b4; have H_hB := Lib.hid hB; clear hB; have H_hfin := Lib.hid hfin; clear hfin; have H_hKd := Lib.hid hKd; clear hKd; have H_hDi := Lib.hid hDi; clear hDi; have H_hDw := Lib.hid hDw; clear hDw; have H_hDl := Lib.hid hDl; clear hDl; have H_hDn1 := Lib.hid hDn1; clear hDn1; have H_hDn2 := Lib.hid hDn2; clear hDn2; have H_hDP := Lib.hid hDP; clear hDP; have H_hseq := Lib.hid hseq; clear hseq; have H_hokP := Lib.hid hokP; clear hokP; have H_hpL := Lib.hid hpL; clear hpL; have H_hpre := Lib.hid hpre; clear hpre
            gi_wp2
            refine ⟨by simp, .inl ⟨_, _, rfl, run_takeDeferred H_hKd.out, ?_⟩⟩
            have r3 := boxed_keep H_b3.out (grownBy_putObj' _ Dd (.deferred none)) (fun r e => by cases e; exact ⟨_, H_hKd.out, rfl⟩)
            have r4 := boxed_keep H_b4.out (grownBy_putObj' _ Dd (.deferred none)) (fun r e => by cases e; exact ⟨_, H_hKd.out, rfl⟩)
            refine ⟨_, shows_results r3 r4 rfl rfl, by rw [H_hr.out]; rfl, ?_⟩
            exact H_hB.out.trans (belowK_b (w := w) (Nat.le_refl _) _ Dd _ _ hDd H_hKd.out rfl rfl)
      · rw [if_pos hrl2] at H_hr
        have hrl3 : ((rin.length : Int) == (l.length : Int)) = false := by simp; omega
        have H_hb9 := Lib.hid hb9; clear hb9; have H_hb09 := Lib.hid hb09; clear hb09; have H_hs := Lib.hid hs; clear hs; have H_f1 := Lib.hid f1; clear f1; have H_f2 := Lib.hid f2; clear f2; have H_f3 := Lib.hid f3; clear f3; have H_f4 := Lib.hid f4; clear f4; have H_b9 := Lib.hid b9; clear b9; have H_hol := Lib.hid hol; clear hol; have H_hoo := Lib.hid hoo; clear hoo; have H_hv := Lib.hid hv; clear hv
        gi_wp2_with fail
        refine ⟨_, shows_results ((H_f3.out.set (.int .i64 0)).other (by omega) _) ((H_f4.out.other (by omega) _).set (.int .i64 3)) rfl rfl, by rw [H_hr.out]; rfl, ?_⟩
        exact (H_hb09.out.setCell (p := ⟨w.heap.size + 3, 0, none⟩) (by simp) _).setCell (p := ⟨w.heap.size + 4, 0, none⟩) (by simp) _
    · rw [if_pos hs] at H_hr
      generalize strangeE l.length ord = x at *
      have hx : (x == 0) = false := by simpa using hs
      have H_hb9 := Lib.hid hb9; clear hb9; have H_hb09 := Lib.hid hb09; clear hb09; have H_hs := Lib.hid hs; clear hs; have H_f1 := Lib.hid f1; clear f1; have H_f2 := Lib.hid f2; clear f2; have H_f3 := Lib.hid f3; clear f3; have H_f4 := Lib.hid f4; clear f4; have H_b9 := Lib.hid b9; clear b9
      gi_wp2_with fail
      refine ⟨_, shows_results ((H_f3.out.set (.int .i64 0)).other (by omega) _) ((H_f4.out.other (by omega) _).set (.int .i64 x)) rfl rfl, by rw [H_hr.out]; rfl, ?_⟩
      exact (H_hb09.out.setCell (p := ⟨w.heap.size + 3, 0, none⟩) (by simp) _).setCell (p := ⟨w.heap.size + 4, 0, none⟩) (by simp) _
end Go.Proofs.Ytpkjmnfgpbliaaa
