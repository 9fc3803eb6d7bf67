/-
  colour.Check: what it returns of a shop. Conditions: the value reads as a shop.
-/
import Derived.Test.YtpkjmnfgpbliaaaZLib2
import Derived.Test.YtpkjmnfgpbliaaaZName
namespace Go.Proofs.Ytpkjmnfgpbliaaa
open Go.RowKit
set_option linter.unusedSimpArgs false
set_option linter.unusedVariables false

theorem ints1 (w : World) (a : Int) (T : TypeId) {H : Nat} (h : w.heap.size = H) : IsInts (w.alloc (.cells #[.int .i64 a] T)) (.slice (some ⟨H, 0, none⟩) 1 1) [a] := by
  subst h
  refine ⟨by simp, _, 1, by simp, rfl, .inr ⟨w.heap.size, 0, rfl, by simp, fun j hj => ?_⟩⟩
  obtain rfl : j = 0 := by simpa using hj
  refine ⟨[.int .i64 a], rfl, rfl, fun i hi => ?_⟩
  obtain rfl : i = 0 := by simpa using hi
  simp

theorem ints2 (w : World) (a b : Int) (T : TypeId) {H : Nat} (h : w.heap.size = H) : IsInts (w.alloc (.cells #[.int .i64 a, .int .i64 b] T)) (.slice (some ⟨H, 0, none⟩) 2 2) [a, b] := by
  subst h
  refine ⟨by simp, _, 2, by simp, rfl, .inr ⟨w.heap.size, 0, rfl, by simp, fun j hj => ?_⟩⟩
  have hj' : j = 0 ∨ j = 1 := by simp at hj; omega
  rcases hj' with rfl | rfl
  · refine ⟨[.int .i64 a], rfl, rfl, fun i hi => ?_⟩
    obtain rfl : i = 0 := by simpa using hi
    simp
  · refine ⟨[.int .i64 b], rfl, rfl, fun i hi => ?_⟩
    obtain rfl : i = 0 := by simpa using hi
    simp

/-- A struct of four cells in a new block. -/
theorem box4 (w : World) (v0 v1 v2 v3 : Value) (T : TypeId) : ∃ W0, w.alloc (.cells #[v0, v1, v2, v3] T) = W0 ∧ W0.cell? ⟨w.heap.size, 0, none⟩ = some v0 ∧ W0.cell? ⟨w.heap.size, 1, none⟩ = some v1 ∧
    W0.cell? ⟨w.heap.size, 2, none⟩ = some v2 ∧ W0.cell? ⟨w.heap.size, 3, none⟩ = some v3 ∧ Below w.heap.size w W0 ∧ W0.heap.size = w.heap.size + 1 :=
  ⟨_, rfl, by simp, by simp, by simp, by simp, (Below.refl _ _).alloc (Nat.le_refl _) _, by simp⟩

/-- The same cells in a later world. -/
theorem keep4 {W0 w1 : World} {B : Nat} {v0 v1 v2 v3 : Value} (hb : Below W0.heap.size W0 w1) (hB : B < W0.heap.size)
    (h0 : W0.cell? ⟨B, 0, none⟩ = some v0) (h1 : W0.cell? ⟨B, 1, none⟩ = some v1) (h2 : W0.cell? ⟨B, 2, none⟩ = some v2) (h3 : W0.cell? ⟨B, 3, none⟩ = some v3) :
    w1.cell? ⟨B, 0, none⟩ = some v0 ∧ w1.cell? ⟨B, 1, none⟩ = some v1 ∧ w1.cell? ⟨B, 2, none⟩ = some v2 ∧ w1.cell? ⟨B, 3, none⟩ = some v3 ∧ B < w1.heap.size :=
  ⟨(hb.cell hB).trans h0, (hb.cell hB).trans h1, (hb.cell hB).trans h2, (hb.cell hB).trans h3, Nat.lt_of_lt_of_le hB hb.size⟩

theorem outOne (lo hi n : Int) (W : World) {H : Nat} (h : W.heap.size = H) : Calls Try.prog 47 #[.int .i64 lo, .int .i64 hi, .slice (some ⟨H, 0, none⟩) 1 1] (W.alloc (.cells #[.int .i64 n] 3)) fun e w' =>
    e = .returned (.bool (outB lo hi [n])) ∧ Below W.heap.size W w' :=
  (out_any lo hi _ [n] _ (ints1 W n _ h)).mono fun _ _ ⟨h1, h2⟩ => ⟨h1, below_new h2⟩
theorem outTwo (lo hi n m : Int) (W : World) {H : Nat} (h : W.heap.size = H) : Calls Try.prog 47 #[.int .i64 lo, .int .i64 hi, .slice (some ⟨H, 0, none⟩) 2 2] (W.alloc (.cells #[.int .i64 n, .int .i64 m] 3)) fun e w' =>
    e = .returned (.bool (outB lo hi [n, m])) ∧ Below W.heap.size W w' :=
  (out_any lo hi _ [n, m] _ (ints2 W n m _ h)).mono fun _ _ ⟨h1, h2⟩ => ⟨h1, below_new h2⟩

def colErr (s : Shp) (i : Nat) (c : Col) : Int :=
  if nameB c.name = false then 6 else if (s.cols.take i).any (sameName c.name) then 5 else if ¬ c.shows.length = s.cols.length then 3
  else if outB 0 1000 c.shows then 7 else if outB 0 1000 [c.stay.lo, c.stay.hi] then 7 else if c.stay.hi < c.stay.lo then 2 else 0
def chkGo (s : Shp) : Nat → List Col → Int × Int × Int
  | _, [] => (0, 0, 0)
  | i, c :: t => if colErr s i c = 0 then chkGo s (i + 1) t else (2, i, colErr s i c)
/-- What Check returns. -/
def chk (s : Shp) : Int × Int × Int :=
  if outB 1 6 [(s.cols.length : Int)] then (1, 0, 3) else if outB 0 10000 [s.rinse] then (1, 0, 7) else if outB 0 1000 [s.keep.lo, s.keep.hi] then (1, 0, 7)
  else if s.keep.hi < s.keep.lo then (1, 0, 2) else chkGo s 0 s.cols
def tup3 (x : Int × Int × Int) : Value := .tuple #[.int .i64 x.1, .int .i64 x.2.1, .int .i64 x.2.2]

theorem chkGo_bad (s : Shp) (k : Nat) (h : k < s.cols.length) (he : ¬ colErr s k s.cols[k] = 0) (hg : chkGo s k (s.cols.drop k) = chkGo s 0 s.cols) (hc : chk s = chkGo s 0 s.cols) : chk s = (2, (k : Int), colErr s k s.cols[k]) := by
  rw [hc, ← hg, List.drop_eq_getElem_cons h, chkGo, if_neg he]
theorem chkGo_ok (s : Shp) (k : Nat) (h : k < s.cols.length) (he : colErr s k s.cols[k] = 0) (hg : chkGo s k (s.cols.drop k) = chkGo s 0 s.cols) : chkGo s (k + 1) (s.cols.drop (k + 1)) = chkGo s 0 s.cols := by
  rw [← hg, List.drop_eq_getElem_cons h, chkGo, if_pos he]

set_option maxHeartbeats 4000000 in
theorem check_any (v : Value) (s : Shp) (w : World) (h : IsShop w v s) :
    Calls Try.prog 15 #[v] w fun e w' => e = .returned (tup3 (chk s)) ∧ Below w.heap.size w w' := by
  obtain ⟨sl, rfl, hc⟩ := h
  obtain ⟨a, c, rfl, hlc⟩ := hc.form
  have hl := hc.len
  obtain ⟨W0, eW, b0, b1, b2, b3, hbW, hsz⟩ := box4 w (.slice a s.cols.length c) (.int .i64 s.keep.lo) (.int .i64 s.keep.hi) (.int .i64 s.rinse) 26
  have hcW := hc.below hbW
  have hB : w.heap.size < W0.heap.size := by omega
  have H_eW := Lib.hid eW; clear eW; have H_hbW := Lib.hid hbW; clear hbW; have H_hsz := Lib.hid hsz; clear hsz
  go_enter Try.func15, Try.ntmps15
  go_wp2_with fail
  rw [H_eW.out]
  refine (outOne _ _ _ W0 H_hsz.out).mono ?_
  rintro e w1 ⟨rfl, hb1⟩
  have hcB := hb1
  obtain ⟨c0, c1, c2, c3, hB1⟩ := keep4 hb1 hB b0 b1 b2 b3
  by_cases t1 : outB 1 6 [(s.cols.length : Int)] = true
  · go_wp2
    go_ret3
    exact ⟨by simp [chk, t1, tup3], H_hbW.out.trans (hb1.mono H_hbW.out.size)⟩
  · have t1 : outB 1 6 [(s.cols.length : Int)] = false := by simpa using t1
    have H_hb1 := Lib.hid hb1; clear hb1
    go_wp2_with fail
    refine (outOne _ _ _ w1 rfl).mono ?_
    rintro e w2 ⟨rfl, hb2⟩
    obtain ⟨d0, d1, d2, d3, hB2⟩ := keep4 hb2 hB1 c0 c1 c2 c3
    have H_b2 := Lib.hid (H_hb1.out.trans (hb2.mono H_hb1.out.size))
    clear hb2
    by_cases t2 : outB 0 10000 [s.rinse] = true
    · go_wp2
      go_ret3
      exact ⟨by simp [chk, t1, t2, tup3], H_hbW.out.trans (H_b2.out.mono H_hbW.out.size)⟩
    · have t2 : outB 0 10000 [s.rinse] = false := by simpa using t2
      go_wp2_with fail
      refine (outTwo _ _ _ _ w2 rfl).mono ?_
      rintro e w3 ⟨rfl, hb3⟩
      obtain ⟨e0, e1, e2, e3, hB3⟩ := keep4 hb3 hB2 d0 d1 d2 d3
      have H_b3 := Lib.hid (H_b2.out.trans (hb3.mono H_b2.out.size))
      clear hb3
      by_cases t3 : outB 0 1000 [s.keep.lo, s.keep.hi] = true
      · go_wp2
        go_ret3
        exact ⟨by simp [chk, t1, t2, t3, tup3], H_hbW.out.trans (H_b3.out.mono H_hbW.out.size)⟩
      · have t3 : outB 0 1000 [s.keep.lo, s.keep.hi] = false := by simpa using t3
        by_cases t4 : s.keep.hi < s.keep.lo
        · go_wp2
          go_ret3
          exact ⟨by simp [chk, t1, t2, t3, t4, tup3], H_hbW.out.trans (H_b3.out.mono H_hbW.out.size)⟩
        · have hchk : chk s = chkGo s 0 s.cols := by simp [chk, t1, t2, t3, t4]
          have H_hchk := Lib.hid hchk; clear hchk
          go_wp2_with fail
          go_loopw [4, 39] (fun e i wr => ∃ k : Nat, k ≤ s.cols.length ∧ e = .int .i64 0 ∧ i = .int .i64 k ∧ chkGo s k (s.cols.drop k) = chkGo s 0 s.cols ∧ Below W0.heap.size W0 wr) (fun _ i _ => s.cols.length - (intOf i).toNat)
          case atStart => exact ⟨0, by omega, rfl, rfl, rfl, H_b3.out⟩
          case round =>
            obtain ⟨k, hk, rfl, rfl, hgo, hbr⟩ := hrel
            obtain ⟨f0, f1, f2, f3, hBr⟩ := keep4 hbr hB b0 b1 b2 b3
            clear e0 e1 e2 e3 d0 d1 d2 d3 c0 c1 c2 c3 b0 b1 b2 b3
            by_cases hlt : k < s.cols.length
            · obtain ⟨b, off, sv, rfl, hbb, hsv, hnm, d0, d1, d2, d3⟩ := hcW.at k hlt
              obtain ⟨sa, sc, rfl, _⟩ := hsv.form
              have c0 := (hbr.cell (p := ⟨b, off + k * 4, none⟩) hbb).trans d0
              have c1 := (hbr.cell (p := ⟨b, off + k * 4 + 1, none⟩) hbb).trans d1
              have c2 := (hbr.cell (p := ⟨b, off + k * 4 + 2, none⟩) hbb).trans d2
              have c3 := (hbr.cell (p := ⟨b, off + k * 4 + 3, none⟩) hbb).trans d3
              clear d0 d1 d2 d3
              have hsvr := hsv.below hbr
              have H_hgo := Lib.hid hgo; clear hgo; have H_hbr := Lib.hid hbr; clear hbr
              go_wp2_with fail
              obtain ⟨W1, eW1, g0, g1, g2, g3, hbW1, hsz1⟩ := box4 wr (.string s.cols[k].name) (.int .i64 s.cols[k].stay.lo) (.int .i64 s.cols[k].stay.hi) (.slice sa s.cols[k].shows.length sc) 67
              rw [eW1]
              clear eW1
              have hB1 : wr.heap.size < W1.heap.size := by omega
              have hBW1 : w.heap.size < W1.heap.size := by omega
              have H_b1 := Lib.hid (H_hbr.out.trans (hbW1.mono H_hbr.out.size))
              have hsv1 := hsvr.below hbW1
              obtain ⟨f0, f1, f2, f3, _⟩ := keep4 (hbW1.mono (Nat.le_refl _)) hBr f0 f1 f2 f3
              clear hbW1 hsz1 c0 c1 c2 c3
              have hwn : ∀ e : Int, ¬ e = 0 → colErr s k s.cols[k] = e → chk s = (2, (k : Int), e) := fun e he h => h ▸ chkGo_bad s k hlt (by omega) H_hgo.out H_hchk.out
              have H_hwn := Lib.hid hwn; clear hwn
              refine (name_any _ W1 hnm).mono ?_
              rintro e w4 ⟨rfl, hb4⟩
              obtain ⟨f0, f1, f2, f3, hBr4⟩ := keep4 hb4 hBW1 f0 f1 f2 f3
              obtain ⟨g0, g1, g2, g3, hB4⟩ := keep4 hb4 hB1 g0 g1 g2 g3
              have hsv4 := hsv1.below hb4
              have hcW4 := hcW.below (H_b1.out.trans (hb4.mono H_b1.out.size))
              have H_b4 := Lib.hid (H_b1.out.trans (hb4.mono H_b1.out.size))
              clear hb4
              by_cases u1 : nameB s.cols[k].name = true
              · go_wp2_with fail
                refine (containsCol_any s.cols[k].name _ _ (s.cols.take k) w4 (IsList.take hcW4 k (by omega) c (by omega)) g0 hB4).mono ?_
                rintro e w5 ⟨rfl, hb5⟩
                obtain ⟨f0, f1, f2, f3, hBr5⟩ := keep4 hb5 hBr4 f0 f1 f2 f3
                obtain ⟨g0, g1, g2, g3, hB5⟩ := keep4 hb5 hB4 g0 g1 g2 g3
                have hsv5 := hsv4.below hb5
                have H_b5 := Lib.hid (H_b4.out.trans (hb5.mono H_b4.out.size))
                clear hb5
                by_cases u2' : (s.cols.take k).any (sameName s.cols[k].name) = true
                · go_wp2
                  go_ret3
                  exact ⟨by rw [H_hwn.out 5 (by omega) (by simp only [colErr, u1, u2']; simp)]; rfl, H_hbW.out.trans (H_b5.out.mono H_hbW.out.size)⟩
                · have u2' : (s.cols.take k).any (sameName s.cols[k].name) = false := by simpa only [Bool.not_eq_true] using u2'
                  by_cases u3' : s.cols[k].shows.length = s.cols.length
                  · have HU3 := Lib.hid u3'; clear u3'
                    have u3b : ((s.cols[k].shows.length : Int) == (s.cols.length : Int)) = true := by rw [HU3.out]; simp
                    go_wp2_with fail
                    refine (out_any _ _ _ _ w5 hsv5).mono ?_
                    rintro e w6 ⟨rfl, hb6⟩
                    obtain ⟨f0, f1, f2, f3, hBr6⟩ := keep4 hb6 hBr5 f0 f1 f2 f3
                    obtain ⟨g0, g1, g2, g3, hB6⟩ := keep4 hb6 hB5 g0 g1 g2 g3
                    have H_b6 := Lib.hid (H_b5.out.trans (hb6.mono H_b5.out.size))
                    clear hb6
                    by_cases u4' : outB 0 1000 s.cols[k].shows = true
                    · go_wp2
                      go_ret3
                      exact ⟨by rw [H_hwn.out 7 (by omega) (by simp only [colErr, u1, u2', HU3.out, u4']; simp)]; rfl, H_hbW.out.trans (H_b6.out.mono H_hbW.out.size)⟩
                    · have u4' : outB 0 1000 s.cols[k].shows = false := by simpa using u4'
                      go_wp2_with fail
                      refine (outTwo _ _ _ _ w6 rfl).mono ?_
                      rintro e w7 ⟨rfl, hb7⟩
                      obtain ⟨f0, f1, f2, f3, hBr7⟩ := keep4 hb7 hBr6 f0 f1 f2 f3
                      obtain ⟨g0, g1, g2, g3, hB7⟩ := keep4 hb7 hB6 g0 g1 g2 g3
                      have H_b7 := Lib.hid (H_b6.out.trans (hb7.mono H_b6.out.size))
                      clear hb7
                      by_cases u5' : outB 0 1000 [s.cols[k].stay.lo, s.cols[k].stay.hi] = true
                      · go_wp2
                        go_ret3
                        exact ⟨by rw [H_hwn.out 7 (by omega) (by simp only [colErr, u1, u2', HU3.out, u4', u5']; simp)]; rfl, H_hbW.out.trans (H_b7.out.mono H_hbW.out.size)⟩
                      · have u5' : outB 0 1000 [s.cols[k].stay.lo, s.cols[k].stay.hi] = false := by simpa using u5'
                        by_cases u6' : s.cols[k].stay.hi < s.cols[k].stay.lo
                        · go_wp2
                          go_ret3
                          exact ⟨by rw [H_hwn.out 2 (by omega) (by simp only [colErr, u1, u2', HU3.out, u4', u5', u6']; simp)]; rfl, H_hbW.out.trans (H_b7.out.mono H_hbW.out.size)⟩
                        · have hok : colErr s k s.cols[k] = 0 := by simp only [colErr, u1, u2', HU3.out, u4', u5', u6']; simp
                          have H_hok := Lib.hid hok; clear hok
                          go_wp2
                          go_roundw
                          case rel => exact ⟨k + 1, by omega, rfl, by go_num, chkGo_ok s k hlt H_hok.out H_hgo.out, H_b7.out⟩
                          case measure => simp [intOf]; omega
                  · have u3b : ((s.cols[k].shows.length : Int) == (s.cols.length : Int)) = false := by simp; omega
                    go_wp2
                    go_ret3
                    exact ⟨by rw [H_hwn.out 3 (by omega) (by simp only [colErr, u1, u2', u3']; simp)]; rfl, H_hbW.out.trans (H_b5.out.mono H_hbW.out.size)⟩
              · have u1 : nameB s.cols[k].name = false := by simpa using u1
                go_wp2
                go_ret3
                exact ⟨by rw [H_hwn.out 6 (by omega) (by simp [colErr, u1])]; rfl, H_hbW.out.trans (H_b4.out.mono H_hbW.out.size)⟩
            · have H_hgo := Lib.hid hgo; clear hgo; have H_hbr := Lib.hid hbr; clear hbr
              go_wp2
              go_ret3
              obtain rfl : k = s.cols.length := by omega
              exact ⟨by rw [H_hchk.out, ← H_hgo.out]; simp [chkGo, tup3], H_hbW.out.trans (H_hbr.out.mono H_hbW.out.size)⟩
end Go.Proofs.Ytpkjmnfgpbliaaa
