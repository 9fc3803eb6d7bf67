/-
  colour.Lost: what it returns. Conditions: the values read as a shop, batches, an order.
-/
import Derived.Test.YtpkjmnfgpbliaaaZSorted
namespace Go.Proofs.Ytpkjmnfgpbliaaa
open Go.RowKit Go.Shelf
set_option linter.unusedSimpArgs false
set_option linter.unusedVariables false

theorem strange_zero {n : Nat} {ord : List Int} (h : strangeE n ord = 0) : ord.length = n ∧ outB 0 ((n : Int) - 1) ord = false ∧ ord.Nodup := by
  unfold strangeE at h
  by_cases h1 : ord.length = n
  · rw [if_neg (by simpa using h1)] at h
    by_cases h2 : outB 0 ((n : Int) - 1) ord = true
    · rw [if_pos h2] at h; omega
    rw [if_neg h2] at h
    by_cases h3 : ord.Nodup
    · exact ⟨h1, by simpa using h2, h3⟩
    · rw [if_pos h3] at h; omega
  · rw [if_pos h1] at h; omega

theorem ord_range {n : Nat} {ord : List Int} (h : outB 0 ((n : Int) - 1) ord = false) : ∀ j (hj : j < ord.length), 0 ≤ ord[j] ∧ ord[j] < n := by
  intro j hj
  have := (outB_all _ _ _).1 h j hj
  rw [getD_at _ _ _ hj] at this
  omega
theorem putL_ok {s : Shp} {l : List Bat} {ord : List Int} (hl : ∀ j (hj : j < l.length), okBat s l[j]) (ho : ∀ j (hj : j < ord.length), 0 ≤ ord[j] ∧ ord[j] < l.length) : ∀ b ∈ putL l ord, okBat s b := by
  intro b hb
  obtain ⟨i, hi, rfl⟩ := List.mem_map.1 hb
  obtain ⟨j, hj, rfl⟩ := List.getElem_of_mem hi
  obtain ⟨h0, h1⟩ := ho j hj
  have : ord[j].toNat < l.length := by omega
  rw [getD_at _ _ _ this]
  exact hl _ this
theorem putL_len (l : List Bat) (ord : List Int) : (putL l ord).length = ord.length := by simp [putL]

theorem call_put1 (xs : Array Value) (w : World) : (callFunc 88 xs).run Try.prog w = .ok (.enter 88 xs) w := by kernel_rfl

/-- loses over put. -/
theorem losesPut (s : Shp) (P M : Nat) (sl lv ov : Value) (bf : Nat) (l : List Bat) (ord : List Int) (w w1 : World) (hS : ShopAt w P M sl lv s) (hc : IsCols w sl s.cols) (hg : Good s) (hbf : bf < s.cols.length) (hl : IsBats w lv l) (ho : IsInts w ov ord)
    (hok : ∀ j (hj : j < l.length), okBat s l[j]) (hv : ∀ j (hj : j < ord.length), 0 ≤ ord[j] ∧ ord[j] < l.length) (hlen : ord.length ≤ 8)
    (c0 : w1.cell? ⟨w.heap.size + 1, 0, none⟩ = some ov) (c1 : w1.cell? ⟨w.heap.size, 0, none⟩ = some (.pointer (some ⟨P, 0, none⟩))) (hb : Below w.heap.size w w1) (hs : w1.heap.size = w.heap.size + 2) :
    Calls Try.prog 62 #[.pointer (some ⟨P, 0, none⟩), .int .i64 bf, .func (.func 88) #[] #[.pointer (some ⟨w.heap.size + 1, 0, none⟩), .pointer (some ⟨w.heap.size, 0, none⟩)]] w1 fun e w' =>
      e = .returned (.int .i64 (lossB s bf (putL l ord))) ∧ Below w1.heap.size w1 w' := by
  have hlt := hS.lt
  exact loses_any s P M sl lv bf _ _ (putL l ord) (· < w1.heap.size) w1
    (fun n hn => put1_stops (· < w1.heap.size) P lv ov l ord (w.heap.size + 1) w.heap.size w w1 hb (fun k hk => by omega) (by omega) (by omega) (by omega) (by omega) (by omega) (by omega) ho hl c0 c1 ((hb.cell hlt).trans hS.c4) hv n hn)
    (fun k hk => hk) call_put1 (hS.below hb) (hc.below hb) hg hbf (putL_ok hok hv) (by rw [putL_len]; exact hlen)

/-- What Lost returns. -/
def lostR (s : Shp) (start : Int) (l : List Bat) (ord : List Int) : Int × Int :=
  if ¬ openErr s l [start] = 0 then (0, openErr s l [start]) else if ¬ strangeE l.length ord = 0 then (0, strangeE l.length ord) else
    if lossB s start (putL l ord) < 0 then (0, 9) else (lossB s start (putL l ord), 0)

set_option maxHeartbeats 4000000 in
theorem Lost_any (v lv ov : Value) (s : Shp) (start : Int) (l : List Bat) (ord : List Int) (w : World) (h : IsShop w v s) (hl : IsBats w lv l) (ho : IsInts w ov ord) :
    Calls Try.prog 22 #[v, .int .i64 start, lv, ov] w fun e w' => e = .returned (tup2 (lostR s start l ord)) ∧ Below w.heap.size w w' := by
  obtain ⟨sl, rfl, hc⟩ := h
  obtain ⟨a, c, rfl, _⟩ := hc.form
  obtain ⟨la, lc, rfl, _⟩ := hl.form
  obtain ⟨oa, oc, rfl, _⟩ := ho.form
  obtain ⟨W0, eW, x0, x1, x2, x3, hbW, hsz⟩ := box4 w (.slice a s.cols.length c) (.int .i64 s.keep.lo) (.int .i64 s.keep.hi) (.int .i64 s.rinse) 26
  obtain ⟨W1, eW1, hI, hb1⟩ := boxInt W0 start 3
  have hW0 : w.heap.size < W0.heap.size := by omega
  obtain ⟨x0, x1, x2, x3, _⟩ := keep4 hb1 hW0 x0 x1 x2 x3
  have hb01 : Below w.heap.size w W1 := hbW.trans (hb1.mono hbW.size)
  have hc1 := hc.below hb01
  have hl1 := hl.below hb01
  have ho1 := ho.below hb01
  have H_hbW := Lib.hid hbW; clear hbW; have H_hsz := Lib.hid hsz; clear hsz; have H_hc := Lib.hid hc; clear hc; have H_hl := Lib.hid hl; clear hl; have H_ho := Lib.hid ho; clear ho; have H_hb1 := Lib.hid hb1; clear hb1; have H_hb01 := Lib.hid hb01; clear hb01; have H_hI := Lib.hid hI; clear hI; have H_hc1 := Lib.hid hc1; clear hc1; have H_hl1 := Lib.hid hl1; clear hl1; have H_ho1 := Lib.hid ho1; clear ho1
  go_enter Try.func22, Try.ntmps22
  go_wp2_with fail
  refine (open_any _ _ _ s l [start] (.slice a s.cols.length c) W1 H_hc1.out rfl H_hl1.out H_hI.out).mono ?_
  rintro e W2 ⟨hb2, ⟨he, rfl⟩ | ⟨he, P, M, rfl, hS, hM, _⟩⟩
  · have hr : lostR s start l ord = (0, openErr s l [start]) := by rw [lostR, if_pos he]
    generalize openErr s l [start] = x at *
    have hx : (x == 0) = false := by simpa using he
    have H_hr := Lib.hid hr; clear hr; have H_he := Lib.hid he; clear he
    go_wp2_with fail
    go_ret2
    exact ⟨by rw [H_hr.out]; rfl, H_hb01.out.trans (hb2.mono H_hb01.out.size)⟩
  · obtain ⟨hg, hst, hl7, hbe⟩ := openErr_zero he
    have hst := (outB_one _ _ _).1 hst
    have hok := okBat_all hbe
    obtain ⟨bf, rfl⟩ := Int.eq_ofNat_of_zero_le hst.1
    have hbf : bf < s.cols.length := by omega
    have hr : lostR s bf l ord = if ¬ strangeE l.length ord = 0 then (0, strangeE l.length ord) else if lossB s bf (putL l ord) < 0 then (0, 9) else (lossB s bf (putL l ord), 0) := by simp [lostR, he]
    have hc2 := H_hc1.out.below hb2
    have hl2 := H_hl1.out.below hb2
    have ho2 := H_ho1.out.below hb2
    have hb02 := H_hb01.out.trans (hb2.mono H_hb01.out.size)
    have c4 := hS.c4
    have H_hr := Lib.hid hr; clear hr; have H_he := Lib.hid he; clear he; have H_hb2 := Lib.hid hb2; clear hb2; have H_hb02 := Lib.hid hb02; clear hb02; have H_hok := Lib.hid hok; clear hok; have H_hbe := Lib.hid hbe; clear hbe; have H_hM := Lib.hid hM; clear hM; have H_hg := Lib.hid hg; clear hg; have H_hS := Lib.hid hS; clear hS; have H_hc2 := Lib.hid hc2; clear hc2
    go_wp2_with fail
    refine (strange_any P _ _ l ord W2 hl2 ho2 c4 (by omega)).mono ?_
    rintro e W3 ⟨rfl, hb3⟩
    have hb03 := H_hb02.out.trans (hb3.mono H_hb02.out.size)
    by_cases hs : strangeE l.length ord = 0
    · rw [if_neg (by simpa using hs)] at H_hr
      obtain ⟨hol, hoo, _⟩ := strange_zero hs
      rw [hs]
      have hv := ord_range hoo
      have hc3 := H_hc2.out.below hb3
      have hl3 := hl2.below hb3
      have ho3 := ho2.below hb3
      have hS3 := H_hS.out.below hb3
      have H_hb3 := Lib.hid hb3; clear hb3; have H_hb03 := Lib.hid hb03; clear hb03; have H_hl2 := Lib.hid hl2; clear hl2; have H_ho2 := Lib.hid ho2; clear ho2; have H_hv := Lib.hid hv; clear hv; have H_hol := Lib.hid hol; clear hol; have H_hoo := Lib.hid hoo; clear hoo; have H_hs := Lib.hid hs; clear hs; have H_hS3 := Lib.hid hS3; clear hS3; have H_hc3 := Lib.hid hc3; clear hc3; have H_hl3 := Lib.hid hl3; clear hl3
      go_wp2_with fail
      refine (put_any P _ ord W3 ho3).mono ?_
      rintro e W4 ⟨rfl, p0, p1, hb4, hs4⟩
      have hb04 := H_hb03.out.trans (hb4.mono H_hb03.out.size)
      have hC := losesPut s P M _ _ _ bf l ord W3 W4 H_hS3.out H_hc3.out H_hg.out hbf H_hl3.out ho3 H_hok.out H_hv.out (by have := H_hol.out; omega) p0 p1 hb4 hs4
      have H_hb4 := Lib.hid hb4; clear hb4; have H_hb04 := Lib.hid hb04; clear hb04; have H_ho3 := Lib.hid ho3; clear ho3; have H_p0 := Lib.hid p0; clear p0; have H_p1 := Lib.hid p1; clear p1; have H_hs4 := Lib.hid hs4; clear hs4
      go_wp2_with fail
      refine hC.mono ?_
      rintro e W5 ⟨rfl, hb5⟩
      clear hC
      have hb05 := H_hb04.out.trans (hb5.mono H_hb04.out.size)
      generalize lossB s bf (putL l ord) = n at *
      by_cases hn : n < 0
      · rw [if_pos hn] at H_hr
        have H_hb5 := Lib.hid hb5; clear hb5; have H_hb05 := Lib.hid hb05; clear hb05
        go_wp2_with fail
        go_ret2
        exact ⟨by rw [H_hr.out]; rfl, H_hb05.out⟩
      · rw [if_neg hn] at H_hr
        have H_hb5 := Lib.hid hb5; clear hb5; have H_hb05 := Lib.hid hb05; clear hb05
        go_wp2_with fail
        go_ret2
        exact ⟨by rw [H_hr.out]; rfl, H_hb05.out⟩
    · rw [if_pos hs] at H_hr
      generalize strangeE l.length ord = x at *
      have hx : (x == 0) = false := by simpa using hs
      have H_hb3 := Lib.hid hb3; clear hb3; have H_hb03 := Lib.hid hb03; clear hb03; have H_hs := Lib.hid hs; clear hs
      go_wp2_with fail
      go_ret2
      exact ⟨by rw [H_hr.out]; rfl, H_hb03.out⟩
end Go.Proofs.Ytpkjmnfgpbliaaa
