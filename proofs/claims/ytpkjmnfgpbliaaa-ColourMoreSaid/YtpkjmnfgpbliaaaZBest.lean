/-
  colour.Best: what it returns. Conditions: the values read as a shop and batches.
-/
import Derived.Test.YtpkjmnfgpbliaaaZOrder
namespace Go.Proofs.Ytpkjmnfgpbliaaa
open Go.RowKit Go.Shelf Go.Sort
set_option linter.unusedSimpArgs false
set_option linter.unusedVariables false

/-- What Best returns. -/
def bestR (s : Shp) (st : Int) (l : List Bat) : List Int × Int × Int :=
  if ¬ openErr s l [st] = 0 then ([], 0, openErr s l [st]) else
    if 1099511627776 ≤ (planV s l st (2 ^ l.length - 1)).lost then ([], 0, 9) else (orderV s l st (2 ^ l.length - 1), (planV s l st (2 ^ l.length - 1)).lost, 0)
theorem countP_len {α : Type} (p : α → Bool) (l : List α) : l.countP p ≤ l.length := List.countP_le_length
theorem cost_le (lf : Nat) : cost lf ≤ 2097152 := by
  unfold cost
  exact Nat.le_trans (Nat.pow_le_pow_right (by decide) (Nat.le_trans (countP_len _ _) (by simp))) (by decide : 8 ^ 7 ≤ 2097152)
theorem pow_len {n : Nat} (h : n ≤ 7) : 1 ≤ 2 ^ n ∧ 2 ^ n ≤ 128 := ⟨Nat.two_pow_pos n, Nat.le_trans (Nat.pow_le_pow_right (by decide) h) (by decide)⟩
theorem wrap_pow {n : Nat} (h : n ≤ 7) : IntKind.i64.wrap ((2 : Int) ^ n) = 2 ^ n := by
  have := i64_small (2 ^ n) (by have := (pow_len h).2; omega)
  push_cast at this
  exact this
/-- The shop that open leaves. -/
theorem ShopSt.opened {s : Shp} {l : List Bat} {P M : Nat} {sl lv : Value} {w0 w : World} (hb : Below w0.heap.size w0 w) (hc : IsCols w0 sl s.cols) (hl : IsBats w0 lv l) (hM : w0.heap.size ≤ M) (hS : ShopAt w P M sl lv s) (hm : w.heap[M]? = some (.map #[] 0)) : ShopSt s l P M sl lv w0 w 0 :=
  ⟨hb, hc, hl, hM, hS, Memo.made hm⟩
theorem ButM.belowN {M n : Nat} {w w' : World} (h : ButM M w w') (h1 : n ≤ w.heap.size) (h2 : n ≤ M) : Below n w w' :=
  ⟨h.os, h.tape, h.output, h.size, fun k hk => h.block k ⟨by omega, by omega⟩⟩
theorem ownsRow_base {w : World} {b b' : Nat} {T : TypeId} {k n : Nat} {v : Value} {xs : List Value} (h : w.ownsRow b T k v n xs) (hb : b' ≤ b) : w.ownsRow b' T k v n xs := by
  refine ⟨h.1, h.2.imp id ?_⟩
  rintro ⟨g, cap, cur, h1, h2, h3⟩
  exact ⟨g, cap, cur, h1, Nat.le_trans hb h2, h3⟩
set_option maxRecDepth 100000 in
set_option maxHeartbeats 4000000 in
theorem Best_any (v lv : Value) (s : Shp) (st : Int) (l : List Bat) (w : World) (h : IsShop w v s) (hl : IsBats w lv l) :
    Calls Try.prog 28 #[v, .int .i64 st, lv] w fun e w' => (∃ ov, e = .returned (.tuple #[ov, .int .i64 (bestR s st l).2.1, .int .i64 (bestR s st l).2.2]) ∧ w'.ownsRow w.heap.size 3 1 ov (bestR s st l).1.length ((bestR s st l).1.map (Value.int .i64))) ∧ Below w.heap.size w w' := by
  obtain ⟨sl, rfl, hc⟩ := h
  obtain ⟨a, c, rfl, _⟩ := hc.form
  obtain ⟨la, lc, hlv, _⟩ := hl.form
  subst hlv
  obtain ⟨W0, eW, x0, x1, x2, x3, hbW, hsz⟩ := box4 w (.slice a s.cols.length c) (.int .i64 s.keep.lo) (.int .i64 s.keep.hi) (.int .i64 s.rinse) 26
  obtain ⟨W1, eW1, hI, hb1⟩ := boxInt W0 st 3
  have hb01 : Below w.heap.size w W1 := hbW.trans (hb1.mono hbW.size)
  have hc1 := hc.below hb01
  have hl1 := hl.below hb01
  have hszW := hb01.size
  have H_hbW := Lib.hid hbW; clear hbW; have H_hsz := Lib.hid hsz; clear hsz; have H_hb1 := Lib.hid hb1; clear hb1; have H_hb01 := Lib.hid hb01; clear hb01; have H_hI := Lib.hid hI; clear hI; have H_hc1 := Lib.hid hc1; clear hc1; have H_hl1 := Lib.hid hl1; clear hl1; have H_hc := Lib.hid hc; clear hc; have H_hl := Lib.hid hl; clear hl
  go_enter Try.func28, Try.ntmps28
  go_wp2_with fail
  refine (open_any _ _ _ s l [st] (.slice a s.cols.length c) W1 H_hc1.out rfl H_hl1.out H_hI.out).mono ?_
  rintro e W2 ⟨hb2, ⟨he, rfl⟩ | ⟨he, P, M, rfl, hS, hM, hMle⟩⟩
  · have hr : bestR s st l = ([], 0, openErr s l [st]) := by rw [bestR, if_pos he]
    generalize openErr s l [st] = x at *
    have hx : (x != 0) = true := by simpa using he
    have H_hr := Lib.hid hr; clear hr; have H_he := Lib.hid he; clear he
    go_wp2_with fail
    go_ret3
    exact ⟨⟨.slice none 0 0, by rw [H_hr.out]; rfl, by rw [H_hr.out]; exact World.ownsRow_nil _ _ _ _⟩, H_hb01.out.trans (hb2.mono H_hb01.out.size)⟩
  · obtain ⟨hg, ho, hl7, hbe⟩ := openErr_zero he
    have ho := (outB_one _ _ _).1 ho
    have hok := okBat_all hbe
    obtain ⟨bf, rfl⟩ := Int.eq_ofNat_of_zero_le ho.1
    have hbf : bf < s.cols.length := by omega
    have hS0 : ShopSt s l P M (.slice a s.cols.length c) (.slice la l.length lc) W1 W2 0 := ShopSt.opened hb2 H_hc1.out H_hl1.out hMle hS hM
    have hr : bestR s bf l = if 1099511627776 ≤ (planV s l bf (2 ^ l.length - 1)).lost then ([], 0, 9) else (orderV s l bf (2 ^ l.length - 1), (planV s l bf (2 ^ l.length - 1)).lost, 0) := by simp [bestR, he]
    have hpw := pow_len hl7
    have hwp := wrap_pow hl7
    have hcost := cost_le (2 ^ l.length - 1)
    have hall : ((2 : Int) ^ l.length - 1) = ((2 ^ l.length - 1 : Nat) : Int) := by
      rw [Int.ofNat_sub hpw.1]; push_cast; rfl
    have hw1 : IntKind.i64.wrap ((2 : Int) ^ l.length - 1) = ((2 ^ l.length - 1 : Nat) : Int) := by rw [hall]; exact i64_small _ (by omega)
    obtain ⟨W3, eW3, y0, y1, hb3, hs3⟩ := box2 W2 (.int .i64 bf) (.int .i64 ((2 ^ l.length - 1 : Nat) : Int)) 125
    have hS3 := hS0.keep (ButM.of_below hb3) (hS0.memo.same (hb3.block M hS0.memo.lt))
    have hplan := plan_any s hg l hl7 hok P M _ _ W1 (2 ^ l.length - 1) bf 0 W3 (by omega) hbf (by omega) hS3
    simp only [vPln] at hplan
    have hb13 := hb2.trans (hb3.mono hb2.size)
    have hfl := fieldPln0
    have hlt3 : W2.heap.size < W3.heap.size := by omega
    have hM2 := hS0.memo.lt
    generalize hpv : planV s l bf (2 ^ l.length - 1) = pv at *
    generalize hAll : 2 ^ l.length - 1 = all at *
    have H_hr := Lib.hid hr; clear hr; have H_he := Lib.hid he; clear he; have H_hg := Lib.hid hg; clear hg; have H_hok := Lib.hid hok; clear hok; have H_hS0 := Lib.hid hS0; clear hS0; have H_hS3 := Lib.hid hS3; clear hS3; have H_hplan := Lib.hid hplan; clear hplan; have H_hb2 := Lib.hid hb2; clear hb2; have H_hb3 := Lib.hid hb3; clear hb3; have H_hb13 := Lib.hid hb13; clear hb13; have H_hS := Lib.hid hS; clear hS; have H_hM := Lib.hid hM; clear hM; have H_hbe := Lib.hid hbe; clear hbe; have H_ho := Lib.hid ho; clear ho; have H_hpv := Lib.hid hpv; clear hpv; have H_hAll := Lib.hid hAll; clear hAll; have H_hall := Lib.hid hall; clear hall; have H_hcost := Lib.hid hcost; clear hcost
    go_wp2_with fail
    refine H_hplan.out.mono ?_
    rintro e W4 ⟨rfl, hk4, hm4⟩
    have hS4 := H_hS3.out.keep hk4 hm4
    have y0 := (hk4.cell (b := W2.heap.size) (o := 0) hlt3 (by omega)).trans y0
    have y1 := (hk4.cell (b := W2.heap.size) (o := 1) hlt3 (by omega)).trans y1
    have hb14 := H_hb13.out.trans (hk4.belowN H_hb13.out.size hMle)
    by_cases hlo : 1099511627776 ≤ pv.lost
    · have H_hk4 := Lib.hid hk4; clear hk4; have H_hm4 := Lib.hid hm4; clear hm4; have H_hS4 := Lib.hid hS4; clear hS4; have H_hb14 := Lib.hid hb14; clear hb14
      go_wp2_with fail
      go_ret3
      exact ⟨⟨.slice none 0 0, by rw [H_hr.out, if_pos hlo]; rfl, by rw [H_hr.out, if_pos hlo]; exact World.ownsRow_nil _ _ _ _⟩, H_hb01.out.trans (H_hb14.out.mono H_hb01.out.size)⟩
    · have hord := order_any s H_hg.out l hl7 H_hok.out P M _ _ W1 all bf (0 + cost all) W4 (by have := H_hAll.out; omega) hbf (by have := H_hcost.out; omega) hS4 (by rw [H_hpv.out]; omega)
      have H_hk4 := Lib.hid hk4; clear hk4; have H_hm4 := Lib.hid hm4; clear hm4; have H_hS4 := Lib.hid hS4; clear hS4; have H_hb14 := Lib.hid hb14; clear hb14; have H_hord := Lib.hid hord; clear hord
      go_wp2_with fail
      refine H_hord.out.mono ?_
      rintro e W5 ⟨⟨ov, rfl, hown⟩, hk5, hm5⟩
      have hb15 := H_hb14.out.trans (hk5.belowN H_hb14.out.size hMle)
      have H_hk5 := Lib.hid hk5; clear hk5; have H_hm5 := Lib.hid hm5; clear hm5; have H_hb15 := Lib.hid hb15; clear hb15; have H_hown := Lib.hid hown; clear hown
      go_wp2_with fail
      go_ret3
      exact ⟨⟨ov, by rw [H_hr.out, if_neg (by omega)]; rfl, by rw [H_hr.out, if_neg (by omega)]; exact ownsRow_base H_hown.out (by have := H_hb14.out.size; omega)⟩, H_hb01.out.trans (H_hb15.out.mono H_hb01.out.size)⟩
end Go.Proofs.Ytpkjmnfgpbliaaa
