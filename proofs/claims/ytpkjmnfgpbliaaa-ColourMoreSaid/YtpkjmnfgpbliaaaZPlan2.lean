/-
  (*shop).plan and (*shop).order: what they return. Conditions: a valid shop in memory, valid batches, a map of right plans.
-/
import Derived.Test.YtpkjmnfgpbliaaaZPlan
import Derived.Test.YtpkjmnfgpbliaaaZBestPlain2
import Derived.Laws.EntriesVeiled
namespace Go.Proofs.Ytpkjmnfgpbliaaa
open Go.RowKit Go.Shelf Go.Sort
set_option linter.unusedSimpArgs false
set_option linter.unusedVariables false

/-- A shop that was opened, with a map of right plans. -/
structure ShopSt (s : Shp) (l : List Bat) (P M : Nat) (sl lv : Value) (w0 w : World) (n : Nat) : Prop where
  hb : Below w0.heap.size w0 w
  hc : IsCols w0 sl s.cols
  hl : IsBats w0 lv l
  hM : w0.heap.size ≤ M
  hS : ShopAt w P M sl lv s
  memo : Memo w M (fun bf lf => planV s l bf lf.toNat) n
theorem ShopSt.keep {s : Shp} {l : List Bat} {P M : Nat} {sl lv : Value} {w0 w w' : World} {n n' : Nat} (h : ShopSt s l P M sl lv w0 w n) (hk : ButM M w w') (hm : Memo w' M (fun bf lf => planV s l bf lf.toNat) n') : ShopSt s l P M sl lv w0 w' n' where
  hb := h.hb.trans (KeepB.below hk fun k hk => by have := h.hb.size; have := h.hM; exact ⟨by omega, by omega⟩)
  hc := h.hc
  hl := h.hl
  hM := h.hM
  hS := hk.shop h.hS ⟨h.hS.lt, by have := h.hS.ltM; omega⟩
  memo := hm

set_option maxRecDepth 100000 in
set_option maxHeartbeats 4000000 in
theorem plan_any (s : Shp) (hg : Good s) (l : List Bat) (hl7 : l.length ≤ 7) (hok : ∀ j (hj : j < l.length), okBat s l[j]) (P M : Nat) (sl lv : Value) (w0 : World) (lf bf n : Nat) (w : World) (hlf : lf < 2 ^ l.length) (hbf : bf < s.cols.length) (hn : n + cost lf ≤ 1000000000) (hp : ShopSt s l P M sl lv w0 w n) :
    Calls Try.prog 71 #[.pointer (some ⟨P, 0, none⟩), .agg #[.int .i64 bf, .int .i64 lf]] w fun e w' => e = .returned (vPln (planV s l bf lf)) ∧ ButM M w w' ∧ Memo w' M (fun bf lf => planV s l bf lf.toNat) (n + cost lf) := by
  have eof := call_plan1
  obtain ⟨W1, eW1⟩ : ∃ W1, w.alloc (.cells #[.pointer (some ⟨P, 0, none⟩)] 101) = W1 := ⟨_, rfl⟩
  obtain ⟨W2, eW2, x0, x1, hb2, hs2⟩ := box2 W1 (.int .i64 bf) (.int .i64 lf) 125
  obtain ⟨W3, eW3, y0, y1, hb3, hs3⟩ := box2 W2 (.int .i64 0) (.int .i64 0) 127
  obtain ⟨W4, eW4⟩ : ∃ W4, W3.alloc (.cells #[.nilFunc] 128) = W4 := ⟨_, rfl⟩
  have hb1 : Below w.heap.size w W1 := by rw [← eW1]; exact (Below.refl _ _).alloc (Nat.le_refl _) _
  have hb4 : Below W3.heap.size W3 W4 := by rw [← eW4]; exact (Below.refl _ _).alloc (Nat.le_refl _) _
  have hs1 : W1.heap.size = w.heap.size + 1 := by rw [← eW1]; simp
  have hs4 : W4.heap.size = W3.heap.size + 1 := by rw [← eW4]; simp
  have c0 : W1.cell? ⟨w.heap.size, 0, none⟩ = some (.pointer (some ⟨P, 0, none⟩)) := by rw [← eW1]; simp
  have g0 : W3.frozen? ⟨W2.heap.size, 0, none⟩ = false := by rw [← eW3]; simp
  have g1 : W3.frozen? ⟨W2.heap.size, 1, none⟩ = false := by rw [← eW3]; simp
  have u0 : W4.cell? ⟨W3.heap.size, 0, none⟩ = some .nilFunc := by rw [← eW4]; simp
  have u1 : W4.frozen? ⟨W3.heap.size, 0, none⟩ = false := by rw [← eW4]; simp
  have h34 : W2.heap.size < W3.heap.size := by omega
  have y0 := (hb4.cell (p := ⟨W2.heap.size, 0, none⟩) h34).trans y0
  have y1 := (hb4.cell (p := ⟨W2.heap.size, 1, none⟩) h34).trans y1
  have g0 := (hb4.frozen (p := ⟨W2.heap.size, 0, none⟩) h34).trans g0
  have g1 := (hb4.frozen (p := ⟨W2.heap.size, 1, none⟩) h34).trans g1
  have hb24 := hb3.trans (hb4.mono hb3.size)
  have hb14 := hb2.trans (hb24.mono hb2.size)
  have x0 := (hb24.cell (p := ⟨W1.heap.size, 0, none⟩) (by show W1.heap.size < _; omega)).trans x0
  have x1 := (hb24.cell (p := ⟨W1.heap.size, 1, none⟩) (by show W1.heap.size < _; omega)).trans x1
  have c0 := (hb14.cell (p := ⟨w.heap.size, 0, none⟩) (by show w.heap.size < _; omega)).trans c0
  have hbw := hb1.trans (hb14.mono hb1.size)
  obtain ⟨W5, eW5⟩ : ∃ W5, W4.setCell ⟨W3.heap.size, 0, none⟩ (.func (.func 93) #[] #[.pointer (some ⟨w.heap.size, 0, none⟩), .pointer (some ⟨W3.heap.size, 0, none⟩)]) = W5 := ⟨_, rfl⟩
  have hs5 : W5.heap.size = W4.heap.size := by rw [← eW5]; simp
  have u0 : W5.cell? ⟨W3.heap.size, 0, none⟩ = some (.func (.func 93) #[] #[.pointer (some ⟨w.heap.size, 0, none⟩), .pointer (some ⟨W3.heap.size, 0, none⟩)]) := by rw [← eW5]; exact setS u0
  have hb5 : Below W3.heap.size W4 W5 := by rw [← eW5]; exact (Below.refl _ _).setCell (p := ⟨W3.heap.size, 0, none⟩) (Nat.le_refl _) _
  have y0 := (hb5.cell (p := ⟨W2.heap.size, 0, none⟩) h34).trans y0
  have y1 := (hb5.cell (p := ⟨W2.heap.size, 1, none⟩) h34).trans y1
  have g0 := (hb5.frozen (p := ⟨W2.heap.size, 0, none⟩) h34).trans g0
  have g1 := (hb5.frozen (p := ⟨W2.heap.size, 1, none⟩) h34).trans g1
  have x0 := (hb5.cell (p := ⟨W1.heap.size, 0, none⟩) (by show W1.heap.size < _; omega)).trans x0
  have x1 := (hb5.cell (p := ⟨W1.heap.size, 1, none⟩) (by show W1.heap.size < _; omega)).trans x1
  have c0 := (hb5.cell (p := ⟨w.heap.size, 0, none⟩) (by show w.heap.size < _; omega)).trans c0
  have hbw5 : Below w.heap.size w W5 := hbw.trans (hb5.mono (by omega))
  have hM5 := hp.memo.same (hbw5.block M hp.memo.lt)
  have hp5 := hp.keep (ButM.of_below hbw5) hM5
  have hMl := hp.memo.lt
  have hcall := plan1_any s hg l hl7 hok P M w.heap.size W3.heap.size sl lv w0 lf bf n W5 hlf hbf hn ⟨hp5.hb, hp5.hc, hp5.hl, hp5.hM, hp5.hS, c0, u0, by omega, by omega, by omega, by omega, hp5.memo⟩
  have hlt25 : W2.heap.size < W5.heap.size := by omega
  have hMne : ¬ W2.heap.size = M := by omega
  have hw2 : w.heap.size ≤ W2.heap.size := by omega
  have H_hb1 := Lib.hid hb1; clear hb1; have H_hb2 := Lib.hid hb2; clear hb2; have H_hb3 := Lib.hid hb3; clear hb3; have H_hb4 := Lib.hid hb4; clear hb4; have H_hs1 := Lib.hid hs1; clear hs1; have H_hs2 := Lib.hid hs2; clear hs2; have H_hs3 := Lib.hid hs3; clear hs3; have H_hs4 := Lib.hid hs4; clear hs4; have H_hb24 := Lib.hid hb24; clear hb24; have H_hb14 := Lib.hid hb14; clear hb14; have H_hbw := Lib.hid hbw; clear hbw; have H_hb5 := Lib.hid hb5; clear hb5; have H_hs5 := Lib.hid hs5; clear hs5; have H_hbw5 := Lib.hid hbw5; clear hbw5; have H_hM5 := Lib.hid hM5; clear hM5; have H_hp5 := Lib.hid hp5; clear hp5; have H_hcall := Lib.hid hcall; clear hcall; have H_hg := Lib.hid hg; clear hg; have H_hok := Lib.hid hok; clear hok; have H_hp := Lib.hid hp; clear hp
  go_enter Try.func71, Try.ntmps71
  go_wp2_with fail
  refine H_hcall.out.mono ?_
  rintro e Wc ⟨rfl, hkc, hmc⟩
  have r0 := (hkc.cell (b := W2.heap.size) (o := 0) hlt25 hMne).trans y0
  have r1 := (hkc.cell (b := W2.heap.size) (o := 1) hlt25 hMne).trans y1
  have s0 := (hkc.frozen (b := W2.heap.size) (o := 0) hlt25 hMne).trans g0
  have s1 := (hkc.frozen (b := W2.heap.size) (o := 1) hlt25 hMne).trans g1
  simp only [vPln]
  generalize hpv : planV s l bf lf = pv at *
  have H_hkc := Lib.hid hkc; clear hkc; have H_hmc := Lib.hid hmc; clear hmc; have H_hpv := Lib.hid hpv; clear hpv
  go_wp2_with fail
  have q0 : ((Wc.setCell ⟨W2.heap.size, 0, none⟩ (.int .i64 pv.lost)).setCell ⟨W2.heap.size, 1, none⟩ (.int .i64 pv.next)).cell? ⟨W2.heap.size, 0, none⟩ = some (.int .i64 pv.lost) := (World.cell?_setCell_other _ _ _ _ (by simp)).trans (setS r0)
  have q1 : ((Wc.setCell ⟨W2.heap.size, 0, none⟩ (.int .i64 pv.lost)).setCell ⟨W2.heap.size, 1, none⟩ (.int .i64 pv.next)).cell? ⟨W2.heap.size, 1, none⟩ = some (.int .i64 pv.next) := setS ((World.cell?_setCell_other _ _ _ _ (by simp)).trans r1)
  have hbe := (((Below.refl W2.heap.size Wc).setCell (p := ⟨W2.heap.size, 0, none⟩) (Nat.le_refl _) (.int .i64 pv.lost)).setCell (p := ⟨W2.heap.size, 1, none⟩) (Nat.le_refl _) (.int .i64 pv.next))
  refine bodyPost_ret (v := vPln pv) (by simp [results, Try.results71, go_sem, q0, q1, vPln]) rfl ⟨by rw [H_hpv.out], ?_, ?_⟩
  · exact ((ButM.of_below H_hbw5.out).trans H_hkc.out).below hbe (by omega)
  · exact H_hmc.out.same (hbe.block M (by omega))
end Go.Proofs.Ytpkjmnfgpbliaaa
