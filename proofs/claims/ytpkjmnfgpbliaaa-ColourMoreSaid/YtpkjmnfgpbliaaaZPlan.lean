/-
  (*shop).plan and its recursion: what they return. Conditions: a valid shop in memory, valid batches, a map of right plans.
-/
import Derived.Test.YtpkjmnfgpbliaaaZPlanU
namespace Go.Proofs.Ytpkjmnfgpbliaaa
open Go.RowKit Go.Shelf Go.Sort
set_option linter.unusedSimpArgs false
set_option linter.unusedVariables false

set_option maxHeartbeats 4000000 in
theorem plan1_any (s : Shp) (hg : Good s) (l : List Bat) (hl7 : l.length ≤ 7) (hok : ∀ j (hj : j < l.length), okBat s l[j]) (P M Bs Bb : Nat) (sl lv : Value) (w0 : World) : ∀ (lf : Nat) (bf : Nat) (n : Nat) (w : World), lf < 2 ^ l.length → bf < s.cols.length → n + cost lf ≤ 1000000000 → PlanAt s l P M Bs Bb sl lv w0 w n →
    Calls Try.prog 93 #[vStand bf lf, .pointer (some ⟨Bs, 0, none⟩), .pointer (some ⟨Bb, 0, none⟩)] w fun e w' => e = .returned (vPln (planV s l bf lf)) ∧ ButM M w w' ∧ Memo w' M (fun bf lf => planV s l bf lf.toNat) (n + cost lf) := by
  intro lf
  induction lf using Nat.strongRecOn with
  | ind lf ih =>
    intro bf n w hlf hbf hn hp
    obtain ⟨W0, eW0, x0, x1, hb0, hs0⟩ := box2 w (.int .i64 bf) (.int .i64 lf) 125
    obtain ⟨W1, eW1, y0, y1, hb1, hs1⟩ := box2 W0 (.int .i64 0) (.int .i64 0) 127
    have f0 : W1.frozen? ⟨W0.heap.size, 0, none⟩ = false := by rw [← eW1]; simp
    have f1 : W1.frozen? ⟨W0.heap.size, 1, none⟩ = false := by rw [← eW1]; simp
    have hlt0 : w.heap.size < W0.heap.size := by omega
    have hbw := hb0.trans (hb1.mono hb0.size)
    have x0 := (hb1.cell (p := ⟨w.heap.size, 0, none⟩) hlt0).trans x0
    have x1 := (hb1.cell (p := ⟨w.heap.size, 1, none⟩) hlt0).trans x1
    have hp1 := hp.keep (ButM.of_below hbw) (hp.memo.same (hbw.block M hp.memo.lt))
    have hwW : w.heap.size ≤ W0.heap.size := by omega
    have hlf7 : lf < 128 := Nat.lt_of_lt_of_le hlf (Nat.le_trans (Nat.pow_le_pow_right (by decide) hl7) (by decide))
    by_cases hz : lf = 0
    · have hpl : planV s l bf lf = ⟨0, -1⟩ := by subst hz; rfl
      have hz' : ((lf : Int) == 0) = true := by simp [hz]
      have hnn := Nat.le_add_right n (cost lf)
      have H_hb0 := Lib.hid hb0; clear hb0; have H_hs0 := Lib.hid hs0; clear hs0; have H_hb1 := Lib.hid hb1; clear hb1; have H_hs1 := Lib.hid hs1; clear hs1; have H_hbw := Lib.hid hbw; clear hbw; have H_hp := Lib.hid hp; clear hp; have H_hp1 := Lib.hid hp1; clear hp1; have H_ih := Lib.hid ih; clear ih; have H_hpl := Lib.hid hpl; clear hpl; have H_hn := Lib.hid hn; clear hn; have H_hz := Lib.hid hz; clear hz
      go_enter Try.func93, Try.ntmps93
      simp only [vStand]
      go_wp2_with fail
      go_step3
      go_wp2_with fail
      rw [Exit.noGoto_ret]
      have r0 : ((W1.setCell ⟨W0.heap.size, 0, none⟩ (.int .i64 0)).setCell ⟨W0.heap.size, 1, none⟩ (.int .i64 (-1))).cell? ⟨W0.heap.size, 0, none⟩ = some (.int .i64 0) := (World.cell?_setCell_other _ _ _ _ (by simp)).trans (setS y0)
      have r1 : ((W1.setCell ⟨W0.heap.size, 0, none⟩ (.int .i64 0)).setCell ⟨W0.heap.size, 1, none⟩ (.int .i64 (-1))).cell? ⟨W0.heap.size, 1, none⟩ = some (.int .i64 (-1)) := setS ((World.cell?_setCell_other _ _ _ _ (by simp)).trans y1)
      have hbe := (H_hbw.out.setCell (p := ⟨W0.heap.size, 0, none⟩) hwW (.int .i64 0)).setCell (p := ⟨W0.heap.size, 1, none⟩) hwW (.int .i64 (-1))
      refine bodyPost_ret (v := .agg #[.int .i64 0, .int .i64 (-1)]) (by simp [results, Try.results93, go_sem, r0, r1]) rfl ⟨?_, ButM.of_below hbe, (H_hp.out.memo.same (hbe.block M H_hp.out.memo.lt)).mono hnn⟩
      rw [H_hpl.out]; rfl
    · have hz' : ((lf : Int) == 0) = false := by simp; omega
      have hpl := planV_eq s l bf lf
      rw [if_neg hz] at hpl
      have hlook := memo_look hp1.memo bf lf (wfN _ (by have := hg.n1; omega)) (wfN _ (by omega))
      have hS1 := hp1.hS
      have q5 := hS1.c5
      have cs := hp1.cs
      rcases hlook with hlook | hlook
      · obtain ⟨la, lc, hlv, _⟩ := hp.hl.form
        subst hlv
        exact plan1_unknown s hg l hl7 hok P M Bs Bb sl la lc w0 lf bf n w hlf hbf hn ih hp hz (fun w' hw' => hlook w' (hw'.trans (hbw.block M hp.memo.lt).symm))
      · have H_hb0 := Lib.hid hb0; clear hb0; have H_hs0 := Lib.hid hs0; clear hs0; have H_hb1 := Lib.hid hb1; clear hb1; have H_hs1 := Lib.hid hs1; clear hs1; have H_hbw := Lib.hid hbw; clear hbw; have H_hp := Lib.hid hp; clear hp; have H_hp1 := Lib.hid hp1; clear hp1; have H_ih := Lib.hid ih; clear ih; have H_hpl := Lib.hid hpl; clear hpl; have H_hn := Lib.hid hn; clear hn; have H_hS1 := Lib.hid hS1; clear hS1
        go_enter Try.func93, Try.ntmps93
        simp only [vStand] at hlook ⊢
        go_wp2_with fail
        go_step3
        go_wp2_with fail
        have hMlt := H_hp1.out.memo.lt
        have hl0 := hlook W1.drew rfl
        have hl1 := hlook (W1.alloc (.cells #[.int .i64 0, .int .i64 0] 127)).drew (Below.heap_alloc _ _ _ hMlt)
        have hltW : w.heap.size < W1.heap.size := Nat.lt_of_lt_of_le hlt0 H_hb1.out.size
        have hPl := H_hS1.out.lt
        have hBl := H_hp1.out.ls
        clear hlook
        simp only [vPln] at hl0 hl1
        clear eW0 eW1
        go_region
        all_goals
          obtain ⟨W2, eW2, z0, z1, hb2, hs2⟩ := box2 W1 (.int .i64 (planV s l bf lf).lost) (.int .i64 (planV s l bf lf).next) 127
          try rw [eW2]
          have hlt1 : W0.heap.size < W1.heap.size := by have := H_hs1.out; omega
          have y0 := (hb2.cell (p := ⟨W0.heap.size, 0, none⟩) hlt1).trans y0
          have y1 := (hb2.cell (p := ⟨W0.heap.size, 1, none⟩) hlt1).trans y1
          have f0 := (hb2.frozen (p := ⟨W0.heap.size, 0, none⟩) hlt1).trans f0
          have f1 := (hb2.frozen (p := ⟨W0.heap.size, 1, none⟩) hlt1).trans f1
          have y0 : W2.drew.cell? ⟨W0.heap.size, 0, none⟩ = some (.int .i64 0) := y0
          have y1 : W2.drew.cell? ⟨W0.heap.size, 1, none⟩ = some (.int .i64 0) := y1
          have f0 : W2.drew.frozen? ⟨W0.heap.size, 0, none⟩ = false := f0
          have f1 : W2.drew.frozen? ⟨W0.heap.size, 1, none⟩ = false := f1
          have z0 : W2.drew.cell? ⟨W1.heap.size, 0, none⟩ = some (.int .i64 (planV s l bf lf).lost) := z0
          have z1 : W2.drew.cell? ⟨W1.heap.size, 1, none⟩ = some (.int .i64 (planV s l bf lf).next) := z1
          have hbd : Below w.heap.size w W2.drew := (H_hbw.out.trans (hb2.mono H_hbw.out.size)).drew
          have hne : ∀ v : Value, ∀ o, (W2.drew.setCell ⟨W0.heap.size, o, none⟩ v).cell? ⟨W1.heap.size, 0, none⟩ = W2.drew.cell? ⟨W1.heap.size, 0, none⟩ := fun v o => World.cell?_setCell_other _ _ _ _ (by simp)
          clear hl0 hl1 eW2
          generalize W2.drew = W3 at *
          have H_hb2 := Lib.hid hb2; clear hb2; have H_hs2 := Lib.hid hs2; clear hs2; have H_hbd := Lib.hid hbd; clear hbd
          go_wp2_with fail
          rw [Exit.noGoto_ret]
          have hmm : Memo w M (fun bf lf => planV s l bf lf.toNat) n := H_hp.out.memo
          have hnn := Nat.le_add_right n (cost lf)
          have r0 : ((W3.setCell ⟨W0.heap.size, 0, none⟩ (.int .i64 (planV s l bf lf).lost)).setCell ⟨W0.heap.size, 1, none⟩ (.int .i64 (planV s l bf lf).next)).cell? ⟨W0.heap.size, 0, none⟩ = some (.int .i64 (planV s l bf lf).lost) := (World.cell?_setCell_other _ _ _ _ (by simp)).trans (setS y0)
          have r1 : ((W3.setCell ⟨W0.heap.size, 0, none⟩ (.int .i64 (planV s l bf lf).lost)).setCell ⟨W0.heap.size, 1, none⟩ (.int .i64 (planV s l bf lf).next)).cell? ⟨W0.heap.size, 1, none⟩ = some (.int .i64 (planV s l bf lf).next) := setS ((World.cell?_setCell_other _ _ _ _ (by simp)).trans y1)
          have hbe := (H_hbd.out.setCell (p := ⟨W0.heap.size, 0, none⟩) hwW (.int .i64 (planV s l bf lf).lost)).setCell (p := ⟨W0.heap.size, 1, none⟩) hwW (.int .i64 (planV s l bf lf).next)
          exact bodyPost_ret (v := vPln (planV s l bf lf)) (by simp [results, Try.results93, go_sem, r0, r1, vPln]) rfl ⟨rfl, ButM.of_below hbe, (hmm.same (hbe.block M hmm.lt)).mono hnn⟩
end Go.Proofs.Ytpkjmnfgpbliaaa
