/-
  colour.lesser at plans, and the closure that it is handed: what they return. Conditions: none.
-/
import Derived.Test.YtpkjmnfgpbliaaaZSorted
import Derived.Shelf.SlSortCmp.QuietGrown
namespace Go.Proofs.Ytpkjmnfgpbliaaa
open Go.RowKit Go.Shelf Go.Sort
set_option linter.unusedSimpArgs false
set_option linter.unusedVariables false

/-- A plan: what is lost, and the batch that comes next. -/
structure Pln where
  lost : Int
  next : Int
def vPln (p : Pln) : Value := .agg #[.int .i64 p.lost, .int .i64 p.next]

theorem of_any (x y : Int) (w : World) : Calls Try.prog 95 #[.agg #[.int .i64 x, .int .i64 y]] w fun e w' => e = .returned (.int .i64 x) ∧ ∃ q os, w' = grow (w.drewN q) os := by
  go_enter Try.func95, Try.ntmps95
  go_wp2
  go_ret
  exact ⟨rfl, 0, #[.cells #[.int .i64 x, .int .i64 y] 127], by rw [alloc_eq_grow]; rfl⟩
theorem grow_below (w : World) (n : Nat) (os : Array Obj) : Below w.heap.size w (grow (w.drewN n) os) :=
  ⟨rfl, rfl, rfl, by simp [grow], fun k hk => by rw [heap_grow_old _ _ (by simpa using hk)]; rfl⟩
theorem call_of (xs : Array Value) (w : World) : (callFunc 95 xs).run Try.prog w = .ok (.enter 95 xs) w := by kernel_rfl

def lesserP (a b : Pln) : Pln := if b.lost < a.lost then b else a
theorem compare_gt (x y : Int) : decide (0 < Lib.compareInt x y) = decide (y < x) := by
  unfold Lib.compareInt
  split <;> (try split) <;> simp <;> omega

set_option maxHeartbeats 4000000 in
theorem lesser_any (a b : Pln) (w : World) : Calls Try.prog 94 #[vPln a, vPln b, .func (.func 95) #[] #[]] w fun e w' => e = .returned (vPln (lesserP a b)) ∧ Below w.heap.size w w' := by
  obtain ⟨W0, eW0, x0, x1, hb0, hs0⟩ := box2 w (.int .i64 a.lost) (.int .i64 a.next) 127
  obtain ⟨W1, eW1, y0, y1, hb1, hs1⟩ := box2 W0 (.int .i64 b.lost) (.int .i64 b.next) 127
  obtain ⟨W2, eW2, z0, z1, hb2, hs2⟩ := box2 W1 (.int .i64 0) (.int .i64 0) 127
  have f0 : W2.frozen? ⟨W1.heap.size, 0, none⟩ = false := by rw [← eW2]; simp
  have f1 : W2.frozen? ⟨W1.heap.size, 1, none⟩ = false := by rw [← eW2]; simp
  have h12 := hb1.trans (hb2.mono hb1.size)
  have hbw := hb0.trans (h12.mono hb0.size)
  have x0 := (h12.cell (p := ⟨w.heap.size, 0, none⟩) (by show w.heap.size < _; omega)).trans x0
  have x1 := (h12.cell (p := ⟨w.heap.size, 1, none⟩) (by show w.heap.size < _; omega)).trans x1
  have y0 := (hb2.cell (p := ⟨W0.heap.size, 0, none⟩) (by show W0.heap.size < _; omega)).trans y0
  have y1 := (hb2.cell (p := ⟨W0.heap.size, 1, none⟩) (by show W0.heap.size < _; omega)).trans y1
  have hw1 : w.heap.size ≤ W1.heap.size := by omega
  have hl0 : w.heap.size < W2.heap.size := by omega
  have hl1 : W0.heap.size < W2.heap.size := by omega
  have hl2 : W1.heap.size < W2.heap.size := by omega
  have eof := call_of
  have hmx : Try.prog.follows .mixedOrders = true := by kernel_rfl
  have g0 : ∀ n os, (grow (W2.drewN n) os).cell? ⟨w.heap.size, 0, none⟩ = some (.int .i64 a.lost) := cell_grown hl0 x0
  have g1 : ∀ n os, (grow (W2.drewN n) os).cell? ⟨w.heap.size, 1, none⟩ = some (.int .i64 a.next) := cell_grown hl0 x1
  have g2 : ∀ n os, (grow (W2.drewN n) os).cell? ⟨W0.heap.size, 0, none⟩ = some (.int .i64 b.lost) := cell_grown hl1 y0
  have g3 : ∀ n os, (grow (W2.drewN n) os).cell? ⟨W0.heap.size, 1, none⟩ = some (.int .i64 b.next) := cell_grown hl1 y1
  have hg := grow_below W2
  have hcmp := compare_gt a.lost b.lost
  have H_hb0 := Lib.hid hb0; clear hb0; have H_hb1 := Lib.hid hb1; clear hb1; have H_hb2 := Lib.hid hb2; clear hb2; have H_hs0 := Lib.hid hs0; clear hs0; have H_hs1 := Lib.hid hs1; clear hs1; have H_hs2 := Lib.hid hs2; clear hs2; have H_h12 := Lib.hid h12; clear h12; have H_hbw := Lib.hid hbw; clear hbw; have H_hg := Lib.hid hg; clear hg; have H_hcmp := Lib.hid hcmp; clear hcmp
  go_enter Try.func94, Try.ntmps94
  simp only [vPln]
  go_wp2_with fail
  go_quiet_grown (first | (go_at_call 95; refine Calls.grown_of (of_any _ _ _)) | (go_at_call 103; refine Calls.grown_of ((Try.cmp_Compare_int _ _ _).mono fun _ _ h => ⟨h.1, 0, #[], by rw [h.2, grow_empty]; rfl⟩)))
  dsimp only
  have hb3 := H_hg.out nq osq
  have y0 := g2 nq osq
  have y1 := g3 nq osq
  have x0 := g0 nq osq
  have x1 := g1 nq osq
  have f0 := (hb3.frozen (p := ⟨W1.heap.size, 0, none⟩) hl2).trans f0
  have f1 := (hb3.frozen (p := ⟨W1.heap.size, 1, none⟩) hl2).trans f1
  have z0 := (hb3.cell (p := ⟨W1.heap.size, 0, none⟩) hl2).trans z0
  have z1 := (hb3.cell (p := ⟨W1.heap.size, 1, none⟩) hl2).trans z1
  have hb03 := H_hbw.out.trans (hb3.mono H_hbw.out.size)
  clear g0 g1 g2 g3
  clear eW2 eW1 eW0
  generalize grow (W2.drewN nq) osq = W3 at *
  have H_hb3 := Lib.hid hb3; clear hb3; have H_hb03 := Lib.hid hb03; clear hb03
  have hcmp := H_hcmp.out
  have hne : ∀ v : Value, (W3.setCell ⟨W1.heap.size, 0, none⟩ v).cell? ⟨W1.heap.size, 1, none⟩ = W3.cell? ⟨W1.heap.size, 1, none⟩ := fun v => World.cell?_setCell_other _ _ _ _ (by simp)
  by_cases h : b.lost < a.lost
  · have hc : 0 < Lib.compareInt a.lost b.lost := by simpa [h] using hcmp
    clear hcmp
    go_wp2_with fail
    have r0 : ((W3.setCell ⟨W1.heap.size, 0, none⟩ (.int .i64 b.lost)).setCell ⟨W1.heap.size, 1, none⟩ (.int .i64 b.next)).cell? ⟨W1.heap.size, 0, none⟩ = some (.int .i64 b.lost) := (World.cell?_setCell_other _ _ _ _ (by simp)).trans (setS z0)
    have r1 : ((W3.setCell ⟨W1.heap.size, 0, none⟩ (.int .i64 b.lost)).setCell ⟨W1.heap.size, 1, none⟩ (.int .i64 b.next)).cell? ⟨W1.heap.size, 1, none⟩ = some (.int .i64 b.next) := setS ((hne _).trans z1)
    refine bodyPost_ret (v := vPln b) (by simp [results, Try.results94, go_sem, r0, r1, vPln]) rfl ⟨by rw [show lesserP a b = b from by unfold lesserP; simp [h]]; rfl, ?_⟩
    exact (H_hb03.out.setCell (p := ⟨W1.heap.size, 0, none⟩) hw1 _).setCell (p := ⟨W1.heap.size, 1, none⟩) hw1 _
  · have hc : ¬ 0 < Lib.compareInt a.lost b.lost := by simpa [h] using hcmp
    clear hcmp
    go_wp2_with fail
    have r0 : ((W3.setCell ⟨W1.heap.size, 0, none⟩ (.int .i64 a.lost)).setCell ⟨W1.heap.size, 1, none⟩ (.int .i64 a.next)).cell? ⟨W1.heap.size, 0, none⟩ = some (.int .i64 a.lost) := (World.cell?_setCell_other _ _ _ _ (by simp)).trans (setS z0)
    have r1 : ((W3.setCell ⟨W1.heap.size, 0, none⟩ (.int .i64 a.lost)).setCell ⟨W1.heap.size, 1, none⟩ (.int .i64 a.next)).cell? ⟨W1.heap.size, 1, none⟩ = some (.int .i64 a.next) := setS ((hne _).trans z1)
    refine bodyPost_ret (v := vPln a) (by simp [results, Try.results94, go_sem, r0, r1, vPln]) rfl ⟨by rw [show lesserP a b = a from by unfold lesserP; simp; omega]; rfl, ?_⟩
    exact (H_hb03.out.setCell (p := ⟨W1.heap.size, 0, none⟩) hw1 _).setCell (p := ⟨W1.heap.size, 1, none⟩) hw1 _
end Go.Proofs.Ytpkjmnfgpbliaaa
