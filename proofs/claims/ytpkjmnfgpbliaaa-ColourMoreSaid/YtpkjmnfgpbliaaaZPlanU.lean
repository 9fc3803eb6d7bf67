/-
  (*shop).plan and its recursion, where a plan is not known yet: what it returns. Conditions: a valid shop in memory, valid batches, a map of right plans.
-/
import Derived.Test.YtpkjmnfgpbliaaaZPlanPlain
import Derived.Test.YtpkjmnfgpbliaaaZRound
import Derived.Test.YtpkjmnfgpbliaaaZBits
import Derived.WalkMore
import Derived.Deep.RegionHeld3
import Derived.StillTailTactics
namespace Go.Proofs.Ytpkjmnfgpbliaaa
open Go.RowKit Go.Shelf Go.Sort
set_option linter.unusedSimpArgs false
set_option linter.unusedVariables false

theorem call_plan1 (xs : Array Value) (w : World) : (callFunc 93 xs).run Try.prog w = .ok (.enter 93 xs) w := by kernel_rfl

/-- What the recursion stands on, in the world w; the arguments lie in w0. -/
structure PlanAt (s : Shp) (l : List Bat) (P M Bs Bb : Nat) (sl lv : Value) (w0 w : World) (n : Nat) : Prop where
  hb : Below w0.heap.size w0 w
  hc : IsCols w0 sl s.cols
  hl : IsBats w0 lv l
  hM : w0.heap.size ≤ M
  hS : ShopAt w P M sl lv s
  cs : w.cell? ⟨Bs, 0, none⟩ = some (.pointer (some ⟨P, 0, none⟩))
  cb : w.cell? ⟨Bb, 0, none⟩ = some (.func (.func 93) #[] #[.pointer (some ⟨Bs, 0, none⟩), .pointer (some ⟨Bb, 0, none⟩)])
  ls : Bs < w.heap.size
  lb : Bb < w.heap.size
  ns : ¬ Bs = M
  nb : ¬ Bb = M
  memo : Memo w M (fun bf lf => planV s l bf lf.toNat) n

/-- All blocks but the map's are as they were. -/
def ButM (M : Nat) (w w' : World) : Prop := KeepB (fun k => k < w.heap.size ∧ ¬ k = M) w w'
theorem PlanAt.keep {s : Shp} {l : List Bat} {P M Bs Bb : Nat} {sl lv : Value} {w0 w w' : World} {n n' : Nat} (h : PlanAt s l P M Bs Bb sl lv w0 w n) (hk : ButM M w w') (hm : Memo w' M (fun bf lf => planV s l bf lf.toNat) n') : PlanAt s l P M Bs Bb sl lv w0 w' n' where
  hb := h.hb.trans (hk.below fun k hk => by have := h.hb.size; have := h.hM; exact ⟨by omega, by omega⟩)
  hc := h.hc
  hl := h.hl
  hM := h.hM
  hS := hk.shop h.hS ⟨h.hS.lt, by have := h.hS.ltM; omega⟩
  cs := (KeepB.cell (b := Bs) (o := 0) hk ⟨h.ls, h.ns⟩).trans h.cs
  cb := (KeepB.cell (b := Bb) (o := 0) hk ⟨h.lb, h.nb⟩).trans h.cb
  ls := Nat.lt_of_lt_of_le h.ls hk.size
  lb := Nat.lt_of_lt_of_le h.lb hk.size
  ns := h.ns
  nb := h.nb
  memo := hm
theorem ButM.of_below {M : Nat} {w w' : World} (h : Below w.heap.size w w') : ButM M w w' := KeepB.of_below h fun k hk => hk.1
theorem ButM.trans {M : Nat} {w w' w'' : World} (h : ButM M w w') (k : ButM M w' w'') : ButM M w w'' :=
  ⟨k.os.trans h.os, k.tape.trans h.tape, k.output.trans h.output, Nat.le_trans h.size k.size, fun i hi => (k.block i ⟨Nat.lt_of_lt_of_le hi.1 h.size, hi.2⟩).trans (h.block i hi)⟩

theorem wfN (x : Nat) (h : x < 1000000) : (Lit.int .i64 (x : Int)).wf = true := by
  have e : IntKind.i64.min = -9223372036854775808 := by decide
  have e2 : IntKind.i64.max = 9223372036854775807 := by decide
  simp only [Lit.wf, e, e2, Bool.and_eq_true, decide_eq_true_eq]
  omega
theorem testBit_sub (lf i j : Nat) (hl : lf < 128) (hi : i < 7) (hj : j < 7) (h : lf.testBit i = true) : (lf - 2 ^ i).testBit j = (lf.testBit j && !decide (i = j)) := testBit_sub_pow lf i j h
/-- How many stores a plan makes at most. -/
def cost (lf : Nat) : Nat := 8 ^ ((List.range 7).countP fun i => lf.testBit i)

theorem countP_less (l : List Nat) (hd : l.Nodup) (p : Nat → Bool) (i : Nat) (hi : i ∈ l) (hp : p i = true) : l.countP p = l.countP (fun k => p k && !decide (i = k)) + 1 := by
  induction l with
  | nil => cases hi
  | cons x t ih =>
    rw [List.nodup_cons] at hd
    rw [List.countP_cons, List.countP_cons]
    by_cases hx : i = x
    · subst hx
      have : t.countP (fun k => p k && !decide (i = k)) = t.countP p := by
        apply List.countP_congr
        intro k hk
        have : ¬ i = k := fun e => hd.1 (e ▸ hk)
        simp [this]
      rw [this]
      simp [hp]
    · have := ih hd.2 (by simpa [hx] using hi)
      rw [this]
      simp [hx]
      omega
theorem cost_sub (lf i : Nat) (hi : i < 7) (h : lf.testBit i = true) : cost lf = 8 * cost (lf - 2 ^ i) := by
  unfold cost
  rw [countP_less (List.range 7) List.nodup_range (fun i => lf.testBit i) i (by simp; omega) h, Nat.pow_succ, Nat.mul_comm]
  congr 2
  apply List.countP_congr
  intro k _
  rw [testBit_sub_pow _ _ _ h]
/-- What the recursion is to do. -/
def PlanC (s : Shp) (l : List Bat) (P M Bs Bb : Nat) (lf bf n : Nat) (w : World) : Prop :=
  Calls Try.prog 93 #[vStand bf lf, .pointer (some ⟨Bs, 0, none⟩), .pointer (some ⟨Bb, 0, none⟩)] w fun e w' => e = .returned (vPln (planV s l bf lf)) ∧ ButM M w w' ∧ Memo w' M (fun bf lf => planV s l bf lf.toNat) (n + cost lf)
def foldK (s : Shp) (l : List Bat) (bf : Int) (lf k : Nat) : Pln := (List.range k).foldl (planStep s l (planV s l) bf lf) ⟨1099511627776, -2⟩
theorem foldK_succ (s : Shp) (l : List Bat) (bf : Int) (lf k : Nat) : foldK s l bf lf (k + 1) = planStep s l (planV s l) bf lf (foldK s l bf lf k) k := by
  simp [foldK, List.range_succ]
theorem KeepB.frozen {D : Nat → Prop} {A B : World} (h : KeepB D A B) {b o : Nat} (hb : D b) : B.frozen? ⟨b, o, none⟩ = A.frozen? ⟨b, o, none⟩ := by
  simp only [World.frozen?, h.block b hb]
theorem ButM.cell {M : Nat} {w w' : World} (h : ButM M w w') {b o : Nat} (hb : b < w.heap.size) (hM : ¬ b = M) : w'.cell? ⟨b, o, none⟩ = w.cell? ⟨b, o, none⟩ := KeepB.cell h ⟨hb, hM⟩
theorem ButM.frozen {M : Nat} {w w' : World} (h : ButM M w w') {b o : Nat} (hb : b < w.heap.size) (hM : ¬ b = M) : w'.frozen? ⟨b, o, none⟩ = w.frozen? ⟨b, o, none⟩ := KeepB.frozen h ⟨hb, hM⟩
theorem ButM.below {M n : Nat} {w w' w'' : World} (h : ButM M w w') (hb : Below n w' w'') (hn : w.heap.size ≤ n) : ButM M w w'' :=
  ⟨hb.os.trans h.os, hb.tape.trans h.tape, hb.output.trans h.output, Nat.le_trans h.size hb.size, fun k hk => (hb.block k (Nat.lt_of_lt_of_le hk.1 hn)).trans (h.block k hk)⟩
theorem ButM.trans' {M : Nat} {w w' w'' w3 : World} (h : ButM M w w') (k : ButM M w' w'') (k' : ButM M w'' w3) : ButM M w w3 := (h.trans k).trans k'
theorem ButM.new {M : Nat} {w w' : World} (h : ButM M w w') (o : Obj) : ButM M w (w'.alloc o) := h.below ((Below.refl _ _).alloc (Nat.le_refl _) o) h.size
theorem ButM.put {M : Nat} {w w' : World} (h : ButM M w w') {b o : Nat} (hb : w.heap.size ≤ b) (v : Value) : ButM M w (w'.setCell ⟨b, o, none⟩ v) := h.below ((Below.refl _ w').setCell (p := ⟨b, o, none⟩) (Nat.le_refl b) v) hb
theorem ButM.refl (M : Nat) (w : World) : ButM M w w := KeepB.refl _ _
/-- The rounds over the batches. -/
structure PlanLoop (s : Shp) (l : List Bat) (M : Nat) (A : World) (bf : Int) (lf n c8 k : Nat) (wr : World) : Prop where
  memo : Memo wr M (fun bf lf => planV s l bf lf.toNat) (n + k * c8)
  keep : ButM M A wr
  lt : A.heap.size < wr.heap.size
  b0 : wr.cell? ⟨A.heap.size, 0, none⟩ = some (.int .i64 (foldK s l bf lf k).lost)
  b1 : wr.cell? ⟨A.heap.size, 1, none⟩ = some (.int .i64 (foldK s l bf lf k).next)
  f0 : wr.frozen? ⟨A.heap.size, 0, none⟩ = false
  f1 : wr.frozen? ⟨A.heap.size, 1, none⟩ = false
theorem PlanLoop.go {s : Shp} {l : List Bat} {M : Nat} {A : World} {bf : Int} {lf n c8 k : Nat} {wr w' : World} (h : PlanLoop s l M A bf lf n c8 k wr) (hM : ¬ A.heap.size = M) (hk : ButM M wr w') (hm : Memo w' M (fun bf lf => planV s l bf lf.toNat) (n + (k + 1) * c8)) (hf : planStep s l (planV s l) bf lf (foldK s l bf lf k) k = foldK s l bf lf k) : PlanLoop s l M A bf lf n c8 (k + 1) w' where
  memo := hm
  keep := h.keep.trans hk
  lt := Nat.lt_of_lt_of_le h.lt hk.size
  b0 := by rw [foldK_succ, hf]; exact (hk.cell h.lt hM).trans h.b0
  b1 := by rw [foldK_succ, hf]; exact (hk.cell h.lt hM).trans h.b1
  f0 := (hk.frozen h.lt hM).trans h.f0
  f1 := (hk.frozen h.lt hM).trans h.f1
set_option maxRecDepth 100000 in
set_option maxHeartbeats 4000000 in
theorem plan1_unknown (s : Shp) (hg : Good s) (l : List Bat) (hl7 : l.length ≤ 7) (hok : ∀ j (hj : j < l.length), okBat s l[j]) (P M Bs Bb : Nat) (sl : Value) (la : Option Addr) (lc : Nat) (w0 : World) (lf bf n : Nat) (w : World) (hlf : lf < 2 ^ l.length) (hbf : bf < s.cols.length) (hn : n + cost lf ≤ 1000000000)
    (ih : ∀ lf', lf' < lf → ∀ (bf n : Nat) (w : World), lf' < 2 ^ l.length → bf < s.cols.length → n + cost lf' ≤ 1000000000 → PlanAt s l P M Bs Bb sl (.slice la l.length lc) w0 w n → PlanC s l P M Bs Bb lf' bf n w)
    (hp : PlanAt s l P M Bs Bb sl (.slice la l.length lc) w0 w n) (hz : ¬ lf = 0)
    (hlook : ∀ w' : World, w'.heap[M]? = w.heap[M]? → (Instr.lookup 104 (.map (some M)) (vStand bf lf) true).run Try.prog w' = .ok (.tuple #[.agg #[.int .i64 0, .int .i64 0], .bool false]) w') :
    PlanC s l P M Bs Bb lf bf n w := by
  unfold PlanC
  obtain ⟨W0, eW0, x0, x1, hb0, hs0⟩ := box2 w (.int .i64 bf) (.int .i64 lf) 125
  obtain ⟨W1, eW1, y0, y1, hb1, hs1⟩ := box2 W0 (.int .i64 0) (.int .i64 0) 127
  have f0 : W1.frozen? ⟨W0.heap.size, 0, none⟩ = false := by rw [← eW1]; simp
  have f1 : W1.frozen? ⟨W0.heap.size, 1, none⟩ = false := by rw [← eW1]; simp
  have hlt0 : w.heap.size < W0.heap.size := by omega
  have hbw := hb0.trans (hb1.mono hb0.size)
  have x0 := (hb1.cell (p := ⟨w.heap.size, 0, none⟩) hlt0).trans x0
  have x1 := (hb1.cell (p := ⟨w.heap.size, 1, none⟩) hlt0).trans x1
  have hp1 := hp.keep (ButM.of_below hbw) (hp.memo.same (hbw.block M hp.memo.lt))
  have hMw := hp.memo.lt
  have hMW : W1.heap[M]? = w.heap[M]? := hbw.block M hMw
  have hwW : w.heap.size ≤ W0.heap.size := by omega
  have hlf7 : lf < 128 := Nat.lt_of_lt_of_le hlf (Nat.le_trans (Nat.pow_le_pow_right (by decide) hl7) (by decide))
  have hz' : ((lf : Int) == 0) = false := by simp; omega
  have hS1 := hp1.hS
  have q5 := hS1.c5
  have cs := hp1.cs
  have H_hb0 := Lib.hid hb0; clear hb0; have H_hs0 := Lib.hid hs0; clear hs0; have H_hb1 := Lib.hid hb1; clear hb1; have H_hs1 := Lib.hid hs1; clear hs1; have H_hbw := Lib.hid hbw; clear hbw; have H_hp := Lib.hid hp; clear hp; have H_hp1 := Lib.hid hp1; clear hp1; have H_ih := Lib.hid ih; clear ih; have H_hn := Lib.hid hn; clear hn; have H_hS1 := Lib.hid hS1; clear hS1; have H_hok := Lib.hid hok; clear hok
  go_enter Try.func93, Try.ntmps93
  simp only [vStand] at hlook ⊢
  go_wp2_with fail
  go_step3
  go_wp2_with fail
  have hMlt := H_hp1.out.memo.lt
  have hl0 := hlook W1.drew hMW
  have hl1 := hlook (W1.alloc (.cells #[.int .i64 0, .int .i64 0] 127)).drew ((Below.heap_alloc _ _ _ hMlt).trans hMW)
  have hltW : w.heap.size < W1.heap.size := Nat.lt_of_lt_of_le hlt0 H_hb1.out.size
  have hPl := H_hS1.out.lt
  have hBl := H_hp1.out.ls
  clear hlook
  clear eW0 eW1
  go_region
  all_goals
    go_wp2_with fail
    obtain ⟨W2, eW2, z0, z1, hb2, hs2⟩ := box2 W1 (.int .i64 1099511627776) (.int .i64 (-2)) 127
    rw [eW2]
    have hlt1 : W0.heap.size < W1.heap.size := by have := H_hs1.out; omega
    have y0 : W2.drew.cell? ⟨W0.heap.size, 0, none⟩ = some (.int .i64 0) := (hb2.cell (p := ⟨W0.heap.size, 0, none⟩) hlt1).trans y0
    have y1 : W2.drew.cell? ⟨W0.heap.size, 1, none⟩ = some (.int .i64 0) := (hb2.cell (p := ⟨W0.heap.size, 1, none⟩) hlt1).trans y1
    have f0 : W2.drew.frozen? ⟨W0.heap.size, 0, none⟩ = false := (hb2.frozen (p := ⟨W0.heap.size, 0, none⟩) hlt1).trans f0
    have f1 : W2.drew.frozen? ⟨W0.heap.size, 1, none⟩ = false := (hb2.frozen (p := ⟨W0.heap.size, 1, none⟩) hlt1).trans f1
    have x0 : W2.drew.cell? ⟨w.heap.size, 0, none⟩ = some (.int .i64 bf) := (hb2.cell (p := ⟨w.heap.size, 0, none⟩) hltW).trans x0
    have x1 : W2.drew.cell? ⟨w.heap.size, 1, none⟩ = some (.int .i64 lf) := (hb2.cell (p := ⟨w.heap.size, 1, none⟩) hltW).trans x1
    have z0 : W2.drew.cell? ⟨W1.heap.size, 0, none⟩ = some (.int .i64 1099511627776) := z0
    have z1 : W2.drew.cell? ⟨W1.heap.size, 1, none⟩ = some (.int .i64 (-2)) := z1
    have g0 : W2.drew.frozen? ⟨W1.heap.size, 0, none⟩ = false := by rw [← eW2]; simp
    have g1 : W2.drew.frozen? ⟨W1.heap.size, 1, none⟩ = false := by rw [← eW2]; simp
    have hbd : Below W1.heap.size W1 W2.drew := hb2.drew
    have hs2 : W2.drew.heap.size = W1.heap.size + 1 := hs2
    have hp2 := H_hp1.out.keep (ButM.of_below hbd) (H_hp1.out.memo.same (hbd.block M H_hp1.out.memo.lt))
    clear hl0 hl1 eW2 hb2
    generalize W2.drew = W3 at *
    have cs2 := hp2.cs
    have q1 := hp2.hS.c4
    have hW3 : ButM M W1 W3 := ButM.of_below hbd
    have H_hbd := Lib.hid hbd; clear hbd; have H_hs2 := Lib.hid hs2; clear hs2; have H_hp2 := Lib.hid hp2; clear hp2; have H_hW3 := Lib.hid hW3; clear hW3
    go_step3
    simp only [Exit.then]
    first | apply_assumption | (rename_i aK; apply aK)
    go_wp2_with fail
    obtain ⟨c8, hc8⟩ : ∃ c8, cost lf = 8 * c8 := by
      obtain ⟨i, hi⟩ := Nat.exists_testBit_of_ne_zero hz
      have hi7 : i < 7 := by
        rcases Nat.lt_or_ge i 7 with h | h
        · exact h
        · have := Nat.testBit_lt_two_pow (Nat.lt_of_lt_of_le hlf7 (Nat.pow_le_pow_right (n := 2) (by decide) h)); rw [this] at hi; cases hi
      exact ⟨_, cost_sub lf i hi7 hi⟩
    go_loopw [32] (fun i wr => ∃ k : Nat, k ≤ l.length ∧ i = .int .i64 k ∧ PlanLoop s l M W1 bf lf n c8 k wr) (fun i _ => l.length - (intOf i).toNat)
    case atStart => exact ⟨0, by omega, rfl, ⟨by simpa using H_hp2.out.memo, H_hW3.out, by have := H_hs2.out; omega, z0, z1, g0, g1⟩⟩
    case round =>
      obtain ⟨k, hk, rfl, hL⟩ := hrel
      have hpr := H_hp1.out.keep hL.keep hL.memo
      have hM1 : M < w.heap.size := hMw
      have x0 := (hL.keep.cell (b := w.heap.size) (o := 0) hltW (by omega)).trans ((H_hW3.out.cell (b := w.heap.size) (o := 0) hltW (by omega)).symm.trans x0)
      have x1 := (hL.keep.cell (b := w.heap.size) (o := 1) hltW (by omega)).trans ((H_hW3.out.cell (b := w.heap.size) (o := 1) hltW (by omega)).symm.trans x1)
      have y0 := (hL.keep.cell (b := W0.heap.size) (o := 0) hlt1 (by omega)).trans ((H_hW3.out.cell (b := W0.heap.size) (o := 0) hlt1 (by omega)).symm.trans y0)
      have y1 := (hL.keep.cell (b := W0.heap.size) (o := 1) hlt1 (by omega)).trans ((H_hW3.out.cell (b := W0.heap.size) (o := 1) hlt1 (by omega)).symm.trans y1)
      have f0 := (hL.keep.frozen (b := W0.heap.size) (o := 0) hlt1 (by omega)).trans ((H_hW3.out.frozen (b := W0.heap.size) (o := 0) hlt1 (by omega)).symm.trans f0)
      have f1 := (hL.keep.frozen (b := W0.heap.size) (o := 1) hlt1 (by omega)).trans ((H_hW3.out.frozen (b := W0.heap.size) (o := 1) hlt1 (by omega)).symm.trans f1)
      have z0 := hL.b0
      have z1 := hL.b1
      have g0 := hL.f0
      have g1 := hL.f1
      have cs := hpr.cs
      have cb := hpr.cb
      have q3 := hpr.hS.c3
      have q5 := hpr.hS.c5
      have hBb := hpr.lb
      have hBs := hpr.ls
      have hPr := hpr.hS.lt
      by_cases hlt : k < l.length
      · obtain ⟨b, off, rfl, hb1, d0, d1⟩ := IsBats.at hpr.hl k hlt
        have d0 := (hpr.hb.cell (p := ⟨b, off + k * 2, none⟩) hb1).trans d0
        have d1 := (hpr.hb.cell (p := ⟨b, off + k * 2 + 1, none⟩) hb1).trans d1
        obtain ⟨⟨k1, k2⟩, k3, k4⟩ := H_hok.out k hlt
        obtain ⟨bc, hbc⟩ := Int.eq_ofNat_of_zero_le k1
        have hel : l.getD k default = ⟨bc, l[k].g⟩ := by rw [getD_at _ _ _ hlt]; cases hx : l[k]; rw [hx] at hbc; simp only at hbc; rw [hbc]
        rw [hbc] at d0 k2
        generalize l[k].g = xg at *
        have hbc' : bc < s.cols.length := by omega
        obtain ⟨W4, eW4, u0, u1, hb4, hs4⟩ := box2 wr (.int .i64 bc) (.int .i64 xg) 28
        have hwr4 : wr.heap.size < W4.heap.size := by omega
        have hL1 := hL.lt
        have hkp4 : ButM M wr W4 := ButM.of_below hb4
        have hp4 := hpr.keep hkp4 (hpr.memo.same (hb4.block M hpr.memo.lt))
        have cs4 := hp4.cs
        have x04 := (hb4.cell (p := ⟨w.heap.size, 0, none⟩) (by show w.heap.size < _; omega)).trans x0
        have x14 := (hb4.cell (p := ⟨w.heap.size, 1, none⟩) (by show w.heap.size < _; omega)).trans x1
        have hbit := bit_at lf k (by omega)
        by_cases ht : lf.testBit k = true
        · rw [if_pos ht] at hbit
          have H_hL := Lib.hid hL; clear hL; have H_hpr := Lib.hid hpr; clear hpr; have H_hb4 := Lib.hid hb4; clear hb4; have H_hs4 := Lib.hid hs4; clear hs4; have H_hkp4 := Lib.hid hkp4; clear hkp4; have H_hp4 := Lib.hid hp4; clear hp4; have H_hel := Lib.hid hel; clear hel; have H_hg := Lib.hid hg; clear hg
          go_wp2_with fail
          refine (rinses_any s P M sl (.slice (some ⟨b, off, none⟩) l.length lc) bf bc xg W4 H_hp4.out.hS (H_hp4.out.hc.below H_hp4.out.hb) H_hg.out hbf hbc' k3 k4).mono ?_
          rintro e W5 ⟨rfl, hb5⟩
          have hkp5 : ButM M wr W5 := ButM.trans H_hkp4.out (ButM.of_below hb5)
          have hm5 := H_hp4.out.memo.same (hb5.block M H_hp4.out.memo.lt)
          have hp5 := H_hpr.out.keep hkp5 hm5
          by_cases hneg : needs s bf ⟨bc, xg⟩ < 0
          · have hst : planStep s l (planV s l) bf lf (foldK s l bf lf k) k = foldK s l bf lf k := by
              rw [planStep, if_pos ht, H_hel.out, Int.toNat_natCast, if_pos hneg]
            have H_hb5 := Lib.hid hb5; clear hb5; have H_hkp5 := Lib.hid hkp5; clear hkp5; have H_hm5 := Lib.hid hm5; clear hm5; have H_hp5 := Lib.hid hp5; clear hp5; have H_hst := Lib.hid hst; clear hst
            generalize needs s bf ⟨bc, xg⟩ = r at *
            go_wp2_with fail
            exact ⟨⟨k + 1, by omega, by simp, H_hL.out.go (by omega) H_hkp5.out (H_hm5.out.mono (by rw [Nat.succ_mul]; omega)) H_hst.out⟩, by simp [intOf]; omega⟩
          · have hoff := bit_off lf k (by omega) (by omega) ht
            have hwk : IntKind.i64.wrap ((2 : Int) ^ k) = 2 ^ k := by
              have h1 : 2 ^ k < 9223372036854775808 := Nat.lt_of_le_of_lt (Nat.pow_le_pow_right (n := 2) (by decide) (show k ≤ 62 by omega)) (by decide)
              have := i64_small (2 ^ k) h1
              push_cast at this
              exact this
            have hnr := needs_range s bf ⟨bc, xg⟩
            have hsub := cost_sub lf k (by omega) ht
            have hc8' : cost (lf - 2 ^ k) = c8 := by omega
            have hple := bit_le ht
            have hpos := Nat.two_pow_pos k
            have hnow : n + k * c8 + cost (lf - 2 ^ k) ≤ 1000000000 := by
              have h1 : k * c8 ≤ 7 * c8 := Nat.mul_le_mul_right _ (by omega)
              have := H_hn.out
              omega
            have hcall : ∀ X, ButM M W5 X → X.heap[M]? = W5.heap[M]? → Calls Try.prog 93 #[.agg #[.int .i64 bc, .int .i64 ((lf - 2 ^ k : Nat) : Int)], .pointer (some ⟨Bs, 0, none⟩), .pointer (some ⟨Bb, 0, none⟩)] X fun e w' => e = .returned (.agg #[.int .i64 (planV s l bc (lf - 2 ^ k)).lost, .int .i64 (planV s l bc (lf - 2 ^ k)).next]) ∧ ButM M X w' ∧ Memo w' M (fun bf lf => planV s l bf lf.toNat) (n + (k + 1) * c8) := fun X hX hXM => by
              refine (H_ih.out (lf - 2 ^ k) (by omega) bc (n + k * c8) X (by omega) hbc' hnow (hp5.keep hX (hm5.same hXM))).mono ?_
              rintro e w' ⟨h1, h2, h3⟩
              exact ⟨h1, h2, h3.mono (by rw [hc8', Nat.succ_mul]; omega)⟩
            have hrest := planF_ok s H_hg.out l (lf - 2 ^ k) bc (lf - 2 ^ k)
            have hlt5 : wr.heap.size < W5.heap.size := Nat.lt_of_lt_of_le hwr4 hb5.size
            have hS5 : ∀ X, ButM M W5 X → X.cell? ⟨Bb, 0, none⟩ = some (.func (.func 93) #[] #[.pointer (some ⟨Bs, 0, none⟩), .pointer (some ⟨Bb, 0, none⟩)]) ∧ X.cell? ⟨wr.heap.size, 0, none⟩ = some (.int .i64 bc) ∧ X.cell? ⟨w.heap.size, 1, none⟩ = some (.int .i64 lf) := fun X hX =>
              ⟨(hX.cell hp5.lb hp5.nb).trans hp5.cb, (hX.cell hlt5 (by omega)).trans ((hb5.cell (p := ⟨wr.heap.size, 0, none⟩) hwr4).trans u0), (hX.cell (Nat.lt_of_lt_of_le (by omega) hkp5.size) (by omega)).trans ((hkp5.cell (by omega) (by omega)).trans x1)⟩
            have hd1 : ButM M W5 W5.drew := ⟨rfl, rfl, rfl, Nat.le_refl _, fun _ _ => rfl⟩
            have hd2 : ∀ o, ButM M W5 (W5.drew.alloc o) := fun o => hd1.below ((Below.refl _ _).alloc (Nat.le_refl _) o) (Nat.le_refl _)
            have hM5 : M < W5.heap.size := by omega
            have hdM : ∀ o, (W5.drew.alloc o).heap[M]? = W5.heap[M]? := fun o => Below.heap_alloc _ _ _ hM5
            have hfr : ∀ Wc, ButM M (W5.drew.alloc (.cells #[.int .i64 0, .int .i64 0] 127)) Wc → Wc.cell? ⟨W5.heap.size, 0, none⟩ = some (.int .i64 0) ∧ Wc.cell? ⟨W5.heap.size, 1, none⟩ = some (.int .i64 0) ∧ Wc.frozen? ⟨W5.heap.size, 0, none⟩ = false ∧ Wc.frozen? ⟨W5.heap.size, 1, none⟩ = false := fun Wc hkc => by
              refine ⟨?_, ?_, ?_, ?_⟩
              · exact (hkc.cell (b := W5.heap.size) (o := 0) (by simp) (by omega)).trans (World.cell?_alloc_at _ _ _ _ rfl)
              · exact (hkc.cell (b := W5.heap.size) (o := 1) (by simp) (by omega)).trans (World.cell?_alloc_at _ _ _ _ rfl)
              · exact (hkc.frozen (b := W5.heap.size) (o := 0) (by simp) (by omega)).trans (World.frozen?_alloc_at _ _ _ _ rfl)
              · exact (hkc.frozen (b := W5.heap.size) (o := 1) (by simp) (by omega)).trans (World.frozen?_alloc_at _ _ _ _ rfl)
            have eof := call_plan1
            have hcell := hS5 W5 (ButM.refl _ _)
            obtain ⟨v0, v1, v2⟩ := hcell
            generalize hrn : needs s bf ⟨bc, xg⟩ = r at *
            have H_hb5 := Lib.hid hb5; clear hb5; have H_hkp5 := Lib.hid hkp5; clear hkp5; have H_hm5 := Lib.hid hm5; clear hm5; have H_hp5 := Lib.hid hp5; clear hp5; have H_hcall := Lib.hid hcall; clear hcall; have H_hrest := Lib.hid hrest; clear hrest; have H_hsub := Lib.hid hsub; clear hsub; have H_hc8' := Lib.hid hc8'; clear hc8'; have H_hnow := Lib.hid hnow; clear hnow; have H_hS5 := Lib.hid hS5; clear hS5; have H_hd1 := Lib.hid hd1; clear hd1; have H_hd2 := Lib.hid hd2; clear hd2; have H_hdM := Lib.hid hdM; clear hdM; have H_hfr := Lib.hid hfr; clear hfr; have H_hrn := Lib.hid hrn; clear hrn
            go_wp2_with fail
            go_region_held3 (fun X => X.cell? ⟨Bb, 0, none⟩ = some (.func (.func 93) #[] #[.pointer (some ⟨Bs, 0, none⟩), .pointer (some ⟨Bb, 0, none⟩)]) ∧ X.cell? ⟨wr.heap.size, 0, none⟩ = some (.int .i64 bc) ∧ X.cell? ⟨w.heap.size, 1, none⟩ = some (.int .i64 lf)) (first | exact H_hS5.out _ H_hd1.out | exact H_hS5.out _ (H_hd2.out _) | exact H_hS5.out _ (H_hd1.out.trans hkc) | exact H_hS5.out _ ((H_hd1.out.trans hkc).new _) | exact H_hS5.out _ ((H_hd2.out _).trans hkc) | exact H_hS5.out _ ((((H_hd2.out _).trans hkc).put (Nat.le_refl _) _).put (Nat.le_refl _) _)) (first | (go_at_call 93; refine (H_hcall.out _ H_hd1.out rfl).mono ?_; rintro e Wc ⟨rfl, hkc, hmc⟩) | (go_at_call 93; refine (H_hcall.out _ (H_hd2.out _) (H_hdM.out _)).mono ?_; rintro e Wc ⟨rfl, hkc, hmc⟩; obtain ⟨t0, t1, t2, t3⟩ := H_hfr.out _ hkc))
            focus
              have hkf := (H_hd1.out.trans hkc).new (.cells #[.int .i64 (planV s l bc (lf - 2 ^ k)).lost, .int .i64 (planV s l bc (lf - 2 ^ k)).next] 127)
              have hmf := hmc.same (Below.heap_alloc Wc (.cells #[.int .i64 (planV s l bc (lf - 2 ^ k)).lost, .int .i64 (planV s l bc (lf - 2 ^ k)).next] 127) M hmc.lt)
              have rr0 : (Wc.alloc (.cells #[.int .i64 (planV s l bc (lf - 2 ^ k)).lost, .int .i64 (planV s l bc (lf - 2 ^ k)).next] 127)).cell? ⟨Wc.heap.size, 0, none⟩ = some (.int .i64 (planV s l bc (lf - 2 ^ k)).lost) := by simp
              generalize Wc.alloc (.cells #[.int .i64 (planV s l bc (lf - 2 ^ k)).lost, .int .i64 (planV s l bc (lf - 2 ^ k)).next] 127) = Wf at *
              clear hmc hkc
              generalize Wc.heap.size = Bt at *
            rotate_left
            focus
              have hkf : ButM M W5 ((Wc.setCell ⟨W5.heap.size, 0, none⟩ (.int .i64 (planV s l bc (lf - 2 ^ k)).lost)).setCell ⟨W5.heap.size, 1, none⟩ (.int .i64 (planV s l bc (lf - 2 ^ k)).next)) := (((H_hd2.out _).trans hkc).put (Nat.le_refl _) _).put (Nat.le_refl _) _
              have hmf : Memo ((Wc.setCell ⟨W5.heap.size, 0, none⟩ (.int .i64 (planV s l bc (lf - 2 ^ k)).lost)).setCell ⟨W5.heap.size, 1, none⟩ (.int .i64 (planV s l bc (lf - 2 ^ k)).next)) M (fun bf lf => planV s l bf lf.toNat) (n + (k + 1) * c8) :=
                hmc.same ((((Below.refl W5.heap.size Wc).setCell (p := ⟨W5.heap.size, 0, none⟩) (Nat.le_refl _) _).setCell (p := ⟨W5.heap.size, 1, none⟩) (Nat.le_refl _) _).block M hM5)
              have rr0 : ((Wc.setCell ⟨W5.heap.size, 0, none⟩ (.int .i64 (planV s l bc (lf - 2 ^ k)).lost)).setCell ⟨W5.heap.size, 1, none⟩ (.int .i64 (planV s l bc (lf - 2 ^ k)).next)).cell? ⟨W5.heap.size, 0, none⟩ = some (.int .i64 (planV s l bc (lf - 2 ^ k)).lost) := (World.cell?_setCell_other _ _ _ _ (by simp)).trans (setS t0)
              generalize (Wc.setCell ⟨W5.heap.size, 0, none⟩ (.int .i64 (planV s l bc (lf - 2 ^ k)).lost)).setCell ⟨W5.heap.size, 1, none⟩ (.int .i64 (planV s l bc (lf - 2 ^ k)).next) = Wf at *
              clear hmc hkc t0 t1 t2 t3
              generalize hBt : W5.heap.size = Bt at *
              clear hBt
            all_goals
              rename_i hHeld
              clear hHeld eof
              simp only [Exit.then]
              first | apply_assumption | (rename_i aK; apply aK)
              have hkw : ButM M wr Wf := H_hkp5.out.trans hkf
              have hkA := H_hL.out.keep.trans hkw
              have hpf := H_hpr.out.keep hkw hmf
              have zf0 := (hkw.cell hL1 (by omega)).trans z0
              have zf1 := (hkw.cell hL1 (by omega)).trans z1
              have gf0 := (hkw.frozen hL1 (by omega)).trans g0
              have gf1 := (hkw.frozen hL1 (by omega)).trans g1
              have csf := hpf.cs
              have q3f := hpf.hS.c3
              have hr0 := H_hg.out.r0
              have hr1 := H_hg.out.r1
              obtain ⟨⟨hre0, hre1⟩, _⟩ := H_hrest.out
              have hrest2 : planF s l (lf - 2 ^ k) bc (lf - 2 ^ k) = planV s l bc (lf - 2 ^ k) := rfl
              rw [hrest2] at hre0 hre1
              have hm0 : 0 ≤ r * s.rinse := Int.mul_nonneg (by omega) hr0
              have hm1 : r * s.rinse ≤ 3 * 10000 := Int.mul_le_mul (by omega) hr1 hr0 (by omega)
              have hw1 : IntKind.i64.wrap (r * s.rinse) = r * s.rinse := IntWalk.i64_in _ ⟨by omega, by omega⟩
              have hw2 : IntKind.i64.wrap (r * s.rinse + (planV s l bc (lf - 2 ^ k)).lost) = r * s.rinse + (planV s l bc (lf - 2 ^ k)).lost := IntWalk.i64_in _ ⟨by omega, by omega⟩
              have hfk : foldK s l bf lf (k + 1) = lesserP (foldK s l bf lf k) ⟨r * s.rinse + (planV s l bc (lf - 2 ^ k)).lost, k⟩ := by
                rw [foldK_succ, planStep, if_pos ht, H_hel.out, Int.toNat_natCast, H_hrn.out, if_neg (by omega)]
              have hgo : ∀ W', ButM M W1 W' → Memo W' M (fun bf lf => planV s l bf lf.toNat) (n + (k + 1) * c8) → W'.heap.size > W1.heap.size → W'.cell? ⟨W1.heap.size, 0, none⟩ = some (.int .i64 (foldK s l bf lf (k + 1)).lost) → W'.cell? ⟨W1.heap.size, 1, none⟩ = some (.int .i64 (foldK s l bf lf (k + 1)).next) → W'.frozen? ⟨W1.heap.size, 0, none⟩ = false → W'.frozen? ⟨W1.heap.size, 1, none⟩ = false → PlanLoop s l M W1 bf lf n c8 (k + 1) W' := fun W' h1 h2 h3 h4 h5 h6 h7 => ⟨h2, h1, h3, h4, h5, h6, h7⟩
              rw [hfk] at hgo
              generalize planV s l bc (lf - 2 ^ k) = rest at *
              generalize foldK s l bf lf k = fk at *
              generalize hrr : r * s.rinse = rr at *
              have hsz : W1.heap.size < Wf.heap.size := Nat.lt_of_lt_of_le hL1 hkw.size
              have H_hkf := Lib.hid hkf; clear hkf; have H_hmf := Lib.hid hmf; clear hmf; have H_hkw := Lib.hid hkw; clear hkw; have H_hkA := Lib.hid hkA; clear hkA; have H_hpf := Lib.hid hpf; clear hpf; have H_hgo := Lib.hid hgo; clear hgo; have H_hfk := Lib.hid hfk; clear hfk
              have zd0 : Wf.drew.cell? ⟨W1.heap.size, 0, none⟩ = some (.int .i64 fk.lost) := zf0
              have zd1 : Wf.drew.cell? ⟨W1.heap.size, 1, none⟩ = some (.int .i64 fk.next) := zf1
              have gd0 : Wf.drew.frozen? ⟨W1.heap.size, 0, none⟩ = false := gf0
              have gd1 : Wf.drew.frozen? ⟨W1.heap.size, 1, none⟩ = false := gf1
              have hkd : ButM M W1 Wf.drew := H_hkA.out.trans ⟨rfl, rfl, rfl, Nat.le_refl _, fun _ _ => rfl⟩
              have hmd : Memo Wf.drew M (fun bf lf => planV s l bf lf.toNat) (n + (k + 1) * c8) := H_hmf.out.same rfl
              have hszd : W1.heap.size < Wf.drew.heap.size := hsz
              have H_hkd := Lib.hid hkd; clear hkd; have H_hmd := Lib.hid hmd; clear hmd
              go_still_tail 13, (by kernel_rfl)
              change wpList _ _ _ _ _ Wf.drew
              clear zf0 zf1 gf0 gf1 csf q3f rr0 z0 z1 g0 g1
              generalize Wf.drew = Wd at *
              have hles : Calls Try.prog 94 #[.agg #[.int .i64 fk.lost, .int .i64 fk.next], .agg #[.int .i64 (rr + rest.lost), .int .i64 k], .func (.func 95) #[] #[]] Wd fun e w' => e = .returned (.agg #[.int .i64 (lesserP fk ⟨rr + rest.lost, k⟩).lost, .int .i64 (lesserP fk ⟨rr + rest.lost, k⟩).next]) ∧ Below Wd.heap.size Wd w' := lesser_any fk ⟨rr + rest.lost, k⟩ Wd
              go_wp2_with fail
              refine hles.mono ?_
              rintro e Wl ⟨rfl, hbl⟩
              have zl0 := (hbl.cell (p := ⟨W1.heap.size, 0, none⟩) hszd).trans zd0
              have zl1 := (hbl.cell (p := ⟨W1.heap.size, 1, none⟩) hszd).trans zd1
              have gl0 := (hbl.frozen (p := ⟨W1.heap.size, 0, none⟩) hszd).trans gd0
              have gl1 := (hbl.frozen (p := ⟨W1.heap.size, 1, none⟩) hszd).trans gd1
              have hkl := H_hkd.out.trans (ButM.trans (ButM.of_below hbl) (ButM.refl _ _))
              clear hles
              have H_hbl := Lib.hid hbl; clear hbl; have H_hkl := Lib.hid hkl; clear hkl
              go_wp2_with fail
              refine ⟨⟨k + 1, by omega, by simp, H_hgo.out _ ((H_hkl.out.put (Nat.le_refl _) _).put (Nat.le_refl _) _) ?_ ?_ ?_ ?_ ?_ ?_⟩, by simp [intOf]; omega⟩
              · exact H_hmd.out.same (((((Below.refl W1.heap.size Wl).setCell (p := ⟨W1.heap.size, 0, none⟩) (Nat.le_refl _) _).setCell (p := ⟨W1.heap.size, 1, none⟩) (Nat.le_refl _) _).block M (by omega)).trans (H_hbl.out.block M H_hmd.out.lt))
              · have := H_hbl.out.size; simp; omega
              · exact (World.cell?_setCell_other _ _ _ _ (by simp)).trans (setS zl0)
              · exact setS ((World.cell?_setCell_other _ _ _ _ (by simp)).trans zl1)
              · rw [World.frozen?_setCell, World.frozen?_setCell]; exact gl0
              · rw [World.frozen?_setCell, World.frozen?_setCell]; exact gl1
        · rw [if_neg ht] at hbit
          have hst : planStep s l (planV s l) bf lf (foldK s l bf lf k) k = foldK s l bf lf k := by
            rw [planStep, if_neg ht]
          have H_hL := Lib.hid hL; clear hL; have H_hpr := Lib.hid hpr; clear hpr; have H_hb4 := Lib.hid hb4; clear hb4; have H_hs4 := Lib.hid hs4; clear hs4; have H_hkp4 := Lib.hid hkp4; clear hkp4; have H_hp4 := Lib.hid hp4; clear hp4; have H_hel := Lib.hid hel; clear hel; have H_hg := Lib.hid hg; clear hg; have H_hst := Lib.hid hst; clear hst
          go_wp2_with fail
          exact ⟨⟨k + 1, by omega, by simp, H_hL.out.go (by omega) H_hkp4.out (H_hp4.out.memo.mono (by rw [Nat.succ_mul]; omega)) H_hst.out⟩, by simp [intOf]; omega⟩
      · have hke : k = l.length := by omega
        have hfk : foldK s l bf lf k = planV s l bf lf := by rw [hke, planV_eq s l bf lf, if_neg hz]; rfl
        have hbump : n + k * c8 + 1 ≤ n + cost lf := by
          have : k * c8 ≤ 7 * c8 := Nat.mul_le_mul_right _ (by omega)
          have : 0 < cost lf := Nat.pow_pos (by decide)
          omega
        obtain ⟨w', hmu, hmm, hgr⟩ := memo_store (w := wr.drew) (hpr.memo.same rfl) (by show n + k * c8 < maxLen; unfold maxLen; have := H_hn.out; omega) bf lf (wfN _ (by have := hg.n1; omega)) (wfN _ (by omega))
        rw [hfk] at z0 z1
        simp only [vStand, vPln, Int.toNat_natCast] at hmu
        have hkm : ButM M wr w' := ⟨hgr.os, hgr.tape, hgr.output, hgr.size, fun j hj => hgr.block j hj.1 (fun e => hj.2 (by cases e; rfl))⟩
        have hL1 := hL.lt
        have y0 := (hkm.cell (b := W0.heap.size) (o := 0) (by omega) (by omega)).trans y0
        have y1 := (hkm.cell (b := W0.heap.size) (o := 1) (by omega) (by omega)).trans y1
        have f0 := (hkm.frozen (b := W0.heap.size) (o := 0) (by omega) (by omega)).trans f0
        have f1 := (hkm.frozen (b := W0.heap.size) (o := 1) (by omega) (by omega)).trans f1
        have zz0 := (hkm.cell (b := W1.heap.size) (o := 0) (by omega) (by omega)).trans z0
        have zz1 := (hkm.cell (b := W1.heap.size) (o := 1) (by omega) (by omega)).trans z1
        have hbt := H_hbw.out
        have hkall : ButM M w w' := (ButM.of_below hbt).trans' hL.keep hkm
        have H_hL := Lib.hid hL; clear hL; have H_hpr := Lib.hid hpr; clear hpr; have H_hkm := Lib.hid hkm; clear hkm; have H_hgr := Lib.hid hgr; clear hgr; have H_hmm := Lib.hid hmm; clear hmm; have H_hkall := Lib.hid hkall; clear hkall; have H_hbt := Lib.hid hbt; clear hbt; have H_hbump := Lib.hid hbump; clear hbump
        go_wp2_with fail
        go_region
        simp only [Exit.then]
        first | apply_assumption | (rename_i aK; apply aK)
        go_wp2_with fail
        rw [Exit.noGoto_ret]
        have r0 : ((w'.setCell ⟨W0.heap.size, 0, none⟩ (.int .i64 (planV s l bf lf).lost)).setCell ⟨W0.heap.size, 1, none⟩ (.int .i64 (planV s l bf lf).next)).cell? ⟨W0.heap.size, 0, none⟩ = some (.int .i64 (planV s l bf lf).lost) := (World.cell?_setCell_other _ _ _ _ (by simp)).trans (setS y0)
        have r1 : ((w'.setCell ⟨W0.heap.size, 0, none⟩ (.int .i64 (planV s l bf lf).lost)).setCell ⟨W0.heap.size, 1, none⟩ (.int .i64 (planV s l bf lf).next)).cell? ⟨W0.heap.size, 1, none⟩ = some (.int .i64 (planV s l bf lf).next) := setS ((World.cell?_setCell_other _ _ _ _ (by simp)).trans y1)
        have hbe := (((Below.refl w.heap.size w').setCell (p := ⟨W0.heap.size, 0, none⟩) hwW (.int .i64 (planV s l bf lf).lost)).setCell (p := ⟨W0.heap.size, 1, none⟩) hwW (.int .i64 (planV s l bf lf).next))
        refine bodyPost_ret (v := vPln (planV s l bf lf)) (by simp [results, Try.results93, go_sem, r0, r1, vPln]) rfl ⟨rfl, H_hkall.out.below hbe (Nat.le_refl _), ?_⟩
        exact (H_hmm.out.same (hbe.block M hMw)).mono H_hbump.out
end Go.Proofs.Ytpkjmnfgpbliaaa
