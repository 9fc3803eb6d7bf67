/-
  colour.must, (*shop).look, colour.open: what they return. Conditions: the values read as a shop, batches and numbers.
-/
import Derived.Test.YtpkjmnfgpbliaaaZCheck
import Derived.Recover
import Derived.Defers
import Derived.Deep.RegionHeld3
import Derived.Deep.RegionWith
import Derived.Maps.Own
namespace Go.Proofs.Ytpkjmnfgpbliaaa
open Go.RowKit
set_option linter.unusedSimpArgs false
set_option linter.unusedVariables false

theorem must_true (e : Int) (w : World) : Calls Try.prog 83 #[.bool true, .int .i64 e] w fun r w' => r = .returned (.tuple #[]) ∧ w = w' := by
  go_enter Try.func83, Try.ntmps83
  go_wp2
  go_end0
  exact ⟨rfl, rfl⟩

theorem must_false (e : Int) (w : World) : Calls Try.prog 83 #[.bool false, .int .i64 e] w fun r w' => r = .panicked [{ v := .iface 31 (.int .i64 e), recovered := false }] ∧ w = w' := by
  go_enter Try.func83, Try.ntmps83
  go_wp2
  exact ⟨rfl, rfl, rfl⟩

theorem box2 (w : World) (v0 v1 : Value) (T : TypeId) : ∃ W0, w.alloc (.cells #[v0, v1] T) = W0 ∧ W0.cell? ⟨w.heap.size, 0, none⟩ = some v0 ∧ W0.cell? ⟨w.heap.size, 1, none⟩ = some v1 ∧
    Below w.heap.size w W0 ∧ W0.heap.size = w.heap.size + 1 :=
  ⟨_, rfl, by simp, by simp, (Below.refl _ _).alloc (Nat.le_refl _) _, by simp⟩

theorem IsList.drew {α : Type} {n : Nat} {R : World → List Value → α → Prop} (hR : Mono R) {w : World} {v : Value} {l : List α} (h : IsList n R w v l) : IsList n R w.drew v l := h.below hR (Below.refl _ _).drew
theorem outOneD (lo hi n : Int) (W : World) {H : Nat} (h : W.heap.size = H) : Calls Try.prog 47 #[.int .i64 lo, .int .i64 hi, .slice (some ⟨H, 0, none⟩) 1 1] (W.alloc (.cells #[.int .i64 n] 3)).drew fun e w' =>
    e = .returned (.bool (outB lo hi [n])) ∧ Below W.heap.size W w' :=
  (out_any lo hi _ [n] _ (IsList.drew mono_RInt (ints1 W n _ h))).mono fun _ _ ⟨h1, h2⟩ => ⟨h1, (((Below.refl _ W).alloc (Nat.le_refl _) _).drew).trans (h2.mono (by simp))⟩

/-- A way that is over by a panic, inside a region: what would follow is never asked. -/
theorem regionOver {K : Act → World → Prop} {W : Act → World → Prop} (_hK : ∀ a w, W a w → K a w) (a : Act) (w : World) {G : Prop} (hg : G) (_h : Hid False → K a w) : G := hg

/-- The error of a batch (0: none). -/
def batErr (s : Shp) (b : Bat) : Int := if outB 0 ((s.cols.length : Int) - 1) [b.c] then 4 else if outB 1 100000 [b.g] then 7 else 0

set_option maxRecDepth 100000 in
def lookEnd (x : Int) : Ending := if x = 0 then .returned (.tuple #[]) else .panicked [{ v := .iface 31 (.int .i64 x), recovered := false }]

set_option maxHeartbeats 4000000 in
theorem look_any (s : Shp) (b : Bat) (B : Nat) (a : Option Addr) (c : Nat) (w : World) (hB : B < w.heap.size) (h0 : w.cell? ⟨B, 0, none⟩ = some (.slice a s.cols.length c)) (hl : s.cols.length ≤ 17592186044416) :
    Calls Try.prog 84 #[.pointer (some ⟨B, 0, none⟩), .agg #[.int .i64 b.c, .int .i64 b.g]] w fun r w' =>
      r = lookEnd (batErr s b) ∧ Below w.heap.size w w' := by
  obtain ⟨W0, eW, b0, b1, hbW, hsz⟩ := box2 w (.int .i64 b.c) (.int .i64 b.g) 28
  have a0 := (hbW.cell (p := ⟨B, 0, none⟩) hB).trans h0
  have hw : w.heap.size < W0.heap.size := by omega
  have hB0 : B < W0.heap.size := by omega
  have H_eW := Lib.hid eW; clear eW; have H_hbW := Lib.hid hbW; clear hbW; have H_hsz := Lib.hid hsz; clear hsz
  have hwr : IntKind.i64.wrap ((s.cols.length : Int) - 1) = (s.cols.length : Int) - 1 := IntWalk.i64_in _ (by omega)
  by_cases t1 : outB 0 ((s.cols.length : Int) - 1) [b.c] = true
  · go_enter Try.func84, Try.ntmps84
    go_wp2_with fail
    rw [H_eW.out]
    have hbe : batErr s b = 4 := by simp [batErr, t1]
    have H_hbe := Lib.hid hbe; clear hbe
    go_region_with (first | (go_at_call 47; refine (outOneD _ _ _ W0 rfl).mono ?_; rintro e w1 ⟨rfl, hb1⟩) | (go_at_call 83; refine (must_false _ _).mono ?_; rintro e w' ⟨rfl, rfl⟩; go_must (refine regionOver (by assumption) ⟨#[], []⟩ w ?_ ?_; exact ⟨rfl, by simp [lookEnd, H_hbe.out], H_hbW.out.trans (hb1.mono H_hbW.out.size)⟩; intro hFalse)))
    all_goals exact (hFalse.out : False).elim
  · have t1 : outB 0 ((s.cols.length : Int) - 1) [b.c] = false := by simpa using t1
    go_enter Try.func84, Try.ntmps84
    go_wp2_with fail
    rw [H_eW.out]
    go_region_held3 (fun w' => w'.cell? ⟨B, 0, none⟩ = some (.slice a s.cols.length c) ∧ w'.cell? ⟨w.heap.size, 0, none⟩ = some (.int .i64 b.c)) (first | go_keep | exact ⟨(hb1.cell hB0).trans a0, (hb1.cell hw).trans b0⟩) (first | (go_at_call 47; refine (outOneD _ _ _ W0 rfl).mono ?_; rintro e w1 ⟨rfl, hb1⟩) | (go_at_call 83; refine (must_true _ _).mono ?_; rintro e w' ⟨rfl, rfl⟩))
    have hbw := H_hbW.out.trans (hb1.mono H_hbW.out.size)
    have b1' := (hb1.cell hw).trans b1
    clear b0 b1 a0 h0 hb1 hwr
    have HX := Lib.hid hbw; clear hbw
    go_wp2_with fail
    refine (outOne _ _ _ w1 rfl).mono ?_
    rintro e w2 ⟨rfl, hb2⟩
    by_cases t2 : outB 1 100000 [b.g] = true
    · have hbe : batErr s b = 7 := by simp [batErr, t1, t2]
      have H_hbe := Lib.hid hbe; clear hbe
      go_wp2_with (go_at_call 83; refine (must_false _ _).mono ?_; rintro e w' ⟨rfl, rfl⟩)
      exact ⟨rfl, by simp [lookEnd, H_hbe.out], HX.out.trans (hb2.mono HX.out.size)⟩
    · have t2 : outB 1 100000 [b.g] = false := by simpa using t2
      have hbe : batErr s b = 0 := by simp [batErr, t1, t2]
      have H_hbe := Lib.hid hbe; clear hbe
      go_wp2_with (go_at_call 83; refine (must_true _ _).mono ?_; rintro e w' ⟨rfl, rfl⟩)
      go_end0
      exact ⟨by simp [lookEnd, H_hbe.out], HX.out.trans (hb2.mono HX.out.size)⟩
end Go.Proofs.Ytpkjmnfgpbliaaa
