/-
  colour.must, (*shop).look, colour.open: what they return. Conditions: the values read as a shop, batches and numbers.
-/
import Derived.Test.YtpkjmnfgpbliaaaZColA
import Derived.Recover
import Derived.Defers
import Derived.Deep.RegionHeld3
import Derived.Deep.RegionWith
import Derived.Maps.Own
namespace Go.Proofs.Ytpkjmnfgpbliaaa
open Go.RowKit
set_option linter.unusedSimpArgs false
set_option linter.unusedVariables false

theorem must_true (e : Int) (w : World) : Calls Try.prog 83 #[.bool true, .int .i64 e] w fun r w' => r = .returned (.tuple #[]) ∧ w = w' := by
  go_enter Try.func83, Try.ntmps83
  go_wp2
  go_end0
  exact ⟨rfl, rfl⟩

theorem must_false (e : Int) (w : World) : Calls Try.prog 83 #[.bool false, .int .i64 e] w fun r w' => r = .panicked [{ v := .iface 31 (.int .i64 e), recovered := false }] ∧ w = w' := by
  go_enter Try.func83, Try.ntmps83
  go_wp2
  exact ⟨rfl, rfl, rfl⟩

theorem box2 (w : World) (v0 v1 : Value) (T : TypeId) : ∃ W0, w.alloc (.cells #[v0, v1] T) = W0 ∧ W0.cell? ⟨w.heap.size, 0, none⟩ = some v0 ∧ W0.cell? ⟨w.heap.size, 1, none⟩ = some v1 ∧
    Below w.heap.size w W0 ∧ W0.heap.size = w.heap.size + 1 :=
  ⟨_, rfl, by simp, by simp, (Below.refl _ _).alloc (Nat.le_refl _) _, by simp⟩

theorem IsList.drew {α : Type} {n : Nat} {R : World → List Value → α → Prop} (hR : Mono R) {w : World} {v : Value} {l : List α} (h : IsList n R w v l) : IsList n R w.drew v l := h.below hR (Below.refl _ _).drew
theorem outOneD (lo hi n : Int) (W : World) {H : Nat} (h : W.heap.size = H) : Calls Try.prog 47 #[.int .i64 lo, .int .i64 hi, .slice (some ⟨H, 0, none⟩) 1 1] (W.alloc (.cells #[.int .i64 n] 3)).drew fun e w' =>
    e = .returned (.bool (outB lo hi [n])) ∧ Below W.heap.size W w' :=
  (out_any lo hi _ [n] _ (IsList.drew mono_RInt (ints1 W n _ h))).mono fun _ _ ⟨h1, h2⟩ => ⟨h1, (((Below.refl _ W).alloc (Nat.le_refl _) _).drew).trans (h2.mono (by simp))⟩

/-- A way that is over by a panic, inside a region: what would follow is never asked. -/
theorem regionOver {K : Act → World → Prop} {W : Act → World → Prop} (_hK : ∀ a w, W a w → K a w) (a : Act) (w : World) {G : Prop} (hg : G) (_h : Hid False → K a w) : G := hg

/-- The error of a batch (0: none). -/
def batErr (s : Shp) (b : Bat) : Int := if outB 0 ((s.cols.length : Int) - 1) [b.c] then 4 else if outB 1 100000 [b.g] then 7 else 0

set_option maxRecDepth 100000 in
def lookEnd (x : Int) : Ending := if x = 0 then .returned (.tuple #[]) else .panicked [{ v := .iface 31 (.int .i64 x), recovered := false }]

set_option maxHeartbeats 4000000 in
theorem look_any (s : Shp) (b : Bat) (B : Nat) (a : Option Addr) (c : Nat) (w : World) (hB : B < w.heap.size) (h0 : w.cell? ⟨B, 0, none⟩ = some (.slice a s.cols.length c)) (hl : s.cols.length ≤ 140737488355328) :
    Calls Try.prog 84 #[.pointer (some ⟨B, 0, none⟩), .agg #[.int .i64 b.c, .int .i64 b.g]] w fun r w' =>
      r = lookEnd (batErr s b) ∧ Below w.heap.size w w' := by
  obtain ⟨W0, eW, b0, b1, hbW, hsz⟩ := box2 w (.int .i64 b.c) (.int .i64 b.g) 28
  have a0 := (hbW.cell (p := ⟨B, 0, none⟩) hB).trans h0
  have hw : w.heap.size < W0.heap.size := by omega
  have hB0 : B < W0.heap.size := by omega
  have H_eW := Lib.hid eW; clear eW; have H_hbW := Lib.hid hbW; clear hbW; have H_hsz := Lib.hid hsz; clear hsz
  have hwr : IntKind.i64.wrap ((s.cols.length : Int) - 1) = (s.cols.length : Int) - 1 := IntWalk.i64_in _ (by omega)
  by_cases t1 : outB 0 ((s.cols.length : Int) - 1) [b.c] = true
  · go_enter Try.func84, Try.ntmps84
    go_wp2_with fail
    rw [H_eW.out]
    have hbe : batErr s b = 4 := by simp [batErr, t1]
    have H_hbe := Lib.hid hbe; clear hbe
    go_region_with (first | (go_at_call 47; refine (outOneD _ _ _ W0 rfl).mono ?_; rintro e w1 ⟨rfl, hb1⟩) | (go_at_call 83; refine (must_false _ _).mono ?_; rintro e w' ⟨rfl, rfl⟩; go_must (refine regionOver (by assumption) ⟨#[], []⟩ w ?_ ?_; exact ⟨rfl, by simp [lookEnd, H_hbe.out], H_hbW.out.trans (hb1.mono H_hbW.out.size)⟩; intro hFalse)))
    all_goals exact (hFalse.out : False).elim
  · have t1 : outB 0 ((s.cols.length : Int) - 1) [b.c] = false := by simpa using t1
    go_enter Try.func84, Try.ntmps84
    go_wp2_with fail
    rw [H_eW.out]
    go_region_held3 (fun w' => w'.cell? ⟨B, 0, none⟩ = some (.slice a s.cols.length c) ∧ w'.cell? ⟨w.heap.size, 0, none⟩ = some (.int .i64 b.c)) (first | go_keep | exact ⟨(hb1.cell hB0).trans a0, (hb1.cell hw).trans b0⟩) (first | (go_at_call 47; refine (outOneD _ _ _ W0 rfl).mono ?_; rintro e w1 ⟨rfl, hb1⟩) | (go_at_call 83; refine (must_true _ _).mono ?_; rintro e w' ⟨rfl, rfl⟩))
    have hbw := H_hbW.out.trans (hb1.mono H_hbW.out.size)
    have b1' := (hb1.cell hw).trans b1
    clear b0 b1 a0 h0 hb1 hwr
    have HX := Lib.hid hbw; clear hbw
    go_wp2_with fail
    refine (outOne _ _ _ w1 rfl).mono ?_
    rintro e w2 ⟨rfl, hb2⟩
    by_cases t2 : outB 1 100000 [b.g] = true
    · have hbe : batErr s b = 7 := by simp [batErr, t1, t2]
      have H_hbe := Lib.hid hbe; clear hbe
      go_wp2_with (go_at_call 83; refine (must_false _ _).mono ?_; rintro e w' ⟨rfl, rfl⟩)
      exact ⟨rfl, by simp [lookEnd, H_hbe.out], HX.out.trans (hb2.mono HX.out.size)⟩
    · have t2 : outB 1 100000 [b.g] = false := by simpa using t2
      have hbe : batErr s b = 0 := by simp [batErr, t1, t2]
      have H_hbe := Lib.hid hbe; clear hbe
      go_wp2_with (go_at_call 83; refine (must_true _ _).mono ?_; rintro e w' ⟨rfl, rfl⟩)
      go_end0
      exact ⟨by simp [lookEnd, H_hbe.out], HX.out.trans (hb2.mono HX.out.size)⟩
end Go.Proofs.Ytpkjmnfgpbliaaa
namespace Go.Proofs.Ytpkjmnfgpbliaaa
open Go.RowKit
set_option linter.unusedSimpArgs false
set_option linter.unusedVariables false

theorem open1_idle (p q : Addr) (w : World) :
    CallsD Try.prog 82 #[.pointer (some p), .pointer (some q)] .returning w fun e u' w' => e = .returned (.tuple #[]) ∧ u' = .returning ∧ w' = w := by
  refine callsD_of_wpS Try.func82 rfl fun c₀ cs hu => ?_
  apply wpS_seq
  apply wpS_region
  simp [wpOpsS, go_sem, recoverD, hu, Try.ntmps82, Exit.thenS]
  apply wpS_seq
  apply wpS_region
  simp [wpOpsS, go_sem, recoverD, hu, Try.ntmps82, Exit.thenS]
  refine wpS_cond (t := false) (by simp [Act.eval, Array.replicate]) ?_
  simp only [Bool.false_eq_true, if_false]
  refine wpS_of_wp (wp_skip ?_)
  cases c₀
  simp_all [bodyPostS, results, Try.results82]

theorem open1_catch (p q : Nat) (vp vq : Value) (x : Int) (older : List PanicEntry) (w : World) (B : Nat) (hpB : B ≤ p) (hqB : B ≤ q) (hpq : ¬ p = q) (hp : w.cell? ⟨p, 0, none⟩ = some vp) (hq : w.cell? ⟨q, 0, none⟩ = some vq) (fp : w.frozen? ⟨p, 0, none⟩ = false) (fq : w.frozen? ⟨q, 0, none⟩ = false) :
    CallsD Try.prog 82 #[.pointer (some ⟨p, 0, none⟩), .pointer (some ⟨q, 0, none⟩)] (.panicking ({ v := .iface 31 (.int .i64 x), recovered := false } :: older)) w fun e u' w' =>
      e = .returned (.tuple #[]) ∧ u' = .panicking ({ v := .iface 31 (.int .i64 x), recovered := true } :: older) ∧
      w'.cell? ⟨p, 0, none⟩ = some (.pointer none) ∧ w'.cell? ⟨q, 0, none⟩ = some (.int .i64 x) ∧ Below B w w' := by
  refine callsD_of_wpS Try.func82 rfl fun c₀ cs hu => ?_
  apply wpS_seq
  apply wpS_region
  simp [wpOpsS, go_sem, recoverD, hu, Try.ntmps82, Exit.thenS]
  apply wpS_seq
  apply wpS_region
  simp [wpOpsS, go_sem, recoverD, hu, Try.ntmps82, Exit.thenS]
  have hta : ∀ w, (Instr.typeAssert (.iface 31 (.int .i64 x)) 20 31 false).run Try.prog w = .ok (.int .i64 x) w := fun _ => by kernel_rfl
  refine wpS_cond (t := true) (by simp [Act.eval, Array.replicate]) ?_
  simp only [if_true]
  refine wpS_of_wp ?_
  simp only [List.size_toArray, List.length_cons, List.length_nil, Nat.reduceAdd, Nat.reduceSub, Array.replicate_succ, Array.replicate_zero, List.push_toArray, List.append_toArray, List.nil_append, List.cons_append, List.setIfInBounds_toArray, List.set_cons_succ, List.set_cons_zero]
  have hp1 : w.drew.cell? ⟨p, 0, none⟩ = some vp := hp
  have hq1 : w.drew.cell? ⟨q, 0, none⟩ = some vq := hq
  go_region
  refine ⟨rfl, _, rfl, _, results_none rfl _ _ _, rfl, rfl, ?_, ?_, ?_⟩
  · exact setO (Ne.symm hpq) (setS hp)
  · exact setS (setO hpq hq)
  · exact ((((Below.refl B w).setCell (p := ⟨p, 0, none⟩) hpB _).setCell (p := ⟨q, 0, none⟩) hqB _).drew)

/-- The first error of batches (0: none). -/
def batsErr (s : Shp) : List Bat → Int
  | [] => 0
  | b :: t => if batErr s b = 0 then batsErr s t else batErr s b
def openErr (s : Shp) (l : List Bat) (st : List Int) : Int :=
  if ¬ (chk s).2.2 = 0 then (chk s).2.2 else if outB 0 ((s.cols.length : Int) - 1) st then 4 else if 7 < l.length then 3 else batsErr s l

/-- A shop that is looked at, with its batches and the map of what is known: in memory. -/
structure ShopAt (w : World) (P M : Nat) (sl lv : Value) (s : Shp) : Prop where
  c0 : w.cell? ⟨P, 0, none⟩ = some sl
  c1 : w.cell? ⟨P, 1, none⟩ = some (.int .i64 s.keep.lo)
  c2 : w.cell? ⟨P, 2, none⟩ = some (.int .i64 s.keep.hi)
  c3 : w.cell? ⟨P, 3, none⟩ = some (.int .i64 s.rinse)
  c4 : w.cell? ⟨P, 4, none⟩ = some lv
  c5 : w.cell? ⟨P, 5, none⟩ = some (.map (some M))
  lt : P < w.heap.size
  ltM : M < P

structure OpenSt (w W : World) (s : Shp) (sl p e : Value) : Prop where
  c0 : W.cell? ⟨w.heap.size, 0, none⟩ = some sl
  c1 : W.cell? ⟨w.heap.size, 1, none⟩ = some (.int .i64 s.keep.lo)
  c2 : W.cell? ⟨w.heap.size, 2, none⟩ = some (.int .i64 s.keep.hi)
  c3 : W.cell? ⟨w.heap.size, 3, none⟩ = some (.int .i64 s.rinse)
  cp : W.cell? ⟨w.heap.size + 1, 0, none⟩ = some p
  ce : W.cell? ⟨w.heap.size + 2, 0, none⟩ = some e
  fp : W.frozen? ⟨w.heap.size + 1, 0, none⟩ = false
  fe : W.frozen? ⟨w.heap.size + 2, 0, none⟩ = false
  hb : Below w.heap.size w W
  hs : w.heap.size + 2 < W.heap.size

theorem OpenSt.below {w W W' : World} {s : Shp} {sl p e : Value} (h : OpenSt w W s sl p e) (hb : Below W.heap.size W W') : OpenSt w W' s sl p e := by
  have h0 := h.hs
  exact ⟨(hb.cell (show w.heap.size < W.heap.size by omega)).trans h.c0, (hb.cell (show w.heap.size < W.heap.size by omega)).trans h.c1, (hb.cell (show w.heap.size < W.heap.size by omega)).trans h.c2, (hb.cell (show w.heap.size < W.heap.size by omega)).trans h.c3, (hb.cell (show w.heap.size + 1 < W.heap.size by omega)).trans h.cp, (hb.cell (show w.heap.size + 2 < W.heap.size by omega)).trans h.ce,
    (hb.frozen (show w.heap.size + 1 < W.heap.size by omega)).trans h.fp, (hb.frozen (show w.heap.size + 2 < W.heap.size by omega)).trans h.fe, h.hb.trans (hb.mono h.hb.size), by have := hb.size; omega⟩

theorem OpenSt.setE {w W : World} {s : Shp} {sl p e : Value} (h : OpenSt w W s sl p e) (v : Value) : OpenSt w (W.setCell ⟨w.heap.size + 2, 0, none⟩ v) s sl p v := by
  have h0 := h.hs
  exact ⟨setO (by omega) h.c0, setO (by omega) h.c1, setO (by omega) h.c2, setO (by omega) h.c3, setO (by omega) h.cp, setS h.ce, by simp [h.fp], by simp [h.fe], h.hb.setCell (by simp) _, by simp; omega⟩

theorem OpenSt.setP {w W : World} {s : Shp} {sl p e : Value} (h : OpenSt w W s sl p e) (v : Value) : OpenSt w (W.setCell ⟨w.heap.size + 1, 0, none⟩ v) s sl v e := by
  have h0 := h.hs
  exact ⟨setO (by omega) h.c0, setO (by omega) h.c1, setO (by omega) h.c2, setO (by omega) h.c3, setS h.cp, setO (by omega) h.ce, by simp [h.fp], by simp [h.fe], h.hb.setCell (by simp) _, by simp; omega⟩

theorem openSt_start (w : World) (s : Shp) (sl : Value) : ∃ W, ((w.alloc (.cells #[sl, .int .i64 s.keep.lo, .int .i64 s.keep.hi, .int .i64 s.rinse] 26)).alloc (.cells #[.pointer none] 101)).alloc (.cells #[.int .i64 0] 31) = W ∧
    OpenSt w W s sl (.pointer none) (.int .i64 0) := by
  obtain ⟨W1, e1, a0, a1, a2, a3, hb, hs⟩ := box4 w sl (.int .i64 s.keep.lo) (.int .i64 s.keep.hi) (.int .i64 s.rinse) 26
  rw [e1]
  have n1 : (W1.alloc (.cells #[.pointer none] 101)).cell? ⟨w.heap.size + 1, 0, none⟩ = some (.pointer none) := by rw [← hs]; simp
  have f1 : (W1.alloc (.cells #[.pointer none] 101)).frozen? ⟨w.heap.size + 1, 0, none⟩ = false := by rw [← hs]; simp
  have hs2 : (W1.alloc (.cells #[.pointer none] 101)).heap.size = w.heap.size + 2 := by simp; omega
  refine ⟨_, rfl, allocO (allocO a0 _) _, allocO (allocO a1 _) _, allocO (allocO a2 _) _, allocO (allocO a3 _) _, allocO n1 _, ?_, allocF (by omega) f1 _, ?_, ?_, ?_⟩
  · rw [← hs2]; simp
  · rw [← hs2]; simp
  · exact (hb.alloc (by omega) _).alloc (by omega) _
  · simp; omega
end Go.Proofs.Ytpkjmnfgpbliaaa
namespace Go.Proofs.Ytpkjmnfgpbliaaa
open Go.RowKit
set_option linter.unusedSimpArgs false
set_option linter.unusedVariables false

/-- What open comes to: the error, or a shop in new memory whose map is new and empty. -/
def OpenEnds (s : Shp) (l : List Bat) (st : List Int) (sl lv : Value) (w : World) (e : Ending) (w' : World) : Prop :=
  Below w.heap.size w w' ∧ ((¬ openErr s l st = 0 ∧ e = .returned (.tuple #[.pointer none, .int .i64 (openErr s l st)])) ∨
    (openErr s l st = 0 ∧ ∃ P M, e = .returned (.tuple #[.pointer (some ⟨P, 0, none⟩), .int .i64 0]) ∧ ShopAt w' P M sl lv s ∧ w'.heap[M]? = some (.map #[] 0) ∧ w.heap.size ≤ M))

/-- At the door behind a panic: the error is returned. -/
theorem open_door (s : Shp) (l : List Bat) (st : List Int) (sl lv p e : Value) (x : Int) (w W : World) (tmps : Array Value) (hW : OpenSt w W s sl p e) (hx : openErr s l st = x) (hx0 : ¬ x = 0)
    (h6 : tmps.getD 6 undef = .pointer (some ⟨w.heap.size + 1, 0, none⟩)) (h7 : tmps.getD 7 undef = .pointer (some ⟨w.heap.size + 2, 0, none⟩)) :
    bodyPostD Try.prog Try.f55 (OpenEnds s l st sl lv w) (.panic [{ v := .iface 31 (.int .i64 x), recovered := false }])
      { tmps := tmps, defers := [{ target := .fn (.func 82) #[.pointer (some ⟨w.heap.size + 1, 0, none⟩), .pointer (some ⟨w.heap.size + 2, 0, none⟩)], args := #[] }] } W := by
  refine leaves_cons (f := 82) (args := #[.pointer (some ⟨w.heap.size + 1, 0, none⟩), .pointer (some ⟨w.heap.size + 2, 0, none⟩)]) (by simp) (by simp [go_sem]) ?_
  refine (open1_catch _ _ p e x [] W w.heap.size (by omega) (by omega) (by omega) hW.cp hW.ce hW.fp hW.fe).mono ?_
  rintro r u' w'' ⟨rfl, rfl, h1, h2, h3⟩
  have hr : (results Try.f55 tmps).run Try.prog w'' = .ok (.tuple #[.pointer none, .int .i64 x]) w'' := by
    have h6' : tmps[6]?.getD undef = .pointer (some ⟨w.heap.size + 1, 0, none⟩) := by simpa using h6
    have h7' : tmps[7]?.getD undef = .pointer (some ⟨w.heap.size + 2, 0, none⟩) := by simpa using h7
    simp [results, Try.results55, go_sem, h6', h7', h1, h2]
  exact ⟨_, hr, hW.hb.trans h3, .inl ⟨by omega, by rw [hx]⟩⟩

theorem open_exit (s : Shp) (l : List Bat) (st : List Int) (sl lv p e : Value) (P M : Nat) (w W : World) (tmps : Array Value) (hW : OpenSt w W s sl (.pointer (some ⟨P, 0, none⟩)) (.int .i64 0)) (hx : openErr s l st = 0)
    (hS : ShopAt W P M sl lv s) (hM : W.heap[M]? = some (.map #[] 0)) (hMw : w.heap.size ≤ M)
    (h6 : tmps.getD 6 undef = .pointer (some ⟨w.heap.size + 1, 0, none⟩)) (h7 : tmps.getD 7 undef = .pointer (some ⟨w.heap.size + 2, 0, none⟩)) :
    bodyPostD Try.prog Try.f55 (OpenEnds s l st sl lv w) .ret
      { tmps := tmps, defers := [{ target := .fn (.func 82) #[.pointer (some ⟨w.heap.size + 1, 0, none⟩), .pointer (some ⟨w.heap.size + 2, 0, none⟩)], args := #[] }] } W := by
  refine leaves_cons (f := 82) (args := #[.pointer (some ⟨w.heap.size + 1, 0, none⟩), .pointer (some ⟨w.heap.size + 2, 0, none⟩)]) (by simp) (by simp [go_sem]) ?_
  refine (open1_idle _ _ W).mono ?_
  rintro r u' w'' ⟨rfl, rfl, rfl⟩
  have hr : (results Try.f55 tmps).run Try.prog w'' = .ok (.tuple #[.pointer (some ⟨P, 0, none⟩), .int .i64 0]) w'' := by
    have h6' : tmps[6]?.getD undef = .pointer (some ⟨w.heap.size + 1, 0, none⟩) := by simpa using h6
    have h7' : tmps[7]?.getD undef = .pointer (some ⟨w.heap.size + 2, 0, none⟩) := by simpa using h7
    simp [results, Try.results55, go_sem, h6', h7', hW.cp, hW.ce]
  exact ⟨_, hr, hW.hb, .inr ⟨hx, P, M, rfl, hS, hM, hMw⟩⟩

theorem ShopAt.below {w w' : World} {P M : Nat} {sl lv : Value} {s : Shp} (h : ShopAt w P M sl lv s) (hb : Below w.heap.size w w') : ShopAt w' P M sl lv s := by
  have h0 := h.lt
  exact ⟨(hb.cell h0).trans h.c0, (hb.cell h0).trans h.c1, (hb.cell h0).trans h.c2, (hb.cell h0).trans h.c3, (hb.cell h0).trans h.c4, (hb.cell h0).trans h.c5, Nat.lt_of_lt_of_le h0 hb.size, h.ltM⟩

theorem heap_new (w : World) (o : Obj) : (w.alloc o).heap[w.heap.size]? = some o := by
  show (w.heap.push o)[w.heap.size]? = _
  simp
theorem ShopAt.set {w : World} {P M : Nat} {sl lv : Value} {s : Shp} (h : ShopAt w P M sl lv s) (q o : Nat) (v : Value) (hq : ¬ q = P) : ShopAt (w.setCell ⟨q, o, none⟩ v) P M sl lv s :=
  ⟨setO hq h.c0, setO hq h.c1, setO hq h.c2, setO hq h.c3, setO hq h.c4, setO hq h.c5, by simpa using h.lt, h.ltM⟩

theorem open_made (w w3 : World) (s : Shp) (sl lv : Value) (h : OpenSt w w3 s sl (.pointer none) (.int .i64 0)) :
    ∃ W4, ((w3.setCell ⟨w.heap.size + 1, 0, none⟩ (.pointer (some ⟨w3.heap.size + 1, 0, none⟩))).alloc (.map #[] 0)).alloc (.cells #[sl, .int .i64 s.keep.lo, .int .i64 s.keep.hi, .int .i64 s.rinse, lv, .map (some w3.heap.size)] 106) = W4 ∧
      OpenSt w W4 s sl (.pointer (some ⟨w3.heap.size + 1, 0, none⟩)) (.int .i64 0) ∧ ShopAt W4 (w3.heap.size + 1) w3.heap.size sl lv s ∧ W4.heap[w3.heap.size]? = some (.map #[] 0) := by
  have h1 := h.setP (.pointer (some ⟨w3.heap.size + 1, 0, none⟩))
  have hs1 : (w3.setCell ⟨w.heap.size + 1, 0, none⟩ (.pointer (some ⟨w3.heap.size + 1, 0, none⟩))).heap.size = w3.heap.size := by simp
  generalize w3.setCell ⟨w.heap.size + 1, 0, none⟩ (.pointer (some ⟨w3.heap.size + 1, 0, none⟩)) = w4 at *
  have h2 := h1.below ((Below.refl _ w4).alloc (Nat.le_refl _) (.map #[] 0))
  have hm : (w4.alloc (.map #[] 0)).heap[w3.heap.size]? = some (.map #[] 0) := by rw [← hs1]; exact heap_new w4 _
  have hs2 : (w4.alloc (.map #[] 0)).heap.size = w3.heap.size + 1 := by simp; omega
  generalize w4.alloc (.map #[] 0) = w5 at *
  refine ⟨_, rfl, h2.below ((Below.refl _ w5).alloc (Nat.le_refl _) _), ⟨?_, ?_, ?_, ?_, ?_, ?_, ?_, by omega⟩, ?_⟩
  iterate 6 (· rw [← hs2]; simp)
  · simp; omega
  · rw [Below.heap_alloc _ _ _ (by omega)]; exact hm

theorem batsErr_bad (s : Shp) (l : List Bat) (k : Nat) (h : k < l.length) (he : ¬ batErr s l[k] = 0) (hg : batsErr s (l.drop k) = batsErr s l) : batsErr s l = batErr s l[k] := by
  rw [← hg, List.drop_eq_getElem_cons h, batsErr, if_neg he]
theorem batsErr_ok (s : Shp) (l : List Bat) (k : Nat) (h : k < l.length) (he : batErr s l[k] = 0) (hg : batsErr s (l.drop k) = batsErr s l) : batsErr s (l.drop (k + 1)) = batsErr s l := by
  rw [← hg, List.drop_eq_getElem_cons h, batsErr, if_pos he]

set_option maxHeartbeats 4000000 in
theorem open_any (sv lv tv : Value) (s : Shp) (l : List Bat) (st : List Int) (sl : Value) (w : World) (hs : IsCols w sl s.cols) (hsv : sv = .agg #[sl, .int .i64 s.keep.lo, .int .i64 s.keep.hi, .int .i64 s.rinse])
    (hl : IsBats w lv l) (ht : IsInts w tv st) :
    Calls Try.prog 55 #[sv, lv, tv] w (OpenEnds s l st sl lv w) := by
  subst hsv
  obtain ⟨a, c, rfl, hlc⟩ := hs.form
  obtain ⟨la, lc, rfl, hllc⟩ := hl.form
  have hlen := hs.len
  have hllen := hl.len
  have hmf : ∀ (fn : Fn) (first cap : Array Value) (w : World), (Instr.makeFunc fn first cap).run Try.prog w = .ok (.func fn first cap) w := fun _ _ _ _ => rfl
  have hmm := @run_makeMap Try.prog
  obtain ⟨W0, eW, h0⟩ := openSt_start w s (.slice a s.cols.length c)
  have H_eW := Lib.hid eW; clear eW
  go_enter_defers Try.func55, Try.ntmps55
  go_wp2_with fail
  rw [H_eW.out]
  refine (check_any _ s W0 ⟨_, rfl, hs.below h0.hb⟩).mono ?_
  rintro e w1 ⟨rfl, hb1⟩
  have h1 := h0.below hb1
  rw [show tup3 (chk s) = .tuple #[.int .i64 (chk s).1, .int .i64 (chk s).2.1, .int .i64 (chk s).2.2] from rfl]
  have hoe : openErr s l st = if ¬ (chk s).2.2 = 0 then (chk s).2.2 else if outB 0 ((s.cols.length : Int) - 1) st then 4 else if 7 < l.length then 3 else batsErr s l := rfl
  generalize (chk s).1 = p1
  generalize (chk s).2.1 = p2
  generalize (chk s).2.2 = ce at *
  obtain ⟨c0, c1, c2, c3, cp, cce, fp, fe, hbw, hsz⟩ := h1
  have h1 : OpenSt w w1 s (.slice a s.cols.length c) (.pointer none) (.int .i64 0) := ⟨c0, c1, c2, c3, cp, cce, fp, fe, hbw, hsz⟩
  have H_hoe := Lib.hid hoe; clear hoe; have H_hbw := Lib.hid hbw; clear hbw; have H_h1 := Lib.hid h1; clear h1
  clear hb1
  by_cases hce : ce = 0
  · subst hce
    go_wp2_with fail
    refine (must_true _ _).mono ?_
    rintro e w2 ⟨rfl, rfl⟩
    obtain ⟨w2, e2, h2⟩ : ∃ w2, w1.setCell ⟨w.heap.size + 1 + 1, 0, none⟩ (.int .i64 0) = w2 ∧ OpenSt w w2 s (.slice a s.cols.length c) (.pointer none) (.int .i64 0) := ⟨_, rfl, H_h1.out.setE _⟩
    rw [e2]
    clear e2 c0 c1 c2 c3 cp cce fp fe
    obtain ⟨c0, c1, c2, c3, cp, cce, fp, fe, hbw2, hsz2⟩ := id h2
    have H_hbw2 := Lib.hid hbw2; clear hbw2; have H_h2 := Lib.hid h2; clear h2
    go_wp2_with fail
    refine (out_any _ _ _ _ w2 (ht.below H_hbw2.out)).mono ?_
    rintro e w3 ⟨rfl, hb3⟩
    have h3 := H_h2.out.below hb3
    clear hb3 c0 c1 c2 c3 cp cce fp fe
    obtain ⟨c0, c1, c2, c3, cp, cce, fp, fe, hbw3, hsz3⟩ := id h3
    have H_hbw3 := Lib.hid hbw3; clear hbw3; have H_h3 := Lib.hid h3; clear h3
    by_cases t1 : outB 0 ((s.cols.length : Int) - 1) st = true
    · go_wp2_with fail
      refine (must_false _ _).mono ?_
      rintro e w4 ⟨rfl, rfl⟩
      exact open_door s l st _ _ _ _ 4 w _ _ H_h3.out (by rw [H_hoe.out]; simp [t1]) (by omega) rfl rfl
    · have t1 : outB 0 ((s.cols.length : Int) - 1) st = false := by simpa using t1
      go_wp2_with fail
      refine (must_true _ _).mono ?_
      rintro e w4 ⟨rfl, rfl⟩
      by_cases t2 : l.length ≤ 7
      · have t2' : decide ((l.length : Int) ≤ 7) = true := by simp; omega
        go_wp2_with fail
        refine (must_true _ _).mono ?_
        rintro e w5 ⟨rfl, rfl⟩
        have hoe' : openErr s l st = batsErr s l := by rw [H_hoe.out]; simp [t1]; omega
        have H_hoe' := Lib.hid hoe'; clear hoe'
        have z1 : w.heap.size + 1 < w3.heap.size := by omega
        have z2 : w.heap.size + 1 < w3.heap.size + 1 := by omega
        go_wp2_with fail
        obtain ⟨W4, e4, h4, hS4, hM4⟩ := open_made w w3 s (.slice a s.cols.length c) (.slice la l.length lc) H_h3.out
        rw [e4]
        have hMw := H_hbw3.out.size
        generalize w3.heap.size = M at *
        clear e4 c0 c1 c2 c3 cp cce fp fe
        have H_h4 := Lib.hid h4; clear h4; have H_hS4 := Lib.hid hS4; clear hS4; have H_hM4 := Lib.hid hM4; clear hM4
        go_loopw [40] (fun i wr => ∃ k : Nat, k ≤ l.length ∧ i = .int .i64 k ∧ batsErr s (l.drop k) = batsErr s l ∧ Below W4.heap.size W4 wr) (fun i _ => l.length - (intOf i).toNat)
        case atStart => exact ⟨0, by omega, rfl, rfl, Below.refl _ _⟩
        case round =>
          obtain ⟨k, hk, rfl, hgo, hbr⟩ := hrel
          have h5 := H_h4.out.below hbr
          have hS5 := H_hS4.out.below hbr
          have hM5 : wr.heap[M]? = some (.map #[] 0) := (hbr.block M (by have := H_hS4.out.lt; have := H_hS4.out.ltM; omega)).trans H_hM4.out
          obtain ⟨c0, c1, c2, c3, cp, cce, fp, fe, hbw5, hsz5⟩ := id h5
          have d0 := hS5.c0
          have dlt := hS5.lt
          by_cases hlt : k < l.length
          · obtain ⟨b, off, rfl, hbb, g0, g1⟩ := hl.at k hlt
            have q0 := (hbw5.cell (p := ⟨b, off + k * 2, none⟩) hbb).trans g0
            have q1 := (hbw5.cell (p := ⟨b, off + k * 2 + 1, none⟩) hbb).trans g1
            clear g0 g1
            have z3 : w.heap.size + 1 < wr.heap.size := by omega
            have H_hgo := Lib.hid hgo; clear hgo; have H_hbr := Lib.hid hbr; clear hbr; have H_h5 := Lib.hid h5; clear h5; have H_hS5 := Lib.hid hS5; clear hS5; have H_hM5 := Lib.hid hM5; clear hM5; have H_hbw5 := Lib.hid hbw5; clear hbw5
            go_wp2_with fail
            refine (look_any s l[k] (M + 1) _ _ _ (by simp; omega) (allocO d0 _) hlen).mono ?_
            rintro e w6 ⟨rfl, hb6⟩
            have hb6 := below_new hb6
            by_cases hbe : batErr s l[k] = 0
            · rw [show lookEnd (batErr s l[k]) = .returned (.tuple #[]) from by simp [lookEnd, hbe]]
              have hgo' := batsErr_ok s l k hlt hbe H_hgo.out
              have hbr' := H_hbr.out.trans (hb6.mono H_hbr.out.size)
              have H_hbe := Lib.hid hbe; clear hbe; have H_hgo' := Lib.hid hgo'; clear hgo'; have H_hbr' := Lib.hid hbr'; clear hbr'; have H_hb6 := Lib.hid hb6; clear hb6
              go_wp2_with fail
              go_roundw
              case rel => exact ⟨k + 1, by omega, by go_num, H_hgo'.out, H_hbr'.out⟩
              case measure => simp [intOf]; omega
            · rw [show lookEnd (batErr s l[k]) = .panicked [{ v := .iface 31 (.int .i64 (batErr s l[k])), recovered := false }] from by simp [lookEnd, hbe]]
              exact open_door s l st _ _ _ _ _ w _ _ (H_h5.out.below hb6) (by rw [H_hoe'.out]; exact batsErr_bad s l k hlt hbe H_hgo.out) hbe rfl rfl
          · have H_hgo := Lib.hid hgo; clear hgo; have H_hbr := Lib.hid hbr; clear hbr; have H_h5 := Lib.hid h5; clear h5; have H_hS5 := Lib.hid hS5; clear hS5; have H_hM5 := Lib.hid hM5; clear hM5; have H_hbw5 := Lib.hid hbw5; clear hbw5
            go_wp2
            obtain rfl : k = l.length := by omega
            have hz : openErr s l st = 0 := by rw [H_hoe'.out, ← H_hgo.out]; simp [batsErr]
            refine open_exit s l st _ _ (.pointer none) (.int .i64 0) (M + 1) M w _ _ ((H_h5.out.setP _).setE _) hz ((H_hS5.out.set _ _ _ (by omega)).set _ _ _ (by omega)) ?_ hMw rfl rfl
            rw [Below.heap_setCell _ _ _ _ (by simp; omega), Below.heap_setCell _ _ _ _ (by simp; omega)]
            exact H_hM5.out
      · have t2' : decide ((l.length : Int) ≤ 7) = false := by simp; omega
        go_wp2_with fail
        refine (must_false _ _).mono ?_
        rintro e w5 ⟨rfl, rfl⟩
        exact open_door s l st _ _ _ _ 3 w _ _ H_h3.out (by rw [H_hoe.out]; simp [t1]; omega) (by omega) rfl rfl
  · have hcb : (ce == 0) = false := by simpa using hce
    go_wp2_with fail
    refine (must_false _ _).mono ?_
    rintro e w2 ⟨rfl, rfl⟩
    exact open_door s l st _ _ _ _ ce w _ _ (H_h1.out.setE _) (by rw [H_hoe.out, if_pos hce]) hce rfl rfl
end Go.Proofs.Ytpkjmnfgpbliaaa
namespace Go.Proofs.Ytpkjmnfgpbliaaa
open Go.RowKit
set_option linter.unusedSimpArgs false
set_option linter.unusedVariables false

instance : Inhabited Col := ⟨⟨ByteArray.empty, ⟨0, 0⟩, []⟩⟩

theorem getD_at {α : Type} (l : List α) (i : Nat) (d : α) (h : i < l.length) : l.getD i d = l[i] := by simp [List.getD, h]

structure Good (s : Shp) : Prop where
  n0 : 1 ≤ s.cols.length
  n1 : s.cols.length ≤ 6
  r0 : 0 ≤ s.rinse
  r1 : s.rinse ≤ 10000
  k0 : 0 ≤ s.keep.lo
  k1 : s.keep.lo ≤ s.keep.hi
  k2 : s.keep.hi ≤ 1000
  sh : ∀ j, j < s.cols.length → (s.cols.getD j default).shows.length = s.cols.length
  sv : ∀ j i, j < s.cols.length → i < s.cols.length → 0 ≤ (s.cols.getD j default).shows.getD i 0 ∧ (s.cols.getD j default).shows.getD i 0 ≤ 1000
  st : ∀ j, j < s.cols.length → 0 ≤ (s.cols.getD j default).stay.lo ∧ (s.cols.getD j default).stay.lo ≤ (s.cols.getD j default).stay.hi ∧ (s.cols.getD j default).stay.hi ≤ 1000

theorem outB_one (lo hi x : Int) : outB lo hi [x] = false ↔ lo ≤ x ∧ x ≤ hi := by
  simp [outB]
theorem outB_two (lo hi x y : Int) : outB lo hi [x, y] = false ↔ (lo ≤ x ∧ x ≤ hi) ∧ (lo ≤ y ∧ y ≤ hi) := by
  simp [outB]
theorem outB_all (lo hi : Int) (l : List Int) : outB lo hi l = false ↔ ∀ i, i < l.length → lo ≤ l.getD i 0 ∧ l.getD i 0 ≤ hi := by
  simp only [outB, List.any_eq_false, Bool.or_eq_true, decide_eq_true_eq, not_or, Int.not_lt]
  constructor
  · intro h i hi'
    have := h l[i] (List.getElem_mem hi')
    rw [getD_at _ _ _ hi']; simpa using this
  · intro h x hx
    obtain ⟨i, hi', rfl⟩ := List.getElem_of_mem hx
    have := h i hi'; rw [getD_at _ _ _ hi'] at this; simpa using this

theorem colErr_zero {s : Shp} {i : Nat} {c : Col} (h : colErr s i c = 0) : nameB c.name = true ∧ (s.cols.take i).any (sameName c.name) = false ∧ c.shows.length = s.cols.length ∧ outB 0 1000 c.shows = false ∧ outB 0 1000 [c.stay.lo, c.stay.hi] = false ∧ ¬ c.stay.hi < c.stay.lo := by
  unfold colErr at h
  by_cases h1 : nameB c.name = false
  · rw [if_pos h1] at h; omega
  rw [if_neg h1] at h
  by_cases h2 : (s.cols.take i).any (sameName c.name) = true
  · rw [if_pos h2] at h; omega
  rw [if_neg h2] at h
  by_cases h3 : c.shows.length = s.cols.length
  · rw [if_neg (by simpa using h3)] at h
    by_cases h4 : outB 0 1000 c.shows = true
    · rw [if_pos h4] at h; omega
    rw [if_neg h4] at h
    by_cases h5 : outB 0 1000 [c.stay.lo, c.stay.hi] = true
    · rw [if_pos h5] at h; omega
    rw [if_neg h5] at h
    by_cases h6 : c.stay.hi < c.stay.lo
    · rw [if_pos h6] at h; omega
    exact ⟨by simpa using h1, by simpa using h2, h3, by simpa using h4, by simpa using h5, h6⟩
  · rw [if_pos h3] at h; omega

theorem chkGo_zero (s : Shp) : ∀ (l : List Col) (i : Nat), (chkGo s i l).2.2 = 0 → ∀ j (hj : j < l.length), colErr s (i + j) l[j] = 0 := by
  intro l
  induction l with
  | nil => intro i _ j hj; exact absurd hj (by simp)
  | cons c t ih =>
    intro i h j hj
    by_cases hc : colErr s i c = 0
    · rw [chkGo, if_pos hc] at h
      cases j with
      | zero => simpa using hc
      | succ j => have := ih (i + 1) h j (by simpa using hj); simpa [Nat.add_assoc, Nat.add_comm 1 j] using this
    · rw [chkGo, if_neg hc] at h
      exact absurd h hc

theorem good_of_chk {s : Shp} (h : (chk s).2.2 = 0) : Good s := by
  unfold chk at h
  by_cases h1 : outB 1 6 [(s.cols.length : Int)] = true
  · rw [if_pos h1] at h; exact absurd h (by simp)
  rw [if_neg h1] at h
  by_cases h2 : outB 0 10000 [s.rinse] = true
  · rw [if_pos h2] at h; exact absurd h (by simp)
  rw [if_neg h2] at h
  by_cases h3 : outB 0 1000 [s.keep.lo, s.keep.hi] = true
  · rw [if_pos h3] at h; exact absurd h (by simp)
  rw [if_neg h3] at h
  by_cases h4 : s.keep.hi < s.keep.lo
  · rw [if_pos h4] at h; exact absurd h (by simp)
  rw [if_neg h4] at h
  have a1 := (outB_one _ _ _).1 (by simpa using h1)
  have a2 := (outB_one _ _ _).1 (by simpa using h2)
  have a3 := (outB_two _ _ _ _).1 (by simpa using h3)
  have hz := chkGo_zero s s.cols 0 h
  refine ⟨by omega, by omega, a2.1, a2.2, a3.1.1, by omega, a3.2.2, ?_, ?_, ?_⟩
  · intro j hj
    obtain ⟨_, _, e, _⟩ := colErr_zero (hz j hj)
    rw [getD_at _ _ _ hj]; exact e
  · intro j i hj hi
    obtain ⟨_, _, e, e4, _⟩ := colErr_zero (hz j hj)
    have := (outB_all _ _ _).1 e4 i (by omega)
    rw [getD_at _ _ _ hj]; exact this
  · intro j hj
    obtain ⟨_, _, _, _, e5, e6⟩ := colErr_zero (hz j hj)
    have := (outB_two _ _ _ _).1 e5
    simp only [getD_at _ _ _ hj]
    omega

/-- A colour can show in a batch, after so many rinses. -/
def canShow (s : Shp) (bf : Nat) (b : Bat) (r : Nat) : Bool :=
  !decide ((bf : Int) = b.c) && decide (b.g * (s.cols.getD bf default).shows.getD b.c.toNat 0 * 1000 ^ r < 1000 * (s.cols.getD bf default).stay.hi * s.keep.hi ^ r)
/-- How many rinses a batch needs after a colour (-1: it cannot follow). -/
def needs (s : Shp) (bf : Nat) (b : Bat) : Int :=
  if canShow s bf b 0 = false then 0 else if canShow s bf b 1 = false then 1 else if canShow s bf b 2 = false then 2 else if canShow s bf b 3 = false then 3 else -1
/-- A valid batch. -/
def okBat (s : Shp) (b : Bat) : Prop := (0 ≤ b.c ∧ b.c < s.cols.length) ∧ 1 ≤ b.g ∧ b.g ≤ 100000
theorem okBat_of {s : Shp} {b : Bat} (h : batErr s b = 0) : okBat s b := by
  unfold batErr at h
  by_cases h1 : outB 0 ((s.cols.length : Int) - 1) [b.c] = true
  · rw [if_pos h1] at h; omega
  rw [if_neg h1] at h
  by_cases h2 : outB 1 100000 [b.g] = true
  · rw [if_pos h2] at h; omega
  have a1 := (outB_one _ _ _).1 (by simpa using h1)
  have a2 := (outB_one _ _ _).1 (by simpa using h2)
  exact ⟨⟨a1.1, by omega⟩, a2⟩
theorem okBat_all {s : Shp} {l : List Bat} (h : batsErr s l = 0) : ∀ j (hj : j < l.length), okBat s l[j] := by
  induction l with
  | nil => intro j hj; exact absurd hj (by simp)
  | cons b t ih =>
    intro j hj
    by_cases hb : batErr s b = 0
    · rw [batsErr, if_pos hb] at h
      cases j with
      | zero => exact okBat_of hb
      | succ j => exact ih h j (by simpa using hj)
    · rw [batsErr, if_neg hb] at h; exact absurd h hb
theorem pow_bd (n keep : Int) (h0 : 0 ≤ n) (h1 : n ≤ 1000000000) (k0 : 0 ≤ keep) (k1 : keep ≤ 1000) (k : Nat) (hk : k ≤ 3) : 0 ≤ n * keep ^ k ∧ n * keep ^ k ≤ 1000000000000000000 := by
  have e0 : 0 ≤ keep * keep := Int.mul_nonneg k0 k0
  have e1 : keep * keep ≤ 1000 * 1000 := Int.mul_le_mul k1 k1 k0 (by omega)
  have e2 : 0 ≤ keep * keep * keep := Int.mul_nonneg e0 k0
  have e3 : keep * keep * keep ≤ 1000 * 1000 * 1000 := Int.mul_le_mul e1 k1 k0 (by omega)
  have key : 0 ≤ keep ^ k ∧ keep ^ k ≤ 1000000000 := by
    have h3 : k = 0 ∨ k = 1 ∨ k = 2 ∨ k = 3 := by omega
    rcases h3 with h | h | h | h <;> subst h
    · rw [show keep ^ 0 = 1 from by grind]; omega
    · rw [show keep ^ 1 = keep from by grind]; omega
    · rw [show keep ^ 2 = keep * keep from by grind]; omega
    · rw [show keep ^ 3 = keep * keep * keep from by grind]; omega
  refine ⟨Int.mul_nonneg h0 key.1, ?_⟩
  exact Int.le_trans (Int.mul_le_mul h1 key.2 key.1 (by omega)) (by omega)
end Go.Proofs.Ytpkjmnfgpbliaaa
