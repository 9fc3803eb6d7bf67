/-
  The deferred closure of colour.open, entered of a frame that panics and of one that returns. Conditions: its two variables are there and may be written.
-/
import Derived.Test.YtpkjmnfgpbliaaaZOpen
namespace Go.Proofs.Ytpkjmnfgpbliaaa
open Go.RowKit
set_option linter.unusedSimpArgs false
set_option linter.unusedVariables false

theorem open1_idle (p q : Addr) (w : World) :
    CallsD Try.prog 82 #[.pointer (some p), .pointer (some q)] .returning w fun e u' w' => e = .returned (.tuple #[]) ∧ u' = .returning ∧ w' = w := by
  refine callsD_of_wpS Try.func82 rfl fun c₀ cs hu => ?_
  apply wpS_seq
  apply wpS_region
  simp [wpOpsS, go_sem, recoverD, hu, Try.ntmps82, Exit.thenS]
  apply wpS_seq
  apply wpS_region
  simp [wpOpsS, go_sem, recoverD, hu, Try.ntmps82, Exit.thenS]
  refine wpS_cond (t := false) (by simp [Act.eval, Array.replicate]) ?_
  simp only [Bool.false_eq_true, if_false]
  refine wpS_of_wp (wp_skip ?_)
  cases c₀
  simp_all [bodyPostS, results, Try.results82]

theorem open1_catch (p q : Nat) (vp vq : Value) (x : Int) (older : List PanicEntry) (w : World) (B : Nat) (hpB : B ≤ p) (hqB : B ≤ q) (hpq : ¬ p = q) (hp : w.cell? ⟨p, 0, none⟩ = some vp) (hq : w.cell? ⟨q, 0, none⟩ = some vq) (fp : w.frozen? ⟨p, 0, none⟩ = false) (fq : w.frozen? ⟨q, 0, none⟩ = false) :
    CallsD Try.prog 82 #[.pointer (some ⟨p, 0, none⟩), .pointer (some ⟨q, 0, none⟩)] (.panicking ({ v := .iface 31 (.int .i64 x), recovered := false } :: older)) w fun e u' w' =>
      e = .returned (.tuple #[]) ∧ u' = .panicking ({ v := .iface 31 (.int .i64 x), recovered := true } :: older) ∧
      w'.cell? ⟨p, 0, none⟩ = some (.pointer none) ∧ w'.cell? ⟨q, 0, none⟩ = some (.int .i64 x) ∧ Below B w w' := by
  refine callsD_of_wpS Try.func82 rfl fun c₀ cs hu => ?_
  apply wpS_seq
  apply wpS_region
  simp [wpOpsS, go_sem, recoverD, hu, Try.ntmps82, Exit.thenS]
  apply wpS_seq
  apply wpS_region
  simp [wpOpsS, go_sem, recoverD, hu, Try.ntmps82, Exit.thenS]
  have hta : ∀ w, (Instr.typeAssert (.iface 31 (.int .i64 x)) 20 31 false).run Try.prog w = .ok (.int .i64 x) w := fun _ => by kernel_rfl
  refine wpS_cond (t := true) (by simp [Act.eval, Array.replicate]) ?_
  simp only [if_true]
  refine wpS_of_wp ?_
  simp only [List.size_toArray, List.length_cons, List.length_nil, Nat.reduceAdd, Nat.reduceSub, Array.replicate_succ, Array.replicate_zero, List.push_toArray, List.append_toArray, List.nil_append, List.cons_append, List.setIfInBounds_toArray, List.set_cons_succ, List.set_cons_zero]
  have hp1 : w.drew.cell? ⟨p, 0, none⟩ = some vp := hp
  have hq1 : w.drew.cell? ⟨q, 0, none⟩ = some vq := hq
  go_region
  refine ⟨rfl, _, rfl, _, results_none rfl _ _ _, rfl, rfl, ?_, ?_, ?_⟩
  · exact setO (Ne.symm hpq) (setS hp)
  · exact setS (setO hpq hq)
  · exact ((((Below.refl B w).setCell (p := ⟨p, 0, none⟩) hpB _).setCell (p := ⟨q, 0, none⟩) hqB _).drew)

/-- The first error of batches (0: none). -/
def batsErr (s : Shp) : List Bat → Int
  | [] => 0
  | b :: t => if batErr s b = 0 then batsErr s t else batErr s b
def openErr (s : Shp) (l : List Bat) (st : List Int) : Int :=
  if ¬ (chk s).2.2 = 0 then (chk s).2.2 else if outB 0 ((s.cols.length : Int) - 1) st then 4 else if 7 < l.length then 3 else batsErr s l

/-- A shop that is looked at, with its batches and the map of what is known: in memory. -/
structure ShopAt (w : World) (P M : Nat) (sl lv : Value) (s : Shp) : Prop where
  c0 : w.cell? ⟨P, 0, none⟩ = some sl
  c1 : w.cell? ⟨P, 1, none⟩ = some (.int .i64 s.keep.lo)
  c2 : w.cell? ⟨P, 2, none⟩ = some (.int .i64 s.keep.hi)
  c3 : w.cell? ⟨P, 3, none⟩ = some (.int .i64 s.rinse)
  c4 : w.cell? ⟨P, 4, none⟩ = some lv
  c5 : w.cell? ⟨P, 5, none⟩ = some (.map (some M))
  lt : P < w.heap.size
  ltM : M < P

structure OpenSt (w W : World) (s : Shp) (sl p e : Value) : Prop where
  c0 : W.cell? ⟨w.heap.size, 0, none⟩ = some sl
  c1 : W.cell? ⟨w.heap.size, 1, none⟩ = some (.int .i64 s.keep.lo)
  c2 : W.cell? ⟨w.heap.size, 2, none⟩ = some (.int .i64 s.keep.hi)
  c3 : W.cell? ⟨w.heap.size, 3, none⟩ = some (.int .i64 s.rinse)
  cp : W.cell? ⟨w.heap.size + 1, 0, none⟩ = some p
  ce : W.cell? ⟨w.heap.size + 2, 0, none⟩ = some e
  fp : W.frozen? ⟨w.heap.size + 1, 0, none⟩ = false
  fe : W.frozen? ⟨w.heap.size + 2, 0, none⟩ = false
  hb : Below w.heap.size w W
  hs : w.heap.size + 2 < W.heap.size

theorem OpenSt.below {w W W' : World} {s : Shp} {sl p e : Value} (h : OpenSt w W s sl p e) (hb : Below W.heap.size W W') : OpenSt w W' s sl p e := by
  have h0 := h.hs
  exact ⟨(hb.cell (show w.heap.size < W.heap.size by omega)).trans h.c0, (hb.cell (show w.heap.size < W.heap.size by omega)).trans h.c1, (hb.cell (show w.heap.size < W.heap.size by omega)).trans h.c2, (hb.cell (show w.heap.size < W.heap.size by omega)).trans h.c3, (hb.cell (show w.heap.size + 1 < W.heap.size by omega)).trans h.cp, (hb.cell (show w.heap.size + 2 < W.heap.size by omega)).trans h.ce,
    (hb.frozen (show w.heap.size + 1 < W.heap.size by omega)).trans h.fp, (hb.frozen (show w.heap.size + 2 < W.heap.size by omega)).trans h.fe, h.hb.trans (hb.mono h.hb.size), by have := hb.size; omega⟩

theorem OpenSt.setE {w W : World} {s : Shp} {sl p e : Value} (h : OpenSt w W s sl p e) (v : Value) : OpenSt w (W.setCell ⟨w.heap.size + 2, 0, none⟩ v) s sl p v := by
  have h0 := h.hs
  exact ⟨setO (by omega) h.c0, setO (by omega) h.c1, setO (by omega) h.c2, setO (by omega) h.c3, setO (by omega) h.cp, setS h.ce, by simp [h.fp], by simp [h.fe], h.hb.setCell (by simp) _, by simp; omega⟩

theorem OpenSt.setP {w W : World} {s : Shp} {sl p e : Value} (h : OpenSt w W s sl p e) (v : Value) : OpenSt w (W.setCell ⟨w.heap.size + 1, 0, none⟩ v) s sl v e := by
  have h0 := h.hs
  exact ⟨setO (by omega) h.c0, setO (by omega) h.c1, setO (by omega) h.c2, setO (by omega) h.c3, setS h.cp, setO (by omega) h.ce, by simp [h.fp], by simp [h.fe], h.hb.setCell (by simp) _, by simp; omega⟩

theorem openSt_start (w : World) (s : Shp) (sl : Value) : ∃ W, ((w.alloc (.cells #[sl, .int .i64 s.keep.lo, .int .i64 s.keep.hi, .int .i64 s.rinse] 26)).alloc (.cells #[.pointer none] 101)).alloc (.cells #[.int .i64 0] 31) = W ∧
    OpenSt w W s sl (.pointer none) (.int .i64 0) := by
  obtain ⟨W1, e1, a0, a1, a2, a3, hb, hs⟩ := box4 w sl (.int .i64 s.keep.lo) (.int .i64 s.keep.hi) (.int .i64 s.rinse) 26
  rw [e1]
  have n1 : (W1.alloc (.cells #[.pointer none] 101)).cell? ⟨w.heap.size + 1, 0, none⟩ = some (.pointer none) := by rw [← hs]; simp
  have f1 : (W1.alloc (.cells #[.pointer none] 101)).frozen? ⟨w.heap.size + 1, 0, none⟩ = false := by rw [← hs]; simp
  have hs2 : (W1.alloc (.cells #[.pointer none] 101)).heap.size = w.heap.size + 2 := by simp; omega
  refine ⟨_, rfl, allocO (allocO a0 _) _, allocO (allocO a1 _) _, allocO (allocO a2 _) _, allocO (allocO a3 _) _, allocO n1 _, ?_, allocF (by omega) f1 _, ?_, ?_, ?_⟩
  · rw [← hs2]; simp
  · rw [← hs2]; simp
  · exact (hb.alloc (by omega) _).alloc (by omega) _
  · simp; omega
end Go.Proofs.Ytpkjmnfgpbliaaa
