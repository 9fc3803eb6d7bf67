/-
  The program of the dip chapter: growth of a taper. Conditions: none.
-/
import Derived.Test.YtcgacojnfkklaaaGreatDoorZPrA
import Derived.Test.YtcgacojnfkklaaaGreatDoorZRefH
namespace Go.Proofs.YtcgacojnfkklaaaGreatDoor
open Go.RowKit
set_option linter.unusedSimpArgs false
set_option linter.unusedVariables false
structure Grw where
  top : Int
  foot : Int
def rGrw : Row Grw := ⟨2, fun x => [DI x.top, DI x.foot], fun d => match d with | [.v (.int .i64 a0), .v (.int .i64 a1)] => some ⟨a0, a1⟩ | _ => none, fun _ => rfl, fun d x h => by
  split at h
  · cases h; exact LImp.refl _
  · cases h⟩
theorem rGrw_enc (x : Grw) : rGrw.enc x = [DI x.top, DI x.foot] := rfl
theorem rGrw_dec (x : Grw) : rGrw.dec [DI x.top, DI x.foot] = some x := rGrw.de x
theorem rGrw_mk (a0 : Int) (a1 : Int) : rGrw.dec [DI a0, DI a1] = some ⟨a0, a1⟩ := rfl
def kp95 (r : Nat) : List (Nat × Option Nat) := match r with
  | 0 => [(0, none), (1, none), (2, none)]
  | 1 => [(4, none)]
  | _ => []
def kp58 (r : Nat) : List (Nat × Option Nat) := match r with
  | 0 => [(2, none), (3, none), (4, none), (6, none)]
  | 1 => [(3, none), (4, none), (6, none), (7, none)]
  | 2 => [(3, none), (4, none), (6, none), (8, none)]
  | 3 => [(3, none), (4, none), (6, none), (8, none), (9, none)]
  | 4 => [(4, none), (6, none), (10, none), (11, none)]
  | 5 => [(6, none), (10, none), (11, none), (48, none)]
  | 6 => [(6, none)]
  | 7 => [(6, none)]
  | _ => []
def kp99 (r : Nat) : List (Nat × Option Nat) := match r with
  | 0 => [(1, none)]
  | 1 => [(2, none)]
  | _ => []
def kp97 (r : Nat) : List (Nat × Option Nat) := match r with
  | 0 => [(2, none), (3, none), (4, none)]
  | 1 => [(2, none), (3, none), (4, none), (6, none)]
  | 2 => [(4, none), (5, none)]
  | _ => []
def kp98 (r : Nat) : List (Nat × Option Nat) := match r with
  | 0 => [(2, none), (3, none), (4, none)]
  | 1 => [(2, none), (3, none), (4, none), (6, none)]
  | 2 => [(4, none), (5, none)]
  | _ => []
def kp66 (r : Nat) : List (Nat × Option Nat) := match r with
  | 0 => [(2, none), (3, none), (4, none)]
  | 1 => [(2, none), (3, none), (4, none), (6, none), (7, none)]
  | 2 => [(4, none), (6, none), (7, none), (8, none), (9, none)]
  | 3 => [(4, none), (6, none), (7, none), (8, none), (9, none), (26, none)]
  | 4 => [(4, none), (5, none)]
  | 5 => [(4, none), (5, none)]
  | _ => []
def kp67 (r : Nat) : List (Nat × Option Nat) := match r with
  | 0 => [(2, none), (3, none), (4, none)]
  | 1 => [(2, none), (3, none), (4, none), (6, none), (7, none)]
  | 2 => [(4, none), (6, none), (7, none), (8, none), (9, none)]
  | 3 => [(4, none), (6, none), (7, none), (8, none), (9, none), (26, none)]
  | 4 => [(4, none), (5, none)]
  | 5 => [(4, none), (5, none)]
  | _ => []
def kp63 (r : Nat) : List (Nat × Option Nat) := match r with
  | 0 => [(1, none), (2, none)]
  | 1 => [(1, none), (2, none), (3, none)]
  | 2 => [(2, none)]
  | _ => []
theorem LImp.len : ∀ {a b : List D}, LImp a b → b.length = a.length
  | [], b, h => by simp only [LImp] at h; subst h; rfl
  | x :: t, b, h => by
    simp only [LImp] at h
    obtain ⟨y, u, rfl, _, h2⟩ := h
    simp [LImp.len h2]
theorem dat_imp {k : Nat} {a b : List D} (h : LImp a b) : DImp (.dat k [a] 0 0) (.dat k [b] 0 0) := fun m w v hr => by
  simp only [Rel, RelRows] at hr ⊢
  obtain ⟨h0, blk, o, h1, ⟨h2, h3⟩, _⟩ := hr
  exact ⟨by simp, blk, o, h1, ⟨by rw [h.len]; exact h2, h.cells h3⟩, trivial⟩
def cShP : Cod Dsh := ⟨fun x => .dat 9 [rDsh.enc x] 0 0, fun d => match d with | .dat 9 [y] 0 0 => rDsh.dec y | _ => none, fun d x h => by
  split at h
  · exact dat_imp (rDsh.ed _ _ h)
  · cases h⟩
theorem cShP_enc (x : Dsh) : cShP.enc x = .dat 9 [[DI x.melt, DI x.coat, DI x.thin, DI x.hold, DI x.back, DI x.draw, DI x.set, DI x.run, .sl 3 (x.baths.map rBth.enc)]] 0 0 := rfl
theorem cShP_dec (x : Dsh) : cShP.dec (.dat 9 [[DI x.melt, DI x.coat, DI x.thin, DI x.hold, DI x.back, DI x.draw, DI x.set, DI x.run, .sl 3 (x.baths.map rBth.enc)]] 0 0) = some x := rDsh.de x
def overOk (x : Dsh) (o : Int) : Prop := numbersB x = true ∧ 0 ≤ o ∧ o ≤ 2000
instance (x : Dsh) (o : Int) : Decidable (overOk x o) := inferInstanceAs (Decidable (_ ∧ _))
theorem coat_eq (x : Dsh) (w n : Int) : x.coat - (w - x.melt) * (x.thin + x.back * max 0 (n - x.hold)) = coatV x w n := by
  unfold coatV
  rw [Int.mul_add, Int.mul_comm (w - x.melt) x.thin, ← Int.mul_assoc, Int.mul_comm (w - x.melt) x.back]
  omega
def s95 : List D → Option D := sp3 cInt cShP cIntP cInt fun n x o => if overOk x o ∧ secOk n then some (coatV x (o + x.melt) n) else none
theorem ok95 : ∀ ds d, s95 ds = some d → PureC Tryz.prog 95 ds d := ok_sp3 fun n x o r hr => by
  split at hr
  · rename_i hc
    cases hr
    obtain ⟨⟨hn, o0, o1⟩, n0, n1⟩ := hc
    have hx := nums_of hn
    obtain ⟨m0, m1, c0, c1, t0, t1, g0, g1, q0, q1, d0, d1, z0, z1, r0, r1⟩ := hx
    have e3 : 0 ≤ max 0 (n - x.hold) ∧ max 0 (n - x.hold) ≤ 600 := by omega
    have e1 := mul_bd q0 q1 e3.1 e3.2
    have e2 := mul_bd o0 o1 (show 0 ≤ x.thin + x.back * max 0 (n - x.hold) by omega) (show x.thin + x.back * max 0 (n - x.hold) ≤ 6100 by omega)
    have w1 := wrap_small (n - x.hold) (by omega) (by omega)
    have hm : (if x.hold < n then n - x.hold else 0) = max 0 (n - x.hold) := by split <;> omega
    have w2 := wrap_small (x.back * max 0 (n - x.hold)) (by omega) (by omega)
    have w3 := wrap_small (x.thin + x.back * max 0 (n - x.hold)) (by omega) (by omega)
    have w4 := wrap_small (o * (x.thin + x.back * max 0 (n - x.hold))) (by omega) (by omega)
    have w5 := wrap_small (x.coat - o * (x.thin + x.back * max 0 (n - x.hold))) (by omega) (by omega)
    have he := coat_eq x (o + x.melt) n
    rw [show o + x.melt - x.melt = o by omega] at he
    rw [← he]
    refine pure_of_call (mkCx_ok del_nil 25 kp95 []) Tryz.func95 rfl rfl (Nat.le_of_ble_eq_true rfl) (by kernel_rfl) ?_
    rw [Tryz.results95]
    simp [kp95, cShP_enc, cIntP_enc, w1, hm, w2, w3, w4, w5]
  · cases hr
theorem call95 (xs : Array Value) (w : World) : (callFunc 95 xs).run Tryz.prog w = .ok (.enter 95 xs) w := by kernel_rfl
def g1l : List (Nat × (List D → Option D)) := [(95, s95)]
theorem dg1 : DelOk Tryz.prog (delOf g1l) := del_cons del_nil call95 ok95
def growV (x : Dsh) (d : Dip) (w : Int) : Grw := ⟨(grownV x d w).1, (grownV x d w).2⟩
def s58 : List D → Option D := sp3 (cAgg rDsh) (cAgg rDip) cInt (cAgg rGrw) fun x d w => if gOk x d w then some (growV x d w) else none
set_option maxHeartbeats 1000000 in
theorem ok58 : ∀ ds d, s58 ds = some d → PureC Tryz.prog 58 ds d := ok_sp3 fun x d w r hr => by
  split at hr
  · rename_i h
    cases hr
    obtain ⟨hw, ⟨s0, s1⟩, p0, p1⟩ := h
    have hx := nums_of hw.1
    have b1 := (coat_bd (n := d.secs) hw ⟨by omega, by omega⟩).2.2.2.2
    have b2 := (coat_bd (n := d.secs - x.draw) hw ⟨by have := hx.d1; omega, by have := hx.d0; omega⟩).2.2.2.2
    have b3 := run_bd hx p0
    have q1 : secOk d.secs := ⟨by omega, by omega⟩
    have q2 : secOk (d.secs - x.draw) := ⟨by have := hx.d1; omega, by have := hx.d0; omega⟩
    have r0 := hx.s0
    have r1 := hx.s1
    have r2 := hx.d0
    have r3 := hx.d1
    have r4 := hx.m0
    have r5 := hx.m1
    have hov : overOk x (w - x.melt) := ⟨hw.1, by have := hw.2.1; omega, by have := hw.2.2; omega⟩
    have w0 := wrap_small (w - x.melt) (by have := hov.2.1; omega) (by have := hov.2.2; omega)
    have w1 := wrap_small (x.set - d.pause) (by omega) (by omega)
    have hm : (if d.pause < x.set then x.set - d.pause else 0) = max 0 (x.set - d.pause) := by split <;> omega
    have w2 := wrap_small (x.run * max 0 (x.set - d.pause)) (by omega) (by omega)
    have w3 := wrap_small (d.secs - x.draw) (by omega) (by omega)
    have hwm : w - x.melt + x.melt = w := by omega
    unfold growV grownV
    generalize hA : coatV x w d.secs = A at *
    generalize hB : coatV x w (d.secs - x.draw) = B at *
    generalize hR : x.run * max 0 (x.set - d.pause) = R at *
    have w4 := wrap_small (A + R) (by omega) (by omega)
    have w5 := wrap_small (2 * (A + R)) (by omega) (by omega)
    have w6 := wrap_small (B - R) (by omega) (by omega)
    have w7 := wrap_small (2 * (B - R)) (by omega) (by omega)
    refine pure_of_call (mkCx_ok dg1 55 kp58 []) Tryz.func58 rfl rfl (Nat.le_of_ble_eq_true rfl) (by kernel_rfl) ?_
    rw [Tryz.results58]
    cases ht : d.turned
    · simp [kp58, rDsh_enc, rDip_enc, rGrw_enc, g1l, s95, cShP_dec, cIntP_dec, hov, q1, q2, w0, w1, hm, w2, w3, hwm, hR, hA, hB, w4, w5, w6, w7, ht]
    · simp [kp58, rDsh_enc, rDip_enc, rGrw_enc, g1l, s95, cShP_dec, cIntP_dec, hov, q1, q2, w0, w1, hm, w2, w3, hwm, hR, hA, hB, w4, w5, w6, w7, ht]
  · cases hr
theorem call58 (xs : Array Value) (w : World) : (callFunc 58 xs).run Tryz.prog w = .ok (.enter 58 xs) w := by kernel_rfl
def grwOk (g : Grw) : Prop := (-25000000 ≤ g.top ∧ g.top ≤ 25000000) ∧ -25000000 ≤ g.foot ∧ g.foot ≤ 25000000
instance (g : Grw) : Decidable (grwOk g) := inferInstanceAs (Decidable (_ ∧ _))
theorem grow_bd {x : Dsh} {d : Dip} {w : Int} (h : gOk x d w) : grwOk (growV x d w) := grown_bd h
def g2l : List (Nat × (List D → Option D)) := (58, s58) :: g1l
theorem dg2 : DelOk Tryz.prog (delOf g2l) := del_cons dg1 call58 ok58
def skewG (g : Grw) : Int := g.foot - g.top
def s99 : List D → Option D := sp1 (cAgg rGrw) cInt fun g => if grwOk g then some (skewG g) else none
theorem ok99 : ∀ ds d, s99 ds = some d → PureC Tryz.prog 99 ds d := ok_sp1 fun g r hr => by
  split at hr
  · rename_i h
    cases hr
    obtain ⟨⟨a, b⟩, c, e⟩ := h
    have w1 := wrap_small (g.foot - g.top) (by omega) (by omega)
    refine pure_of_call (mkCx_ok del_nil 8 kp99 []) Tryz.func99 rfl rfl (Nat.le_of_ble_eq_true rfl) (by kernel_rfl) ?_
    rw [Tryz.results99]
    unfold skewG
    simp [kp99, rGrw_enc, w1]
  · cases hr
theorem call99 (xs : Array Value) (w : World) : (callFunc 99 xs).run Tryz.prog w = .ok (.enter 99 xs) w := by kernel_rfl
def s97 : List D → Option D := sp2 (cAgg rDsh) (cAgg rDip) (cTup2 (cAgg rGrw) cInt) fun x d => if okD x d then some (growV x d (warmV x d).lo, (warmV x d).lo) else none
theorem ok97 : ∀ ds d, s97 ds = some d → PureC Tryz.prog 97 ds d := ok_sp2 fun x d r hr => by
  split at hr
  · rename_i hd
    cases hr
    obtain ⟨B, e1, hB, e2, _, g1, g2, _, _⟩ := okD_bath hd
    rw [e2] at g1 g2 ⊢
    have hdec : rDip.dec [DI (B : Int), DI d.secs, DI d.pause, DB d.turned] = some d := by rw [← e1]; exact rDip_dec d
    refine pure_of_call (mkCx_ok dg2 21 kp97 []) Tryz.func97 rfl rfl (Nat.le_of_ble_eq_true rfl) (by kernel_rfl) ?_
    rw [Tryz.results97]
    rw [cAgg_enc, cAgg_enc, rDip_enc, e1]
    simp [kp97, rDsh_enc, rDsh_dec, hdec, rBth_enc, rGrw_enc, g2l, s58, hB, g1, g2]
  · cases hr
theorem call97 (xs : Array Value) (w : World) : (callFunc 97 xs).run Tryz.prog w = .ok (.enter 97 xs) w := by kernel_rfl
def s98 : List D → Option D := sp2 (cAgg rDsh) (cAgg rDip) (cTup2 (cAgg rGrw) cInt) fun x d => if okD x d then some (growV x d (warmV x d).hi, (warmV x d).hi) else none
theorem ok98 : ∀ ds d, s98 ds = some d → PureC Tryz.prog 98 ds d := ok_sp2 fun x d r hr => by
  split at hr
  · rename_i hd
    cases hr
    obtain ⟨B, e1, hB, e2, _, g1, g2, _, _⟩ := okD_bath hd
    rw [e2] at g1 g2 ⊢
    have hdec : rDip.dec [DI (B : Int), DI d.secs, DI d.pause, DB d.turned] = some d := by rw [← e1]; exact rDip_dec d
    refine pure_of_call (mkCx_ok dg2 21 kp98 []) Tryz.func98 rfl rfl (Nat.le_of_ble_eq_true rfl) (by kernel_rfl) ?_
    rw [Tryz.results98]
    rw [cAgg_enc, cAgg_enc, rDip_enc, e1]
    simp [kp98, rDsh_enc, rDsh_dec, hdec, rBth_enc, rGrw_enc, g2l, s58, hB, g1, g2]
  · cases hr
theorem call98 (xs : Array Value) (w : World) : (callFunc 98 xs).run Tryz.prog w = .ok (.enter 98 xs) w := by kernel_rfl
def g3l : List (Nat × (List D → Option D)) := (97, s97) :: (98, s98) :: g2l
theorem dg3 : DelOk Tryz.prog (delOf g3l) := del_cons (del_cons dg2 call98 ok98) call97 ok97
def g4l : List (Nat × (List D → Option D)) := (99, s99) :: g3l
theorem dg4 : DelOk Tryz.prog (delOf g4l) := del_cons dg3 call99 ok99
def leastG (x : Dsh) (d : Dip) : Grw × Int := if skewG (growV x d (warmV x d).hi) < skewG (growV x d (warmV x d).lo) then (growV x d (warmV x d).hi, (warmV x d).hi) else (growV x d (warmV x d).lo, (warmV x d).lo)
def mostG (x : Dsh) (d : Dip) : Grw × Int := if skewG (growV x d (warmV x d).lo) < skewG (growV x d (warmV x d).hi) then (growV x d (warmV x d).hi, (warmV x d).hi) else (growV x d (warmV x d).lo, (warmV x d).lo)
def s66 : List D → Option D := sp2 (cAgg rDsh) (cAgg rDip) (cTup2 (cAgg rGrw) cInt) fun x d => if okD x d then some (leastG x d) else none
set_option maxHeartbeats 1000000 in
theorem ok66 : ∀ ds d, s66 ds = some d → PureC Tryz.prog 66 ds d := ok_sp2 fun x d r hr => by
  split at hr
  · rename_i hd
    cases hr
    have hd0 := hd
    obtain ⟨B, e1, hB, e2, _, g1, g2, _, _⟩ := okD_bath hd
    have b1 := grow_bd g1
    have b2 := grow_bd g2
    refine pure_of_call (mkCx_ok dg4 31 kp66 []) Tryz.func66 rfl rfl (Nat.le_of_ble_eq_true rfl) (by kernel_rfl) ?_
    rw [Tryz.results66]
    unfold leastG
    by_cases h : skewG (growV x d (warmV x d).hi) < skewG (growV x d (warmV x d).lo)
    · simp [kp66, rDsh_enc, rDsh_dec, rDip_enc, rDip_dec, rGrw_enc, rGrw_dec, g4l, g3l, g2l, s97, s98, s99, hd0, b1, b2, h]
    · simp [kp66, rDsh_enc, rDsh_dec, rDip_enc, rDip_dec, rGrw_enc, rGrw_dec, g4l, g3l, g2l, s97, s98, s99, hd0, b1, b2, h]
  · cases hr
theorem call66 (xs : Array Value) (w : World) : (callFunc 66 xs).run Tryz.prog w = .ok (.enter 66 xs) w := by kernel_rfl
def s67 : List D → Option D := sp2 (cAgg rDsh) (cAgg rDip) (cTup2 (cAgg rGrw) cInt) fun x d => if okD x d then some (mostG x d) else none
set_option maxHeartbeats 1000000 in
theorem ok67 : ∀ ds d, s67 ds = some d → PureC Tryz.prog 67 ds d := ok_sp2 fun x d r hr => by
  split at hr
  · rename_i hd
    cases hr
    have hd0 := hd
    obtain ⟨B, e1, hB, e2, _, g1, g2, _, _⟩ := okD_bath hd
    have b1 := grow_bd g1
    have b2 := grow_bd g2
    refine pure_of_call (mkCx_ok dg4 31 kp67 []) Tryz.func67 rfl rfl (Nat.le_of_ble_eq_true rfl) (by kernel_rfl) ?_
    rw [Tryz.results67]
    unfold mostG
    by_cases h : skewG (growV x d (warmV x d).lo) < skewG (growV x d (warmV x d).hi)
    · simp [kp67, rDsh_enc, rDsh_dec, rDip_enc, rDip_dec, rGrw_enc, rGrw_dec, g4l, g3l, g2l, s97, s98, s99, hd0, b1, b2, h]
    · simp [kp67, rDsh_enc, rDsh_dec, rDip_enc, rDip_dec, rGrw_enc, rGrw_dec, g4l, g3l, g2l, s97, s98, s99, hd0, b1, b2, h]
  · cases hr
theorem call67 (xs : Array Value) (w : World) : (callFunc 67 xs).run Tryz.prog w = .ok (.enter 67 xs) w := by kernel_rfl
def beginV (t : Tap) : Rng := ⟨⟨t.top, t.top⟩, ⟨t.foot, t.foot⟩, ⟨t.foot - t.top, t.foot - t.top⟩⟩
def s63 : List D → Option D := sp1 (cAgg rTap) (cAgg rRng) fun t => if tapOk t then some (beginV t) else none
theorem ok63 : ∀ ds d, s63 ds = some d → PureC Tryz.prog 63 ds d := ok_sp1 fun t r hr => by
  split at hr
  · rename_i h
    cases hr
    obtain ⟨⟨a, b⟩, c, e⟩ := h
    have w1 := wrap_small (t.foot - t.top) (by omega) (by omega)
    refine pure_of_call (mkCx_ok del_nil 23 kp63 []) Tryz.func63 rfl rfl (Nat.le_of_ble_eq_true rfl) (by kernel_rfl) ?_
    rw [Tryz.results63]
    unfold beginV
    simp [kp63, rTap_enc, rRng_enc, w1]
  · cases hr
theorem call63 (xs : Array Value) (w : World) : (callFunc 63 xs).run Tryz.prog w = .ok (.enter 63 xs) w := by kernel_rfl
end Go.Proofs.YtcgacojnfkklaaaGreatDoor
namespace Go.Proofs.YtcgacojnfkklaaaGreatDoor
open Go.RowKit
set_option linter.unusedSimpArgs false
set_option linter.unusedVariables false
def g5l : List (Nat × (List D → Option D)) := (66, s66) :: (67, s67) :: g4l
theorem dg5 : DelOk Tryz.prog (delOf g5l) := del_cons (del_cons dg4 call67 ok67) call66 ok66
def rngOk (r : Rng) : Prop := (-4000000000 ≤ r.top.lo ∧ r.top.lo ≤ 4000000000) ∧ (-4000000000 ≤ r.top.hi ∧ r.top.hi ≤ 4000000000) ∧ (-4000000000 ≤ r.foot.lo ∧ r.foot.lo ≤ 4000000000) ∧ (-4000000000 ≤ r.foot.hi ∧ r.foot.hi ≤ 4000000000) ∧ (-4000000000 ≤ r.skew.lo ∧ r.skew.lo ≤ 4000000000) ∧ -4000000000 ≤ r.skew.hi ∧ r.skew.hi ≤ 4000000000
instance (r : Rng) : Decidable (rngOk r) := inferInstanceAs (Decidable (_ ∧ _))
def coldG (x : Dsh) (d : Dip) : Grw := growV x d (warmV x d).lo
def hotG (x : Dsh) (d : Dip) : Grw := growV x d (warmV x d).hi
def nextR (x : Dsh) (r : Rng) (d : Dip) : Rng :=
  ⟨⟨r.top.lo + (hotG x d).top, r.top.hi + (coldG x d).top⟩, ⟨r.foot.lo + (hotG x d).foot, r.foot.hi + (coldG x d).foot⟩, ⟨r.skew.lo + skewG (leastG x d).1, r.skew.hi + skewG (mostG x d).1⟩⟩
theorem least_bd {x : Dsh} {d : Dip} (h : okD x d) : grwOk (coldG x d) ∧ grwOk (hotG x d) ∧ grwOk (leastG x d).1 ∧ grwOk (mostG x d).1 := by
  obtain ⟨B, e1, hB, e2, _, g1, g2, _, _⟩ := okD_bath h
  have b1 := grow_bd g1
  have b2 := grow_bd g2
  refine ⟨b1, b2, ?_, ?_⟩
  · unfold leastG; split
    · exact b2
    · exact b1
  · unfold mostG; split
    · exact b2
    · exact b1
def kp64 (r : Nat) : List (Nat × Option Nat) := match r with
  | 0 => [(3, none), (4, none), (5, none), (6, none)]
  | 1 => [(3, none), (4, none), (5, none), (6, none), (7, none)]
  | 2 => [(4, none), (5, none), (6, none), (7, none), (18, none), (19, none)]
  | 3 => [(4, none), (5, none), (6, none), (7, none), (18, none), (19, none), (20, none)]
  | 4 => [(4, none), (5, none), (6, none), (7, none), (8, none), (9, none), (18, none), (19, none)]
  | 5 => [(4, none), (5, none), (6, none), (7, none), (18, none), (19, none)]
  | 6 => [(4, none), (5, none), (6, none), (7, none), (18, none), (19, none)]
  | 7 => [(4, none), (6, none), (7, none)]
  | 8 => [(4, none), (6, none), (7, none)]
  | 9 => [(4, none), (6, none)]
  | 10 => [(6, none)]
  | _ => []
def s64 : List D → Option D := sp3 (cAgg rDsh) (cAgg rRng) (cAgg rDip) (cAgg rRng) fun x r d => if okD x d ∧ rngOk r then some (nextR x r d) else none
set_option maxHeartbeats 4000000 in
theorem ok64 : ∀ ds d, s64 ds = some d → PureC Tryz.prog 64 ds d := ok_sp3 fun x r d res hr => by
  split at hr
  · rename_i hc
    cases hr
    obtain ⟨hd, r1, r2, r3, r4, r5, r6⟩ := hc
    obtain ⟨b1, b2, b3, b4⟩ := least_bd hd
    obtain ⟨gs, hgs⟩ : ∃ gs : Nat → Grw, gs = fun i => if i = 0 then coldG x d else if i = 1 then hotG x d else if i = 2 then (leastG x d).1 else (mostG x d).1 := ⟨_, rfl⟩
    have h0 : gs 0 = coldG x d := by rw [hgs]; rfl
    have h1 : gs 1 = hotG x d := by rw [hgs]; rfl
    have h2 : gs 2 = (leastG x d).1 := by rw [hgs]; rfl
    have h3 : gs 3 = (mostG x d).1 := by rw [hgs]; rfl
    have f0 : growV x d (warmV x d).lo = gs 0 := h0.symm
    have f1 : growV x d (warmV x d).hi = gs 1 := h1.symm
    unfold nextR
    rw [← h0, ← h1, ← h2, ← h3]
    have b1' := b1
    have b2' := b2
    have b3' := b3
    have b4' := b4
    rw [← h0] at b1'
    rw [← h1] at b2'
    rw [← h2] at b3'
    rw [← h3] at b4'
    have k1 := b1'
    have k2 := b2'
    have k3 := b3'
    have k4 := b4'
    unfold grwOk at k1 k2 k3 k4
    have s3 : skewG (gs 2) = (gs 2).foot - (gs 2).top := rfl
    have s4 : skewG (gs 3) = (gs 3).foot - (gs 3).top := rfl
    have w1 := wrap_small (r.top.lo + (gs 1).top) (by omega) (by omega)
    have w2 := wrap_small (r.top.hi + (gs 0).top) (by omega) (by omega)
    have w3 := wrap_small (r.foot.lo + (gs 1).foot) (by omega) (by omega)
    have w4 := wrap_small (r.foot.hi + (gs 0).foot) (by omega) (by omega)
    have hgk2 : (⟨(gs 2).top, (gs 2).foot⟩ : Grw) = gs 2 := rfl
    have hgk3 : (⟨(gs 3).top, (gs 3).foot⟩ : Grw) = gs 3 := rfl
    have w5 := wrap_small (r.skew.lo + skewG (gs 2)) (by omega) (by omega)
    have w6 := wrap_small (r.skew.hi + skewG (gs 3)) (by omega) (by omega)
    refine pure_of_call (mkCx_ok dg5 81 kp64 []) Tryz.func64 rfl rfl (Nat.le_of_ble_eq_true rfl) (by kernel_rfl) ?_
    rw [Tryz.results64]
    simp [kp64, rDsh_enc, rRng_enc, rDip_enc]
    (generalize hLoopQ : Cx.loop _ _ _ = rLoopQ; apply loop_then hLoopQ (fun k => ⟨[(4, .loc 4 0), (5, .loc 5 0), (6, .loc 6 0), (7, .loc 7 0), (18, .d (.agg [.fn 97 [.agg (rDsh.enc x)] [], .fn 98 [.agg (rDsh.enc x)] [], .fn 66 [.agg (rDsh.enc x)] [], .fn 67 [.agg (rDsh.enc x)] []])), (19, .d (DI k))], [(4, [.d (DI r.top.lo), .d (DI r.top.hi), .d (DI r.foot.lo), .d (DI r.foot.hi), .d (DI r.skew.lo), .d (DI r.skew.hi)]), (5, [.d (DI d.bath), .d (DI d.secs), .d (DI d.pause), .d (DB d.turned)]), (6, [.d (DI 0), .d (DI 0), .d (DI 0), .d (DI 0), .d (DI 0), .d (DI 0)]), (7, [.d (DI (if 0 < k then (gs 0).top else 0)), .d (DI (if 0 < k then (gs 0).foot else 0)), .d (DI (if 1 < k then (gs 1).top else 0)), .d (DI (if 1 < k then (gs 1).foot else 0)), .d (DI (if 2 < k then (gs 2).top else 0)), .d (DI (if 2 < k then (gs 2).foot else 0)), .d (DI (if 3 < k then (gs 3).top else 0)), .d (DI (if 3 < k then (gs 3).foot else 0))])], [], []⟩) 4 rfl; rotate_left; (show _ < 281474976710656; omega); rfl; rotate_left; all_goals clear hLoopQ)
    · intro j hj
      have v2 : IntKind.i64.wrap 2 = 2 := by decide
      have v3 : IntKind.i64.wrap 3 = 3 := by decide
      have v4 : IntKind.i64.wrap 4 = 4 := by decide
      have hcase : j = 0 ∨ j = 1 ∨ j = 2 ∨ j = 3 := by omega
      obtain ⟨l1, l2⟩ : ∃ l1 l2, leastG x d = (l1, l2) := ⟨_, _, rfl⟩
      obtain ⟨m1, m2⟩ : ∃ l1 l2, mostG x d = (l1, l2) := ⟨_, _, rfl⟩
      rcases hcase with rfl | rfl | rfl | rfl
      · simp [kp64, rDsh_enc, rDsh_dec, rDip_dec, rGrw_enc, g5l, g4l, g3l, s97, hd, f0, v2, v3, v4]
      · simp [kp64, rDsh_enc, rDsh_dec, rDip_dec, rGrw_enc, g5l, g4l, g3l, s98, hd, f1, v2, v3, v4]
      · simp [kp64, rDsh_enc, rDsh_dec, rDip_dec, rGrw_enc, g5l, g4l, g3l, s66, hd, h2, v2, v3, v4]
      · simp [kp64, rDsh_enc, rDsh_dec, rDip_dec, rGrw_enc, g5l, g4l, g3l, s67, hd, h3, v2, v3, v4]
    · simp [kp64, rGrw_enc, rGrw_mk, rRng_enc, g5l, g4l, s99, w1, w2, w3, w4, hgk2, hgk3, b3', b4', w5, w6]
  · cases hr
theorem call64 (xs : Array Value) (w : World) : (callFunc 64 xs).run Tryz.prog w = .ok (.enter 64 xs) w := by kernel_rfl
end Go.Proofs.YtcgacojnfkklaaaGreatDoor
namespace Go.Proofs.YtcgacojnfkklaaaGreatDoor
open Go.RowKit
set_option linter.unusedSimpArgs false
set_option linter.unusedVariables false
def kp23 (r : Nat) : List (Nat × Option Nat) := match r with
  | 0 => [(2, none), (3, none), (4, none), (6, some 6)]
  | 1 => [(2, none), (4, none), (6, some 6), (7, none), (8, none)]
  | 2 => [(2, none), (4, none), (6, some 6), (7, none), (8, none), (20, none)]
  | 3 => [(6, some 6), (7, none)]
  | 4 => [(2, none), (4, none), (6, some 6), (8, none), (9, none)]
  | 5 => [(4, none), (6, some 6), (8, none), (9, none), (24, none), (25, none), (26, none)]
  | 6 => [(4, none), (6, some 6), (8, none), (9, none), (24, none), (25, none), (26, none), (27, none)]
  | 7 => [(4, none), (6, some 6), (8, none), (9, none), (11, none), (24, none), (25, none), (26, none)]
  | 8 => [(4, none), (6, some 6), (8, none), (9, none), (24, none), (25, none), (26, none)]
  | 9 => [(4, none), (6, some 6), (8, none), (9, none), (24, none), (25, none), (26, none), (43, none)]
  | 10 => [(6, some 6), (7, none)]
  | 11 => [(4, none), (6, some 6), (8, none), (9, none), (24, none), (25, none), (26, none)]
  | 12 => [(4, none), (6, some 6), (8, none), (9, none), (24, none), (25, none), (26, none)]
  | 13 => [(6, some 6), (7, none)]
  | _ => []
def kp26 (r : Nat) : List (Nat × Option Nat) := match r with
  | 0 => [(2, none), (3, none), (4, none), (5, none), (8, some 1)]
  | 1 => [(2, none), (3, none), (4, none), (5, none), (8, some 1), (9, none), (10, none)]
  | 2 => [(2, none), (3, none), (4, none), (5, none), (8, some 1), (9, none), (10, none), (25, none)]
  | 3 => [(8, some 1), (9, none)]
  | 4 => [(2, none), (3, none), (4, none), (5, none), (8, some 1), (10, none), (29, none)]
  | 5 => [(8, some 1), (9, none)]
  | 6 => [(2, none), (3, none), (4, none), (8, some 1), (10, none), (11, none)]
  | 7 => [(2, none), (3, none), (4, none), (8, some 1), (10, none), (11, none), (37, none)]
  | 8 => [(2, none), (3, none), (4, none), (8, some 1), (11, none)]
  | 9 => [(2, none), (4, none), (8, some 1), (11, none), (52, none)]
  | 10 => [(8, some 1), (9, none)]
  | 11 => [(2, none), (8, some 1), (11, none), (12, none)]
  | 12 => [(2, none), (8, some 1), (11, none), (12, none), (13, none)]
  | 13 => [(2, none), (8, some 1), (12, none), (13, none), (62, none)]
  | 14 => [(2, none), (8, some 1), (13, none)]
  | 15 => [(8, some 1), (13, none), (65, none), (66, none), (67, none)]
  | 16 => [(8, some 1), (13, none), (65, none), (66, none), (67, none), (68, none)]
  | 17 => [(8, some 1), (13, none), (15, none), (65, none), (66, none), (67, none)]
  | 18 => [(8, some 1), (13, none), (17, none), (65, none), (66, none), (67, none)]
  | 19 => [(8, some 1), (13, none), (65, none), (66, none), (67, none)]
  | 20 => [(8, some 1), (13, none), (65, none), (66, none), (67, none)]
  | 21 => [(8, some 1), (9, none)]
  | _ => []
def kp56 (r : Nat) : List (Nat × Option Nat) := match r with
  | 0 => [(0, none), (2, none), (3, none), (5, none)]
  | 1 => [(0, none), (3, none), (7, none)]
  | 2 => [(25, none)]
  | 3 => [(6, none)]
  | 4 => [(6, none)]
  | _ => []
theorem skewG_eq (x : Dsh) (d : Dip) (w : Int) : skewG (growV x d w) = skewV x d w := rfl
theorem least_eq (x : Dsh) (d : Dip) : skewG (leastG x d).1 = skewV x d (endsV x d).1 ∧ (leastG x d).2 = (endsV x d).1 ∧ skewG (mostG x d).1 = skewV x d (endsV x d).2 ∧ (mostG x d).2 = (endsV x d).2 := by
  unfold leastG mostG endsV
  simp only [skewG_eq]
  by_cases h1 : skewV x d (warmV x d).lo < skewV x d (warmV x d).hi
  · have h2 : ¬ skewV x d (warmV x d).hi < skewV x d (warmV x d).lo := by omega
    simp [h1, h2, skewG_eq]
  · by_cases h2 : skewV x d (warmV x d).hi < skewV x d (warmV x d).lo
    · simp [h1, h2, skewG_eq]
    · simp [h1, h2, skewG_eq]
theorem next_eq (x : Dsh) (s : Tap × Tap × Spn) (d : Dip) : nextR x (rngOf s) d = rngOf (stepA x s d) := by
  obtain ⟨e1, _, e3, _⟩ := least_eq x d
  unfold nextR rngOf stepA
  simp only [dippedV, e1, e3]
  rfl
theorem begin_eq (x : Dsh) (t : Tap) (l : List Dip) : beginV t = rngOf (stA x t l 0) := rfl
def g6l : List (Nat × (List D → Option D)) := (64, s64) :: (63, s63) :: (54, s54) :: g5l
theorem dg6 : DelOk Tryz.prog (delOf g6l) := del_cons (del_cons (del_cons dg5 call54 ok54) call63 ok63) call64 ok64
theorem rng_dec' (r : Rng) : rRng.dec [DI r.top.lo, DI r.top.hi, DI r.foot.lo, DI r.foot.hi, DI r.skew.lo, DI r.skew.hi] = some r := rRng_dec r
theorem rng_ok {x : Dsh} {t : Tap} {l : List Dip} (hl : okL x l) (ht : tapE t = 0) (k : Nat) (hk : k ≤ l.length) : rngOk (rngOf (stA x t l k)) := by
  have h30 := hl.2.1
  have sb := stA_bd hl ht k hk
  unfold rngOk rngOf
  dsimp only
  omega
def s23 : List D → Option D := sp3 (cAgg rDsh) (cAgg rTap) (cList rDip) (cTup2 (cList rRng) cInt) fun x t l => if namesOk x then some (afterE x t l) else none
set_option maxHeartbeats 4000000 in
theorem ok23 : ∀ ds d, s23 ds = some d → PureC Tryz.prog 23 ds d := ok_sp3 fun x t l r hr => by
  split at hr
  · rename_i hc
    cases hr
    have hs := hc
    have hlm := blen_or x
    refine pure_of_dec (cTup2 (cList rRng) cInt) _ (mkCx_ok dg6 50 kp23 []) Tryz.func23 rfl rfl (Nat.le_of_ble_eq_true rfl) (by kernel_rfl) ?_
    rw [Tryz.results23]
    unfold afterE
    by_cases h1 : askedE x t l = 0
    · obtain ⟨hcc, ht, hl⟩ := asked_ok h1
      have hl30 := hl.2.1
      have tb := tapE_bd ht
      have htk : tapOk t := ⟨⟨by omega, by omega⟩, by omega, by omega⟩
      have fact : ∀ j (hj : j < l.length), okD x l[j] ∧ rngOk (rngOf (stA x t l j)) ∧ nextR x (rngOf (stA x t l j)) l[j] = rngOf (stA x t l (j + 1)) ∧ (stA x t l (j + 1)).2.1.wick = t.wick := fun j hj => by
        refine ⟨okL_at hl j hj, rng_ok hl ht j (by omega), ?_, (stA_bd hl ht (j + 1) (by omega)).2.2.2.2⟩
        rw [next_eq, stA, getD_at _ _ _ hj]
      have hb := begin_eq x t l
      unfold afterR
      simp [kp23, rDsh_enc, rDsh_dec, rTap_enc, rTap_dec, rDip_k, rDip_decL, rRng_enc, g6l, s54, s63, hs, hlm, h1, htk, hb]
      rcases first_not (fun k => !lostAt x t l k) l.length with hall | ⟨k, hk, hbad, hgood⟩
      · have hany : ¬ ∃ j, j < l.length ∧ lostAt x t l j = true := by
          rintro ⟨j, hj, h⟩
          have := hall j hj
          rw [h] at this; cases this
        simp only [hany, if_false]
        (generalize hLoopQ : Cx.loop _ _ _ = rLoopQ; apply loop_then hLoopQ (fun k => ⟨[(4, .loc 4 0), (6, .sl 6 ((afterL x t l k).map rRng.enc) (.tok 6)), (8, .loc 8 0), (9, .loc 9 0), (24, .d (.sl 4 (l.map rDip.enc))), (25, .d (DI l.length)), (26, .d (DI k))], [(4, [.d (DI t.wick), .d (DI t.top), .d (DI t.foot)]), (8, [.d (DI x.melt), .d (DI x.coat), .d (DI x.thin), .d (DI x.hold), .d (DI x.back), .d (DI x.draw), .d (DI x.set), .d (DI x.run), .d (.sl 3 (x.baths.map rBth.enc))]), (9, [.d (DI (rngOf (stA x t l k)).top.lo), .d (DI (rngOf (stA x t l k)).top.hi), .d (DI (rngOf (stA x t l k)).foot.lo), .d (DI (rngOf (stA x t l k)).foot.hi), .d (DI (rngOf (stA x t l k)).skew.lo), .d (DI (rngOf (stA x t l k)).skew.hi)])], [6], []⟩) l.length rfl; rotate_left; (show _ < 281474976710656; omega); rfl; rotate_left; all_goals clear hLoopQ)
        · intro j hj
          obtain ⟨f1, f2, f3, f4⟩ := fact j hj
          have w1 := wrap_small ((j : Int) + 1) (by omega) (by omega)
          have hjl : (j : Int) < l.length := by omega
          have c1 : j + 1 ≤ 140737488355328 := by omega
          have c2 : (j + 1) * 48 ≤ 140737488355328 := by omega
          have hlen := afterL_len x t l j
          have hlo : ¬ (if (rngOf (stA x t l (j + 1))).foot.lo < (rngOf (stA x t l (j + 1))).top.lo then (rngOf (stA x t l (j + 1))).foot.lo else (rngOf (stA x t l (j + 1))).top.lo) < t.wick := by
            have h : lostB (stA x t l (j + 1)).2.1 = false := by simpa [lostAt] using hall j hj
            unfold lostB at h
            rw [f4] at h
            simp only [Bool.or_eq_false_iff, decide_eq_false_iff_not] at h
            have ef : (rngOf (stA x t l (j + 1))).foot.lo = (stA x t l (j + 1)).2.1.foot := rfl
            have et : (rngOf (stA x t l (j + 1))).top.lo = (stA x t l (j + 1)).2.1.top := rfl
            by_cases hq : (rngOf (stA x t l (j + 1))).foot.lo < (rngOf (stA x t l (j + 1))).top.lo
            · rw [if_pos hq, ef]; rw [ef, et] at hq; omega
            · rw [if_neg hq, et]; rw [ef, et] at hq; omega
          rw [afterL_succ]
          generalize hR : rngOf (stA x t l j) = r0 at *
          generalize hR1 : rngOf (stA x t l (j + 1)) = r1 at *
          generalize afterL x t l j = AL at *
          simp [kp23, rDsh_dec, rDip_enc, rDip_dec, rRng_enc, rng_dec', g6l, s64, hj, hjl, f1, f2, f3, w1, c1, c2, hlen, hlo]
        · simp [kp23, rRng_k, rRng_decL]
      · have hex : ∃ j, j < l.length ∧ lostAt x t l j = true := ⟨k, hk, by simpa using hbad⟩
        simp only [hex, if_true]
        (generalize hLoopQ : Cx.loop _ _ _ = rLoopQ; apply loop_then hLoopQ (fun k => ⟨[(4, .loc 4 0), (6, .sl 6 ((afterL x t l k).map rRng.enc) (.tok 6)), (8, .loc 8 0), (9, .loc 9 0), (24, .d (.sl 4 (l.map rDip.enc))), (25, .d (DI l.length)), (26, .d (DI k))], [(4, [.d (DI t.wick), .d (DI t.top), .d (DI t.foot)]), (8, [.d (DI x.melt), .d (DI x.coat), .d (DI x.thin), .d (DI x.hold), .d (DI x.back), .d (DI x.draw), .d (DI x.set), .d (DI x.run), .d (.sl 3 (x.baths.map rBth.enc))]), (9, [.d (DI (rngOf (stA x t l k)).top.lo), .d (DI (rngOf (stA x t l k)).top.hi), .d (DI (rngOf (stA x t l k)).foot.lo), .d (DI (rngOf (stA x t l k)).foot.hi), .d (DI (rngOf (stA x t l k)).skew.lo), .d (DI (rngOf (stA x t l k)).skew.hi)])], [6], []⟩) k rfl; rotate_left; (show _ < 281474976710656; omega); rfl; rotate_left; all_goals clear hLoopQ)
        · intro j hj'
          have hj : j < l.length := by omega
          obtain ⟨f1, f2, f3, f4⟩ := fact j hj
          have w1 := wrap_small ((j : Int) + 1) (by omega) (by omega)
          have hjl : (j : Int) < l.length := by omega
          have c1 : j + 1 ≤ 140737488355328 := by omega
          have c2 : (j + 1) * 48 ≤ 140737488355328 := by omega
          have hlen := afterL_len x t l j
          have hlo : ¬ (if (rngOf (stA x t l (j + 1))).foot.lo < (rngOf (stA x t l (j + 1))).top.lo then (rngOf (stA x t l (j + 1))).foot.lo else (rngOf (stA x t l (j + 1))).top.lo) < t.wick := by
            have h : lostB (stA x t l (j + 1)).2.1 = false := by simpa [lostAt] using hgood j hj'
            unfold lostB at h
            rw [f4] at h
            simp only [Bool.or_eq_false_iff, decide_eq_false_iff_not] at h
            have ef : (rngOf (stA x t l (j + 1))).foot.lo = (stA x t l (j + 1)).2.1.foot := rfl
            have et : (rngOf (stA x t l (j + 1))).top.lo = (stA x t l (j + 1)).2.1.top := rfl
            by_cases hq : (rngOf (stA x t l (j + 1))).foot.lo < (rngOf (stA x t l (j + 1))).top.lo
            · rw [if_pos hq, ef]; rw [ef, et] at hq; omega
            · rw [if_neg hq, et]; rw [ef, et] at hq; omega
          rw [afterL_succ]
          generalize hR : rngOf (stA x t l j) = r0 at *
          generalize hR1 : rngOf (stA x t l (j + 1)) = r1 at *
          generalize afterL x t l j = AL at *
          simp [kp23, rDsh_dec, rDip_enc, rDip_dec, rRng_enc, rng_dec', g6l, s64, hj, hjl, f1, f2, f3, w1, c1, c2, hlen, hlo]
        · obtain ⟨f1, f2, f3, f4⟩ := fact k hk
          have hkl : (k : Int) < l.length := by omega
          have hlo : (if (rngOf (stA x t l (k + 1))).foot.lo < (rngOf (stA x t l (k + 1))).top.lo then (rngOf (stA x t l (k + 1))).foot.lo else (rngOf (stA x t l (k + 1))).top.lo) < t.wick := by
            have h : lostB (stA x t l (k + 1)).2.1 = true := by simpa [lostAt] using hbad
            unfold lostB at h
            rw [f4] at h
            simp only [Bool.or_eq_true, decide_eq_true_eq] at h
            have ef : (rngOf (stA x t l (k + 1))).foot.lo = (stA x t l (k + 1)).2.1.foot := rfl
            have et : (rngOf (stA x t l (k + 1))).top.lo = (stA x t l (k + 1)).2.1.top := rfl
            by_cases hq : (rngOf (stA x t l (k + 1))).foot.lo < (rngOf (stA x t l (k + 1))).top.lo
            · rw [if_pos hq, ef]; rw [ef, et] at hq; omega
            · rw [if_neg hq, et]; rw [ef, et] at hq; omega
          generalize hR : rngOf (stA x t l k) = r0 at *
          generalize hR1 : rngOf (stA x t l (k + 1)) = r1 at *
          simp [kp23, rDsh_dec, rDip_enc, rDip_dec, rRng_enc, rng_dec', g6l, s64, hk, hkl, f1, f2, f3, hlo, rRng_k]
    · have h1' : (askedE x t l != 0) = true := by simpa using h1
      simp [kp23, rDsh_enc, rDsh_dec, rTap_enc, rTap_dec, rDip_k, rDip_decL, rRng_k, rRng_decL, g6l, s54, hs, hlm, h1, h1']
  · cases hr
theorem call23 (xs : Array Value) (w : World) : (callFunc 23 xs).run Tryz.prog w = .ok (.enter 23 xs) w := by kernel_rfl
end Go.Proofs.YtcgacojnfkklaaaGreatDoor
namespace Go.Proofs.YtcgacojnfkklaaaGreatDoor
open Go.RowKit
set_option linter.unusedSimpArgs false
set_option linter.unusedVariables false
def g7l : List (Nat × (List D → Option D)) := (23, s23) :: g6l
theorem dg7 : DelOk Tryz.prog (delOf g7l) := del_cons dg6 call23 ok23
def s26 : List D → Option D := sp4 (cAgg rDsh) (cAgg rTap) (cList rDip) cInt (cTup2 (cList rInt) cInt) fun x t l b => if namesOk x then some (worstR x t l b) else none
set_option maxHeartbeats 4000000 in
theorem ok26 : ∀ ds d, s26 ds = some d → PureC Tryz.prog 26 ds d := ok_sp4 fun x t l b r hr => by
  split at hr
  · rename_i hc
    cases hr
    have hs := hc
    have hlm := blen_or x
    refine pure_of_dec (cTup2 (cList rInt) cInt) _ (mkCx_ok dg7 83 kp26 []) Tryz.func26 rfl rfl (Nat.le_of_ble_eq_true rfl) (by kernel_rfl) ?_
    rw [Tryz.results26]
    unfold worstR
    by_cases h1 : (afterE x t l).2 = 0
    · have ha : askedE x t l = 0 := after_asked h1
      obtain ⟨hcc, ht, hl⟩ := asked_ok ha
      have hl30 := hl.2.1
      have tb := tapE_bd ht
      have htk : tapOk t := ⟨⟨by omega, by omega⟩, by omega, by omega⟩
      have lb := last_bd ha
      have hA : afterE x t l = ((afterR x t l).getD [], 0) := by
        unfold afterE at h1 ⊢
        rw [if_neg (by simpa using ha)] at h1 ⊢
        cases hq : afterR x t l with
        | none => rw [hq] at h1; cases h1
        | some r => rfl
      have hlenA := afterR_len x t l
      have hlast : lastV x t l = if ((afterR x t l).getD []).length = 0 then begR t else ((afterR x t l).getD []).getD (((afterR x t l).getD []).length - 1) default := rfl
      have hdd : ∀ j (hj : j < l.length), okD x l[j] := fun j hj => okL_at hl j hj
      generalize hS : lastV x t l = S at *
      generalize hal : (afterR x t l).getD [] = al at *
      by_cases h2 : b < 0
      · simp [kp26, rDsh_enc, rDsh_dec, rTap_enc, rTap_dec, rDip_k, rDip_decL, rRng_k, rRng_decL, g7l, s23, hs, hlm, hA, h2]
      · have wn := wrap_small (-S.skew.lo) (by omega) (by omega)
        have hm : (if -S.skew.lo < S.skew.hi then S.skew.hi else -S.skew.lo) = max (-S.skew.lo) S.skew.hi := by split <;> omega
        have loopStep : ∀ j (hj : j < l.length), worstL x S.skew (l.take (j + 1)) = worstL x S.skew (l.take j) ++ [if S.skew.hi ≤ -S.skew.lo then (endsV x l[j]).1 else (endsV x l[j]).2] := fun j hj => by
          unfold worstL
          rw [List.take_succ_eq_append_getElem hj, List.map_append]; rfl
        by_cases h0 : al.length = 0
        · have hbS : S = begR t := by rw [hlast, if_pos h0]
          have e1 : S.skew.lo = t.foot - t.top := by rw [hbS]; rfl
          have e2 : S.skew.hi = t.foot - t.top := by rw [hbS]; rfl
          have hal0 : al = [] := List.eq_nil_of_length_eq_zero h0
          have hn1 : -(t.foot - t.top) = -S.skew.lo := by omega
          have hb1 : beginV t = begR t := rfl
          rw [hal0] at hA
          by_cases h3 : max (-S.skew.lo) S.skew.hi ≤ b
          · simp [kp26, rDsh_enc, rDsh_dec, rTap_enc, rTap_dec, rDip_k, rDip_decL, rRng_k, rRng_enc, rRng_decL, g7l, g6l, s23, s63, hs, hlm, hA, h2, htk, wn, hm, h3, hal0, hb1, ← hbS]
          · have hch : ((S.skew.hi ≤ -S.skew.lo) ∧ ¬ (-S.skew.lo < S.skew.hi)) ∨ (¬ (S.skew.hi ≤ -S.skew.lo) ∧ (-S.skew.lo < S.skew.hi)) := by omega
            rcases hch with ⟨h4, h4'⟩ | ⟨h4, h4'⟩
            · have h5 : ¬ (-S.skew.lo ≤ b) := by omega
              simp [kp26, rDsh_enc, rDsh_dec, rTap_enc, rTap_dec, rDip_k, rDip_decL, rRng_k, rRng_enc, rRng_decL, g7l, g6l, s23, s63, hs, hlm, hA, h2, htk, wn, h4', h5, hal0, hb1, ← hbS]
              (generalize hLoopQ : Cx.loop _ _ _ = rLoopQ; apply loop_then hLoopQ (fun k => ⟨[(8, .sl 1 ((worstL x S.skew (l.take k)).map rInt.enc) (.tok 8)), (13, .d (.fn 66 [.agg (rDsh.enc x)] [])), (65, .d (.sl 4 (l.map rDip.enc))), (66, .d (DI l.length)), (67, .d (DI k))], [], [8], []⟩) l.length rfl; rotate_left; (show _ < 281474976710656; omega); rfl; rotate_left; all_goals clear hLoopQ)
              · intro j hj
                have w1 := wrap_small ((j : Int) + 1) (by omega) (by omega)
                have hjl : (j : Int) < l.length := by omega
                have hd := hdd j hj
                have c1 : j + 1 ≤ 140737488355328 := by omega
                have c2 : (j + 1) * 8 ≤ 140737488355328 := by omega
                have hlen : (worstL x S.skew (l.take j)).length = j := by unfold worstL; simp; omega
                have le := least_eq x l[j]
                rw [loopStep j hj]
                generalize worstL x S.skew (l.take j) = WL at *
                simp [kp26, rDsh_enc, rDsh_dec, rDip_enc, rDip_dec, rGrw_enc, g7l, g6l, g5l, s66, s67, hj, hjl, hd, w1, c1, c2, hlen, h4, le]
              · have hT : l.take l.length = l := List.take_of_length_le (by omega)
                simp [kp26, hT, rInt_decL, h3]
            · have h5 : ¬ (S.skew.hi ≤ b) := by omega
              simp [kp26, rDsh_enc, rDsh_dec, rTap_enc, rTap_dec, rDip_k, rDip_decL, rRng_k, rRng_enc, rRng_decL, g7l, g6l, s23, s63, hs, hlm, hA, h2, htk, wn, h4', h5, hal0, hb1, ← hbS]
              (generalize hLoopQ : Cx.loop _ _ _ = rLoopQ; apply loop_then hLoopQ (fun k => ⟨[(8, .sl 1 ((worstL x S.skew (l.take k)).map rInt.enc) (.tok 8)), (13, .d (.fn 67 [.agg (rDsh.enc x)] [])), (65, .d (.sl 4 (l.map rDip.enc))), (66, .d (DI l.length)), (67, .d (DI k))], [], [8], []⟩) l.length rfl; rotate_left; (show _ < 281474976710656; omega); rfl; rotate_left; all_goals clear hLoopQ)
              · intro j hj
                have w1 := wrap_small ((j : Int) + 1) (by omega) (by omega)
                have hjl : (j : Int) < l.length := by omega
                have hd := hdd j hj
                have c1 : j + 1 ≤ 140737488355328 := by omega
                have c2 : (j + 1) * 8 ≤ 140737488355328 := by omega
                have hlen : (worstL x S.skew (l.take j)).length = j := by unfold worstL; simp; omega
                have le := least_eq x l[j]
                rw [loopStep j hj]
                generalize worstL x S.skew (l.take j) = WL at *
                simp [kp26, rDsh_enc, rDsh_dec, rDip_enc, rDip_dec, rGrw_enc, g7l, g6l, g5l, s66, s67, hj, hjl, hd, w1, c1, c2, hlen, h4, le]
              · have hT : l.take l.length = l := List.take_of_length_le (by omega)
                simp [kp26, hT, rInt_decL, h3]
        · have hlt : al.length - 1 < al.length := by omega
          have hS2 : S = al[al.length - 1] := by rw [hlast, if_neg h0, getD_at _ _ _ hlt]
          have hpos : 0 < al.length := by omega
          have wl := wrap_small ((al.length : Int) - 1) (by omega) (by omega)
          have hge : (1 : Int) ≤ al.length := by omega
          have hlI : (al.length : Int) - 1 < al.length := by omega
          have hi1 : ((al.length : Int) - 1).toNat = al.length - 1 := by omega
          by_cases h3 : max (-S.skew.lo) S.skew.hi ≤ b
          · simp [kp26, rDsh_enc, rDsh_dec, rTap_enc, rTap_dec, rDip_k, rDip_decL, rRng_k, rRng_enc, rRng_decL, g7l, g6l, s23, s63, hs, hlm, hA, h2, htk, wn, hm, h3, hpos, wl, hge, hlI, hi1, hlt, ← hS2]
          · have hch : ((S.skew.hi ≤ -S.skew.lo) ∧ ¬ (-S.skew.lo < S.skew.hi)) ∨ (¬ (S.skew.hi ≤ -S.skew.lo) ∧ (-S.skew.lo < S.skew.hi)) := by omega
            rcases hch with ⟨h4, h4'⟩ | ⟨h4, h4'⟩
            · have h5 : ¬ (-S.skew.lo ≤ b) := by omega
              simp [kp26, rDsh_enc, rDsh_dec, rTap_enc, rTap_dec, rDip_k, rDip_decL, rRng_k, rRng_enc, rRng_decL, g7l, g6l, s23, s63, hs, hlm, hA, h2, htk, wn, h4', h5, hpos, wl, hge, hlI, hi1, hlt, ← hS2]
              (generalize hLoopQ : Cx.loop _ _ _ = rLoopQ; apply loop_then hLoopQ (fun k => ⟨[(8, .sl 1 ((worstL x S.skew (l.take k)).map rInt.enc) (.tok 8)), (13, .d (.fn 66 [.agg (rDsh.enc x)] [])), (65, .d (.sl 4 (l.map rDip.enc))), (66, .d (DI l.length)), (67, .d (DI k))], [], [8], []⟩) l.length rfl; rotate_left; (show _ < 281474976710656; omega); rfl; rotate_left; all_goals clear hLoopQ)
              · intro j hj
                have w1 := wrap_small ((j : Int) + 1) (by omega) (by omega)
                have hjl : (j : Int) < l.length := by omega
                have hd := hdd j hj
                have c1 : j + 1 ≤ 140737488355328 := by omega
                have c2 : (j + 1) * 8 ≤ 140737488355328 := by omega
                have hlen : (worstL x S.skew (l.take j)).length = j := by unfold worstL; simp; omega
                have le := least_eq x l[j]
                rw [loopStep j hj]
                generalize worstL x S.skew (l.take j) = WL at *
                simp [kp26, rDsh_enc, rDsh_dec, rDip_enc, rDip_dec, rGrw_enc, g7l, g6l, g5l, s66, s67, hj, hjl, hd, w1, c1, c2, hlen, h4, le]
              · have hT : l.take l.length = l := List.take_of_length_le (by omega)
                simp [kp26, hT, rInt_decL, h3]
            · have h5 : ¬ (S.skew.hi ≤ b) := by omega
              simp [kp26, rDsh_enc, rDsh_dec, rTap_enc, rTap_dec, rDip_k, rDip_decL, rRng_k, rRng_enc, rRng_decL, g7l, g6l, s23, s63, hs, hlm, hA, h2, htk, wn, h4', h5, hpos, wl, hge, hlI, hi1, hlt, ← hS2]
              (generalize hLoopQ : Cx.loop _ _ _ = rLoopQ; apply loop_then hLoopQ (fun k => ⟨[(8, .sl 1 ((worstL x S.skew (l.take k)).map rInt.enc) (.tok 8)), (13, .d (.fn 67 [.agg (rDsh.enc x)] [])), (65, .d (.sl 4 (l.map rDip.enc))), (66, .d (DI l.length)), (67, .d (DI k))], [], [8], []⟩) l.length rfl; rotate_left; (show _ < 281474976710656; omega); rfl; rotate_left; all_goals clear hLoopQ)
              · intro j hj
                have w1 := wrap_small ((j : Int) + 1) (by omega) (by omega)
                have hjl : (j : Int) < l.length := by omega
                have hd := hdd j hj
                have c1 : j + 1 ≤ 140737488355328 := by omega
                have c2 : (j + 1) * 8 ≤ 140737488355328 := by omega
                have hlen : (worstL x S.skew (l.take j)).length = j := by unfold worstL; simp; omega
                have le := least_eq x l[j]
                rw [loopStep j hj]
                generalize worstL x S.skew (l.take j) = WL at *
                simp [kp26, rDsh_enc, rDsh_dec, rDip_enc, rDip_dec, rGrw_enc, g7l, g6l, g5l, s66, s67, hj, hjl, hd, w1, c1, c2, hlen, h4, le]
              · have hT : l.take l.length = l := List.take_of_length_le (by omega)
                simp [kp26, hT, rInt_decL, h3]
    · have h1' : ((afterE x t l).2 != 0) = true := by simpa using h1
      obtain ⟨al, ae, hA⟩ : ∃ al ae, afterE x t l = (al, ae) := ⟨_, _, rfl⟩
      rw [hA] at h1 h1' ⊢
      simp only at h1 h1'
      simp [kp26, rDsh_enc, rDsh_dec, rTap_enc, rTap_dec, rDip_k, rDip_decL, rRng_k, rRng_decL, g7l, s23, hs, hlm, hA, h1, h1']
  · cases hr
theorem call26 (xs : Array Value) (w : World) : (callFunc 26 xs).run Tryz.prog w = .ok (.enter 26 xs) w := by kernel_rfl
end Go.Proofs.YtcgacojnfkklaaaGreatDoor
