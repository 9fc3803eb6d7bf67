/-
  Reference functions of the dip chapter: numbers, names, coats. Conditions: none.
-/
import Derived.Test.YtcgacojnfkklaaaGreatDoorZTys
namespace Go.Proofs.YtcgacojnfkklaaaGreatDoor
open Go.RowKit
set_option linter.unusedSimpArgs false
set_option linter.unusedVariables false
def kp52 (r : Nat) : List (Nat × Option Nat) := match r with
  | 0 => [(0, none), (1, none), (2, none)]
  | 1 => [(6, none)]
  | _ => []
def kp110 (r : Nat) : List (Nat × Option Nat) := match r with
  | 0 => [(0, none), (1, none), (2, none)]
  | 1 => [(6, none)]
  | _ => []
def kp94 (r : Nat) : List (Nat × Option Nat) := match r with
  | 0 => [(0, none)]
  | 1 => [(0, none), (20, none)]
  | 2 => [(2, none)]
  | 3 => [(0, none), (3, none)]
  | 4 => [(0, none), (3, none), (24, none)]
  | 5 => [(0, none), (3, none)]
  | 6 => [(0, none), (3, none), (55, none)]
  | 7 => [(2, none)]
  | 8 => [(2, none)]
  | _ => []
def kp47 (r : Nat) : List (Nat × Option Nat) := match r with
  | 0 => [(1, none)]
  | 1 => [(1, none), (18, none)]
  | 2 => [(2, none)]
  | 3 => [(30, none)]
  | 4 => [(2, none)]
  | 5 => [(2, none)]
  | _ => []
def kp111 (r : Nat) : List (Nat × Option Nat) := match r with
  | 0 => [(1, none), (2, none), (3, none)]
  | 1 => [(2, none), (3, none), (7, none)]
  | 2 => [(6, none)]
  | _ => []
def kp62 (r : Nat) : List (Nat × Option Nat) := match r with
  | 0 => [(1, none)]
  | 1 => [(2, none)]
  | _ => []
def s52 : List D → Option D := sp3 cInt cInt cInt cBool fun n lo hi => some (inR n lo hi)
theorem ok52 : ∀ ds d, s52 ds = some d → PureC Tryz.prog 52 ds d := ok_sp3 fun n lo hi r hr => by
  cases hr
  refine pure_of_call (mkCx_ok del_nil 15 kp52 []) Tryz.func52 rfl rfl (Nat.le_of_ble_eq_true rfl) (by kernel_rfl) ?_
  rw [Tryz.results52]
  unfold inR
  by_cases h : lo ≤ n <;> simp [kp52, h]
def s110 : List D → Option D := sp3 cInt cInt cInt cBool fun n lo hi => some (inR n lo hi)
theorem ok110 : ∀ ds d, s110 ds = some d → PureC Tryz.prog 110 ds d := ok_sp3 fun n lo hi r hr => by
  cases hr
  refine pure_of_call (mkCx_ok del_nil 15 kp110 []) Tryz.func110 rfl rfl (Nat.le_of_ble_eq_true rfl) (by kernel_rfl) ?_
  rw [Tryz.results110]
  unfold inR
  by_cases h : lo ≤ n <;> simp [kp110, h]
theorem call52 (xs : Array Value) (w : World) : (callFunc 52 xs).run Tryz.prog w = .ok (.enter 52 xs) w := by kernel_rfl
theorem call110 (xs : Array Value) (w : World) : (callFunc 110 xs).run Tryz.prog w = .ok (.enter 110 xs) w := by kernel_rfl
def l1 : List (Nat × (List D → Option D)) := [(52, s52), (110, s110)]
theorem del1 : DelOk Tryz.prog (delOf l1) := del_cons (del_cons del_nil call110 ok110) call52 ok52
def nmAt (s : ByteArray) (i : Nat) : Bool := !(!(byteAt s i == 45) && !inR (byteAt s i) 97 122) && !(decide (0 < i) && byteAt s i == 45 && byteAt s (i - 1) == 45)
def refName (s : ByteArray) : Bool := inR s.size 1 20 && !(byteAt s 0 == 45) && !(byteAt s (s.size - 1) == 45) && decide (∀ i, i < s.size → nmAt s i = true)
theorem byteAt_bd (s : ByteArray) (i : Nat) : 0 ≤ byteAt s i ∧ byteAt s i ≤ 255 := by
  unfold byteAt
  have := (s[i]?.getD 0).toNat_lt
  omega
def s94 : List D → Option D := sp1 cStr cBool fun s => some (refName s)
theorem ok94 : ∀ ds d, s94 ds = some d → PureC Tryz.prog 94 ds d := ok_sp1 fun s r hr => by
  cases hr
  refine pure_of_call (mkCx_ok del1 56 kp94 []) Tryz.func94 rfl rfl (Nat.le_of_ble_eq_true rfl) (by kernel_rfl) ?_
  rw [Tryz.results94]
  cases h1 : inR s.size 1 20 with
  | false => simp [kp94, refName, h1, l1, s110, ty9]
  | true =>
    have hs : 1 ≤ (s.size : Int) ∧ (s.size : Int) ≤ 20 := by simpa [inR] using h1
    have hsz : (0 : Int) < (s.size : Int) := by omega
    have hsz2 : 0 < s.size := by omega
    cases h2 : byteAt s 0 == 45 with
    | true => simp [kp94, refName, h1, h2, l1, s110, ty9, ty5, hsz, hsz2]
    | false =>
      have hw : IntKind.i64.wrap ((s.size : Int) - 1) = ((s.size - 1 : Nat) : Int) := by rw [wrap_small _ (by omega) (by omega)]; omega
      have hlt : ((s.size - 1 : Nat) : Int) < (s.size : Int) := by omega
      cases h3 : byteAt s (s.size - 1) == 45 with
      | true => simp [kp94, refName, h1, h2, h3, l1, s110, ty9, ty5, hsz, hsz2, hw, hlt]
      | false =>
        have hcase : ∀ k, (byteAt s k == 45) = false ∧ (inR (byteAt s k) 97 122 = nmAt s k) ∨ (byteAt s k == 45) = true ∧ k = 0 ∧ nmAt s k = true ∨ (byteAt s k == 45) = true ∧ 0 < k ∧ (byteAt s (k - 1) == 45) = !nmAt s k := by
          intro k
          unfold nmAt
          cases hb : byteAt s k == 45 with
          | false => left; simp
          | true =>
            right
            by_cases hk : k = 0
            · left; simp [hk]
            · right; simp; omega
        rcases first_not (nmAt s) s.size with hall | ⟨k, hk, hbad, hgood⟩
        · have hr : refName s = true := by simp [refName, h1, h2, h3]; exact hall
          rw [hr]
          simp [kp94, h1, h2, h3, l1, s110, ty9, ty5, hsz, hsz2, hw, hlt]
          generalize hL : Cx.loop _ _ _ = R
          have hR : R = some (.exit 0, ⟨[(0, .d (DS s)), (3, .d (DI s.size)), (24, .d (DB false))], [], [], []⟩) := by
            rw [← hL]
            refine loop_run (fun k => ⟨[(0, .d (DS s)), (3, .d (DI k))], [], [], []⟩) _ _ s.size (by simp) (fun j hj => ?_) ?_ (by simp only [mkCx, fuel]; omega)
            · have hj' : (j : Int) < (s.size : Int) := by omega
              have h2 := wrap_small ((j : Int) + 1) (by omega) (by omega)
              have hn := hall j hj
              have hbd := byteAt_bd s j
              have hwb := wrap_small (byteAt s j) (by omega) (by omega)
              rcases hcase j with ⟨c1, c2⟩ | ⟨c1, c2, c3⟩ | ⟨c1, c2, c3⟩
              · rw [hn] at c2
                by_cases hj0 : 0 < j
                · simp [kp94, ty9, ty5, ty3, hj, h2, c1, c2, hwb, l1, s110, hj0, bne]
                · simp [kp94, ty9, ty5, ty3, hj, h2, c1, c2, hwb, l1, s110, hj0, bne]
              · subst c2
                simp [kp94, ty9, ty5, ty3, hj, h2, c1, l1, s110, bne, hsz, hsz2]
              · rw [hn] at c3
                have hw1 : IntKind.i64.wrap ((j : Int) - 1) = ((j - 1 : Nat) : Int) := by rw [wrap_small _ (by omega) (by omega)]; omega
                have hlt1 : j - 1 < s.size := by omega
                simp [kp94, ty9, ty5, ty3, hj, h2, c1, c3, c2, l1, s110, bne, hw1, hlt1]
            · simp [kp94, ty9]
          rw [hR]
          simp [kp94]
        · have hr : refName s = false := by
            have : ¬ ∀ i, i < s.size → nmAt s i = true := fun h => by rw [h k hk] at hbad; cases hbad
            simp [refName, this]
          rw [hr]
          simp [kp94, h1, h2, h3, l1, s110, ty9, ty5, hsz, hsz2, hw, hlt]
          generalize hL : Cx.loop _ _ _ = R
          have hR : R = some (.ret, ⟨[(2, .d (DB false))], [], [], []⟩) := by
            rw [← hL]
            refine loop_run (fun k => ⟨[(0, .d (DS s)), (3, .d (DI k))], [], [], []⟩) _ _ k (by simp) (fun j hj => ?_) ?_ (by simp only [mkCx, fuel]; omega)
            · have hjs : j < s.size := by omega
              have h2 := wrap_small ((j : Int) + 1) (by omega) (by omega)
              have hn := hgood j hj
              have hbd := byteAt_bd s j
              have hwb := wrap_small (byteAt s j) (by omega) (by omega)
              rcases hcase j with ⟨c1, c2⟩ | ⟨c1, c2, c3⟩ | ⟨c1, c2, c3⟩
              · rw [hn] at c2
                by_cases hj0 : 0 < j
                · simp [kp94, ty9, ty5, ty3, hjs, h2, c1, c2, hwb, l1, s110, hj0, bne]
                · simp [kp94, ty9, ty5, ty3, hjs, h2, c1, c2, hwb, l1, s110, hj0, bne]
              · subst c2
                simp [kp94, ty9, ty5, ty3, hjs, h2, c1, l1, s110, bne, hsz, hsz2]
              · rw [hn] at c3
                have hw1 : IntKind.i64.wrap ((j : Int) - 1) = ((j - 1 : Nat) : Int) := by rw [wrap_small _ (by omega) (by omega)]; omega
                have hlt1 : j - 1 < s.size := by omega
                simp [kp94, ty9, ty5, ty3, hjs, h2, c1, c3, c2, l1, s110, bne, hw1, hlt1]
            · have hbd := byteAt_bd s k
              have hwb := wrap_small (byteAt s k) (by omega) (by omega)
              rcases hcase k with ⟨c1, c2⟩ | ⟨c1, c2, c3⟩ | ⟨c1, c2, c3⟩
              · rw [hbad] at c2
                simp [kp94, ty9, ty5, ty3, hk, c1, c2, hwb, l1, s110, bne]
              · rw [hbad] at c3; cases c3
              · rw [hbad] at c3
                have hw1 : IntKind.i64.wrap ((k : Int) - 1) = ((k - 1 : Nat) : Int) := by rw [wrap_small _ (by omega) (by omega)]; omega
                have hlt1 : k - 1 < s.size := by omega
                simp [kp94, ty9, ty5, ty3, hk, c1, c3, c2, l1, s110, bne, hw1, hlt1]
          rw [hR]
          simp [kp94]
theorem call94 (xs : Array Value) (w : World) : (callFunc 94 xs).run Tryz.prog w = .ok (.enter 94 xs) w := by kernel_rfl
def s62 : List D → Option D := sp1 (cAgg rTap) cBool fun t => some (lostB t)
theorem ok62 : ∀ ds d, s62 ds = some d → PureC Tryz.prog 62 ds d := ok_sp1 fun t r hr => by
  cases hr
  refine pure_of_call (mkCx_ok del_nil 15 kp62 []) Tryz.func62 rfl rfl (Nat.le_of_ble_eq_true rfl) (by kernel_rfl) ?_
  rw [Tryz.results62]
  unfold lostB
  by_cases h : t.top < t.wick <;> simp [kp62, rTap_enc, h]
theorem call62 (xs : Array Value) (w : World) : (callFunc 62 xs).run Tryz.prog w = .ok (.enter 62 xs) w := by kernel_rfl
def s47 : List D → Option D := sp1 (cAgg rTap) cInt fun t => some (tapE t)
theorem ok47 : ∀ ds d, s47 ds = some d → PureC Tryz.prog 47 ds d := ok_sp1 fun t r hr => by
  cases hr
  refine pure_of_call (mkCx_ok del1 31 kp47 []) Tryz.func47 rfl rfl (Nat.le_of_ble_eq_true rfl) (by kernel_rfl) ?_
  rw [Tryz.results47]
  unfold tapE
  cases h1 : inR t.wick 0 100000 <;> cases h2 : inR t.top 0 100000 <;> cases h3 : inR t.foot 0 100000 <;> by_cases h4 : t.top < t.wick <;> by_cases h5 : t.foot < t.wick <;> simp [kp47, rTap_enc, l1, s52, h1, h2, h3, h4, h5]
theorem call47 (xs : Array Value) (w : World) : (callFunc 47 xs).run Tryz.prog w = .ok (.enter 47 xs) w := by kernel_rfl
def s111 : List D → Option D := sp3 (cAgg rDsh) cInt cInt cInt fun x w n => if warmOk x w ∧ secOk n then some (coatV x w n) else none
theorem ok111 : ∀ ds d, s111 ds = some d → PureC Tryz.prog 111 ds d := ok_sp3 fun x w n r hr => by
  split at hr
  · rename_i hc
    cases hr
    obtain ⟨hw, hn⟩ := hc
    obtain ⟨b1, b2, b3, b4, b5⟩ := coat_bd hw hn
    obtain ⟨h1, h2, h3⟩ := hw
    have hx := nums_of h1
    obtain ⟨m0, m1, c0, c1, t0, t1, g0, g1, q0, q1, d0, d1, z0, z1, r0, r1⟩ := hx
    obtain ⟨n0, n1⟩ := hn
    have w1 := wrap_small (w - x.melt) (by omega) (by omega)
    have w2 := wrap_small (x.thin * (w - x.melt)) (by omega) (by omega)
    have w3 := wrap_small (x.coat - x.thin * (w - x.melt)) (by omega) (by omega)
    have w4 := wrap_small (x.back * (w - x.melt)) (by omega) (by omega)
    have w5 := wrap_small (n - x.hold) (by omega) (by omega)
    have w6 := wrap_small (x.back * (w - x.melt) * max 0 (n - x.hold)) (by omega) (by omega)
    have w7 := wrap_small (x.coat - x.thin * (w - x.melt) - x.back * (w - x.melt) * max 0 (n - x.hold)) (by omega) (by omega)
    have hm : (if x.hold < n then n - x.hold else 0) = max 0 (n - x.hold) := by split <;> omega
    refine pure_of_call (mkCx_ok del_nil 30 kp111 []) Tryz.func111 rfl rfl (Nat.le_of_ble_eq_true rfl) (by kernel_rfl) ?_
    rw [Tryz.results111]
    unfold coatV
    simp [kp111, rDsh_enc, w1, w2, w3, w4, w5, hm, w6, w7]
  · cases hr
theorem call111 (xs : Array Value) (w : World) : (callFunc 111 xs).run Tryz.prog w = .ok (.enter 111 xs) w := by kernel_rfl
end Go.Proofs.YtcgacojnfkklaaaGreatDoor
namespace Go.Proofs.YtcgacojnfkklaaaGreatDoor
open Go.RowKit
set_option linter.unusedSimpArgs false
set_option linter.unusedVariables false
def kp51 (r : Nat) : List (Nat × Option Nat) := match r with
  | 0 => [(1, none)]
  | 1 => [(1, none), (3, none)]
  | 2 => [(1, none), (3, none), (4, none)]
  | 3 => [(1, none), (3, none), (4, none), (15, none)]
  | 4 => [(1, none), (3, none), (4, none)]
  | 5 => [(1, none), (3, none), (4, none), (23, none)]
  | 6 => [(2, none)]
  | 7 => [(2, none)]
  | _ => []
def kp53 (r : Nat) : List (Nat × Option Nat) := match r with
  | 0 => [(1, none), (2, none)]
  | 1 => [(1, none), (2, none), (5, none)]
  | 2 => [(1, none), (2, none), (5, none), (15, none)]
  | 3 => [(4, none)]
  | 4 => [(1, none), (2, none), (5, none), (6, none)]
  | 5 => [(1, none), (2, none), (5, none), (6, none), (18, none)]
  | 6 => [(1, none), (2, none), (5, none), (6, none)]
  | 7 => [(1, none), (2, none), (5, none), (6, none), (29, none)]
  | 8 => [(4, none)]
  | 9 => [(2, none), (5, none), (41, none)]
  | 10 => [(4, none)]
  | 11 => [(5, none), (47, none)]
  | 12 => [(4, none)]
  | 13 => [(54, none)]
  | 14 => [(4, none)]
  | 15 => [(4, none)]
  | _ => []
def kp19 (r : Nat) : List (Nat × Option Nat) := match r with
  | 0 => [(1, none)]
  | 1 => [(1, none), (9, none)]
  | 2 => [(2, none), (3, none), (4, none)]
  | 3 => [(1, none), (14, none)]
  | 4 => [(2, none), (3, none), (4, none)]
  | 5 => [(1, none), (5, none)]
  | 6 => [(1, none), (5, none), (19, none)]
  | 7 => [(1, none), (5, none)]
  | 8 => [(1, none), (5, none), (6, none)]
  | 9 => [(1, none), (5, none), (6, none), (26, none)]
  | 10 => [(2, none), (3, none), (4, none)]
  | 11 => [(2, none), (3, none), (4, none)]
  | _ => []
def kp72 (r : Nat) : List (Nat × Option Nat) := match r with
  | 0 => [(1, none), (2, none)]
  | 1 => [(1, none), (2, none), (9, none)]
  | 2 => [(4, none)]
  | 3 => [(1, none), (2, none), (5, none)]
  | 4 => [(1, none), (2, none), (5, none), (13, none)]
  | 5 => [(1, none), (2, none), (5, none)]
  | 6 => [(1, none), (2, none), (5, none), (6, none)]
  | 7 => [(1, none), (2, none), (5, none), (6, none), (27, none)]
  | 8 => [(4, none)]
  | 9 => [(1, none), (2, none), (5, none), (6, none), (37, none)]
  | 10 => [(4, none)]
  | 11 => [(1, none), (2, none), (5, none), (42, none)]
  | 12 => [(4, none)]
  | 13 => [(4, none)]
  | _ => []
def kp59 (r : Nat) : List (Nat × Option Nat) := match r with
  | 0 => [(2, none), (3, none), (4, none)]
  | 1 => [(2, none), (3, none), (4, none), (9, none)]
  | 2 => [(2, none), (3, none), (4, none), (9, none), (17, none)]
  | 3 => [(2, none), (3, none), (9, none)]
  | 4 => [(2, none), (3, none), (9, none), (21, none)]
  | 5 => [(9, none)]
  | 6 => [(6, none)]
  | _ => []
def kp96 (r : Nat) : List (Nat × Option Nat) := match r with
  | 0 => [(2, none), (3, none), (4, none)]
  | 1 => [(2, none), (3, none), (4, none), (8, none)]
  | 2 => [(2, none), (3, none), (4, none), (8, none), (9, none)]
  | 3 => [(4, none), (9, none), (10, none)]
  | 4 => [(9, none), (10, none), (40, none)]
  | 5 => [(6, none), (7, none)]
  | 6 => [(6, none), (7, none)]
  | _ => []
def kp61 (r : Nat) : List (Nat × Option Nat) := match r with
  | 0 => [(3, none), (4, none), (5, none), (6, none), (8, none)]
  | 1 => [(5, none), (8, none), (9, none), (10, none)]
  | 2 => [(8, none)]
  | _ => []
def kp60 (r : Nat) : List (Nat × Option Nat) := match r with
  | 0 => [(1, none), (2, none), (3, none)]
  | 1 => [(1, none), (2, none), (3, none), (13, none)]
  | 2 => [(6, none)]
  | 3 => [(1, none), (2, none), (3, none), (7, none)]
  | 4 => [(1, none), (2, none), (3, none), (7, none), (17, none)]
  | 5 => [(1, none), (2, none), (3, none), (7, none)]
  | 6 => [(1, none), (2, none), (3, none), (7, none), (8, none)]
  | 7 => [(1, none), (2, none), (3, none), (7, none), (39, none)]
  | 8 => [(6, none)]
  | 9 => [(6, none)]
  | _ => []
def kp100 (r : Nat) : List (Nat × Option Nat) := match r with
  | 0 => [(2, none), (3, none), (4, none)]
  | 1 => [(7, none), (8, none)]
  | 2 => [(6, none)]
  | _ => []
def kp68 (r : Nat) : List (Nat × Option Nat) := match r with
  | 0 => [(2, none), (3, none)]
  | 1 => [(2, none), (3, none), (6, none)]
  | 2 => [(6, none), (7, none), (8, none)]
  | 3 => [(6, none), (7, none), (8, none), (28, none)]
  | 4 => [(4, none), (5, none)]
  | 5 => [(6, none), (35, none)]
  | 6 => [(4, none), (5, none)]
  | 7 => [(4, none), (5, none)]
  | _ => []
def l2 : List (Nat × (List D → Option D)) := (94, s94) :: (62, s62) :: (47, s47) :: (111, s111) :: l1
theorem del2 : DelOk Tryz.prog (delOf l2) := del_cons (del_cons (del_cons (del_cons del1 call111 ok111) call47 ok47) call62 ok62) call94 ok94
theorem longs (a b c : Int) : (inR a 0 600 && inR b 0 600 && inR c 0 600) = true ∨ ∃ k, k < 3 ∧ inR ([a, b, c].getD k 0) 0 600 = false ∧ (∀ j, j < k → inR ([a, b, c].getD j 0) 0 600 = true) ∧ (inR a 0 600 && inR b 0 600 && inR c 0 600) = false := by
  cases h1 : inR a 0 600
  · exact .inr ⟨0, by omega, by simpa using h1, fun j h => absurd h (by omega), by simp⟩
  · cases h2 : inR b 0 600
    · refine .inr ⟨1, by omega, by simpa using h2, fun j h => ?_, by simp⟩
      obtain rfl : j = 0 := by omega
      simpa using h1
    · cases h3 : inR c 0 600
      · refine .inr ⟨2, by omega, by simpa using h3, fun j h => ?_, by simp⟩
        have : j = 0 ∨ j = 1 := by omega
        rcases this with rfl | rfl
        · simpa using h1
        · simpa using h2
      · exact .inl rfl
theorem numbersB_eq (x : Dsh) : numbersB x = ((inR x.hold 0 600 && inR x.draw 0 600 && inR x.set 0 600) && (inR x.melt 0 2000 && inR x.coat 0 5000 && inR x.thin 0 100 && inR x.back 0 10 && inR x.run 0 50)) := by
  unfold numbersB
  simp only [Bool.and_assoc]
def s51 : List D → Option D := sp1 (cAgg rDsh) cBool fun x => some (numbersB x)
set_option maxHeartbeats 2000000 in
theorem ok51 : ∀ ds d, s51 ds = some d → PureC Tryz.prog 51 ds d := ok_sp1 fun x r hr => by
  cases hr
  refine pure_of_call (mkCx_ok del2 47 kp51 []) Tryz.func51 rfl rfl (Nat.le_of_ble_eq_true rfl) (by kernel_rfl) ?_
  rw [Tryz.results51, numbersB_eq]
  simp [kp51, rDsh_enc]
  obtain ⟨L, hL⟩ : ∃ L, L = [x.hold, x.draw, x.set] := ⟨_, rfl⟩
  have hl : L.length = 3 := by rw [hL]; rfl
  have he : [[DI x.hold], [DI x.draw], [DI x.set]] = L.map rInt.enc := by rw [hL]; rfl
  rw [he]
  rcases longs x.hold x.draw x.set with h1 | ⟨k, hk, hbad, hgood, h1⟩
  · rw [h1]
    have hall : ∀ j (hj : j < L.length), inR L[j] 0 600 = true := by
      intro j hj
      simp only [Bool.and_eq_true] at h1
      subst hL
      have : j = 0 ∨ j = 1 ∨ j = 2 := by simp at hj; omega
      rcases this with rfl | rfl | rfl
      · exact h1.1.1
      · exact h1.1.2
      · exact h1.2
    (generalize hLoopQ : Cx.loop _ _ _ = rLoopQ; apply loop_then hLoopQ (fun k => ⟨[(1, .loc 1 0), (3, .d (.sl 1 (L.map rInt.enc))), (4, .d (DI k))], [(1, [.d (DI x.melt), .d (DI x.coat), .d (DI x.thin), .d (DI x.hold), .d (DI x.back), .d (DI x.draw), .d (DI x.set), .d (DI x.run), .d (.sl 3 (x.baths.map rBth.enc))])], [], []⟩) 3 rfl; rotate_left; (show _ < 281474976710656; omega); rfl; rotate_left; all_goals clear hLoopQ)
    · intro j hj
      have w1 := wrap_small ((j : Int) + 1) (by omega) (by omega)
      have hj' : j < L.length := by omega
      have hjl : (j : Int) < 3 := by omega
      simp [kp51, l2, l1, s52, hj, hj', hjl, hl, hall j hj', w1]
    · cases h2 : inR x.melt 0 2000 <;> cases h3 : inR x.coat 0 5000 <;> cases h4 : inR x.thin 0 100 <;> cases h5 : inR x.back 0 10 <;> simp [kp51, l2, l1, s52, hl, h2, h3, h4, h5]
  · rw [h1]
    rw [← hL] at hbad hgood
    (generalize hLoopQ : Cx.loop _ _ _ = rLoopQ; apply loop_then hLoopQ (fun k => ⟨[(1, .loc 1 0), (3, .d (.sl 1 (L.map rInt.enc))), (4, .d (DI k))], [(1, [.d (DI x.melt), .d (DI x.coat), .d (DI x.thin), .d (DI x.hold), .d (DI x.back), .d (DI x.draw), .d (DI x.set), .d (DI x.run), .d (.sl 3 (x.baths.map rBth.enc))])], [], []⟩) k rfl; rotate_left; (show _ < 281474976710656; omega); rfl; rotate_left; all_goals clear hLoopQ)
    · intro j hj
      have w1 := wrap_small ((j : Int) + 1) (by omega) (by omega)
      have hj' : j < L.length := by omega
      have hjl : (j : Int) < 3 := by omega
      have hg := hgood j hj
      rw [getD_at _ _ _ hj'] at hg
      have hj3 : j < 3 := by omega
      simp [kp51, l2, l1, s52, hj', hj3, hjl, hl, hg, w1]
    · have hk' : k < L.length := by omega
      have hkl : (k : Int) < 3 := by omega
      rw [getD_at _ _ _ hk'] at hbad
      simp [kp51, l2, l1, s52, hk, hk', hkl, hl, hbad]
theorem call51 (xs : Array Value) (w : World) : (callFunc 51 xs).run Tryz.prog w = .ok (.enter 51 xs) w := by kernel_rfl
def seenB (l : List Bth) (s : ByteArray) : Bool := l.any fun y => y.name.toList == s.toList
def bathE (x : Dsh) (i : Nat) (b : Bth) : Int :=
  if refName b.name = false then 6 else if seenB (x.baths.take i) b.name then 5 else if !(inR b.warm.lo 0 2000 && inR b.warm.hi 0 2000) then 7 else if b.warm.lo < x.melt then 9 else if b.warm.hi < b.warm.lo then 2 else 0
def dchk (x : Dsh) : Int × Int × Int :=
  if numbersB x = false then (1, 0, 7) else if inR x.baths.length 1 6 = false then (2, 0, 3) else
    if (findI (bathE x) 0 x.baths).2 = 0 then (0, 0, 0) else (2, (findI (bathE x) 0 x.baths).1, (findI (bathE x) 0 x.baths).2)
theorem seenB_cases (l : List Bth) (s : ByteArray) (n : Nat) (hn : n ≤ l.length) : (seenB (l.take n) s = false ∧ ∀ k (h : k < l.length), k < n → (l[k].name.toList == s.toList) = false) ∨ (seenB (l.take n) s = true ∧ ∃ k, ∃ h : k < l.length, k < n ∧ (l[k].name.toList == s.toList) = true ∧ ∀ j (hj : j < l.length), j < k → (l[j].name.toList == s.toList) = false) := by
  rcases first_not (fun k => !((l.getD k default).name.toList == s.toList)) n with h | ⟨k, hk, hb, hg⟩
  · refine .inl ⟨?_, fun k hk hkn => ?_⟩
    · unfold seenB
      rw [List.any_eq_false]
      intro y hy
      obtain ⟨j, hj, rfl⟩ := List.getElem_of_mem hy
      have hj' : j < n := by simp at hj; omega
      have := h j hj'
      rw [getD_at _ _ _ (by omega)] at this
      simpa using this
    · have := h k hkn
      rw [getD_at _ _ _ hk] at this
      simpa using this
  · refine .inr ⟨?_, k, by omega, hk, ?_, fun j hj hjk => ?_⟩
    · unfold seenB
      rw [List.any_eq_true]
      rw [getD_at _ _ _ (by omega)] at hb
      exact ⟨l[k], List.mem_take_iff_getElem.2 ⟨k, by omega, rfl⟩, by simpa using hb⟩
    · rw [getD_at _ _ _ (by omega)] at hb; simpa using hb
    · have := hg j hjk
      rw [getD_at _ _ _ hj] at this
      simpa using this
def s53 : List D → Option D := sp2 (cAgg rDsh) cInt cInt fun x i => if 0 ≤ i ∧ i < x.baths.length ∧ x.baths.length < 1000000 then some (bathE x i.toNat (x.baths.getD i.toNat default)) else none
set_option maxHeartbeats 2000000 in
theorem ok53 : ∀ ds d, s53 ds = some d → PureC Tryz.prog 53 ds d := ok_sp2 fun x i r hr => by
  split at hr
  · rename_i hc
    cases hr
    obtain ⟨hi0, hi1, hlm⟩ := hc
    obtain ⟨I, rfl⟩ : ∃ B : Nat, i = B := ⟨i.toNat, by omega⟩
    have hI : I < x.baths.length := by omega
    rw [Int.toNat_natCast, getD_at _ _ _ hI]
    refine pure_of_call (mkCx_ok del2 55 kp53 []) Tryz.func53 rfl rfl (Nat.le_of_ble_eq_true rfl) (by kernel_rfl) ?_
    rw [Tryz.results53]
    unfold bathE
    cases h1 : refName x.baths[I].name
    · simp [kp53, rDsh_enc, rBth_enc, l2, l1, s94, hI, h1]
    · simp [kp53, rDsh_enc, rBth_enc, l2, l1, s94, hI, h1]
      rcases seenB_cases x.baths x.baths[I].name I (by omega) with ⟨h2, hall⟩ | ⟨h2, k, hk, hkI, hbad, hgood⟩
      · rw [h2]
        (generalize hLoopQ : Cx.loop _ _ _ = rLoopQ; apply loop_then hLoopQ (fun k => ⟨[(1, .d (DI I)), (2, .loc 2 0), (5, .loc 5 0), (6, .d (DI k))], [(2, [.d (DI x.melt), .d (DI x.coat), .d (DI x.thin), .d (DI x.hold), .d (DI x.back), .d (DI x.draw), .d (DI x.set), .d (DI x.run), .d (.sl 3 (x.baths.map rBth.enc))]), (5, [.d (DS x.baths[I].name), .d (DI x.baths[I].warm.lo), .d (DI x.baths[I].warm.hi)])], [], []⟩) I rfl; rotate_left; (show _ < 281474976710656; omega); rfl; rotate_left; all_goals clear hLoopQ)
        · intro j hj
          have w1 := wrap_small ((j : Int) + 1) (by omega) (by omega)
          have hj' : j < x.baths.length := by omega
          have hn := hall j hj' hj
          simp [kp53, rBth_enc, l2, l1, hj, hj', hn, w1]
        · cases h3 : inR x.baths[I].warm.lo 0 2000 <;> cases h4 : inR x.baths[I].warm.hi 0 2000 <;> by_cases h5 : x.baths[I].warm.lo < x.melt <;> by_cases h6 : x.baths[I].warm.hi < x.baths[I].warm.lo <;> simp [kp53, l2, l1, s52, h3, h4, h5, h6]
      · rw [h2]
        (generalize hLoopQ : Cx.loop _ _ _ = rLoopQ; apply loop_then hLoopQ (fun k => ⟨[(1, .d (DI I)), (2, .loc 2 0), (5, .loc 5 0), (6, .d (DI k))], [(2, [.d (DI x.melt), .d (DI x.coat), .d (DI x.thin), .d (DI x.hold), .d (DI x.back), .d (DI x.draw), .d (DI x.set), .d (DI x.run), .d (.sl 3 (x.baths.map rBth.enc))]), (5, [.d (DS x.baths[I].name), .d (DI x.baths[I].warm.lo), .d (DI x.baths[I].warm.hi)])], [], []⟩) k rfl; rotate_left; (show _ < 281474976710656; omega); rfl; rotate_left; all_goals clear hLoopQ)
        · intro j hj
          have w1 := wrap_small ((j : Int) + 1) (by omega) (by omega)
          have hj' : j < x.baths.length := by omega
          have hjI : j < I := by omega
          have hn := hgood j hj' hj
          simp [kp53, rBth_enc, l2, l1, hjI, hj', hn, w1]
        · simp [kp53, rBth_enc, l2, l1, hk, hkI, hbad]
  · cases hr
theorem call53 (xs : Array Value) (w : World) : (callFunc 53 xs).run Tryz.prog w = .ok (.enter 53 xs) w := by kernel_rfl
end Go.Proofs.YtcgacojnfkklaaaGreatDoor
namespace Go.Proofs.YtcgacojnfkklaaaGreatDoor
open Go.RowKit
set_option linter.unusedSimpArgs false
set_option linter.unusedVariables false
def l3 : List (Nat × (List D → Option D)) := (51, s51) :: (53, s53) :: l2
theorem del3 : DelOk Tryz.prog (delOf l3) := del_cons (del_cons del2 call53 ok53) call51 ok51
def s19 : List D → Option D := sp1 (cAgg rDsh) (cTup3 cInt cInt cInt) fun x => some (dchk x)
set_option maxHeartbeats 2000000 in
theorem ok19 : ∀ ds d, s19 ds = some d → PureC Tryz.prog 19 ds d := ok_sp1 fun x r hr => by
  cases hr
  refine pure_of_call (mkCx_ok del3 29 kp19 []) Tryz.func19 rfl rfl (Nat.le_of_ble_eq_true rfl) (by kernel_rfl) ?_
  rw [Tryz.results19]
  unfold dchk
  cases h1 : numbersB x
  · simp [kp19, rDsh_enc, rDsh_dec, l3, s51, h1]
  · cases h2 : inR x.baths.length 1 6
    · simp [kp19, rDsh_enc, rDsh_dec, l3, l2, l1, s51, s52, h1, h2]
    · have hb : 1 ≤ (x.baths.length : Int) ∧ (x.baths.length : Int) ≤ 6 := inR_iff.1 h2
      have hlm : x.baths.length < 1000000 := by omega
      simp [kp19, rDsh_enc, rDsh_dec, l3, l2, l1, s51, s52, h1, h2]
      rcases findI_cases (bathE x) x.baths with ⟨e1, hall⟩ | ⟨k, hk, e1, hbad, hgood⟩
      · simp only [e1]
        (generalize hLoopQ : Cx.loop _ _ _ = rLoopQ; apply loop_then hLoopQ (fun k => ⟨[(1, .loc 1 0), (5, .d (DI k))], [(1, [.d (DI x.melt), .d (DI x.coat), .d (DI x.thin), .d (DI x.hold), .d (DI x.back), .d (DI x.draw), .d (DI x.set), .d (DI x.run), .d (.sl 3 (x.baths.map rBth.enc))])], [], []⟩) x.baths.length rfl; rotate_left; (show _ < 281474976710656; omega); rfl; rotate_left; all_goals clear hLoopQ)
        · intro j hj
          have w1 := wrap_small ((j : Int) + 1) (by omega) (by omega)
          have hn := hall j hj
          have hjl : (j : Int) < x.baths.length := by omega
          have hg : x.baths.getD j default = x.baths[j] := getD_at _ _ _ hj
          simp [kp19, rDsh_dec, l3, l2, l1, s53, hj, hjl, hlm, hn, w1]
        · simp [kp19]
      · simp only [e1]
        rw [if_neg hbad]
        (generalize hLoopQ : Cx.loop _ _ _ = rLoopQ; apply loop_then hLoopQ (fun k => ⟨[(1, .loc 1 0), (5, .d (DI k))], [(1, [.d (DI x.melt), .d (DI x.coat), .d (DI x.thin), .d (DI x.hold), .d (DI x.back), .d (DI x.draw), .d (DI x.set), .d (DI x.run), .d (.sl 3 (x.baths.map rBth.enc))])], [], []⟩) k rfl; rotate_left; (show _ < 281474976710656; omega); rfl; rotate_left; all_goals clear hLoopQ)
        · intro j hj
          have w1 := wrap_small ((j : Int) + 1) (by omega) (by omega)
          have hj' : j < x.baths.length := by omega
          have hn := hgood j hj' hj
          have hjl : (j : Int) < x.baths.length := by omega
          simp [kp19, rDsh_dec, l3, l2, l1, s53, hj', hjl, hlm, hn, w1]
        · have hkl : (k : Int) < x.baths.length := by omega
          have hb1 : (bathE x k x.baths[k] != 0) = true := by simpa using hbad
          simp [kp19, rDsh_dec, l3, l2, l1, s53, hk, hkl, hlm, hb1]
theorem call19 (xs : Array Value) (w : World) : (callFunc 19 xs).run Tryz.prog w = .ok (.enter 19 xs) w := by kernel_rfl
theorem dipE_zero {x : Dsh} {d : Dip} (h : dipE x d = 0) : inR d.bath 0 ((x.baths.length : Int) - 1) = true ∧ inR d.secs 0 600 = true ∧ inR d.pause 0 600 = true ∧ ¬ d.secs ≤ x.draw := by
  unfold dipE at h
  cases q1 : inR d.bath 0 ((x.baths.length : Int) - 1)
  · simp [q1] at h
  · cases q2 : inR d.secs 0 600
    · simp [q1, q2] at h
    · cases q3 : inR d.pause 0 600
      · simp [q1, q2, q3] at h
      · by_cases q4 : d.secs ≤ x.draw
        · simp [q1, q2, q3, q4] at h
        · exact ⟨rfl, rfl, rfl, q4⟩
def s72 : List D → Option D := sp2 (cAgg rDsh) (cList rDip) cInt fun x l => if x.baths.length < 1000000 then some (planE x l) else none
set_option maxHeartbeats 4000000 in
theorem ok72 : ∀ ds d, s72 ds = some d → PureC Tryz.prog 72 ds d := ok_sp2 fun x l r hr => by
  split at hr
  · rename_i hlm
    cases hr
    refine pure_of_call (mkCx_ok del3 43 kp72 []) Tryz.func72 rfl rfl (Nat.le_of_ble_eq_true rfl) (by kernel_rfl) ?_
    rw [Tryz.results72]
    unfold planE
    have wb := wrap_small ((x.baths.length : Int) - 1) (by omega) (by omega)
    by_cases h1 : 30 < l.length
    · have h1' : (30 : Int) < l.length := by omega
      simp [kp72, rDsh_enc, rDip_k, h1, h1']
    · have h1' : ¬ (30 : Int) < l.length := by omega
      simp [kp72, rDsh_enc, rDip_k, h1, h1']
      rcases findI_cases (fun _ d => dipE x d) l with ⟨e1, hall⟩ | ⟨k, hk, e1, hbad, hgood⟩
      · simp only [e1]
        (generalize hLoopQ : Cx.loop _ _ _ = rLoopQ; apply loop_then hLoopQ (fun k => ⟨[(1, .d (.sl 4 (l.map rDip.enc))), (2, .loc 2 0), (5, .d (DI k))], [(2, [.d (DI x.melt), .d (DI x.coat), .d (DI x.thin), .d (DI x.hold), .d (DI x.back), .d (DI x.draw), .d (DI x.set), .d (DI x.run), .d (.sl 3 (x.baths.map rBth.enc))])], [], []⟩) l.length rfl; rotate_left; (show _ < 281474976710656; omega); rfl; rotate_left; all_goals clear hLoopQ)
        · intro j hj
          have w1 := wrap_small ((j : Int) + 1) (by omega) (by omega)
          have hn := hall j hj
          have hjl : (j : Int) < l.length := by omega
          obtain ⟨n1, n2, n3, n4⟩ := dipE_zero hn
          simp [kp72, rDip_enc, l3, l2, l1, s52, hj, hjl, n1, n2, n3, n4, w1, wb]
        · simp [kp72]
      · simp only [e1]
        (generalize hLoopQ : Cx.loop _ _ _ = rLoopQ; apply loop_then hLoopQ (fun k => ⟨[(1, .d (.sl 4 (l.map rDip.enc))), (2, .loc 2 0), (5, .d (DI k))], [(2, [.d (DI x.melt), .d (DI x.coat), .d (DI x.thin), .d (DI x.hold), .d (DI x.back), .d (DI x.draw), .d (DI x.set), .d (DI x.run), .d (.sl 3 (x.baths.map rBth.enc))])], [], []⟩) k rfl; rotate_left; (show _ < 281474976710656; omega); rfl; rotate_left; all_goals clear hLoopQ)
        · intro j hj
          have w1 := wrap_small ((j : Int) + 1) (by omega) (by omega)
          have hj' : j < l.length := by omega
          have hn := hgood j hj' hj
          have hjl : (j : Int) < l.length := by omega
          obtain ⟨n1, n2, n3, n4⟩ := dipE_zero hn
          simp [kp72, rDip_enc, l3, l2, l1, s52, hj', hjl, n1, n2, n3, n4, w1, wb]
        · have hkl : (k : Int) < l.length := by omega
          unfold dipE at hbad ⊢
          cases q1 : inR l[k].bath 0 ((x.baths.length : Int) - 1)
          · simp [kp72, rDip_enc, l3, l2, l1, s52, hk, hkl, q1, wb]
          · cases q2 : inR l[k].secs 0 600
            · simp [kp72, rDip_enc, l3, l2, l1, s52, hk, hkl, q1, q2, wb]
            · cases q3 : inR l[k].pause 0 600
              · simp [kp72, rDip_enc, l3, l2, l1, s52, hk, hkl, q1, q2, q3, wb]
              · by_cases q4 : l[k].secs ≤ x.draw
                · simp [kp72, rDip_enc, l3, l2, l1, s52, hk, hkl, q1, q2, q3, q4, wb]
                · simp [q1, q2, q3, q4] at hbad
  · cases hr
theorem call72 (xs : Array Value) (w : World) : (callFunc 72 xs).run Tryz.prog w = .ok (.enter 72 xs) w := by kernel_rfl
def l4 : List (Nat × (List D → Option D)) := (19, s19) :: (72, s72) :: l3
theorem del4 : DelOk Tryz.prog (delOf l4) := del_cons (del_cons del3 call72 ok72) call19 ok19
def askedE (x : Dsh) (t : Tap) (l : List Dip) : Int := if ¬ (dchk x).2.2 = 0 then (dchk x).2.2 else if ¬ tapE t = 0 then tapE t else planE x l
theorem baths_of {x : Dsh} (h : (dchk x).2.2 = 0) : numbersB x = true ∧ 1 ≤ x.baths.length ∧ x.baths.length ≤ 6 ∧ ∀ k (hk : k < x.baths.length), bathE x k x.baths[k] = 0 := by
  unfold dchk at h
  by_cases h1 : numbersB x = false
  · rw [if_pos h1] at h; cases h
  · rw [if_neg h1] at h
    by_cases h2 : inR x.baths.length 1 6 = false
    · rw [if_pos h2] at h; cases h
    · rw [if_neg h2] at h
      have hb := inR_iff.1 (by simpa using h2)
      by_cases h3 : (findI (bathE x) 0 x.baths).2 = 0
      · rcases findI_cases (bathE x) x.baths with ⟨_, hall⟩ | ⟨k, hk, e1, hbad, _⟩
        · exact ⟨by simpa using h1, by omega, by omega, hall⟩
        · rw [e1] at h3; exact absurd h3 hbad
      · rw [if_neg h3] at h; exact absurd h h3
theorem blen_or (x : Dsh) : x.baths.length < 1000000 ∨ ¬ (dchk x).2.2 = 0 := by
  by_cases h : (dchk x).2.2 = 0
  · left; have := (baths_of h).2; omega
  · exact .inr h
def s59 : List D → Option D := sp3 (cAgg rDsh) (cAgg rTap) (cList rDip) cInt fun x t l => some (askedE x t l)
theorem ok59 : ∀ ds d, s59 ds = some d → PureC Tryz.prog 59 ds d := ok_sp3 fun x t l r hr => by
  cases hr
  refine pure_of_call (mkCx_ok del4 26 kp59 []) Tryz.func59 rfl rfl (Nat.le_of_ble_eq_true rfl) (by kernel_rfl) ?_
  rw [Tryz.results59]
  unfold askedE
  by_cases h1 : (dchk x).2.2 = 0
  · obtain ⟨_, b1, b2, _⟩ := baths_of h1
    have hlm : x.baths.length < 1000000 := by omega
    by_cases h2 : tapE t = 0
    · simp [kp59, rDsh_enc, rDsh_dec, rTap_enc, rTap_dec, rDip_k, rDip_decL, l4, l3, l2, s19, s47, s72, h1, h2, hlm]
    · have h2' : (tapE t == 0) = false := by simpa using h2
      simp [kp59, rDsh_enc, rDsh_dec, rTap_enc, rTap_dec, rDip_k, rDip_decL, l4, l3, l2, s19, s47, s72, h1, h2, h2', hlm]
  · have h1' : ((dchk x).2.2 == 0) = false := by simpa using h1
    simp [kp59, rDsh_enc, rDsh_dec, rTap_enc, rTap_dec, rDip_k, rDip_decL, l4, l3, l2, s19, s47, s72, h1, h1']
theorem call59 (xs : Array Value) (w : World) : (callFunc 59 xs).run Tryz.prog w = .ok (.enter 59 xs) w := by kernel_rfl
end Go.Proofs.YtcgacojnfkklaaaGreatDoor
namespace Go.Proofs.YtcgacojnfkklaaaGreatDoor
open Go.RowKit
set_option linter.unusedSimpArgs false
set_option linter.unusedVariables false
def gOk (x : Dsh) (d : Dip) (w : Int) : Prop := warmOk x w ∧ (0 ≤ d.secs ∧ d.secs ≤ 600) ∧ 0 ≤ d.pause ∧ d.pause ≤ 600
instance (x : Dsh) (d : Dip) (w : Int) : Decidable (gOk x d w) := inferInstanceAs (Decidable (_ ∧ _))
theorem grown_bd {x : Dsh} {d : Dip} {w : Int} (h : gOk x d w) : (-25000000 ≤ (grownV x d w).1 ∧ (grownV x d w).1 ≤ 25000000) ∧ -25000000 ≤ (grownV x d w).2 ∧ (grownV x d w).2 ≤ 25000000 := by
  obtain ⟨hw, ⟨s0, s1⟩, p0, p1⟩ := h
  have hx := nums_of hw.1
  have b1 := (coat_bd (n := d.secs) hw ⟨by omega, by omega⟩).2.2.2.2
  have b2 := (coat_bd (n := d.secs - x.draw) hw ⟨by have := hx.d1; omega, by have := hx.d0; omega⟩).2.2.2.2
  have b3 := run_bd hx p0
  unfold grownV
  dsimp only
  split
  · dsimp only; omega
  · dsimp only; omega
def l5 : List (Nat × (List D → Option D)) := (59, s59) :: l4
theorem del5 : DelOk Tryz.prog (delOf l5) := del_cons del4 call59 ok59
def s96 : List D → Option D := sp3 (cAgg rDsh) (cAgg rDip) cInt (cTup2 cInt cInt) fun x d w => if gOk x d w then some (grownV x d w) else none
theorem ok96 : ∀ ds d, s96 ds = some d → PureC Tryz.prog 96 ds d := ok_sp3 fun x d w r hr => by
  split at hr
  · rename_i h
    cases hr
    obtain ⟨hw, ⟨s0, s1⟩, p0, p1⟩ := h
    have hx := nums_of hw.1
    have b1 := (coat_bd (n := d.secs) hw ⟨by omega, by omega⟩).2.2.2.2
    have b2 := (coat_bd (n := d.secs - x.draw) hw ⟨by have := hx.d1; omega, by have := hx.d0; omega⟩).2.2.2.2
    have b3 := run_bd hx p0
    have q1 : secOk d.secs := ⟨by omega, by omega⟩
    have q2 : secOk (d.secs - x.draw) := ⟨by have := hx.d1; omega, by have := hx.d0; omega⟩
    have r0 := hx.s0
    have r1 := hx.s1
    have r2 := hx.d0
    have r3 := hx.d1
    have w1 := wrap_small (x.set - d.pause) (by omega) (by omega)
    have hm : (if d.pause < x.set then x.set - d.pause else 0) = max 0 (x.set - d.pause) := by split <;> omega
    have w2 := wrap_small (x.run * max 0 (x.set - d.pause)) (by omega) (by omega)
    have w3 := wrap_small (d.secs - x.draw) (by omega) (by omega)
    unfold grownV
    generalize hA : coatV x w d.secs = A at *
    generalize hB : coatV x w (d.secs - x.draw) = B at *
    generalize hR : x.run * max 0 (x.set - d.pause) = R at *
    have w4 := wrap_small (A + R) (by omega) (by omega)
    have w5 := wrap_small (2 * (A + R)) (by omega) (by omega)
    have w6 := wrap_small (B - R) (by omega) (by omega)
    have w7 := wrap_small (2 * (B - R)) (by omega) (by omega)
    refine pure_of_call (mkCx_ok del5 45 kp96 []) Tryz.func96 rfl rfl (Nat.le_of_ble_eq_true rfl) (by kernel_rfl) ?_
    rw [Tryz.results96]
    cases ht : d.turned
    · simp [kp96, rDsh_enc, rDsh_dec, rDip_enc, l5, l4, l3, l2, s111, hw, q1, q2, w1, hm, w2, w3, hR, hA, hB, w4, w5, w6, w7, ht]
    · simp [kp96, rDsh_enc, rDsh_dec, rDip_enc, l5, l4, l3, l2, s111, hw, q1, q2, w1, hm, w2, w3, hR, hA, hB, w4, w5, w6, w7, ht]
  · cases hr
theorem call96 (xs : Array Value) (w : World) : (callFunc 96 xs).run Tryz.prog w = .ok (.enter 96 xs) w := by kernel_rfl
def tapOk (t : Tap) : Prop := (-1000000000 ≤ t.top ∧ t.top ≤ 1000000000) ∧ -1000000000 ≤ t.foot ∧ t.foot ≤ 1000000000
instance (t : Tap) : Decidable (tapOk t) := inferInstanceAs (Decidable (_ ∧ _))
def l6 : List (Nat × (List D → Option D)) := (96, s96) :: l5
theorem del6 : DelOk Tryz.prog (delOf l6) := del_cons del5 call96 ok96
def s61 : List D → Option D := sp4 (cAgg rDsh) (cAgg rTap) (cAgg rDip) cInt (cAgg rTap) fun x t d w => if gOk x d w ∧ tapOk t then some (dippedV x t d w) else none
theorem ok61 : ∀ ds d, s61 ds = some d → PureC Tryz.prog 61 ds d := ok_sp4 fun x t d w r hr => by
  split at hr
  · rename_i h
    cases hr
    obtain ⟨hg, ⟨t0, t1⟩, t2, t3⟩ := h
    have b := grown_bd hg
    have w1 := wrap_small (t.top + (grownV x d w).1) (by omega) (by omega)
    have w2 := wrap_small (t.foot + (grownV x d w).2) (by omega) (by omega)
    refine pure_of_call (mkCx_ok del6 29 kp61 []) Tryz.func61 rfl rfl (Nat.le_of_ble_eq_true rfl) (by kernel_rfl) ?_
    rw [Tryz.results61]
    unfold dippedV
    simp [kp61, rDsh_enc, rDsh_dec, rTap_enc, rDip_enc, rDip_dec, l6, s96, hg, w1, w2]
  · cases hr
theorem call61 (xs : Array Value) (w : World) : (callFunc 61 xs).run Tryz.prog w = .ok (.enter 61 xs) w := by kernel_rfl
def skewV (x : Dsh) (d : Dip) (w : Int) : Int := (grownV x d w).2 - (grownV x d w).1
def s100 : List D → Option D := sp3 (cAgg rDsh) (cAgg rDip) cInt cInt fun x d w => if gOk x d w then some (skewV x d w) else none
theorem ok100 : ∀ ds d, s100 ds = some d → PureC Tryz.prog 100 ds d := ok_sp3 fun x d w r hr => by
  split at hr
  · rename_i hg
    cases hr
    have b := grown_bd hg
    have w1 := wrap_small ((grownV x d w).2 - (grownV x d w).1) (by omega) (by omega)
    refine pure_of_call (mkCx_ok del6 19 kp100 []) Tryz.func100 rfl rfl (Nat.le_of_ble_eq_true rfl) (by kernel_rfl) ?_
    rw [Tryz.results100]
    unfold skewV
    simp [kp100, rDsh_enc, rDsh_dec, rDip_enc, rDip_dec, l6, s96, hg, w1]
  · cases hr
theorem call100 (xs : Array Value) (w : World) : (callFunc 100 xs).run Tryz.prog w = .ok (.enter 100 xs) w := by kernel_rfl
def okD (x : Dsh) (d : Dip) : Prop := (dchk x).2.2 = 0 ∧ dipE x d = 0
instance (x : Dsh) (d : Dip) : Decidable (okD x d) := inferInstanceAs (Decidable (_ ∧ _))
def warmV (x : Dsh) (d : Dip) : Spn := (x.baths.getD d.bath.toNat default).warm
theorem bathE_zero {x : Dsh} {i : Nat} {b : Bth} (h : bathE x i b = 0) : refName b.name = true ∧ seenB (x.baths.take i) b.name = false ∧ inR b.warm.lo 0 2000 = true ∧ inR b.warm.hi 0 2000 = true ∧ ¬ b.warm.lo < x.melt ∧ ¬ b.warm.hi < b.warm.lo := by
  unfold bathE at h
  cases h1 : refName b.name
  · simp [h1] at h
  · cases h2 : seenB (x.baths.take i) b.name
    · cases h3 : inR b.warm.lo 0 2000
      · simp [h1, h2, h3] at h
      · cases h4 : inR b.warm.hi 0 2000
        · simp [h1, h2, h3, h4] at h
        · by_cases h5 : b.warm.lo < x.melt
          · simp [h1, h2, h3, h4, h5] at h
          · by_cases h6 : b.warm.hi < b.warm.lo
            · simp [h1, h2, h3, h4, h5, h6] at h
            · exact ⟨rfl, rfl, rfl, rfl, h5, h6⟩
    · simp [h1, h2] at h
theorem okD_bath {x : Dsh} {d : Dip} (h : okD x d) : ∃ B : Nat, d.bath = B ∧ ∃ hB : B < x.baths.length, warmV x d = x.baths[B].warm ∧ x.baths.length ≤ 6 ∧ gOk x d (warmV x d).lo ∧ gOk x d (warmV x d).hi ∧ (warmV x d).lo ≤ (warmV x d).hi ∧ ∀ w, (warmV x d).lo ≤ w → w ≤ (warmV x d).hi → gOk x d w := by
  obtain ⟨h1, h2⟩ := h
  obtain ⟨n1, n2, n3, n4⟩ := baths_of h1
  obtain ⟨q1, q2, q3, q4⟩ := dipE_zero h2
  have q1 := inR_iff.1 q1
  have q2 := inR_iff.1 q2
  have q3 := inR_iff.1 q3
  refine ⟨d.bath.toNat, by omega, by omega, ?_⟩
  have hB : d.bath.toNat < x.baths.length := by omega
  have hw : warmV x d = x.baths[d.bath.toNat].warm := by unfold warmV; rw [getD_at _ _ _ hB]
  obtain ⟨_, _, e3, e4, e5, e6⟩ := bathE_zero (n4 _ hB)
  have e3 := inR_iff.1 e3
  have e4 := inR_iff.1 e4
  have key : ∀ w, x.baths[d.bath.toNat].warm.lo ≤ w → w ≤ x.baths[d.bath.toNat].warm.hi → gOk x d w := fun w a b => ⟨⟨n1, by omega, by omega⟩, ⟨by omega, by omega⟩, by omega, by omega⟩
  refine ⟨hw, n3, ?_, ?_, ?_, ?_⟩
  · rw [hw]; exact key _ (by omega) (by omega)
  · rw [hw]; exact key _ (by omega) (by omega)
  · rw [hw]; omega
  · rw [hw]; exact key
def endsV (x : Dsh) (d : Dip) : Int × Int :=
  if skewV x d (warmV x d).lo < skewV x d (warmV x d).hi then ((warmV x d).lo, (warmV x d).hi) else if skewV x d (warmV x d).hi < skewV x d (warmV x d).lo then ((warmV x d).hi, (warmV x d).lo) else ((warmV x d).lo, (warmV x d).lo)
def l7 : List (Nat × (List D → Option D)) := (61, s61) :: (100, s100) :: l6
theorem del7 : DelOk Tryz.prog (delOf l7) := del_cons (del_cons del6 call100 ok100) call61 ok61
def s68 : List D → Option D := sp2 (cAgg rDsh) (cAgg rDip) (cTup2 cInt cInt) fun x d => if okD x d then some (endsV x d) else none
theorem ok68 : ∀ ds d, s68 ds = some d → PureC Tryz.prog 68 ds d := ok_sp2 fun x d r hr => by
  split at hr
  · rename_i hd
    cases hr
    obtain ⟨B, e1, hB, e2, _, g1, g2, _, _⟩ := okD_bath hd
    unfold endsV
    rw [e2] at g1 g2 ⊢
    refine pure_of_call (mkCx_ok del7 44 kp68 []) Tryz.func68 rfl rfl (Nat.le_of_ble_eq_true rfl) (by kernel_rfl) ?_
    rw [Tryz.results68]
    rw [cAgg_enc, cAgg_enc, rDip_enc, e1]
    have hdec : rDip.dec [DI (B : Int), DI d.secs, DI d.pause, DB d.turned] = some d := by rw [← e1]; exact rDip_dec d
    by_cases h1 : skewV x d x.baths[B].warm.lo < skewV x d x.baths[B].warm.hi
    · simp [kp68, rDsh_enc, rDsh_dec, hdec, rBth_enc, l7, s100, hB, g1, g2, h1]
    · by_cases h2 : skewV x d x.baths[B].warm.hi < skewV x d x.baths[B].warm.lo
      · simp [kp68, rDsh_enc, rDsh_dec, hdec, rBth_enc, l7, s100, hB, g1, g2, h1, h2]
      · simp [kp68, rDsh_enc, rDsh_dec, hdec, rBth_enc, l7, s100, hB, g1, g2, h1, h2]
  · cases hr
theorem call68 (xs : Array Value) (w : World) : (callFunc 68 xs).run Tryz.prog w = .ok (.enter 68 xs) w := by kernel_rfl
def warmE (x : Dsh) (l : List Dip) (w : List Int) : Int :=
  if ¬ w.length = l.length then 3 else (findI (fun i d => if inR (w.getD i 0) (warmV x d).lo (warmV x d).hi then 0 else 7) 0 l).2
def okL (x : Dsh) (l : List Dip) : Prop := (dchk x).2.2 = 0 ∧ l.length ≤ 30 ∧ ∀ d ∈ l, dipE x d = 0
instance (x : Dsh) (l : List Dip) : Decidable (okL x l) := inferInstanceAs (Decidable (_ ∧ _ ∧ ∀ d ∈ l, _))
theorem okL_at {x : Dsh} {l : List Dip} (h : okL x l) (k : Nat) (hk : k < l.length) : okD x l[k] := ⟨h.1, h.2.2 _ (List.getElem_mem hk)⟩
def s60 : List D → Option D := sp3 (cAgg rDsh) (cList rDip) (cList rInt) cInt fun x l w => if okL x l then some (warmE x l w) else none
set_option maxHeartbeats 2000000 in
theorem ok60 : ∀ ds d, s60 ds = some d → PureC Tryz.prog 60 ds d := ok_sp3 fun x l w r hr => by
  split at hr
  · rename_i hl
    cases hr
    have hl30 := hl.2.1
    refine pure_of_call (mkCx_ok del7 40 kp60 []) Tryz.func60 rfl rfl (Nat.le_of_ble_eq_true rfl) (by kernel_rfl) ?_
    rw [Tryz.results60]
    unfold warmE
    by_cases h1 : w.length = l.length
    · have h1' : ((w.length : Int) != (l.length : Int)) = false := by simp [h1]
      simp [kp60, rDsh_enc, rDip_k, h1, h1']
      have fact : ∀ j (hj : j < l.length), ∃ B : Nat, ∃ hB : B < x.baths.length, l[j].bath = B ∧ warmV x l[j] = x.baths[B].warm := fun j hj => by
        obtain ⟨B, e1, hB, e2, _⟩ := okD_bath (okL_at hl j hj)
        exact ⟨B, hB, e1, e2⟩
      rcases findI_cases (fun i d => if inR (w.getD i 0) (warmV x d).lo (warmV x d).hi then (0 : Int) else 7) l with ⟨e1, hall⟩ | ⟨k, hk, e1, hbad, hgood⟩
      · simp only [List.getD_eq_getElem?_getD] at e1
        simp only [e1]
        (generalize hLoopQ : Cx.loop _ _ _ = rLoopQ; apply loop_then hLoopQ (fun k => ⟨[(1, .d (.sl 4 (l.map rDip.enc))), (2, .d (.sl 1 (w.map rInt.enc))), (3, .loc 3 0), (7, .d (DI k))], [(3, [.d (DI x.melt), .d (DI x.coat), .d (DI x.thin), .d (DI x.hold), .d (DI x.back), .d (DI x.draw), .d (DI x.set), .d (DI x.run), .d (.sl 3 (x.baths.map rBth.enc))])], [], []⟩) l.length rfl; rotate_left; (show _ < 281474976710656; omega); rfl; rotate_left; all_goals clear hLoopQ)
        · intro j hj
          have w1 := wrap_small ((j : Int) + 1) (by omega) (by omega)
          have hjw : j < w.length := by omega
          have hjl : (j : Int) < l.length := by omega
          have hn := hall j hj
          obtain ⟨B, hB, e2, e3⟩ := fact j hj
          rw [getD_at _ _ _ hjw, e3] at hn
          have hn' : inR w[j] x.baths[B].warm.lo x.baths[B].warm.hi = true := by
            cases hq : inR w[j] x.baths[B].warm.lo x.baths[B].warm.hi
            · rw [hq] at hn; simp at hn
            · rfl
          simp [kp60, rDip_enc, rBth_enc, l7, l6, l5, l4, l3, l2, l1, s52, hj, hjw, hjl, h1, hB, e2, hn', w1]
        · simp [kp60]
      · simp only [List.getD_eq_getElem?_getD] at e1
        simp only [e1]
        (generalize hLoopQ : Cx.loop _ _ _ = rLoopQ; apply loop_then hLoopQ (fun k => ⟨[(1, .d (.sl 4 (l.map rDip.enc))), (2, .d (.sl 1 (w.map rInt.enc))), (3, .loc 3 0), (7, .d (DI k))], [(3, [.d (DI x.melt), .d (DI x.coat), .d (DI x.thin), .d (DI x.hold), .d (DI x.back), .d (DI x.draw), .d (DI x.set), .d (DI x.run), .d (.sl 3 (x.baths.map rBth.enc))])], [], []⟩) k rfl; rotate_left; (show _ < 281474976710656; omega); rfl; rotate_left; all_goals clear hLoopQ)
        · intro j hj
          have w1 := wrap_small ((j : Int) + 1) (by omega) (by omega)
          have hj' : j < l.length := by omega
          have hjw : j < w.length := by omega
          have hjl : (j : Int) < l.length := by omega
          have hn := hgood j hj' hj
          obtain ⟨B, hB, e2, e3⟩ := fact j hj'
          rw [getD_at _ _ _ hjw, e3] at hn
          have hn' : inR w[j] x.baths[B].warm.lo x.baths[B].warm.hi = true := by
            cases hq : inR w[j] x.baths[B].warm.lo x.baths[B].warm.hi
            · rw [hq] at hn; simp at hn
            · rfl
          simp [kp60, rDip_enc, rBth_enc, l7, l6, l5, l4, l3, l2, l1, s52, hj', hjw, hjl, h1, hB, e2, hn', w1]
        · have hkw : k < w.length := by omega
          have hkl : (k : Int) < l.length := by omega
          obtain ⟨B, hB, e2, e3⟩ := fact k hk
          rw [getD_at _ _ _ hkw, e3] at hbad
          have hn' : inR w[k] x.baths[B].warm.lo x.baths[B].warm.hi = false := by
            cases hq : inR w[k] x.baths[B].warm.lo x.baths[B].warm.hi
            · rfl
            · rw [hq] at hbad; simp at hbad
          simp [kp60, rDip_enc, rBth_enc, l7, l6, l5, l4, l3, l2, l1, s52, hk, hkw, hkl, h1, hB, e2, e3, hn']
    · have h1' : ((w.length : Int) != (l.length : Int)) = true := by simp; omega
      simp [kp60, rDsh_enc, rDip_k, h1, h1']
  · cases hr
theorem call60 (xs : Array Value) (w : World) : (callFunc 60 xs).run Tryz.prog w = .ok (.enter 60 xs) w := by kernel_rfl
end Go.Proofs.YtcgacojnfkklaaaGreatDoor
