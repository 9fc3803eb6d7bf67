/-
  Reference functions of the wax chapter: numbers, names, ranges, tables. Conditions: none.
-/
import Derived.Test.YtkldmnladkcfeaaGreatDoorZTys
namespace Go.Proofs.YtkldmnladkcfeaaGreatDoor
open Go.RowKit
set_option linter.unusedSimpArgs false
set_option linter.unusedVariables false
def kp58 (r : Nat) : List (Nat × Option Nat) := match r with
  | 0 => [(0, none), (1, none), (2, none)]
  | 1 => [(6, none)]
  | _ => []
def kp59 (r : Nat) : List (Nat × Option Nat) := match r with
  | 0 => [(0, none), (1, none)]
  | 1 => [(0, none), (1, none), (8, none)]
  | 2 => [(4, none)]
  | 3 => [(0, none), (1, none), (5, none)]
  | 4 => [(0, none), (1, none), (5, none), (12, none)]
  | 5 => [(0, none), (1, none), (5, none)]
  | 6 => [(0, none), (1, none), (5, none), (20, none)]
  | 7 => [(4, none)]
  | 8 => [(4, none)]
  | _ => []
def kp85 (r : Nat) : List (Nat × Option Nat) := match r with
  | 0 => [(1, none), (2, none), (3, none)]
  | 1 => [(3, none), (20, none)]
  | 2 => [(6, none)]
  | 3 => [(25, none)]
  | 4 => [(6, none)]
  | 5 => [(6, none)]
  | _ => []
def kp60 (r : Nat) : List (Nat × Option Nat) := match r with
  | 0 => [(0, none), (1, none)]
  | 1 => [(0, none), (1, none), (11, none)]
  | 2 => [(4, none)]
  | 3 => [(0, none), (1, none), (5, none)]
  | 4 => [(0, none), (1, none), (5, none), (6, none)]
  | 5 => [(0, none), (1, none), (5, none), (6, none), (14, none)]
  | 6 => [(0, none), (1, none), (5, none), (6, none)]
  | 7 => [(0, none), (1, none), (5, none), (6, none), (7, none)]
  | 8 => [(0, none), (1, none), (5, none), (6, none), (7, none), (23, none)]
  | 9 => [(4, none)]
  | 10 => [(0, none), (1, none), (5, none), (6, none), (7, none), (26, none)]
  | 11 => [(0, none), (1, none), (5, none), (6, none)]
  | 12 => [(4, none)]
  | _ => []
def kp17 (r : Nat) : List (Nat × Option Nat) := match r with
  | 0 => [(1, none)]
  | 1 => [(1, none), (21, none)]
  | 2 => [(2, none), (3, none), (4, none)]
  | 3 => [(1, none), (25, none)]
  | 4 => [(2, none), (3, none), (4, none)]
  | 5 => [(1, none), (5, some 1)]
  | 6 => [(1, none), (5, some 1), (6, none)]
  | 7 => [(1, none), (5, some 1), (6, none), (30, none)]
  | 8 => [(1, none), (5, some 1), (6, none)]
  | 9 => [(1, none), (5, some 1), (6, none), (7, none)]
  | 10 => [(1, none), (5, some 1), (6, none), (7, none), (52, none)]
  | 11 => [(1, none), (5, some 1), (6, none), (7, none)]
  | 12 => [(1, none), (5, some 1), (6, none), (7, none), (54, none)]
  | 13 => [(2, none), (3, none), (4, none)]
  | 14 => [(1, none), (5, some 1), (6, none)]
  | 15 => [(1, none), (5, some 1)]
  | 16 => [(1, none), (5, some 1), (8, none)]
  | 17 => [(1, none), (5, some 1), (8, none), (70, none)]
  | 18 => [(1, none), (5, some 1), (8, none)]
  | 19 => [(1, none), (5, some 1), (8, none), (9, none)]
  | 20 => [(1, none), (5, some 1), (8, none), (9, none), (82, none)]
  | 21 => [(1, none), (5, some 1), (8, none), (9, none)]
  | 22 => [(1, none), (5, some 1), (8, none), (9, none), (94, none)]
  | 23 => [(2, none), (3, none), (4, none)]
  | 24 => [(1, none), (5, some 1), (8, none)]
  | 25 => [(2, none), (3, none), (4, none)]
  | _ => []
def kp44 (r : Nat) : List (Nat × Option Nat) := match r with
  | 0 => [(1, none), (2, none)]
  | 1 => [(1, none), (2, none), (7, none)]
  | 2 => [(1, none), (7, none), (24, none)]
  | 3 => [(1, none), (7, none)]
  | 4 => [(1, none), (7, none), (8, none)]
  | 5 => [(1, none), (7, none), (8, none), (32, none)]
  | 6 => [(1, none), (7, none), (8, none)]
  | 7 => [(1, none), (7, none), (8, none), (47, none)]
  | 8 => [(1, none), (7, none), (8, none)]
  | 9 => [(4, none)]
  | _ => []
def kp19 (r : Nat) : List (Nat × Option Nat) := match r with
  | 0 => [(0, none)]
  | 1 => [(0, none), (20, none)]
  | 2 => [(2, none)]
  | 3 => [(0, none), (3, none)]
  | 4 => [(0, none), (3, none), (24, none)]
  | 5 => [(0, none), (3, none)]
  | 6 => [(0, none), (3, none), (55, none)]
  | 7 => [(2, none)]
  | 8 => [(2, none)]
  | _ => []
def s58 : List D → Option D := sp3 cInt cInt cInt cBool fun n lo hi => some (inR n lo hi)
theorem ok58 : ∀ ds d, s58 ds = some d → PureC Tryz.prog 58 ds d := ok_sp3 fun n lo hi r hr => by
  cases hr
  refine pure_of_call (mkCx_ok del_nil 15 kp58 []) Tryz.func58 rfl rfl (Nat.le_of_ble_eq_true rfl) (by kernel_rfl) ?_
  rw [Tryz.results58]
  unfold inR
  by_cases h : lo ≤ n <;> simp [kp58, h]
theorem call58 (xs : Array Value) (w : World) : (callFunc 58 xs).run Tryz.prog w = .ok (.enter 58 xs) w := by kernel_rfl
def l1 : List (Nat × (List D → Option D)) := [(58, s58)]
theorem del1 : DelOk Tryz.prog (delOf l1) := del_cons del_nil call58 ok58
theorem byteAt_bd (s : ByteArray) (i : Nat) : 0 ≤ byteAt s i ∧ byteAt s i ≤ 255 := by
  unfold byteAt
  have := (s[i]?.getD 0).toNat_lt
  omega
def s19 : List D → Option D := sp1 cStr cBool fun s => some (refName s)
theorem ok19 : ∀ ds d, s19 ds = some d → PureC Tryz.prog 19 ds d := ok_sp1 fun s r hr => by
  cases hr
  refine pure_of_call (mkCx_ok del1 56 kp19 []) Tryz.func19 rfl rfl (Nat.le_of_ble_eq_true rfl) (by kernel_rfl) ?_
  rw [Tryz.results19]
  cases h1 : inR s.size 1 20 with
  | false => simp [kp19, refName, h1, l1, s58, ty9]
  | true =>
    have hs : 1 ≤ (s.size : Int) ∧ (s.size : Int) ≤ 20 := by simpa [inR] using h1
    have hsz : (0 : Int) < (s.size : Int) := by omega
    have hsz2 : 0 < s.size := by omega
    cases h2 : byteAt s 0 == 45 with
    | true => simp [kp19, refName, h1, h2, l1, s58, ty9, ty5, hsz, hsz2]
    | false =>
      have hw : IntKind.i64.wrap ((s.size : Int) - 1) = ((s.size - 1 : Nat) : Int) := by rw [wrap_small _ (by omega) (by omega)]; omega
      have hlt : ((s.size - 1 : Nat) : Int) < (s.size : Int) := by omega
      cases h3 : byteAt s (s.size - 1) == 45 with
      | true => simp [kp19, refName, h1, h2, h3, l1, s58, ty9, ty5, hsz, hsz2, hw, hlt]
      | false =>
        have hcase : ∀ k, (byteAt s k == 45) = false ∧ (inR (byteAt s k) 97 122 = nmAt s k) ∨ (byteAt s k == 45) = true ∧ k = 0 ∧ nmAt s k = true ∨ (byteAt s k == 45) = true ∧ 0 < k ∧ (byteAt s (k - 1) == 45) = !nmAt s k := by
          intro k
          unfold nmAt
          cases hb : byteAt s k == 45 with
          | false => left; simp
          | true =>
            right
            by_cases hk : k = 0
            · left; simp [hk]
            · right; simp; omega
        rcases first_not (nmAt s) s.size with hall | ⟨k, hk, hbad, hgood⟩
        · have hr : refName s = true := by simp [refName, h1, h2, h3]; exact hall
          rw [hr]
          simp [kp19, h1, h2, h3, l1, s58, ty9, ty5, hsz, hsz2, hw, hlt]
          generalize hL : Cx.loop _ _ _ = R
          have hR : R = some (.exit 0, ⟨[(0, .d (DS s)), (3, .d (DI s.size)), (24, .d (DB false))], [], [], []⟩) := by
            rw [← hL]
            refine loop_run (fun k => ⟨[(0, .d (DS s)), (3, .d (DI k))], [], [], []⟩) _ _ s.size (by simp) (fun j hj => ?_) ?_ (by simp only [mkCx, fuel]; omega)
            · have hj' : (j : Int) < (s.size : Int) := by omega
              have h2 := wrap_small ((j : Int) + 1) (by omega) (by omega)
              have hn := hall j hj
              have hbd := byteAt_bd s j
              have hwb := wrap_small (byteAt s j) (by omega) (by omega)
              rcases hcase j with ⟨c1, c2⟩ | ⟨c1, c2, c3⟩ | ⟨c1, c2, c3⟩
              · rw [hn] at c2
                by_cases hj0 : 0 < j
                · simp [kp19, ty9, ty5, ty3, hj, h2, c1, c2, hwb, l1, s58, hj0, bne]
                · simp [kp19, ty9, ty5, ty3, hj, h2, c1, c2, hwb, l1, s58, hj0, bne]
              · subst c2
                simp [kp19, ty9, ty5, ty3, hj, h2, c1, l1, s58, bne, hsz, hsz2]
              · rw [hn] at c3
                have hw1 : IntKind.i64.wrap ((j : Int) - 1) = ((j - 1 : Nat) : Int) := by rw [wrap_small _ (by omega) (by omega)]; omega
                have hlt1 : j - 1 < s.size := by omega
                simp [kp19, ty9, ty5, ty3, hj, h2, c1, c3, c2, l1, s58, bne, hw1, hlt1]
            · simp [kp19, ty9]
          rw [hR]
          simp [kp19]
        · have hr : refName s = false := by
            have : ¬ ∀ i, i < s.size → nmAt s i = true := fun h => by rw [h k hk] at hbad; cases hbad
            simp [refName, this]
          rw [hr]
          simp [kp19, h1, h2, h3, l1, s58, ty9, ty5, hsz, hsz2, hw, hlt]
          generalize hL : Cx.loop _ _ _ = R
          have hR : R = some (.ret, ⟨[(2, .d (DB false))], [], [], []⟩) := by
            rw [← hL]
            refine loop_run (fun k => ⟨[(0, .d (DS s)), (3, .d (DI k))], [], [], []⟩) _ _ k (by simp) (fun j hj => ?_) ?_ (by simp only [mkCx, fuel]; omega)
            · have hjs : j < s.size := by omega
              have h2 := wrap_small ((j : Int) + 1) (by omega) (by omega)
              have hn := hgood j hj
              have hbd := byteAt_bd s j
              have hwb := wrap_small (byteAt s j) (by omega) (by omega)
              rcases hcase j with ⟨c1, c2⟩ | ⟨c1, c2, c3⟩ | ⟨c1, c2, c3⟩
              · rw [hn] at c2
                by_cases hj0 : 0 < j
                · simp [kp19, ty9, ty5, ty3, hjs, h2, c1, c2, hwb, l1, s58, hj0, bne]
                · simp [kp19, ty9, ty5, ty3, hjs, h2, c1, c2, hwb, l1, s58, hj0, bne]
              · subst c2
                simp [kp19, ty9, ty5, ty3, hjs, h2, c1, l1, s58, bne, hsz, hsz2]
              · rw [hn] at c3
                have hw1 : IntKind.i64.wrap ((j : Int) - 1) = ((j - 1 : Nat) : Int) := by rw [wrap_small _ (by omega) (by omega)]; omega
                have hlt1 : j - 1 < s.size := by omega
                simp [kp19, ty9, ty5, ty3, hjs, h2, c1, c3, c2, l1, s58, bne, hw1, hlt1]
            · have hbd := byteAt_bd s k
              have hwb := wrap_small (byteAt s k) (by omega) (by omega)
              rcases hcase k with ⟨c1, c2⟩ | ⟨c1, c2, c3⟩ | ⟨c1, c2, c3⟩
              · rw [hbad] at c2
                simp [kp19, ty9, ty5, ty3, hk, c1, c2, hwb, l1, s58, bne]
              · rw [hbad] at c3; cases c3
              · rw [hbad] at c3
                have hw1 : IntKind.i64.wrap ((k : Int) - 1) = ((k - 1 : Nat) : Int) := by rw [wrap_small _ (by omega) (by omega)]; omega
                have hlt1 : k - 1 < s.size := by omega
                simp [kp19, ty9, ty5, ty3, hk, c1, c3, c2, l1, s58, bne, hw1, hlt1]
          rw [hR]
          simp [kp19]
theorem call19 (xs : Array Value) (w : World) : (callFunc 19 xs).run Tryz.prog w = .ok (.enter 19 xs) w := by kernel_rfl
def l2 : List (Nat × (List D → Option D)) := (19, s19) :: l1
theorem del2 : DelOk Tryz.prog (delOf l2) := del_cons del1 call19 ok19
def s59 : List D → Option D := sp2 cStr (cList rStr) cInt fun s l => if l.length < 1000000 then some (namedE s l) else none
theorem ok59 : ∀ ds d, s59 ds = some d → PureC Tryz.prog 59 ds d := ok_sp2 fun s l r hr => by
  split at hr
  · rename_i hlm
    cases hr
    refine pure_of_call (mkCx_ok del2 21 kp59 []) Tryz.func59 rfl rfl (Nat.le_of_ble_eq_true rfl) (by kernel_rfl) ?_
    rw [Tryz.results59]
    unfold namedE
    cases h1 : refName s
    · simp [kp59, l2, s19, h1]
    · rcases first_is (fun x : ByteArray => x.toList == s.toList) l with ⟨e1, hall⟩ | ⟨k, hk, e1, hbad, hgood⟩
      · rw [e1]
        simp [kp59, l2, s19, h1]
        (generalize hLoopQ : Cx.loop _ _ _ = rLoopQ; apply loop_then hLoopQ (fun k => ⟨[(0, .d (DS s)), (1, .d (.sl 1 (l.map rStr.enc))), (5, .d (DI k))], [], [], []⟩) l.length rfl; rotate_left; (show _ < 281474976710656; omega); rfl; rotate_left; all_goals clear hLoopQ)
        · intro j hj
          have w1 := wrap_small ((j : Int) + 1) (by omega) (by omega)
          have hjl : (j : Int) < l.length := by omega
          have hn := hall j hj
          simp [kp59, hj, hjl, hn, w1]
        · simp [kp59]
      · rw [e1]
        simp [kp59, l2, s19, h1]
        (generalize hLoopQ : Cx.loop _ _ _ = rLoopQ; apply loop_then hLoopQ (fun k => ⟨[(0, .d (DS s)), (1, .d (.sl 1 (l.map rStr.enc))), (5, .d (DI k))], [], [], []⟩) k rfl; rotate_left; (show _ < 281474976710656; omega); rfl; rotate_left; all_goals clear hLoopQ)
        · intro j hj'
          have hj : j < l.length := by omega
          have w1 := wrap_small ((j : Int) + 1) (by omega) (by omega)
          have hjl : (j : Int) < l.length := by omega
          have hn := hgood j hj hj'
          simp [kp59, hj, hjl, hn, w1]
        · have hkl : (k : Int) < l.length := by omega
          simp [kp59, hk, hkl, hbad]
  · cases hr
theorem call59 (xs : Array Value) (w : World) : (callFunc 59 xs).run Tryz.prog w = .ok (.enter 59 xs) w := by kernel_rfl
def s85 : List D → Option D := sp3 (cAgg rSpn) cInt cInt cInt fun s lo hi => some (spanE s lo hi)
theorem ok85 : ∀ ds d, s85 ds = some d → PureC Tryz.prog 85 ds d := ok_sp3 fun s lo hi r hr => by
  cases hr
  refine pure_of_call (mkCx_ok del1 26 kp85 []) Tryz.func85 rfl rfl (Nat.le_of_ble_eq_true rfl) (by kernel_rfl) ?_
  rw [Tryz.results85]
  unfold spanE
  cases h1 : inR s.lo lo hi <;> cases h2 : inR s.hi lo hi <;> by_cases h3 : s.hi < s.lo <;> simp [kp85, l1, s58, rSpn_enc, h1, h2, h3]
theorem call85 (xs : Array Value) (w : World) : (callFunc 85 xs).run Tryz.prog w = .ok (.enter 85 xs) w := by kernel_rfl
theorem vSpan_cases (s : Spn) : vSpan s = 0 ∨ vSpan s = 2 ∨ vSpan s = 7 := by
  unfold vSpan spanE
  split
  · simp
  · split <;> simp
def l3 : List (Nat × (List D → Option D)) := (85, s85) :: l1
theorem del3 : DelOk Tryz.prog (delOf l3) := del_cons del1 call85 ok85
def worstK (l : List Spn) (k : Nat) : Int := if (l.take k).any (fun s => vSpan s == 2) then 2 else 0
theorem worstK_succ {l : List Spn} {j : Nat} (h : j < l.length) : worstK l (j + 1) = if vSpan l[j] = 2 then 2 else worstK l j := by
  unfold worstK
  rw [List.take_succ_eq_append_getElem h, List.any_append]
  simp only [List.any_cons, List.any_nil, Bool.or_false, Bool.or_eq_true, beq_iff_eq]
  by_cases h1 : vSpan l[j] = 2
  · simp [h1]
  · simp [h1]
def s60 : List D → Option D := sp2 (cList rSpn) cInt cInt fun l many => if many ≤ 99 then some (rangesE l many) else none
set_option maxHeartbeats 1000000 in
theorem ok60 : ∀ ds d, s60 ds = some d → PureC Tryz.prog 60 ds d := ok_sp2 fun l many r hr => by
  split at hr
  · rename_i hlm0
    cases hr
    refine pure_of_call (mkCx_ok del3 29 kp60 []) Tryz.func60 rfl rfl (Nat.le_of_ble_eq_true rfl) (by kernel_rfl) ?_
    rw [Tryz.results60]
    unfold rangesE
    by_cases h1 : (l.length : Int) = many
    · subst h1
      have hlm : l.length ≤ 99 := by omega
      rw [if_neg (by simp)]
      rcases first_is (fun s => vSpan s == 7) l with ⟨e1, hall⟩ | ⟨k, hk, e1, hbad, hgood⟩
      · have e2 : (if l.any (fun s => vSpan s == 2) then (2 : Int) else 0) = worstK l l.length := by unfold worstK; rw [List.take_length]
        rw [e1, e2]
        simp [kp60, rSpn_k]
        (generalize hLoopQ : Cx.loop _ _ _ = rLoopQ; apply loop_then hLoopQ (fun k => ⟨[(0, .d (.sl 2 (l.map rSpn.enc))), (1, .d (DI l.length)), (5, .d (DI (worstK l k))), (6, .d (DI k))], [], [], []⟩) l.length rfl; rotate_left; (show _ < 281474976710656; omega); rfl; rotate_left; all_goals clear hLoopQ)
        · intro j hj
          have w1 := wrap_small ((j : Int) + 1) (by omega) (by omega)
          have hjl : (j : Int) < l.length := by omega
          have hn : ¬ vSpan l[j] = 7 := by have := hall j hj; simpa using this
          have hw := worstK_succ hj
          have hv : spanE l[j] 0 100000 = vSpan l[j] := rfl
          rcases vSpan_cases l[j] with h | h | h
          · rw [h] at hv hw
            simp [kp60, l3, s85, rSpn_enc, rSpn_dec, hj, hjl, hv, hw, w1]
          · rw [h] at hv hw
            simp [kp60, l3, s85, rSpn_enc, rSpn_dec, hj, hjl, hv, hw, w1]
          · exact absurd h hn
        · simp [kp60]
      · rw [e1]
        simp [kp60, rSpn_k]
        (generalize hLoopQ : Cx.loop _ _ _ = rLoopQ; apply loop_then hLoopQ (fun k => ⟨[(0, .d (.sl 2 (l.map rSpn.enc))), (1, .d (DI l.length)), (5, .d (DI (worstK l k))), (6, .d (DI k))], [], [], []⟩) k rfl; rotate_left; (show _ < 281474976710656; omega); rfl; rotate_left; all_goals clear hLoopQ)
        · intro j hj'
          have hj : j < l.length := by omega
          have w1 := wrap_small ((j : Int) + 1) (by omega) (by omega)
          have hjl : (j : Int) < l.length := by omega
          have hn : ¬ vSpan l[j] = 7 := by have := hgood j hj hj'; simpa using this
          have hw := worstK_succ hj
          have hv : spanE l[j] 0 100000 = vSpan l[j] := rfl
          rcases vSpan_cases l[j] with h | h | h
          · rw [h] at hv hw
            simp [kp60, l3, s85, rSpn_enc, rSpn_dec, hj, hjl, hv, hw, w1]
          · rw [h] at hv hw
            simp [kp60, l3, s85, rSpn_enc, rSpn_dec, hj, hjl, hv, hw, w1]
          · exact absurd h hn
        · have hkl : (k : Int) < l.length := by omega
          have hv : spanE l[k] 0 100000 = 7 := by have : vSpan l[k] = 7 := by simpa using hbad
                                                  exact this
          simp [kp60, l3, s85, rSpn_enc, rSpn_dec, hk, hkl, hv]
    · rw [if_pos h1]
      have h1' : ((l.length : Int) != many) = true := by simpa using h1
      simp [kp60, rSpn_k, h1']
  · cases hr
theorem call60 (xs : Array Value) (w : World) : (callFunc 60 xs).run Tryz.prog w = .ok (.enter 60 xs) w := by kernel_rfl
def l4 : List (Nat × (List D → Option D)) := (60, s60) :: (59, s59) :: l1
theorem del4 : DelOk Tryz.prog (delOf l4) := del_cons (del_cons del1 call59 ok59) call60 ok60
theorem names_succ {α : Type} (f : α → ByteArray) {l : List α} {j : Nat} (h : j < l.length) : (l.take (j + 1)).map f = (l.take j).map f ++ [f l[j]] := by
  rw [List.take_succ_eq_append_getElem h, List.map_append]; rfl
end Go.Proofs.YtkldmnladkcfeaaGreatDoor
namespace Go.Proofs.YtkldmnladkcfeaaGreatDoor
open Go.RowKit
set_option linter.unusedSimpArgs false
set_option linter.unusedVariables false
def nmP (x : Tbl) (j : Nat) : List ByteArray := (x.props.take j).map (·.name)
def nmK (x : Tbl) (j : Nat) : List ByteArray := (x.kinds.take j).map (·.name)
theorem nmP_len {x : Tbl} {j : Nat} (h : j ≤ x.props.length) : (nmP x j).length = j := by simp [nmP]; omega
theorem nmK_len {x : Tbl} {j : Nat} (h : j ≤ x.kinds.length) : (nmK x j).length = j := by simp [nmK]; omega
theorem nmP_succ {x : Tbl} {j : Nat} (h : j < x.props.length) : nmP x (j + 1) = nmP x j ++ [x.props[j].name] := names_succ _ h
theorem nmK_succ {x : Tbl} {j : Nat} (h : j < x.kinds.length) : nmK x (j + 1) = nmK x j ++ [x.kinds[j].name] := names_succ _ h
theorem prpE_zero {x : Tbl} {i : Nat} {p : Prp} (h : prpE x i p = 0) : namedE p.name (nmP x i) = 0 ∧ inR p.err 0 10000 = true := by
  unfold prpE at h
  split at h
  · rename_i h1
    refine ⟨h1, ?_⟩
    cases h2 : inR p.err 0 10000
    · rw [h2] at h; simp at h
    · rfl
  · rename_i h1; exact absurd h h1
theorem prpE_bad {x : Tbl} {i : Nat} {p : Prp} (h : ¬ prpE x i p = 0) : (namedE p.name (nmP x i) = 0 ∧ inR p.err 0 10000 = false ∧ prpE x i p = 7) ∨ (¬ namedE p.name (nmP x i) = 0 ∧ prpE x i p = namedE p.name (nmP x i)) := by
  unfold prpE at h ⊢
  by_cases h1 : namedE p.name (nmP x i) = 0
  · left
    have h1' : namedE p.name ((x.props.take i).map (·.name)) = 0 := h1
    rw [if_pos h1'] at h ⊢
    cases h2 : inR p.err 0 10000
    · simp [h1]
    · rw [h2] at h; simp at h
  · right
    have h1' : ¬ namedE p.name ((x.props.take i).map (·.name)) = 0 := h1
    rw [if_neg h1']
    exact ⟨h1, rfl⟩
theorem kndE_zero {x : Tbl} {i : Nat} {k : Knd} (h : kndE x i k = 0) : namedE k.name (nmK x i) = 0 ∧ rangesE k.props x.props.length = 0 := by
  unfold kndE at h
  split at h
  · rename_i h1; exact ⟨h1, h⟩
  · rename_i h1; exact absurd h h1
theorem kndE_bad {x : Tbl} {i : Nat} {k : Knd} (h : ¬ kndE x i k = 0) : (namedE k.name (nmK x i) = 0 ∧ kndE x i k = rangesE k.props x.props.length ∧ ¬ rangesE k.props x.props.length = 0) ∨ (¬ namedE k.name (nmK x i) = 0 ∧ kndE x i k = namedE k.name (nmK x i)) := by
  by_cases h1 : namedE k.name (nmK x i) = 0
  · left
    have h1' : namedE k.name ((x.kinds.take i).map (·.name)) = 0 := h1
    have e : kndE x i k = rangesE k.props x.props.length := by unfold kndE; rw [if_pos h1']
    exact ⟨h1, e, by rw [← e]; exact h⟩
  · right
    have h1' : ¬ namedE k.name ((x.kinds.take i).map (·.name)) = 0 := h1
    exact ⟨h1, by unfold kndE; rw [if_neg h1']; rfl⟩
theorem nePos {n : Int} (h : ¬ n = 0) : (n != 0) = true := by simpa using h
theorem eqNeg {n : Int} (h : ¬ n = 0) : (n == 0) = false := by simpa using h
def kindsLim (x : Tbl) : Prop := ∀ k ∈ x.kinds, k.props.length < 1000000
instance (x : Tbl) : Decidable (kindsLim x) := inferInstanceAs (Decidable (∀ k ∈ x.kinds, _))
def s17 : List D → Option D := sp1 (cAgg rTbl) (cTup3 cInt cInt cInt) fun x => some (chk x)
set_option maxHeartbeats 4000000 in
theorem ok17 : ∀ ds d, s17 ds = some d → PureC Tryz.prog 17 ds d := ok_sp1 fun x r hr => by
  cases hr
  refine pure_of_call (mkCx_ok del4 106 kp17 []) Tryz.func17 rfl rfl (Nat.le_of_ble_eq_true rfl) (by kernel_rfl) ?_
  rw [Tryz.results17]
  unfold chk
  cases h1 : inR x.props.length 1 5
  · simp [kp17, rTbl_enc, rPrp_k, rKnd_k, l4, l1, s58, h1]
  cases h2 : inR x.kinds.length 1 8
  · simp [kp17, rTbl_enc, rPrp_k, rKnd_k, l4, l1, s58, h1, h2]
  cases h3 : inR x.purity 1 1000
  · simp [kp17, rTbl_enc, rPrp_k, rKnd_k, l4, l1, s58, h1, h2, h3]
  have hp := inR_iff.1 h1
  have hk := inR_iff.1 h2
  have hp99 : (x.props.length : Int) ≤ 99 := by omega
  rcases findI_cases (prpE x) x.props with ⟨e1, hall⟩ | ⟨k, hk1, e1, hbad, hgood⟩
  · rw [e1]
    rcases findI_cases (kndE x) x.kinds with ⟨e2, hall2⟩ | ⟨k, hk2, e2, hbad, hgood⟩
    · rw [e2]
      simp [kp17, rTbl_enc, rPrp_k, rKnd_k, l4, l1, s58, h1, h2, h3]
      (generalize hLoopQ : Cx.loop _ _ _ = rLoopQ; apply loop_then hLoopQ (fun k => ⟨[(1, .loc 1 0), (5, .sl 1 ((nmP x k).map rStr.enc) (.tok 5)), (6, .d (DI k))], [(1, [.d (.sl 2 (x.props.map rPrp.enc)), .d (.sl 2 (x.kinds.map rKnd.enc)), .d (DI x.purity)])], [5], []⟩) x.props.length rfl; rotate_left; (show _ < 281474976710656; omega); rfl; rotate_left; all_goals clear hLoopQ)
      · intro j hj0
        have hj : j < x.props.length := by omega
        have w1 := wrap_small ((j : Int) + 1) (by omega) (by omega)
        have hjl : (j : Int) < x.props.length := by omega
        obtain ⟨q1, q2⟩ := prpE_zero (hall j hj)
        have hlen := nmP_len (x := x) (j := j) (by omega)
        have c1 : j + 1 ≤ 140737488355328 := by omega
        have c2 : (j + 1) * 16 ≤ 140737488355328 := by omega
        have c3 : j < 1000000 := by omega
        rw [nmP_succ hj]
        generalize nmP x j = NL at *
        simp [kp17, l4, l1, s58, s59, rStr_enc, rStr_decL, rPrp_enc, hj, hjl, hlen, q1, q2, w1, c1, c2, c3]
      · simp [kp17]
        (generalize hLoopQ : Cx.loop _ _ _ = rLoopQ; apply loop_then hLoopQ (fun k => ⟨[(1, .loc 1 0), (5, .sl 1 ((nmK x k).map rStr.enc) (.tok 5)), (8, .d (DI k))], [(1, [.d (.sl 2 (x.props.map rPrp.enc)), .d (.sl 2 (x.kinds.map rKnd.enc)), .d (DI x.purity)])], [5], []⟩) x.kinds.length rfl; rotate_left; (show _ < 281474976710656; omega); rfl; rotate_left; all_goals clear hLoopQ)
        · intro j hj0
          have hj : j < x.kinds.length := by omega
          have w1 := wrap_small ((j : Int) + 1) (by omega) (by omega)
          have hjl : (j : Int) < x.kinds.length := by omega
          obtain ⟨q1, q2⟩ := kndE_zero (hall2 j hj)
          have hlen := nmK_len (x := x) (j := j) (by omega)
          have c1 : j + 1 ≤ 140737488355328 := by omega
          have c2 : (j + 1) * 16 ≤ 140737488355328 := by omega
          have c3 : j < 1000000 := by omega
          rw [nmK_succ hj]
          generalize nmK x j = NL at *
          simp [kp17, l4, l1, s58, s59, s60, rStr_enc, rStr_decL, rKnd_enc, rSpn_decL, hj, hjl, hlen, q1, q2, w1, c1, c2, c3, hp99]
        · simp [kp17]
    · rw [e2]
      simp [kp17, rTbl_enc, rPrp_k, rKnd_k, l4, l1, s58, h1, h2, h3, hbad]
      (generalize hLoopQ : Cx.loop _ _ _ = rLoopQ; apply loop_then hLoopQ (fun k => ⟨[(1, .loc 1 0), (5, .sl 1 ((nmP x k).map rStr.enc) (.tok 5)), (6, .d (DI k))], [(1, [.d (.sl 2 (x.props.map rPrp.enc)), .d (.sl 2 (x.kinds.map rKnd.enc)), .d (DI x.purity)])], [5], []⟩) x.props.length rfl; rotate_left; (show _ < 281474976710656; omega); rfl; rotate_left; all_goals clear hLoopQ)
      · intro j hj0
        have hj : j < x.props.length := by omega
        have w1 := wrap_small ((j : Int) + 1) (by omega) (by omega)
        have hjl : (j : Int) < x.props.length := by omega
        obtain ⟨q1, q2⟩ := prpE_zero (hall j hj)
        have hlen := nmP_len (x := x) (j := j) (by omega)
        have c1 : j + 1 ≤ 140737488355328 := by omega
        have c2 : (j + 1) * 16 ≤ 140737488355328 := by omega
        have c3 : j < 1000000 := by omega
        rw [nmP_succ hj]
        generalize nmP x j = NL at *
        simp [kp17, l4, l1, s58, s59, rStr_enc, rStr_decL, rPrp_enc, hj, hjl, hlen, q1, q2, w1, c1, c2, c3]
      · simp [kp17]
        (generalize hLoopQ : Cx.loop _ _ _ = rLoopQ; apply loop_then hLoopQ (fun k => ⟨[(1, .loc 1 0), (5, .sl 1 ((nmK x k).map rStr.enc) (.tok 5)), (8, .d (DI k))], [(1, [.d (.sl 2 (x.props.map rPrp.enc)), .d (.sl 2 (x.kinds.map rKnd.enc)), .d (DI x.purity)])], [5], []⟩) k rfl; rotate_left; (show _ < 281474976710656; omega); rfl; rotate_left; all_goals clear hLoopQ)
        · intro j hj0
          have hj : j < x.kinds.length := by omega
          have w1 := wrap_small ((j : Int) + 1) (by omega) (by omega)
          have hjl : (j : Int) < x.kinds.length := by omega
          obtain ⟨q1, q2⟩ := kndE_zero (hgood j hj hj0)
          have hlen := nmK_len (x := x) (j := j) (by omega)
          have c1 : j + 1 ≤ 140737488355328 := by omega
          have c2 : (j + 1) * 16 ≤ 140737488355328 := by omega
          have c3 : j < 1000000 := by omega
          rw [nmK_succ hj]
          generalize nmK x j = NL at *
          simp [kp17, l4, l1, s58, s59, s60, rStr_enc, rStr_decL, rKnd_enc, rSpn_decL, hj, hjl, hlen, q1, q2, w1, c1, c2, c3, hp99]
        · have hkl : (k : Int) < x.kinds.length := by omega
          have hlen := nmK_len (x := x) (j := k) (by omega)
          have c3 : k < 1000000 := by omega
          rcases kndE_bad hbad with ⟨q1, q2, q3⟩ | ⟨q1, q2⟩
          · rw [q2]
            have q4 := nePos q3
            generalize nmK x k = NL at *
            simp [kp17, l4, l1, s58, s59, s60, rStr_enc, rStr_decL, rKnd_enc, rSpn_decL, hk2, hkl, hlen, q1, q4, c3, hp99]
          · rw [q2]
            have q3 := nePos q1
            have q4 := eqNeg q1
            generalize nmK x k = NL at *
            simp [kp17, l4, l1, s58, s59, s60, rStr_enc, rStr_decL, rKnd_enc, rSpn_decL, hk2, hkl, hlen, q3, q4, c3, hp99]
  · rw [e1]
    simp [kp17, rTbl_enc, rPrp_k, rKnd_k, l4, l1, s58, h1, h2, h3, hbad]
    (generalize hLoopQ : Cx.loop _ _ _ = rLoopQ; apply loop_then hLoopQ (fun k => ⟨[(1, .loc 1 0), (5, .sl 1 ((nmP x k).map rStr.enc) (.tok 5)), (6, .d (DI k))], [(1, [.d (.sl 2 (x.props.map rPrp.enc)), .d (.sl 2 (x.kinds.map rKnd.enc)), .d (DI x.purity)])], [5], []⟩) k rfl; rotate_left; (show _ < 281474976710656; omega); rfl; rotate_left; all_goals clear hLoopQ)
    · intro j hj0
      have hj : j < x.props.length := by omega
      have w1 := wrap_small ((j : Int) + 1) (by omega) (by omega)
      have hjl : (j : Int) < x.props.length := by omega
      obtain ⟨q1, q2⟩ := prpE_zero (hgood j hj hj0)
      have hlen := nmP_len (x := x) (j := j) (by omega)
      have c1 : j + 1 ≤ 140737488355328 := by omega
      have c2 : (j + 1) * 16 ≤ 140737488355328 := by omega
      have c3 : j < 1000000 := by omega
      rw [nmP_succ hj]
      generalize nmP x j = NL at *
      simp [kp17, l4, l1, s58, s59, rStr_enc, rStr_decL, rPrp_enc, hj, hjl, hlen, q1, q2, w1, c1, c2, c3]
    · have hkl : (k : Int) < x.props.length := by omega
      have hlen := nmP_len (x := x) (j := k) (by omega)
      have c3 : k < 1000000 := by omega
      rcases prpE_bad hbad with ⟨q1, q2, q3⟩ | ⟨q1, q2⟩
      · rw [q3]
        generalize nmP x k = NL at *
        simp [kp17, l4, l1, s58, s59, rStr_enc, rStr_decL, rPrp_enc, hk1, hkl, hlen, q1, q2, c3]
      · rw [q2]
        have q3 := nePos q1
        have q4 := eqNeg q1
        generalize nmP x k = NL at *
        simp [kp17, l4, l1, s58, s59, rStr_enc, rStr_decL, rPrp_enc, hk1, hkl, hlen, q3, q4, c3]
theorem call17 (xs : Array Value) (w : World) : (callFunc 17 xs).run Tryz.prog w = .ok (.enter 17 xs) w := by kernel_rfl
end Go.Proofs.YtkldmnladkcfeaaGreatDoor
namespace Go.Proofs.YtkldmnladkcfeaaGreatDoor
open Go.RowKit
set_option linter.unusedSimpArgs false
set_option linter.unusedVariables false
def kp47 (r : Nat) : List (Nat × Option Nat) := match r with
  | 0 => [(1, none), (2, none), (3, none), (4, none), (5, none), (10, none)]
  | 1 => [(4, none), (10, none), (11, none), (12, none)]
  | 2 => [(10, none)]
  | _ => []
def kp41 (r : Nat) : List (Nat × Option Nat) := match r with
  | 0 => [(1, none), (2, none), (3, none), (4, none), (5, none)]
  | 1 => [(1, none), (2, none), (3, none), (4, none), (5, none), (11, none)]
  | 2 => [(1, none), (2, none), (3, none), (4, none), (5, none), (11, none), (17, none)]
  | 3 => [(1, none), (2, none), (3, none), (4, none), (5, none), (11, none)]
  | 4 => [(1, none), (2, none), (3, none), (4, none), (5, none), (11, none), (24, none)]
  | 5 => [(1, none), (2, none), (3, none), (4, none), (5, none), (11, none), (12, none), (13, none)]
  | 6 => [(1, none), (2, none), (3, none), (4, none), (5, none), (11, none), (58, none)]
  | 7 => [(10, none)]
  | 8 => [(10, none)]
  | _ => []
def kp46 (r : Nat) : List (Nat × Option Nat) := match r with
  | 0 => [(1, none), (2, none), (3, none), (4, none), (5, none), (6, none), (12, none)]
  | 1 => [(1, none), (2, none), (3, none), (4, none), (5, none), (6, none), (12, none), (14, none)]
  | 2 => [(1, none), (2, none), (3, none), (4, none), (5, none), (6, none), (12, none), (14, none), (15, none)]
  | 3 => [(1, none), (2, none), (3, none), (5, none), (6, none), (12, none), (14, none), (15, none), (16, none)]
  | 4 => [(1, none), (2, none), (3, none), (5, none), (6, none), (12, none), (14, none), (15, none), (16, none), (20, none)]
  | 5 => [(1, none), (2, none), (3, none), (5, none), (6, none), (12, none), (14, none), (15, none), (16, none)]
  | 6 => [(1, none), (2, none), (3, none), (5, none), (6, none), (12, none), (14, none), (15, none), (16, none), (28, none)]
  | 7 => [(1, none), (2, none), (3, none), (5, none), (6, none), (12, none), (14, none), (16, none), (30, none)]
  | 8 => [(1, none), (2, none), (3, none), (5, none), (6, none), (12, none), (14, none), (16, none)]
  | 9 => [(1, none), (2, none), (3, none), (5, none), (6, none), (12, none), (14, none), (15, none), (16, none)]
  | 10 => [(12, none), (13, none)]
  | _ => []
structure Fine (x : Tbl) : Prop where
  p1 : 1 ≤ x.props.length
  p5 : x.props.length ≤ 5
  k1 : 1 ≤ x.kinds.length
  k8 : x.kinds.length ≤ 8
  u1 : 1 ≤ x.purity
  u2 : x.purity ≤ 1000
  pr : ∀ p (h : p < x.props.length), prpE x p x.props[p] = 0
  kn : ∀ k (h : k < x.kinds.length), kndE x k x.kinds[k] = 0
theorem fine_of {x : Tbl} (h : okT x) : Fine x := by
  unfold okT chk at h
  split at h
  · simp at h
  rename_i h1
  split at h
  · simp at h
  rename_i h2
  split at h
  · rename_i h3; exact absurd h h3
  rename_i h3
  split at h
  · rename_i h4; exact absurd h h4
  rename_i h4
  have a1 : inR x.props.length 1 5 = true := by
    cases q : inR x.props.length 1 5 with
    | true => rfl
    | false => exact absurd (.inl q) h1
  have a2 : inR x.kinds.length 1 8 = true := by
    cases q : inR x.kinds.length 1 8 with
    | true => rfl
    | false => exact absurd (.inr q) h1
  have a3 : inR x.purity 1 1000 = true := by
    cases q : inR x.purity 1 1000 with
    | true => rfl
    | false => exact absurd q h2
  have a1 := inR_iff.1 a1
  have a2 := inR_iff.1 a2
  have a3 := inR_iff.1 a3
  refine ⟨by omega, by omega, by omega, by omega, a3.1, a3.2, ?_, ?_⟩
  · rcases findI_cases (prpE x) x.props with ⟨_, hall⟩ | ⟨k, hk, e, hbad, _⟩
    · exact hall
    · rw [e] at h3; exact absurd hbad (by simpa using h3)
  · rcases findI_cases (kndE x) x.kinds with ⟨_, hall⟩ | ⟨k, hk, e, hbad, _⟩
    · exact hall
    · rw [e] at h4; exact absurd hbad (by simpa using h4)
theorem ranges_zero {l : List Spn} {n : Int} (h : rangesE l n = 0) : (l.length : Int) = n ∧ ∀ s ∈ l, 0 ≤ s.lo ∧ s.lo ≤ s.hi ∧ s.hi ≤ 100000 := by
  unfold rangesE at h
  split at h
  · simp at h
  rename_i h1
  split at h
  · simp at h
  rename_i h2
  split at h
  · simp at h
  rename_i h3
  refine ⟨by omega, fun s hs => ?_⟩
  have a : ¬ vSpan s = 7 := fun e => h2 (List.any_eq_true.2 ⟨s, hs, by simpa using e⟩)
  have b : ¬ vSpan s = 2 := fun e => h3 (List.any_eq_true.2 ⟨s, hs, by simpa using e⟩)
  unfold vSpan spanE at a b
  split at a
  · exact absurd rfl a
  · rename_i h4
    rw [if_neg h4] at b
    simp only [Bool.or_eq_true, Bool.not_eq_true', not_or, Bool.not_eq_false] at h4
    have q1 := inR_iff.1 h4.1
    have q2 := inR_iff.1 h4.2
    split at b
    · exact absurd rfl b
    · omega
theorem Fine.span {x : Tbl} (f : Fine x) (k : Nat) (hk : k < x.kinds.length) : x.kinds[k].props.length = x.props.length ∧ ∀ s ∈ x.kinds[k].props, 0 ≤ s.lo ∧ s.lo ≤ s.hi ∧ s.hi ≤ 100000 := by
  obtain ⟨h1, h2⟩ := ranges_zero (kndE_zero (f.kn k hk)).2
  exact ⟨by omega, h2⟩
theorem Fine.err {x : Tbl} (f : Fine x) (p : Nat) (hp : p < x.props.length) : 0 ≤ x.props[p].err ∧ x.props[p].err ≤ 10000 := inR_iff.1 (prpE_zero (f.pr p hp)).2
def kdOk (x : Tbl) (a : Int) : Prop := 0 ≤ a ∧ a < x.kinds.length
instance (x : Tbl) (a : Int) : Decidable (kdOk x a) := inferInstanceAs (Decidable (_ ∧ _))
def ppOk (x : Tbl) (a : Int) : Prop := 0 ≤ a ∧ a < x.props.length
instance (x : Tbl) (a : Int) : Decidable (ppOk x a) := inferInstanceAs (Decidable (_ ∧ _))
def ptOk (n : Int) : Prop := 0 ≤ n ∧ n ≤ 1000
instance (n : Int) : Decidable (ptOk n) := inferInstanceAs (Decidable (_ ∧ _))
def okR (x : Tbl) (l : List Int) : Prop := readE x l = 0
instance (x : Tbl) (l : List Int) : Decidable (okR x l) := inferInstanceAs (Decidable (_ = _))
theorem okR_of {x : Tbl} {l : List Int} (h : okR x l) : okT x ∧ l.length = x.props.length ∧ ∀ p (hp : p < l.length), l[p] = -1 ∨ (0 ≤ l[p] ∧ l[p] ≤ 100000) := by
  unfold okR readE at h
  split at h
  · rename_i h1; exact absurd h h1
  rename_i h1
  split at h
  · simp at h
  rename_i h2
  split at h
  · simp at h
  rename_i h3
  refine ⟨by unfold okT; omega, by omega, fun p hp => ?_⟩
  have hb : badR l[p] = false := by
    cases q : badR l[p] with
    | false => rfl
    | true => exact absurd (any_at badR hp q) h3
  unfold badR at hb
  by_cases e : l[p] = -1
  · exact .inl e
  · have e' : (l[p] == -1) = false := by simpa using e
    rw [e'] at hb
    simp only [Bool.not_false, Bool.true_and, Bool.not_eq_false'] at hb
    exact .inr (inR_iff.1 hb)
theorem okR_mk {x : Tbl} {l : List Int} (h : okT x) (h1 : l.length = x.props.length) (h2 : ∀ p (hp : p < l.length), l[p] = -1 ∨ (0 ≤ l[p] ∧ l[p] ≤ 100000)) : okR x l := by
  unfold okR readE
  have hb : l.any badR = false := any_not badR fun k hk => by
    unfold badR
    rcases h2 k hk with h | h
    · rw [h]; rfl
    · rw [inR_iff.2 h]; simp
  unfold okT at h
  rw [if_neg (by omega), if_neg (by omega), hb]; rfl
def rngV (x : Tbl) (k p : Nat) : Spn := (x.kinds.getD k default).props.getD p default
theorem rngV_at {x : Tbl} {k p : Nat} (hk : k < x.kinds.length) (hp : p < x.kinds[k].props.length) : rngV x k p = x.kinds[k].props[p] := by
  unfold rngV; rw [getD_at _ _ _ hk, getD_at _ _ _ hp]
theorem Fine.rng {x : Tbl} (f : Fine x) {k p : Nat} (hk : k < x.kinds.length) (hp : p < x.props.length) : ∃ h : p < x.kinds[k].props.length, x.kinds[k].props[p] = rngV x k p ∧ 0 ≤ (rngV x k p).lo ∧ (rngV x k p).lo ≤ (rngV x k p).hi ∧ (rngV x k p).hi ≤ 100000 := by
  obtain ⟨h1, h2⟩ := f.span k hk
  have hp' : p < x.kinds[k].props.length := by omega
  rw [rngV_at hk hp']
  exact ⟨hp', rfl, h2 _ (List.getElem_mem hp')⟩
def valV (x : Tbl) (p a b : Nat) (n : Int) : Spn := ⟨n * (rngV x a p).lo + (1000 - n) * (rngV x b p).lo, n * (rngV x a p).hi + (1000 - n) * (rngV x b p).hi⟩
theorem val_bd {x : Tbl} (f : Fine x) {p a b : Nat} {n : Int} (hp : p < x.props.length) (ha : a < x.kinds.length) (hb : b < x.kinds.length) (hn : ptOk n) :
    (0 ≤ n * (rngV x a p).lo ∧ n * (rngV x a p).lo ≤ 100000000) ∧ (0 ≤ (1000 - n) * (rngV x b p).lo ∧ (1000 - n) * (rngV x b p).lo ≤ 100000000) ∧ (0 ≤ n * (rngV x a p).hi ∧ n * (rngV x a p).hi ≤ 100000000) ∧ (0 ≤ (1000 - n) * (rngV x b p).hi ∧ (1000 - n) * (rngV x b p).hi ≤ 100000000) := by
  obtain ⟨_, _, a1, a2, a3⟩ := f.rng ha hp
  obtain ⟨_, _, b1, b2, b3⟩ := f.rng hb hp
  obtain ⟨n0, n1⟩ := hn
  have q1 := mul_bd n0 n1 a1 (show (rngV x a p).lo ≤ 100000 by omega)
  have q2 := mul_bd (show 0 ≤ 1000 - n by omega) (show 1000 - n ≤ 1000 by omega) b1 (show (rngV x b p).lo ≤ 100000 by omega)
  have q3 := mul_bd n0 n1 (show 0 ≤ (rngV x a p).hi by omega) a3
  have q4 := mul_bd (show 0 ≤ 1000 - n by omega) (show 1000 - n ≤ 1000 by omega) (show 0 ≤ (rngV x b p).hi by omega) b3
  omega
def df47 (r : Nat) : List (Nat × Nat) := if r = 1 then [(10, 20), (14, 20), (17, 20)] else []
def s47 : List D → Option D := sp5 (cAgg rTbl) cInt cInt cInt cInt (cAgg rSpn) fun x p a b n => if okT x ∧ ppOk x p ∧ kdOk x a ∧ kdOk x b ∧ ptOk n then some (valV x p.toNat a.toNat b.toNat n) else none
set_option maxHeartbeats 1000000 in
theorem ok47 : ∀ ds d, s47 ds = some d → PureC Tryz.prog 47 ds d := ok_sp5 fun x p a b n r hr => by
  split at hr
  · rename_i hc
    cases hr
    obtain ⟨h0, ⟨p0, p1⟩, ⟨a0, a1⟩, ⟨b0, b1⟩, hn⟩ := hc
    obtain ⟨P, rfl⟩ : ∃ P : Nat, p = P := ⟨p.toNat, by omega⟩
    obtain ⟨A, rfl⟩ : ∃ A : Nat, a = A := ⟨a.toNat, by omega⟩
    obtain ⟨B, rfl⟩ : ∃ B : Nat, b = B := ⟨b.toNat, by omega⟩
    simp only [Int.toNat_natCast]
    have f := fine_of h0
    have hp : P < x.props.length := by omega
    have ha : A < x.kinds.length := by omega
    have hb : B < x.kinds.length := by omega
    obtain ⟨hpa, ea, _⟩ := f.rng ha hp
    obtain ⟨hpb, eb, _⟩ := f.rng hb hp
    obtain ⟨q1, q2, q3, q4⟩ := val_bd f hp ha hb hn
    have hpaI : (P : Int) < x.kinds[A].props.length := by omega
    have hpbI : (P : Int) < x.kinds[B].props.length := by omega
    have w1 := wrap_small (1000 - n) (by have := hn.1; have := hn.2; omega) (by have := hn.1; omega)
    have w2 := wrap_small _ (show -9223372036854775808 ≤ n * (rngV x A P).lo by omega) (by omega)
    have w3 := wrap_small _ (show -9223372036854775808 ≤ (1000 - n) * (rngV x B P).lo by omega) (by omega)
    have w4 := wrap_small _ (show -9223372036854775808 ≤ n * (rngV x A P).hi by omega) (by omega)
    have w5 := wrap_small _ (show -9223372036854775808 ≤ (1000 - n) * (rngV x B P).hi by omega) (by omega)
    have w6 := wrap_small _ (show -9223372036854775808 ≤ n * (rngV x A P).lo + (1000 - n) * (rngV x B P).lo by omega) (by omega)
    have w7 := wrap_small _ (show -9223372036854775808 ≤ n * (rngV x A P).hi + (1000 - n) * (rngV x B P).hi by omega) (by omega)
    refine pure_of_call (mkCxE_ok del_nil eff_nil keys_nil (sq := []) (fun _ _ _ h => by cases h) 52 kp47 [] df47 (fun _ => 0)) Tryz.func47 rfl rfl (Nat.le_of_ble_eq_true rfl) (by kernel_rfl) ?_
    rw [Tryz.results47]
    unfold valV
    simp [kp47, df47, rTbl_enc, rKnd_enc, rSpn_enc, rKnd_k, rSpn_k, hp, ha, hb, p1, a1, b1, hpa, hpb, hpaI, hpbI, ea, eb, w1, w2, w3, w4, w5, w6, w7]
  · cases hr
theorem call47 (xs : Array Value) (w : World) : (callFunc 47 xs).run Tryz.prog w = .ok (.enter 47 xs) w := by kernel_rfl
def sp6 {α β γ δ ε ζ ρ : Type} (A : Cod α) (B : Cod β) (C : Cod γ) (E : Cod δ) (G : Cod ε) (H : Cod ζ) (R : Cod ρ) (f : α → β → γ → δ → ε → ζ → Option ρ) : List D → Option D
  | [a, b, c, e, g, h] => match A.dec a, B.dec b, C.dec c, E.dec e, G.dec g, H.dec h with | some x, some y, some z, some u, some v, some w => (f x y z u v w).map R.enc | _, _, _, _, _, _ => none
  | _ => none
attribute [simp] sp6
theorem ok_sp6 {P : Program} {f : Nat} {α β γ δ ε ζ ρ : Type} {A : Cod α} {B : Cod β} {C : Cod γ} {E : Cod δ} {G : Cod ε} {H : Cod ζ} {R : Cod ρ} {F : α → β → γ → δ → ε → ζ → Option ρ} (h : ∀ x y z u v w r, F x y z u v w = some r → PureC P f [A.enc x, B.enc y, C.enc z, E.enc u, G.enc v, H.enc w] (R.enc r)) : ∀ ds d, sp6 A B C E G H R F ds = some d → PureC P f ds d := by
  intro ds d hd
  unfold sp6 at hd
  split at hd
  · split at hd
    · rename_i x y z u v w hx hy hz hu hv hw
      obtain ⟨r, hr, rfl⟩ := Option.map_eq_some_iff.1 hd
      exact (h x y z u v w r hr).imp ⟨_, _, rfl, A.ed _ _ hx, _, _, rfl, B.ed _ _ hy, _, _, rfl, C.ed _ _ hz, _, _, rfl, E.ed _ _ hu, _, _, rfl, G.ed _ _ hv, _, _, rfl, H.ed _ _ hw, rfl⟩
    · cases hd
  · cases hd
def errV (x : Tbl) (p : Nat) : Int := (x.props.getD p default).err
def explAt (x : Tbl) (a b : Nat) (n : Int) (p : Nat) (v : Int) : Bool := v == -1 || !(decide (1000 * (v + errV x p) < (valV x p a b n).lo) || decide ((valV x p a b n).hi < 1000 * (v - errV x p)))
def explB (x : Tbl) (l : List Int) (a b : Nat) (n : Int) : Bool := (List.range l.length).all fun p => explAt x a b n p (l.getD p 0)
theorem explB_iff {x : Tbl} {l : List Int} {a b : Nat} {n : Int} : explB x l a b n = true ↔ ∀ p, p < l.length → explAt x a b n p (l.getD p 0) = true := by
  unfold explB
  rw [List.all_eq_true]
  exact ⟨fun h p hp => h p (List.mem_range.2 hp), fun h p hp => h p (List.mem_range.1 hp)⟩
def df41 (r : Nat) : List (Nat × Nat) := if r = 5 then [(7, 13), (11, 13)] else []
def g41 : List (Nat × (List D → Option D)) := [(47, s47)]
theorem dg41 : DelOk Tryz.prog (delOf g41) := del_cons del_nil call47 ok47
def s41 : List D → Option D := sp5 (cAgg rTbl) (cList rInt) cInt cInt cInt cBool fun x l a b n => if okR x l ∧ kdOk x a ∧ kdOk x b ∧ ptOk n then some (explB x l a.toNat b.toNat n) else none
set_option maxHeartbeats 4000000 in
theorem ok41 : ∀ ds d, s41 ds = some d → PureC Tryz.prog 41 ds d := ok_sp5 fun x l a b n r hr => by
  split at hr
  · rename_i hc
    cases hr
    obtain ⟨h0, ⟨a0, a1⟩, ⟨b0, b1⟩, hn⟩ := hc
    obtain ⟨A, rfl⟩ : ∃ A : Nat, a = A := ⟨a.toNat, by omega⟩
    obtain ⟨B, rfl⟩ : ∃ B : Nat, b = B := ⟨b.toNat, by omega⟩
    simp only [Int.toNat_natCast]
    obtain ⟨hT, hll, hlv⟩ := okR_of h0
    have f := fine_of hT
    have ha : A < x.kinds.length := by omega
    have hb : B < x.kinds.length := by omega
    have k1 : kdOk x A := ⟨a0, a1⟩
    have k2 : kdOk x B := ⟨b0, b1⟩
    have hp5 := f.p5
    refine pure_of_call (mkCxE_ok dg41 eff_nil keys_nil (sq := []) (fun _ _ _ h => by cases h) 59 kp41 [] df41 (fun _ => 0)) Tryz.func41 rfl rfl (Nat.le_of_ble_eq_true rfl) (by kernel_rfl) ?_
    rw [Tryz.results41]
    -- one round
    have round : ∀ j, j < l.length → ∀ e, explAt x A B n j (l.getD j 0) = e → ∃ hj : j < x.props.length, ((l[j]?.getD 0) == -1) = (l.getD j 0 == -1) ∧ (j : Int) < l.length ∧ (j : Int) < x.props.length ∧ ppOk x j ∧ x.props[j].err = errV x j ∧ (l.getD j 0 = -1 ∨ (0 ≤ l.getD j 0 ∧ l.getD j 0 ≤ 100000)) ∧ (0 ≤ errV x j ∧ errV x j ≤ 10000) := by
      intro j hj e he
      have hj' : j < x.props.length := by omega
      have e1 : x.props[j].err = errV x j := by unfold errV; rw [getD_at _ _ _ hj']
      refine ⟨hj', by simp [List.getD], by omega, by omega, ⟨by omega, by omega⟩, e1, ?_, ?_⟩
      · rw [getD_at _ _ _ hj]; exact hlv j hj
      · rw [← e1]; exact f.err j hj'
    have fin : ∀ b : Bool, explB x l A B n = b → True := fun _ _ => trivial
    rcases first_not (fun p => explAt x A B n p (l.getD p 0)) l.length with hall | ⟨k, hk, hbad, hgood⟩
    · have hr : explB x l A B n = true := explB_iff.2 hall
      rw [hr]
      simp [kp41, df41, rTbl_enc, rInt_k]
      (generalize hLoopQ : Cx.loop _ _ _ = rLoopQ; apply loop_then hLoopQ (fun k => ⟨[(1, .d (.sl 1 (l.map rInt.enc))), (2, .d (DI A)), (3, .d (DI B)), (4, .d (DI n)), (5, .loc 5 0), (11, .d (DI k))], [(5, [.d (.sl 2 (x.props.map rPrp.enc)), .d (.sl 2 (x.kinds.map rKnd.enc)), .d (DI x.purity)])], [], []⟩) l.length rfl; rotate_left; (show _ < 281474976710656; omega); rfl; rotate_left; all_goals clear hLoopQ)
      · intro j hj
        obtain ⟨hjp, _, hjl, hjpl, hpp, he, hv, ee⟩ := round j hj _ rfl
        have w1 := wrap_small ((j : Int) + 1) (by omega) (by omega)
        have hx := hall j hj
        rw [getD_at _ _ _ hj] at hx hv
        have hgg : x.props[j].err = errV x j := he
        unfold explAt at hx
        simp only [Bool.or_eq_true, Bool.or_eq_false_iff, beq_iff_eq, beq_eq_false_iff_ne, Bool.not_eq_true', Bool.not_eq_false', decide_eq_false_iff_not, decide_eq_true_eq] at hx
        have w2 := wrap_small (l[j] + errV x j) (by omega) (by omega)
        have w3 := wrap_small (1000 * (l[j] + errV x j)) (by omega) (by omega)
        have w4 := wrap_small (l[j] - errV x j) (by omega) (by omega)
        have w5 := wrap_small (1000 * (l[j] - errV x j)) (by omega) (by omega)
        by_cases hm : l[j] = -1
        · simp [kp41, df41, hj, hjl, hm, w1]
        · have hm' : (l[j] == -1) = false := by simpa using hm
          obtain ⟨c1, c2⟩ := hx.resolve_left hm
          simp [kp41, df41, g41, s47, rTbl_dec, rPrp_enc, rSpn_enc, hT, hpp, k1, k2, hn, hj, hjl, hjp, hjpl, hm, hm', he, hgg, w1, w2, w3, w4, w5, c1, c2]
      · simp [kp41]
    · have hr : explB x l A B n = false := by
        cases q : explB x l A B n with
        | false => rfl
        | true => have := explB_iff.1 q k hk; rw [hbad] at this; cases this
      rw [hr]
      simp [kp41, df41, rTbl_enc, rInt_k]
      (generalize hLoopQ : Cx.loop _ _ _ = rLoopQ; apply loop_then hLoopQ (fun k => ⟨[(1, .d (.sl 1 (l.map rInt.enc))), (2, .d (DI A)), (3, .d (DI B)), (4, .d (DI n)), (5, .loc 5 0), (11, .d (DI k))], [(5, [.d (.sl 2 (x.props.map rPrp.enc)), .d (.sl 2 (x.kinds.map rKnd.enc)), .d (DI x.purity)])], [], []⟩) k rfl; rotate_left; (show _ < 281474976710656; omega); rfl; rotate_left; all_goals clear hLoopQ)
      · intro j hj0
        have hj : j < l.length := by omega
        obtain ⟨hjp, _, hjl, hjpl, hpp, he, hv, ee⟩ := round j hj _ rfl
        have w1 := wrap_small ((j : Int) + 1) (by omega) (by omega)
        have hx := hgood j hj0
        rw [getD_at _ _ _ hj] at hx hv
        have hgg : x.props[j].err = errV x j := he
        unfold explAt at hx
        simp only [Bool.or_eq_true, Bool.or_eq_false_iff, beq_iff_eq, beq_eq_false_iff_ne, Bool.not_eq_true', Bool.not_eq_false', decide_eq_false_iff_not, decide_eq_true_eq] at hx
        have w2 := wrap_small (l[j] + errV x j) (by omega) (by omega)
        have w3 := wrap_small (1000 * (l[j] + errV x j)) (by omega) (by omega)
        have w4 := wrap_small (l[j] - errV x j) (by omega) (by omega)
        have w5 := wrap_small (1000 * (l[j] - errV x j)) (by omega) (by omega)
        by_cases hm : l[j] = -1
        · simp [kp41, df41, hj, hjl, hm, w1]
        · have hm' : (l[j] == -1) = false := by simpa using hm
          obtain ⟨c1, c2⟩ := hx.resolve_left hm
          simp [kp41, df41, g41, s47, rTbl_dec, rPrp_enc, rSpn_enc, hT, hpp, k1, k2, hn, hj, hjl, hjp, hjpl, hm, hm', he, hgg, w1, w2, w3, w4, w5, c1, c2]
      · have hj := hk
        obtain ⟨hjp, _, hjl, hjpl, hpp, he, hv, ee⟩ := round k hj _ rfl
        have w1 := wrap_small ((k : Int) + 1) (by omega) (by omega)
        have hx := hbad
        rw [getD_at _ _ _ hj] at hx hv
        have hgg : x.props[k].err = errV x k := he
        unfold explAt at hx
        simp only [Bool.or_eq_true, Bool.or_eq_false_iff, beq_iff_eq, beq_eq_false_iff_ne, Bool.not_eq_true', Bool.not_eq_false', decide_eq_false_iff_not, decide_eq_true_eq] at hx
        have w2 := wrap_small (l[k] + errV x k) (by omega) (by omega)
        have w3 := wrap_small (1000 * (l[k] + errV x k)) (by omega) (by omega)
        have w4 := wrap_small (l[k] - errV x k) (by omega) (by omega)
        have w5 := wrap_small (1000 * (l[k] - errV x k)) (by omega) (by omega)
        have hne := hx.1
        by_cases hm : l[k] = -1
        · exact absurd hm hne
        · have hm' : (l[k] == -1) = false := by simpa using hm
          have c3 : ¬ 1000 * (l[k] + errV x k) < (valV x k A B n).lo → (valV x k A B n).hi < 1000 * (l[k] - errV x k) := fun q => hx.2.resolve_left q
          (by_cases hc1 : 1000 * (l[k] + errV x k) < (valV x k A B n).lo; (simp [kp41, df41, g41, s47, rTbl_dec, rPrp_enc, rSpn_enc, hT, hpp, k1, k2, hn, hk, hjl, hjp, hjpl, hm, hm', he, hgg, w2, w3, w4, w5, hc1]); (have c4 := c3 hc1; simp [kp41, df41, g41, s47, rTbl_dec, rPrp_enc, rSpn_enc, hT, hpp, k1, k2, hn, hk, hjl, hjp, hjpl, hm, hm', he, hgg, w2, w3, w4, w5, hc1, c4]))
  · cases hr
theorem call41 (xs : Array Value) (w : World) : (callFunc 41 xs).run Tryz.prog w = .ok (.enter 41 xs) w := by kernel_rfl
end Go.Proofs.YtkldmnladkcfeaaGreatDoor
