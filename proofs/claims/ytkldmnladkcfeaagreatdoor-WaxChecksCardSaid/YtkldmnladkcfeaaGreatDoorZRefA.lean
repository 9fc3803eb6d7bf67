/-
  Reference functions of the wax chapter: numbers, names, ranges, tables. Conditions: none.
-/
import Derived.Test.YtkldmnladkcfeaaGreatDoorZTys
namespace Go.Proofs.YtkldmnladkcfeaaGreatDoor
open Go.RowKit
set_option linter.unusedSimpArgs false
set_option linter.unusedVariables false
def kp58 (r : Nat) : List (Nat × Option Nat) := match r with
  | 0 => [(0, none), (1, none), (2, none)]
  | 1 => [(6, none)]
  | _ => []
def kp59 (r : Nat) : List (Nat × Option Nat) := match r with
  | 0 => [(0, none), (1, none)]
  | 1 => [(0, none), (1, none), (8, none)]
  | 2 => [(4, none)]
  | 3 => [(0, none), (1, none), (5, none)]
  | 4 => [(0, none), (1, none), (5, none), (12, none)]
  | 5 => [(0, none), (1, none), (5, none)]
  | 6 => [(0, none), (1, none), (5, none), (20, none)]
  | 7 => [(4, none)]
  | 8 => [(4, none)]
  | _ => []
def kp85 (r : Nat) : List (Nat × Option Nat) := match r with
  | 0 => [(1, none), (2, none), (3, none)]
  | 1 => [(3, none), (20, none)]
  | 2 => [(6, none)]
  | 3 => [(25, none)]
  | 4 => [(6, none)]
  | 5 => [(6, none)]
  | _ => []
def kp60 (r : Nat) : List (Nat × Option Nat) := match r with
  | 0 => [(0, none), (1, none)]
  | 1 => [(0, none), (1, none), (11, none)]
  | 2 => [(4, none)]
  | 3 => [(0, none), (1, none), (5, none)]
  | 4 => [(0, none), (1, none), (5, none), (6, none)]
  | 5 => [(0, none), (1, none), (5, none), (6, none), (14, none)]
  | 6 => [(0, none), (1, none), (5, none), (6, none)]
  | 7 => [(0, none), (1, none), (5, none), (6, none), (7, none)]
  | 8 => [(0, none), (1, none), (5, none), (6, none), (7, none), (23, none)]
  | 9 => [(4, none)]
  | 10 => [(0, none), (1, none), (5, none), (6, none), (7, none), (26, none)]
  | 11 => [(0, none), (1, none), (5, none), (6, none)]
  | 12 => [(4, none)]
  | _ => []
def kp17 (r : Nat) : List (Nat × Option Nat) := match r with
  | 0 => [(1, none)]
  | 1 => [(1, none), (21, none)]
  | 2 => [(2, none), (3, none), (4, none)]
  | 3 => [(1, none), (25, none)]
  | 4 => [(2, none), (3, none), (4, none)]
  | 5 => [(1, none), (5, some 1)]
  | 6 => [(1, none), (5, some 1), (6, none)]
  | 7 => [(1, none), (5, some 1), (6, none), (30, none)]
  | 8 => [(1, none), (5, some 1), (6, none)]
  | 9 => [(1, none), (5, some 1), (6, none), (7, none)]
  | 10 => [(1, none), (5, some 1), (6, none), (7, none), (52, none)]
  | 11 => [(1, none), (5, some 1), (6, none), (7, none)]
  | 12 => [(1, none), (5, some 1), (6, none), (7, none), (54, none)]
  | 13 => [(2, none), (3, none), (4, none)]
  | 14 => [(1, none), (5, some 1), (6, none)]
  | 15 => [(1, none), (5, some 1)]
  | 16 => [(1, none), (5, some 1), (8, none)]
  | 17 => [(1, none), (5, some 1), (8, none), (70, none)]
  | 18 => [(1, none), (5, some 1), (8, none)]
  | 19 => [(1, none), (5, some 1), (8, none), (9, none)]
  | 20 => [(1, none), (5, some 1), (8, none), (9, none), (82, none)]
  | 21 => [(1, none), (5, some 1), (8, none), (9, none)]
  | 22 => [(1, none), (5, some 1), (8, none), (9, none), (94, none)]
  | 23 => [(2, none), (3, none), (4, none)]
  | 24 => [(1, none), (5, some 1), (8, none)]
  | 25 => [(2, none), (3, none), (4, none)]
  | _ => []
def kp19 (r : Nat) : List (Nat × Option Nat) := match r with
  | 0 => [(0, none)]
  | 1 => [(0, none), (20, none)]
  | 2 => [(2, none)]
  | 3 => [(0, none), (3, none)]
  | 4 => [(0, none), (3, none), (24, none)]
  | 5 => [(0, none), (3, none)]
  | 6 => [(0, none), (3, none), (55, none)]
  | 7 => [(2, none)]
  | 8 => [(2, none)]
  | _ => []
def s58 : List D → Option D := sp3 cInt cInt cInt cBool fun n lo hi => some (inR n lo hi)
theorem ok58 : ∀ ds d, s58 ds = some d → PureC Tryz.prog 58 ds d := ok_sp3 fun n lo hi r hr => by
  cases hr
  refine pure_of_call (mkCx_ok del_nil 15 kp58 []) Tryz.func58 rfl rfl (Nat.le_of_ble_eq_true rfl) (by kernel_rfl) ?_
  rw [Tryz.results58]
  unfold inR
  by_cases h : lo ≤ n <;> simp [kp58, h]
theorem call58 (xs : Array Value) (w : World) : (callFunc 58 xs).run Tryz.prog w = .ok (.enter 58 xs) w := by kernel_rfl
def l1 : List (Nat × (List D → Option D)) := [(58, s58)]
theorem del1 : DelOk Tryz.prog (delOf l1) := del_cons del_nil call58 ok58
theorem byteAt_bd (s : ByteArray) (i : Nat) : 0 ≤ byteAt s i ∧ byteAt s i ≤ 255 := by
  unfold byteAt
  have := (s[i]?.getD 0).toNat_lt
  omega
def s19 : List D → Option D := sp1 cStr cBool fun s => some (refName s)
theorem ok19 : ∀ ds d, s19 ds = some d → PureC Tryz.prog 19 ds d := ok_sp1 fun s r hr => by
  cases hr
  refine pure_of_call (mkCx_ok del1 56 kp19 []) Tryz.func19 rfl rfl (Nat.le_of_ble_eq_true rfl) (by kernel_rfl) ?_
  rw [Tryz.results19]
  cases h1 : inR s.size 1 20 with
  | false => simp [kp19, refName, h1, l1, s58, ty9]
  | true =>
    have hs : 1 ≤ (s.size : Int) ∧ (s.size : Int) ≤ 20 := by simpa [inR] using h1
    have hsz : (0 : Int) < (s.size : Int) := by omega
    have hsz2 : 0 < s.size := by omega
    cases h2 : byteAt s 0 == 45 with
    | true => simp [kp19, refName, h1, h2, l1, s58, ty9, ty5, hsz, hsz2]
    | false =>
      have hw : IntKind.i64.wrap ((s.size : Int) - 1) = ((s.size - 1 : Nat) : Int) := by rw [wrap_small _ (by omega) (by omega)]; omega
      have hlt : ((s.size - 1 : Nat) : Int) < (s.size : Int) := by omega
      cases h3 : byteAt s (s.size - 1) == 45 with
      | true => simp [kp19, refName, h1, h2, h3, l1, s58, ty9, ty5, hsz, hsz2, hw, hlt]
      | false =>
        have hcase : ∀ k, (byteAt s k == 45) = false ∧ (inR (byteAt s k) 97 122 = nmAt s k) ∨ (byteAt s k == 45) = true ∧ k = 0 ∧ nmAt s k = true ∨ (byteAt s k == 45) = true ∧ 0 < k ∧ (byteAt s (k - 1) == 45) = !nmAt s k := by
          intro k
          unfold nmAt
          cases hb : byteAt s k == 45 with
          | false => left; simp
          | true =>
            right
            by_cases hk : k = 0
            · left; simp [hk]
            · right; simp; omega
        rcases first_not (nmAt s) s.size with hall | ⟨k, hk, hbad, hgood⟩
        · have hr : refName s = true := by simp [refName, h1, h2, h3]; exact hall
          rw [hr]
          simp [kp19, h1, h2, h3, l1, s58, ty9, ty5, hsz, hsz2, hw, hlt]
          generalize hL : Cx.loop _ _ _ = R
          have hR : R = some (.exit 0, ⟨[(0, .d (DS s)), (3, .d (DI s.size)), (24, .d (DB false))], [], [], []⟩) := by
            rw [← hL]
            refine loop_run (fun k => ⟨[(0, .d (DS s)), (3, .d (DI k))], [], [], []⟩) _ _ s.size (by simp) (fun j hj => ?_) ?_ (by simp only [mkCx, fuel]; omega)
            · have hj' : (j : Int) < (s.size : Int) := by omega
              have h2 := wrap_small ((j : Int) + 1) (by omega) (by omega)
              have hn := hall j hj
              have hbd := byteAt_bd s j
              have hwb := wrap_small (byteAt s j) (by omega) (by omega)
              rcases hcase j with ⟨c1, c2⟩ | ⟨c1, c2, c3⟩ | ⟨c1, c2, c3⟩
              · rw [hn] at c2
                by_cases hj0 : 0 < j
                · simp [kp19, ty9, ty5, ty3, hj, h2, c1, c2, hwb, l1, s58, hj0, bne]
                · simp [kp19, ty9, ty5, ty3, hj, h2, c1, c2, hwb, l1, s58, hj0, bne]
              · subst c2
                simp [kp19, ty9, ty5, ty3, hj, h2, c1, l1, s58, bne, hsz, hsz2]
              · rw [hn] at c3
                have hw1 : IntKind.i64.wrap ((j : Int) - 1) = ((j - 1 : Nat) : Int) := by rw [wrap_small _ (by omega) (by omega)]; omega
                have hlt1 : j - 1 < s.size := by omega
                simp [kp19, ty9, ty5, ty3, hj, h2, c1, c3, c2, l1, s58, bne, hw1, hlt1]
            · simp [kp19, ty9]
          rw [hR]
          simp [kp19]
        · have hr : refName s = false := by
            have : ¬ ∀ i, i < s.size → nmAt s i = true := fun h => by rw [h k hk] at hbad; cases hbad
            simp [refName, this]
          rw [hr]
          simp [kp19, h1, h2, h3, l1, s58, ty9, ty5, hsz, hsz2, hw, hlt]
          generalize hL : Cx.loop _ _ _ = R
          have hR : R = some (.ret, ⟨[(2, .d (DB false))], [], [], []⟩) := by
            rw [← hL]
            refine loop_run (fun k => ⟨[(0, .d (DS s)), (3, .d (DI k))], [], [], []⟩) _ _ k (by simp) (fun j hj => ?_) ?_ (by simp only [mkCx, fuel]; omega)
            · have hjs : j < s.size := by omega
              have h2 := wrap_small ((j : Int) + 1) (by omega) (by omega)
              have hn := hgood j hj
              have hbd := byteAt_bd s j
              have hwb := wrap_small (byteAt s j) (by omega) (by omega)
              rcases hcase j with ⟨c1, c2⟩ | ⟨c1, c2, c3⟩ | ⟨c1, c2, c3⟩
              · rw [hn] at c2
                by_cases hj0 : 0 < j
                · simp [kp19, ty9, ty5, ty3, hjs, h2, c1, c2, hwb, l1, s58, hj0, bne]
                · simp [kp19, ty9, ty5, ty3, hjs, h2, c1, c2, hwb, l1, s58, hj0, bne]
              · subst c2
                simp [kp19, ty9, ty5, ty3, hjs, h2, c1, l1, s58, bne, hsz, hsz2]
              · rw [hn] at c3
                have hw1 : IntKind.i64.wrap ((j : Int) - 1) = ((j - 1 : Nat) : Int) := by rw [wrap_small _ (by omega) (by omega)]; omega
                have hlt1 : j - 1 < s.size := by omega
                simp [kp19, ty9, ty5, ty3, hjs, h2, c1, c3, c2, l1, s58, bne, hw1, hlt1]
            · have hbd := byteAt_bd s k
              have hwb := wrap_small (byteAt s k) (by omega) (by omega)
              rcases hcase k with ⟨c1, c2⟩ | ⟨c1, c2, c3⟩ | ⟨c1, c2, c3⟩
              · rw [hbad] at c2
                simp [kp19, ty9, ty5, ty3, hk, c1, c2, hwb, l1, s58, bne]
              · rw [hbad] at c3; cases c3
              · rw [hbad] at c3
                have hw1 : IntKind.i64.wrap ((k : Int) - 1) = ((k - 1 : Nat) : Int) := by rw [wrap_small _ (by omega) (by omega)]; omega
                have hlt1 : k - 1 < s.size := by omega
                simp [kp19, ty9, ty5, ty3, hk, c1, c3, c2, l1, s58, bne, hw1, hlt1]
          rw [hR]
          simp [kp19]
theorem call19 (xs : Array Value) (w : World) : (callFunc 19 xs).run Tryz.prog w = .ok (.enter 19 xs) w := by kernel_rfl
def l2 : List (Nat × (List D → Option D)) := (19, s19) :: l1
theorem del2 : DelOk Tryz.prog (delOf l2) := del_cons del1 call19 ok19
def s59 : List D → Option D := sp2 cStr (cList rStr) cInt fun s l => if l.length < 1000000 then some (namedE s l) else none
theorem ok59 : ∀ ds d, s59 ds = some d → PureC Tryz.prog 59 ds d := ok_sp2 fun s l r hr => by
  split at hr
  · rename_i hlm
    cases hr
    refine pure_of_call (mkCx_ok del2 21 kp59 []) Tryz.func59 rfl rfl (Nat.le_of_ble_eq_true rfl) (by kernel_rfl) ?_
    rw [Tryz.results59]
    unfold namedE
    cases h1 : refName s
    · simp [kp59, l2, s19, h1]
    · rcases first_is (fun x : ByteArray => x.toList == s.toList) l with ⟨e1, hall⟩ | ⟨k, hk, e1, hbad, hgood⟩
      · rw [e1]
        simp [kp59, l2, s19, h1]
        (generalize hLoopQ : Cx.loop _ _ _ = rLoopQ; apply loop_then hLoopQ (fun k => ⟨[(0, .d (DS s)), (1, .d (.sl 1 (l.map rStr.enc))), (5, .d (DI k))], [], [], []⟩) l.length rfl; rotate_left; (show _ < 281474976710656; omega); rfl; rotate_left; all_goals clear hLoopQ)
        · intro j hj
          have w1 := wrap_small ((j : Int) + 1) (by omega) (by omega)
          have hjl : (j : Int) < l.length := by omega
          have hn := hall j hj
          simp [kp59, hj, hjl, hn, w1]
        · simp [kp59]
      · rw [e1]
        simp [kp59, l2, s19, h1]
        (generalize hLoopQ : Cx.loop _ _ _ = rLoopQ; apply loop_then hLoopQ (fun k => ⟨[(0, .d (DS s)), (1, .d (.sl 1 (l.map rStr.enc))), (5, .d (DI k))], [], [], []⟩) k rfl; rotate_left; (show _ < 281474976710656; omega); rfl; rotate_left; all_goals clear hLoopQ)
        · intro j hj'
          have hj : j < l.length := by omega
          have w1 := wrap_small ((j : Int) + 1) (by omega) (by omega)
          have hjl : (j : Int) < l.length := by omega
          have hn := hgood j hj hj'
          simp [kp59, hj, hjl, hn, w1]
        · have hkl : (k : Int) < l.length := by omega
          simp [kp59, hk, hkl, hbad]
  · cases hr
theorem call59 (xs : Array Value) (w : World) : (callFunc 59 xs).run Tryz.prog w = .ok (.enter 59 xs) w := by kernel_rfl
def s85 : List D → Option D := sp3 (cAgg rSpn) cInt cInt cInt fun s lo hi => some (spanE s lo hi)
theorem ok85 : ∀ ds d, s85 ds = some d → PureC Tryz.prog 85 ds d := ok_sp3 fun s lo hi r hr => by
  cases hr
  refine pure_of_call (mkCx_ok del1 26 kp85 []) Tryz.func85 rfl rfl (Nat.le_of_ble_eq_true rfl) (by kernel_rfl) ?_
  rw [Tryz.results85]
  unfold spanE
  cases h1 : inR s.lo lo hi <;> cases h2 : inR s.hi lo hi <;> by_cases h3 : s.hi < s.lo <;> simp [kp85, l1, s58, rSpn_enc, h1, h2, h3]
theorem call85 (xs : Array Value) (w : World) : (callFunc 85 xs).run Tryz.prog w = .ok (.enter 85 xs) w := by kernel_rfl
theorem vSpan_cases (s : Spn) : vSpan s = 0 ∨ vSpan s = 2 ∨ vSpan s = 7 := by
  unfold vSpan spanE
  split
  · simp
  · split <;> simp
def l3 : List (Nat × (List D → Option D)) := (85, s85) :: l1
theorem del3 : DelOk Tryz.prog (delOf l3) := del_cons del1 call85 ok85
def worstK (l : List Spn) (k : Nat) : Int := if (l.take k).any (fun s => vSpan s == 2) then 2 else 0
theorem worstK_succ {l : List Spn} {j : Nat} (h : j < l.length) : worstK l (j + 1) = if vSpan l[j] = 2 then 2 else worstK l j := by
  unfold worstK
  rw [List.take_succ_eq_append_getElem h, List.any_append]
  simp only [List.any_cons, List.any_nil, Bool.or_false, Bool.or_eq_true, beq_iff_eq]
  by_cases h1 : vSpan l[j] = 2
  · simp [h1]
  · simp [h1]
def s60 : List D → Option D := sp2 (cList rSpn) cInt cInt fun l many => if many ≤ 99 then some (rangesE l many) else none
set_option maxHeartbeats 1000000 in
theorem ok60 : ∀ ds d, s60 ds = some d → PureC Tryz.prog 60 ds d := ok_sp2 fun l many r hr => by
  split at hr
  · rename_i hlm0
    cases hr
    refine pure_of_call (mkCx_ok del3 29 kp60 []) Tryz.func60 rfl rfl (Nat.le_of_ble_eq_true rfl) (by kernel_rfl) ?_
    rw [Tryz.results60]
    unfold rangesE
    by_cases h1 : (l.length : Int) = many
    · subst h1
      have hlm : l.length ≤ 99 := by omega
      rw [if_neg (by simp)]
      rcases first_is (fun s => vSpan s == 7) l with ⟨e1, hall⟩ | ⟨k, hk, e1, hbad, hgood⟩
      · have e2 : (if l.any (fun s => vSpan s == 2) then (2 : Int) else 0) = worstK l l.length := by unfold worstK; rw [List.take_length]
        rw [e1, e2]
        simp [kp60, rSpn_k]
        (generalize hLoopQ : Cx.loop _ _ _ = rLoopQ; apply loop_then hLoopQ (fun k => ⟨[(0, .d (.sl 2 (l.map rSpn.enc))), (1, .d (DI l.length)), (5, .d (DI (worstK l k))), (6, .d (DI k))], [], [], []⟩) l.length rfl; rotate_left; (show _ < 281474976710656; omega); rfl; rotate_left; all_goals clear hLoopQ)
        · intro j hj
          have w1 := wrap_small ((j : Int) + 1) (by omega) (by omega)
          have hjl : (j : Int) < l.length := by omega
          have hn : ¬ vSpan l[j] = 7 := by have := hall j hj; simpa using this
          have hw := worstK_succ hj
          have hv : spanE l[j] 0 100000 = vSpan l[j] := rfl
          rcases vSpan_cases l[j] with h | h | h
          · rw [h] at hv hw
            simp [kp60, l3, s85, rSpn_enc, rSpn_dec, hj, hjl, hv, hw, w1]
          · rw [h] at hv hw
            simp [kp60, l3, s85, rSpn_enc, rSpn_dec, hj, hjl, hv, hw, w1]
          · exact absurd h hn
        · simp [kp60]
      · rw [e1]
        simp [kp60, rSpn_k]
        (generalize hLoopQ : Cx.loop _ _ _ = rLoopQ; apply loop_then hLoopQ (fun k => ⟨[(0, .d (.sl 2 (l.map rSpn.enc))), (1, .d (DI l.length)), (5, .d (DI (worstK l k))), (6, .d (DI k))], [], [], []⟩) k rfl; rotate_left; (show _ < 281474976710656; omega); rfl; rotate_left; all_goals clear hLoopQ)
        · intro j hj'
          have hj : j < l.length := by omega
          have w1 := wrap_small ((j : Int) + 1) (by omega) (by omega)
          have hjl : (j : Int) < l.length := by omega
          have hn : ¬ vSpan l[j] = 7 := by have := hgood j hj hj'; simpa using this
          have hw := worstK_succ hj
          have hv : spanE l[j] 0 100000 = vSpan l[j] := rfl
          rcases vSpan_cases l[j] with h | h | h
          · rw [h] at hv hw
            simp [kp60, l3, s85, rSpn_enc, rSpn_dec, hj, hjl, hv, hw, w1]
          · rw [h] at hv hw
            simp [kp60, l3, s85, rSpn_enc, rSpn_dec, hj, hjl, hv, hw, w1]
          · exact absurd h hn
        · have hkl : (k : Int) < l.length := by omega
          have hv : spanE l[k] 0 100000 = 7 := by have : vSpan l[k] = 7 := by simpa using hbad
                                                  exact this
          simp [kp60, l3, s85, rSpn_enc, rSpn_dec, hk, hkl, hv]
    · rw [if_pos h1]
      have h1' : ((l.length : Int) != many) = true := by simpa using h1
      simp [kp60, rSpn_k, h1']
  · cases hr
theorem call60 (xs : Array Value) (w : World) : (callFunc 60 xs).run Tryz.prog w = .ok (.enter 60 xs) w := by kernel_rfl
def l4 : List (Nat × (List D → Option D)) := (60, s60) :: (59, s59) :: l1
theorem del4 : DelOk Tryz.prog (delOf l4) := del_cons (del_cons del1 call59 ok59) call60 ok60
theorem names_succ {α : Type} (f : α → ByteArray) {l : List α} {j : Nat} (h : j < l.length) : (l.take (j + 1)).map f = (l.take j).map f ++ [f l[j]] := by
  rw [List.take_succ_eq_append_getElem h, List.map_append]; rfl
end Go.Proofs.YtkldmnladkcfeaaGreatDoor
namespace Go.Proofs.YtkldmnladkcfeaaGreatDoor
open Go.RowKit
set_option linter.unusedSimpArgs false
set_option linter.unusedVariables false
def nmP (x : Tbl) (j : Nat) : List ByteArray := (x.props.take j).map (·.name)
def nmK (x : Tbl) (j : Nat) : List ByteArray := (x.kinds.take j).map (·.name)
theorem nmP_len {x : Tbl} {j : Nat} (h : j ≤ x.props.length) : (nmP x j).length = j := by simp [nmP]; omega
theorem nmK_len {x : Tbl} {j : Nat} (h : j ≤ x.kinds.length) : (nmK x j).length = j := by simp [nmK]; omega
theorem nmP_succ {x : Tbl} {j : Nat} (h : j < x.props.length) : nmP x (j + 1) = nmP x j ++ [x.props[j].name] := names_succ _ h
theorem nmK_succ {x : Tbl} {j : Nat} (h : j < x.kinds.length) : nmK x (j + 1) = nmK x j ++ [x.kinds[j].name] := names_succ _ h
theorem prpE_zero {x : Tbl} {i : Nat} {p : Prp} (h : prpE x i p = 0) : namedE p.name (nmP x i) = 0 ∧ inR p.err 0 10000 = true := by
  unfold prpE at h
  split at h
  · rename_i h1
    refine ⟨h1, ?_⟩
    cases h2 : inR p.err 0 10000
    · rw [h2] at h; simp at h
    · rfl
  · rename_i h1; exact absurd h h1
theorem prpE_bad {x : Tbl} {i : Nat} {p : Prp} (h : ¬ prpE x i p = 0) : (namedE p.name (nmP x i) = 0 ∧ inR p.err 0 10000 = false ∧ prpE x i p = 7) ∨ (¬ namedE p.name (nmP x i) = 0 ∧ prpE x i p = namedE p.name (nmP x i)) := by
  unfold prpE at h ⊢
  by_cases h1 : namedE p.name (nmP x i) = 0
  · left
    have h1' : namedE p.name ((x.props.take i).map (·.name)) = 0 := h1
    rw [if_pos h1'] at h ⊢
    cases h2 : inR p.err 0 10000
    · simp [h1]
    · rw [h2] at h; simp at h
  · right
    have h1' : ¬ namedE p.name ((x.props.take i).map (·.name)) = 0 := h1
    rw [if_neg h1']
    exact ⟨h1, rfl⟩
theorem kndE_zero {x : Tbl} {i : Nat} {k : Knd} (h : kndE x i k = 0) : namedE k.name (nmK x i) = 0 ∧ rangesE k.props x.props.length = 0 := by
  unfold kndE at h
  split at h
  · rename_i h1; exact ⟨h1, h⟩
  · rename_i h1; exact absurd h h1
theorem kndE_bad {x : Tbl} {i : Nat} {k : Knd} (h : ¬ kndE x i k = 0) : (namedE k.name (nmK x i) = 0 ∧ kndE x i k = rangesE k.props x.props.length ∧ ¬ rangesE k.props x.props.length = 0) ∨ (¬ namedE k.name (nmK x i) = 0 ∧ kndE x i k = namedE k.name (nmK x i)) := by
  by_cases h1 : namedE k.name (nmK x i) = 0
  · left
    have h1' : namedE k.name ((x.kinds.take i).map (·.name)) = 0 := h1
    have e : kndE x i k = rangesE k.props x.props.length := by unfold kndE; rw [if_pos h1']
    exact ⟨h1, e, by rw [← e]; exact h⟩
  · right
    have h1' : ¬ namedE k.name ((x.kinds.take i).map (·.name)) = 0 := h1
    exact ⟨h1, by unfold kndE; rw [if_neg h1']; rfl⟩
theorem nePos {n : Int} (h : ¬ n = 0) : (n != 0) = true := by simpa using h
theorem eqNeg {n : Int} (h : ¬ n = 0) : (n == 0) = false := by simpa using h
def kindsLim (x : Tbl) : Prop := ∀ k ∈ x.kinds, k.props.length < 1000000
instance (x : Tbl) : Decidable (kindsLim x) := inferInstanceAs (Decidable (∀ k ∈ x.kinds, _))
def s17 : List D → Option D := sp1 (cAgg rTbl) (cTup3 cInt cInt cInt) fun x => some (chk x)
set_option maxHeartbeats 4000000 in
theorem ok17 : ∀ ds d, s17 ds = some d → PureC Tryz.prog 17 ds d := ok_sp1 fun x r hr => by
  cases hr
  refine pure_of_call (mkCx_ok del4 106 kp17 []) Tryz.func17 rfl rfl (Nat.le_of_ble_eq_true rfl) (by kernel_rfl) ?_
  rw [Tryz.results17]
  unfold chk
  cases h1 : inR x.props.length 1 5
  · simp [kp17, rTbl_enc, rPrp_k, rKnd_k, l4, l1, s58, h1]
  cases h2 : inR x.kinds.length 1 8
  · simp [kp17, rTbl_enc, rPrp_k, rKnd_k, l4, l1, s58, h1, h2]
  cases h3 : inR x.purity 1 1000
  · simp [kp17, rTbl_enc, rPrp_k, rKnd_k, l4, l1, s58, h1, h2, h3]
  have hp := inR_iff.1 h1
  have hk := inR_iff.1 h2
  have hp99 : (x.props.length : Int) ≤ 99 := by omega
  rcases findI_cases (prpE x) x.props with ⟨e1, hall⟩ | ⟨k, hk1, e1, hbad, hgood⟩
  · rw [e1]
    rcases findI_cases (kndE x) x.kinds with ⟨e2, hall2⟩ | ⟨k, hk2, e2, hbad, hgood⟩
    · rw [e2]
      simp [kp17, rTbl_enc, rPrp_k, rKnd_k, l4, l1, s58, h1, h2, h3]
      (generalize hLoopQ : Cx.loop _ _ _ = rLoopQ; apply loop_then hLoopQ (fun k => ⟨[(1, .loc 1 0), (5, .sl 1 ((nmP x k).map rStr.enc) (.tok 5)), (6, .d (DI k))], [(1, [.d (.sl 2 (x.props.map rPrp.enc)), .d (.sl 2 (x.kinds.map rKnd.enc)), .d (DI x.purity)])], [5], []⟩) x.props.length rfl; rotate_left; (show _ < 281474976710656; omega); rfl; rotate_left; all_goals clear hLoopQ)
      · intro j hj0
        have hj : j < x.props.length := by omega
        have w1 := wrap_small ((j : Int) + 1) (by omega) (by omega)
        have hjl : (j : Int) < x.props.length := by omega
        obtain ⟨q1, q2⟩ := prpE_zero (hall j hj)
        have hlen := nmP_len (x := x) (j := j) (by omega)
        have c1 : j + 1 ≤ 140737488355328 := by omega
        have c2 : (j + 1) * 16 ≤ 140737488355328 := by omega
        have c3 : j < 1000000 := by omega
        rw [nmP_succ hj]
        generalize nmP x j = NL at *
        simp [kp17, l4, l1, s58, s59, rStr_enc, rStr_decL, rPrp_enc, hj, hjl, hlen, q1, q2, w1, c1, c2, c3]
      · simp [kp17]
        (generalize hLoopQ : Cx.loop _ _ _ = rLoopQ; apply loop_then hLoopQ (fun k => ⟨[(1, .loc 1 0), (5, .sl 1 ((nmK x k).map rStr.enc) (.tok 5)), (8, .d (DI k))], [(1, [.d (.sl 2 (x.props.map rPrp.enc)), .d (.sl 2 (x.kinds.map rKnd.enc)), .d (DI x.purity)])], [5], []⟩) x.kinds.length rfl; rotate_left; (show _ < 281474976710656; omega); rfl; rotate_left; all_goals clear hLoopQ)
        · intro j hj0
          have hj : j < x.kinds.length := by omega
          have w1 := wrap_small ((j : Int) + 1) (by omega) (by omega)
          have hjl : (j : Int) < x.kinds.length := by omega
          obtain ⟨q1, q2⟩ := kndE_zero (hall2 j hj)
          have hlen := nmK_len (x := x) (j := j) (by omega)
          have c1 : j + 1 ≤ 140737488355328 := by omega
          have c2 : (j + 1) * 16 ≤ 140737488355328 := by omega
          have c3 : j < 1000000 := by omega
          rw [nmK_succ hj]
          generalize nmK x j = NL at *
          simp [kp17, l4, l1, s58, s59, s60, rStr_enc, rStr_decL, rKnd_enc, rSpn_decL, hj, hjl, hlen, q1, q2, w1, c1, c2, c3, hp99]
        · simp [kp17]
    · rw [e2]
      simp [kp17, rTbl_enc, rPrp_k, rKnd_k, l4, l1, s58, h1, h2, h3, hbad]
      (generalize hLoopQ : Cx.loop _ _ _ = rLoopQ; apply loop_then hLoopQ (fun k => ⟨[(1, .loc 1 0), (5, .sl 1 ((nmP x k).map rStr.enc) (.tok 5)), (6, .d (DI k))], [(1, [.d (.sl 2 (x.props.map rPrp.enc)), .d (.sl 2 (x.kinds.map rKnd.enc)), .d (DI x.purity)])], [5], []⟩) x.props.length rfl; rotate_left; (show _ < 281474976710656; omega); rfl; rotate_left; all_goals clear hLoopQ)
      · intro j hj0
        have hj : j < x.props.length := by omega
        have w1 := wrap_small ((j : Int) + 1) (by omega) (by omega)
        have hjl : (j : Int) < x.props.length := by omega
        obtain ⟨q1, q2⟩ := prpE_zero (hall j hj)
        have hlen := nmP_len (x := x) (j := j) (by omega)
        have c1 : j + 1 ≤ 140737488355328 := by omega
        have c2 : (j + 1) * 16 ≤ 140737488355328 := by omega
        have c3 : j < 1000000 := by omega
        rw [nmP_succ hj]
        generalize nmP x j = NL at *
        simp [kp17, l4, l1, s58, s59, rStr_enc, rStr_decL, rPrp_enc, hj, hjl, hlen, q1, q2, w1, c1, c2, c3]
      · simp [kp17]
        (generalize hLoopQ : Cx.loop _ _ _ = rLoopQ; apply loop_then hLoopQ (fun k => ⟨[(1, .loc 1 0), (5, .sl 1 ((nmK x k).map rStr.enc) (.tok 5)), (8, .d (DI k))], [(1, [.d (.sl 2 (x.props.map rPrp.enc)), .d (.sl 2 (x.kinds.map rKnd.enc)), .d (DI x.purity)])], [5], []⟩) k rfl; rotate_left; (show _ < 281474976710656; omega); rfl; rotate_left; all_goals clear hLoopQ)
        · intro j hj0
          have hj : j < x.kinds.length := by omega
          have w1 := wrap_small ((j : Int) + 1) (by omega) (by omega)
          have hjl : (j : Int) < x.kinds.length := by omega
          obtain ⟨q1, q2⟩ := kndE_zero (hgood j hj hj0)
          have hlen := nmK_len (x := x) (j := j) (by omega)
          have c1 : j + 1 ≤ 140737488355328 := by omega
          have c2 : (j + 1) * 16 ≤ 140737488355328 := by omega
          have c3 : j < 1000000 := by omega
          rw [nmK_succ hj]
          generalize nmK x j = NL at *
          simp [kp17, l4, l1, s58, s59, s60, rStr_enc, rStr_decL, rKnd_enc, rSpn_decL, hj, hjl, hlen, q1, q2, w1, c1, c2, c3, hp99]
        · have hkl : (k : Int) < x.kinds.length := by omega
          have hlen := nmK_len (x := x) (j := k) (by omega)
          have c3 : k < 1000000 := by omega
          rcases kndE_bad hbad with ⟨q1, q2, q3⟩ | ⟨q1, q2⟩
          · rw [q2]
            have q4 := nePos q3
            generalize nmK x k = NL at *
            simp [kp17, l4, l1, s58, s59, s60, rStr_enc, rStr_decL, rKnd_enc, rSpn_decL, hk2, hkl, hlen, q1, q4, c3, hp99]
          · rw [q2]
            have q3 := nePos q1
            have q4 := eqNeg q1
            generalize nmK x k = NL at *
            simp [kp17, l4, l1, s58, s59, s60, rStr_enc, rStr_decL, rKnd_enc, rSpn_decL, hk2, hkl, hlen, q3, q4, c3, hp99]
  · rw [e1]
    simp [kp17, rTbl_enc, rPrp_k, rKnd_k, l4, l1, s58, h1, h2, h3, hbad]
    (generalize hLoopQ : Cx.loop _ _ _ = rLoopQ; apply loop_then hLoopQ (fun k => ⟨[(1, .loc 1 0), (5, .sl 1 ((nmP x k).map rStr.enc) (.tok 5)), (6, .d (DI k))], [(1, [.d (.sl 2 (x.props.map rPrp.enc)), .d (.sl 2 (x.kinds.map rKnd.enc)), .d (DI x.purity)])], [5], []⟩) k rfl; rotate_left; (show _ < 281474976710656; omega); rfl; rotate_left; all_goals clear hLoopQ)
    · intro j hj0
      have hj : j < x.props.length := by omega
      have w1 := wrap_small ((j : Int) + 1) (by omega) (by omega)
      have hjl : (j : Int) < x.props.length := by omega
      obtain ⟨q1, q2⟩ := prpE_zero (hgood j hj hj0)
      have hlen := nmP_len (x := x) (j := j) (by omega)
      have c1 : j + 1 ≤ 140737488355328 := by omega
      have c2 : (j + 1) * 16 ≤ 140737488355328 := by omega
      have c3 : j < 1000000 := by omega
      rw [nmP_succ hj]
      generalize nmP x j = NL at *
      simp [kp17, l4, l1, s58, s59, rStr_enc, rStr_decL, rPrp_enc, hj, hjl, hlen, q1, q2, w1, c1, c2, c3]
    · have hkl : (k : Int) < x.props.length := by omega
      have hlen := nmP_len (x := x) (j := k) (by omega)
      have c3 : k < 1000000 := by omega
      rcases prpE_bad hbad with ⟨q1, q2, q3⟩ | ⟨q1, q2⟩
      · rw [q3]
        generalize nmP x k = NL at *
        simp [kp17, l4, l1, s58, s59, rStr_enc, rStr_decL, rPrp_enc, hk1, hkl, hlen, q1, q2, c3]
      · rw [q2]
        have q3 := nePos q1
        have q4 := eqNeg q1
        generalize nmP x k = NL at *
        simp [kp17, l4, l1, s58, s59, rStr_enc, rStr_decL, rPrp_enc, hk1, hkl, hlen, q3, q4, c3]
theorem call17 (xs : Array Value) (w : World) : (callFunc 17 xs).run Tryz.prog w = .ok (.enter 17 xs) w := by kernel_rfl
end Go.Proofs.YtkldmnladkcfeaaGreatDoor
namespace Go.Proofs.YtkldmnladkcfeaaGreatDoor
open Go.RowKit
set_option linter.unusedSimpArgs false
set_option linter.unusedVariables false
structure Fine (x : Tbl) : Prop where
  p1 : 1 ≤ x.props.length
  p5 : x.props.length ≤ 5
  k1 : 1 ≤ x.kinds.length
  k8 : x.kinds.length ≤ 8
  u1 : 1 ≤ x.purity
  u2 : x.purity ≤ 1000
  pr : ∀ p (h : p < x.props.length), prpE x p x.props[p] = 0
  kn : ∀ k (h : k < x.kinds.length), kndE x k x.kinds[k] = 0
theorem fine_of {x : Tbl} (h : okT x) : Fine x := by
  unfold okT chk at h
  split at h
  · simp at h
  rename_i h1
  split at h
  · simp at h
  rename_i h2
  split at h
  · rename_i h3; exact absurd h h3
  rename_i h3
  split at h
  · rename_i h4; exact absurd h h4
  rename_i h4
  have a1 : inR x.props.length 1 5 = true := by
    cases q : inR x.props.length 1 5 with
    | true => rfl
    | false => exact absurd (.inl q) h1
  have a2 : inR x.kinds.length 1 8 = true := by
    cases q : inR x.kinds.length 1 8 with
    | true => rfl
    | false => exact absurd (.inr q) h1
  have a3 : inR x.purity 1 1000 = true := by
    cases q : inR x.purity 1 1000 with
    | true => rfl
    | false => exact absurd q h2
  have a1 := inR_iff.1 a1
  have a2 := inR_iff.1 a2
  have a3 := inR_iff.1 a3
  refine ⟨by omega, by omega, by omega, by omega, a3.1, a3.2, ?_, ?_⟩
  · rcases findI_cases (prpE x) x.props with ⟨_, hall⟩ | ⟨k, hk, e, hbad, _⟩
    · exact hall
    · rw [e] at h3; exact absurd hbad (by simpa using h3)
  · rcases findI_cases (kndE x) x.kinds with ⟨_, hall⟩ | ⟨k, hk, e, hbad, _⟩
    · exact hall
    · rw [e] at h4; exact absurd hbad (by simpa using h4)
theorem ranges_zero {l : List Spn} {n : Int} (h : rangesE l n = 0) : (l.length : Int) = n ∧ ∀ s ∈ l, 0 ≤ s.lo ∧ s.lo ≤ s.hi ∧ s.hi ≤ 100000 := by
  unfold rangesE at h
  split at h
  · simp at h
  rename_i h1
  split at h
  · simp at h
  rename_i h2
  split at h
  · simp at h
  rename_i h3
  refine ⟨by omega, fun s hs => ?_⟩
  have a : ¬ vSpan s = 7 := fun e => h2 (List.any_eq_true.2 ⟨s, hs, by simpa using e⟩)
  have b : ¬ vSpan s = 2 := fun e => h3 (List.any_eq_true.2 ⟨s, hs, by simpa using e⟩)
  unfold vSpan spanE at a b
  split at a
  · exact absurd rfl a
  · rename_i h4
    rw [if_neg h4] at b
    simp only [Bool.or_eq_true, Bool.not_eq_true', not_or, Bool.not_eq_false] at h4
    have q1 := inR_iff.1 h4.1
    have q2 := inR_iff.1 h4.2
    split at b
    · exact absurd rfl b
    · omega
theorem Fine.span {x : Tbl} (f : Fine x) (k : Nat) (hk : k < x.kinds.length) : x.kinds[k].props.length = x.props.length ∧ ∀ s ∈ x.kinds[k].props, 0 ≤ s.lo ∧ s.lo ≤ s.hi ∧ s.hi ≤ 100000 := by
  obtain ⟨h1, h2⟩ := ranges_zero (kndE_zero (f.kn k hk)).2
  exact ⟨by omega, h2⟩
theorem Fine.err {x : Tbl} (f : Fine x) (p : Nat) (hp : p < x.props.length) : 0 ≤ x.props[p].err ∧ x.props[p].err ≤ 10000 := inR_iff.1 (prpE_zero (f.pr p hp)).2
def kdOk (x : Tbl) (a : Int) : Prop := 0 ≤ a ∧ a < x.kinds.length
instance (x : Tbl) (a : Int) : Decidable (kdOk x a) := inferInstanceAs (Decidable (_ ∧ _))
def ppOk (x : Tbl) (a : Int) : Prop := 0 ≤ a ∧ a < x.props.length
instance (x : Tbl) (a : Int) : Decidable (ppOk x a) := inferInstanceAs (Decidable (_ ∧ _))
def ptOk (n : Int) : Prop := 0 ≤ n ∧ n ≤ 1000
instance (n : Int) : Decidable (ptOk n) := inferInstanceAs (Decidable (_ ∧ _))
def okR (x : Tbl) (l : List Int) : Prop := readE x l = 0
instance (x : Tbl) (l : List Int) : Decidable (okR x l) := inferInstanceAs (Decidable (_ = _))
theorem okR_of {x : Tbl} {l : List Int} (h : okR x l) : okT x ∧ l.length = x.props.length ∧ ∀ p (hp : p < l.length), l[p] = -1 ∨ (0 ≤ l[p] ∧ l[p] ≤ 100000) := by
  unfold okR readE at h
  split at h
  · rename_i h1; exact absurd h h1
  rename_i h1
  split at h
  · simp at h
  rename_i h2
  split at h
  · simp at h
  rename_i h3
  refine ⟨by unfold okT; omega, by omega, fun p hp => ?_⟩
  have hb : badR l[p] = false := by
    cases q : badR l[p] with
    | false => rfl
    | true => exact absurd (any_at badR hp q) h3
  unfold badR at hb
  by_cases e : l[p] = -1
  · exact .inl e
  · have e' : (l[p] == -1) = false := by simpa using e
    rw [e'] at hb
    simp only [Bool.not_false, Bool.true_and, Bool.not_eq_false'] at hb
    exact .inr (inR_iff.1 hb)
def rngV (x : Tbl) (k p : Nat) : Spn := (x.kinds.getD k default).props.getD p default
theorem rngV_at {x : Tbl} {k p : Nat} (hk : k < x.kinds.length) (hp : p < x.kinds[k].props.length) : rngV x k p = x.kinds[k].props[p] := by
  unfold rngV; rw [getD_at _ _ _ hk, getD_at _ _ _ hp]
theorem Fine.rng {x : Tbl} (f : Fine x) {k p : Nat} (hk : k < x.kinds.length) (hp : p < x.props.length) : ∃ h : p < x.kinds[k].props.length, x.kinds[k].props[p] = rngV x k p ∧ 0 ≤ (rngV x k p).lo ∧ (rngV x k p).lo ≤ (rngV x k p).hi ∧ (rngV x k p).hi ≤ 100000 := by
  obtain ⟨h1, h2⟩ := f.span k hk
  have hp' : p < x.kinds[k].props.length := by omega
  rw [rngV_at hk hp']
  exact ⟨hp', rfl, h2 _ (List.getElem_mem hp')⟩
def valV (x : Tbl) (p a b : Nat) (n : Int) : Spn := ⟨n * (rngV x a p).lo + (1000 - n) * (rngV x b p).lo, n * (rngV x a p).hi + (1000 - n) * (rngV x b p).hi⟩
def sp6 {α β γ δ ε ζ ρ : Type} (A : Cod α) (B : Cod β) (C : Cod γ) (E : Cod δ) (G : Cod ε) (H : Cod ζ) (R : Cod ρ) (f : α → β → γ → δ → ε → ζ → Option ρ) : List D → Option D
  | [a, b, c, e, g, h] => match A.dec a, B.dec b, C.dec c, E.dec e, G.dec g, H.dec h with | some x, some y, some z, some u, some v, some w => (f x y z u v w).map R.enc | _, _, _, _, _, _ => none
  | _ => none
attribute [simp] sp6
def errV (x : Tbl) (p : Nat) : Int := (x.props.getD p default).err
def explAt (x : Tbl) (a b : Nat) (n : Int) (p : Nat) (v : Int) : Bool := v == -1 || !(decide (1000 * (v + errV x p) < (valV x p a b n).lo) || decide ((valV x p a b n).hi < 1000 * (v - errV x p)))
def explB (x : Tbl) (l : List Int) (a b : Nat) (n : Int) : Bool := (List.range l.length).all fun p => explAt x a b n p (l.getD p 0)
end Go.Proofs.YtkldmnladkcfeaaGreatDoor
