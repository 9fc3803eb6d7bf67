/-
  Helpers of the laws of the dip chapter. Conditions: none.
-/
import Derived.Test.YtcgacojnfkklaaaGreatDoorZRdM
import Derived.Test.YtcgacojnfkklaaaGreatDoorZFewE
import Derived.Test.YtcgacojnfkklaaaGreatDoorZPrH
import Derived.Test.YtcgacojnfkklaaaGreatDoorZWr
namespace Go.Proofs.YtcgacojnfkklaaaGreatDoor
open Go.RowKit
set_option linter.unusedSimpArgs false
set_option linter.unusedVariables false
def kp36 (r : Nat) : List (Nat × Option Nat) := match r with
  | 0 => [(0, none)]
  | 1 => [(0, none)]
  | _ => []
def kp37 (r : Nat) : List (Nat × Option Nat) := match r with
  | 0 => [(0, none)]
  | 1 => [(0, none)]
  | _ => []
def kp38 (r : Nat) : List (Nat × Option Nat) := match r with
  | 0 => []
  | 1 => [(0, none)]
  | _ => []
def kp39 (r : Nat) : List (Nat × Option Nat) := match r with
  | 0 => [(0, none), (1, none), (4, none)]
  | 1 => [(4, none)]
  | _ => []
def kp40 (r : Nat) : List (Nat × Option Nat) := match r with
  | 0 => [(2, none), (3, none), (4, none)]
  | 1 => [(2, none), (3, none), (4, none), (9, none)]
  | 2 => [(6, none)]
  | _ => []
def kp41 (r : Nat) : List (Nat × Option Nat) := match r with
  | 0 => [(1, none), (2, none), (3, none)]
  | 1 => [(1, none), (2, none), (3, none), (7, some 1)]
  | 2 => [(1, none), (2, none), (3, none), (7, some 1), (8, none)]
  | 3 => [(1, none), (2, none), (3, none), (7, some 1), (8, none), (14, none)]
  | 4 => [(1, none), (2, none), (3, none), (7, some 1), (8, none)]
  | 5 => [(1, none), (2, none), (3, none), (7, some 1), (8, none), (9, none), (10, none)]
  | 6 => [(1, none), (2, none), (3, none), (7, some 1), (8, none), (9, none), (10, none), (29, none)]
  | 7 => [(1, none), (2, none), (3, none), (7, some 1), (8, none), (9, none), (10, none)]
  | 8 => [(1, none), (2, none), (3, none), (7, some 1), (8, none)]
  | 9 => [(6, some 1)]
  | _ => []
def kp42 (r : Nat) : List (Nat × Option Nat) := match r with
  | 0 => [(0, none), (3, none)]
  | 1 => [(4, none)]
  | _ => []
def kp43 (r : Nat) : List (Nat × Option Nat) := match r with
  | 0 => [(1, none), (2, none), (3, none)]
  | 1 => [(1, none), (2, none), (3, none), (7, some 1)]
  | 2 => [(1, none), (2, none), (3, none), (7, some 1), (8, none)]
  | 3 => [(1, none), (2, none), (3, none), (7, some 1), (8, none), (13, none)]
  | 4 => [(1, none), (2, none), (3, none), (7, some 1), (8, none)]
  | 5 => [(1, none), (2, none), (3, none), (7, some 1), (8, none), (9, none)]
  | 6 => [(1, none), (2, none), (3, none), (7, some 1), (8, none), (9, none), (26, none)]
  | 7 => [(1, none), (2, none), (3, none), (7, some 1), (8, none)]
  | 8 => [(1, none), (2, none), (3, none), (7, some 1), (8, none)]
  | 9 => [(6, some 1)]
  | _ => []
def kp44 (r : Nat) : List (Nat × Option Nat) := match r with
  | 0 => [(1, none), (2, none), (3, none)]
  | 1 => [(1, none), (2, none), (3, none), (7, some 1)]
  | 2 => [(1, none), (2, none), (3, none), (7, some 1), (8, none)]
  | 3 => [(1, none), (2, none), (3, none), (7, some 1), (8, none), (13, none)]
  | 4 => [(1, none), (2, none), (3, none), (7, some 1), (8, none)]
  | 5 => [(1, none), (2, none), (3, none), (7, some 1), (8, none), (9, none)]
  | 6 => [(1, none), (2, none), (3, none), (7, some 1), (8, none), (9, none), (32, none)]
  | 7 => [(1, none), (2, none), (3, none), (7, some 1), (8, none)]
  | 8 => [(1, none), (2, none), (3, none), (7, some 1), (8, none)]
  | 9 => [(6, some 1)]
  | _ => []
def s39 : List D → Option D := sp2 cInt cInt (cAgg rSpn) fun a b => some ⟨a, b⟩
theorem ok39 : ∀ ds d, s39 ds = some d → PureC Tryz.prog 39 ds d := ok_sp2 fun a b r hr => by
  cases hr
  refine pure_of_call (mkCx_ok del_nil 8 kp39 []) Tryz.func39 rfl rfl (Nat.le_of_ble_eq_true rfl) (by kernel_rfl) ?_
  rw [Tryz.results39]
  simp [kp39, rSpn_enc]
theorem call39 (xs : Array Value) (w : World) : (callFunc 39 xs).run Tryz.prog w = .ok (.enter 39 xs) w := by kernel_rfl
def a1 : List (Nat × (List D → Option D)) := [(39, s39)]
theorem da1 : DelOk Tryz.prog (delOf a1) := del_cons del_nil call39 ok39
def lowV : ByteArray := ⟨#[108, 111, 119]⟩
def highV : ByteArray := ⟨#[104, 105, 103, 104]⟩
def shopV : Dsh := ⟨600, 500, 5, 4, 1, 2, 40, 2, [⟨lowV, ⟨610, 630⟩⟩, ⟨highV, ⟨660, 680⟩⟩]⟩
def taperV : Tap := ⟨2000, 2000, 2000⟩
def dipsV : List Dip := [⟨0, 3, 40, false⟩, ⟨0, 7, 40, false⟩, ⟨0, 3, 30, false⟩, ⟨0, 3, 30, true⟩]
def s36 : List D → Option D := sp0 (cAgg rDsh) (some shopV)
theorem ok36 : ∀ ds d, s36 ds = some d → PureC Tryz.prog 36 ds d := ok_sp0 fun r hr => by
  cases hr
  refine pure_of_call (mkCx_ok da1 7 kp36 []) Tryz.func36 rfl rfl (Nat.le_of_ble_eq_true rfl) (by kernel_rfl) ?_
  rw [Tryz.results36]
  simp [kp36, a1, s39, rSpn_enc, shopV, rDsh_enc, rBth_enc, lowV, highV]
def s37 : List D → Option D := sp0 (cAgg rTap) (some taperV)
theorem ok37 : ∀ ds d, s37 ds = some d → PureC Tryz.prog 37 ds d := ok_sp0 fun r hr => by
  cases hr
  refine pure_of_call (mkCx_ok da1 2 kp37 []) Tryz.func37 rfl rfl (Nat.le_of_ble_eq_true rfl) (by kernel_rfl) ?_
  rw [Tryz.results37]
  simp [kp37, taperV, rTap_enc]
def s38 : List D → Option D := sp0 (cList rDip) (some dipsV)
theorem ok38 : ∀ ds d, s38 ds = some d → PureC Tryz.prog 38 ds d := ok_sp0 fun r hr => by
  cases hr
  refine pure_of_call (mkCx_ok da1 6 kp38 []) Tryz.func38 rfl rfl (Nat.le_of_ble_eq_true rfl) (by kernel_rfl) ?_
  rw [Tryz.results38]
  simp [kp38, dipsV, rDip_enc, rDip_k]
theorem call36 (xs : Array Value) (w : World) : (callFunc 36 xs).run Tryz.prog w = .ok (.enter 36 xs) w := by kernel_rfl
theorem call37 (xs : Array Value) (w : World) : (callFunc 37 xs).run Tryz.prog w = .ok (.enter 37 xs) w := by kernel_rfl
theorem call38 (xs : Array Value) (w : World) : (callFunc 38 xs).run Tryz.prog w = .ok (.enter 38 xs) w := by kernel_rfl
def validB (x : Dsh) (t : Tap) (l : List Dip) : Bool := decide (askedE x t l = 0)
def s40 : List D → Option D := sp3 (cAgg rDsh) (cAgg rTap) (cList rDip) cBool fun x t l => some (validB x t l)
theorem ok40 : ∀ ds d, s40 ds = some d → PureC Tryz.prog 40 ds d := ok_sp3 fun x t l r hr => by
  cases hr
  have hlm := blen_or x
  refine pure_of_call (mkCx_ok del4 29 kp40 []) Tryz.func40 rfl rfl (Nat.le_of_ble_eq_true rfl) (by kernel_rfl) ?_
  rw [Tryz.results40]
  unfold validB askedE
  by_cases h1 : (dchk x).2.2 = 0
  · have hlm := hlm.resolve_right (by simpa using h1)
    by_cases h2 : tapE t = 0
    · by_cases h3 : planE x l = 0
      · simp [kp40, rDsh_enc, rDsh_dec, rTap_enc, rTap_dec, rDip_k, rDip_decL, l4, l3, l2, s19, s72, s47, hlm, h1, h2, h3]
      · have h3' : (planE x l == 0) = false := by simpa using h3
        simp [kp40, rDsh_enc, rDsh_dec, rTap_enc, rTap_dec, rDip_k, rDip_decL, l4, l3, l2, s19, s72, s47, hlm, h1, h2, h3, h3']
    · have h2' : (tapE t == 0) = false := by simpa using h2
      simp [kp40, rDsh_enc, rDsh_dec, rTap_enc, rTap_dec, rDip_k, rDip_decL, l4, l3, l2, s19, s72, s47, hlm, h1, h2, h2']
  · have h1' : ((dchk x).2.2 == 0) = false := by simpa using h1
    simp [kp40, rDsh_enc, rDsh_dec, rTap_enc, rTap_dec, rDip_k, rDip_decL, l4, l3, l2, s19, s72, s47, h1, h1']
theorem call40 (xs : Array Value) (w : World) : (callFunc 40 xs).run Tryz.prog w = .ok (.enter 40 xs) w := by kernel_rfl
def s42 : List D → Option D := sp2 cInt (cAgg rSpn) cBool fun n s => some (inR n s.lo s.hi)
theorem ok42 : ∀ ds d, s42 ds = some d → PureC Tryz.prog 42 ds d := ok_sp2 fun n s r hr => by
  cases hr
  refine pure_of_call (mkCx_ok del_nil 15 kp42 []) Tryz.func42 rfl rfl (Nat.le_of_ble_eq_true rfl) (by kernel_rfl) ?_
  rw [Tryz.results42]
  unfold inR
  by_cases h1 : s.lo ≤ n
  · simp [kp42, rSpn_enc, h1]
  · simp [kp42, rSpn_enc, h1]
theorem call42 (xs : Array Value) (w : World) : (callFunc 42 xs).run Tryz.prog w = .ok (.enter 42 xs) w := by kernel_rfl
theorem okL_bath {x : Dsh} {l : List Dip} (hl : okL x l) (j : Nat) (hj : j < l.length) : ∃ B : Nat, ∃ hB : B < x.baths.length, l[j].bath = B ∧ warmV x l[j] = x.baths[B].warm ∧ 0 ≤ x.baths[B].warm.lo ∧ x.baths[B].warm.lo ≤ x.baths[B].warm.hi ∧ x.baths[B].warm.hi ≤ 2000 := by
  obtain ⟨B, e1, hB, e2, _, g1, g2, g3, _⟩ := okD_bath (okL_at hl j hj)
  refine ⟨B, hB, e1, e2, ?_⟩
  rw [e2] at g1 g2 g3
  have a := g1.1.2
  have b := g2.1.2
  have c := nums_of g1.1.1
  have := c.m0
  omega
def sameV (x : Dsh) (l : List Dip) (most : Bool) : List Int := l.map fun d => if most then (warmV x d).hi else (warmV x d).lo
def skewedV (x : Dsh) (l : List Dip) (most : Bool) : List Int := l.map fun d => if d.turned == most then (warmV x d).hi else (warmV x d).lo
def s43 : List D → Option D := sp3 (cAgg rDsh) (cList rDip) cBool (cList rInt) fun x l b => if okL x l then some (sameV x l b) else none
def s44 : List D → Option D := sp3 (cAgg rDsh) (cList rDip) cBool (cList rInt) fun x l b => if okL x l then some (skewedV x l b) else none
set_option maxHeartbeats 2000000 in
theorem ok43 : ∀ ds d, s43 ds = some d → PureC Tryz.prog 43 ds d := ok_sp3 fun x l b r hr => by
  split at hr
  · rename_i hl
    cases hr
    have hl30 := hl.2.1
    refine pure_of_dec (cList rInt) _ (mkCx_ok del_nil 38 kp43 []) Tryz.func43 rfl rfl (Nat.le_of_ble_eq_true rfl) (by kernel_rfl) ?_
    rw [Tryz.results43]
    simp [kp43, rDsh_enc, rDip_k]
    (generalize hLoopQ : Cx.loop _ _ _ = rLoopQ; apply loop_then hLoopQ (fun k => ⟨[(1, .d (.sl 4 (l.map rDip.enc))), (2, .d (DB b)), (3, .loc 3 0), (7, .sl 1 ((sameV x (l.take k) b).map rInt.enc) (.tok 7)), (8, .d (DI k))], [(3, [.d (DI x.melt), .d (DI x.coat), .d (DI x.thin), .d (DI x.hold), .d (DI x.back), .d (DI x.draw), .d (DI x.set), .d (DI x.run), .d (.sl 3 (x.baths.map rBth.enc))])], [7], []⟩) l.length rfl; rotate_left; (show _ < 281474976710656; omega); rfl; rotate_left; all_goals clear hLoopQ)
    · intro j hj
      have w1 := wrap_small ((j : Int) + 1) (by omega) (by omega)
      have hjl : (j : Int) < l.length := by omega
      obtain ⟨B, hB, e2, e3, _⟩ := okL_bath hl j hj
      have hs : sameV x (l.take (j + 1)) b = sameV x (l.take j) b ++ [if b then x.baths[B].warm.hi else x.baths[B].warm.lo] := by
        unfold sameV
        rw [List.take_succ_eq_append_getElem hj, List.map_append, ← e3]; rfl
      have hlen : (sameV x (l.take j) b).length = j := by unfold sameV; simp; omega
      have c1 : j + 1 ≤ 140737488355328 := by omega
      have c2 : (j + 1) * 8 ≤ 140737488355328 := by omega
      rw [hs]
      generalize sameV x (l.take j) b = SL at *
      cases b <;> simp [kp43, rDip_enc, rBth_enc, hj, hjl, hB, e2, w1, hlen, c1, c2]
    · have hT : l.take l.length = l := List.take_of_length_le (by omega)
      simp [kp43, hT, rInt_decL]
  · cases hr
theorem call43 (xs : Array Value) (w : World) : (callFunc 43 xs).run Tryz.prog w = .ok (.enter 43 xs) w := by kernel_rfl
set_option maxHeartbeats 2000000 in
theorem ok44 : ∀ ds d, s44 ds = some d → PureC Tryz.prog 44 ds d := ok_sp3 fun x l b r hr => by
  split at hr
  · rename_i hl
    cases hr
    have hl30 := hl.2.1
    refine pure_of_dec (cList rInt) _ (mkCx_ok del_nil 44 kp44 []) Tryz.func44 rfl rfl (Nat.le_of_ble_eq_true rfl) (by kernel_rfl) ?_
    rw [Tryz.results44]
    simp [kp44, rDsh_enc, rDip_k]
    (generalize hLoopQ : Cx.loop _ _ _ = rLoopQ; apply loop_then hLoopQ (fun k => ⟨[(1, .d (.sl 4 (l.map rDip.enc))), (2, .d (DB b)), (3, .loc 3 0), (7, .sl 1 ((skewedV x (l.take k) b).map rInt.enc) (.tok 7)), (8, .d (DI k))], [(3, [.d (DI x.melt), .d (DI x.coat), .d (DI x.thin), .d (DI x.hold), .d (DI x.back), .d (DI x.draw), .d (DI x.set), .d (DI x.run), .d (.sl 3 (x.baths.map rBth.enc))])], [7], []⟩) l.length rfl; rotate_left; (show _ < 281474976710656; omega); rfl; rotate_left; all_goals clear hLoopQ)
    · intro j hj
      have w1 := wrap_small ((j : Int) + 1) (by omega) (by omega)
      have hjl : (j : Int) < l.length := by omega
      obtain ⟨B, hB, e2, e3, _⟩ := okL_bath hl j hj
      have hs : skewedV x (l.take (j + 1)) b = skewedV x (l.take j) b ++ [if l[j].turned == b then x.baths[B].warm.hi else x.baths[B].warm.lo] := by
        unfold skewedV
        rw [List.take_succ_eq_append_getElem hj, List.map_append, ← e3]; rfl
      have hlen : (skewedV x (l.take j) b).length = j := by unfold skewedV; simp; omega
      have c1 : j + 1 ≤ 140737488355328 := by omega
      have c2 : (j + 1) * 8 ≤ 140737488355328 := by omega
      rw [hs]
      generalize skewedV x (l.take j) b = SL at *
      cases h : (l[j].turned == b) <;> simp [kp44, rDip_enc, rBth_enc, hj, hjl, hB, e2, w1, hlen, c1, c2, h]
    · have hT : l.take l.length = l := List.take_of_length_le (by omega)
      simp [kp44, hT, rInt_decL]
  · cases hr
theorem call44 (xs : Array Value) (w : World) : (callFunc 44 xs).run Tryz.prog w = .ok (.enter 44 xs) w := by kernel_rfl
def wordOk (l : List Int) : Prop := ∀ x ∈ l, 0 ≤ x ∧ x ≤ 65535
instance (l : List Int) : Decidable (wordOk l) := inferInstanceAs (Decidable (∀ x ∈ l, _))
def turnW (y : List Int) (n : Nat) : Int := if y.length = 0 then 0 else y.getD (n % y.length) 0
theorem turn_bd {y : List Int} (h : wordOk y) (n : Nat) : 0 ≤ turnW y n ∧ turnW y n ≤ 65535 := by
  unfold turnW
  by_cases hl : y.length = 0
  · rw [if_pos hl]; omega
  · have hi := Nat.mod_lt n (show 0 < y.length by omega)
    rw [if_neg hl, getD_at _ _ _ hi]
    exact h _ (List.getElem_mem hi)
def amongV (s : Spn) (n : Int) : Int := s.lo + n % (s.hi - s.lo + 1)
theorem among_bd {s : Spn} {n : Int} (h1 : s.lo ≤ s.hi) : s.lo ≤ amongV s n ∧ amongV s n ≤ s.hi := by
  unfold amongV
  have a := Int.emod_nonneg n (show s.hi - s.lo + 1 ≠ 0 by omega)
  have b := Int.emod_lt_of_pos n (show 0 < s.hi - s.lo + 1 by omega)
  omega
def warmedK (x : Dsh) (l : List Dip) (y : List Int) (k : Nat) : List Int := (List.range k).map fun i => amongV (warmV x (l.getD i default)) (turnW y i)
def warmedV (x : Dsh) (l : List Dip) (y : List Int) : List Int := warmedK x l y l.length
def s41 : List D → Option D := sp3 (cAgg rDsh) (cList rDip) (cList (rK .u16)) (cList rInt) fun x l y => if okL x l ∧ wordOk y then some (warmedV x l y) else none
set_option maxHeartbeats 2000000 in
theorem ok41 : ∀ ds d, s41 ds = some d → PureC Tryz.prog 41 ds d := ok_sp3 fun x l y r hr => by
  split at hr
  · rename_i hc
    cases hr
    obtain ⟨hl, hy⟩ := hc
    have hl30 := hl.2.1
    refine pure_of_dec (cList rInt) _ (mkCx_ok del_nil 53 kp41 []) Tryz.func41 rfl rfl (Nat.le_of_ble_eq_true rfl) (by kernel_rfl) ?_
    rw [Tryz.results41]
    simp [kp41, rDsh_enc, rDip_k]
    (generalize hLoopQ : Cx.loop _ _ _ = rLoopQ; apply loop_then hLoopQ (fun k => ⟨[(1, .d (.sl 4 (l.map rDip.enc))), (2, .d (.sl 1 (y.map (rK .u16).enc))), (3, .loc 3 0), (7, .sl 1 ((warmedK x l y k).map rInt.enc) (.tok 7)), (8, .d (DI k))], [(3, [.d (DI x.melt), .d (DI x.coat), .d (DI x.thin), .d (DI x.hold), .d (DI x.back), .d (DI x.draw), .d (DI x.set), .d (DI x.run), .d (.sl 3 (x.baths.map rBth.enc))])], [7], []⟩) l.length rfl; rotate_left; (show _ < 281474976710656; omega); rfl; rotate_left; all_goals clear hLoopQ)
    · intro j hj
      have w1 := wrap_small ((j : Int) + 1) (by omega) (by omega)
      have hjl : (j : Int) < l.length := by omega
      obtain ⟨B, hB, e2, e3, b0, b1, b2⟩ := okL_bath hl j hj
      have hb := among_bd (n := turnW y j) b1
      have hs : warmedK x l y (j + 1) = warmedK x l y j ++ [amongV x.baths[B].warm (turnW y j)] := by
        unfold warmedK
        rw [List.range_succ, List.map_append, List.map_singleton, getD_at _ _ _ hj, e3]
      have hlen : (warmedK x l y j).length = j := by unfold warmedK; simp
      have c1 : j + 1 ≤ 140737488355328 := by omega
      have c2 : (j + 1) * 8 ≤ 140737488355328 := by omega
      rw [hs]
      generalize warmedK x l y j = SL at *
      have v1 := wrap_small (x.baths[B].warm.hi - x.baths[B].warm.lo) (by omega) (by omega)
      have v2 := wrap_small (x.baths[B].warm.hi - x.baths[B].warm.lo + 1) (by omega) (by omega)
      have hne : ¬ x.baths[B].warm.hi - x.baths[B].warm.lo + 1 = 0 := by omega
      have tb := turn_bd hy j
      unfold amongV at hb ⊢
      generalize hT : turnW y j = T at *
      have e4 : T.tmod (x.baths[B].warm.hi - x.baths[B].warm.lo + 1) = T % (x.baths[B].warm.hi - x.baths[B].warm.lo + 1) := Int.tmod_eq_emod_of_nonneg (by omega)
      have v3 := wrap_small (T % (x.baths[B].warm.hi - x.baths[B].warm.lo + 1)) (by omega) (by omega)
      have v4 := wrap_small (x.baths[B].warm.lo + T % (x.baths[B].warm.hi - x.baths[B].warm.lo + 1)) (by omega) (by omega)
      by_cases h0 : y.length = 0
      · have hy0 : y = [] := List.length_eq_zero_iff.1 h0
        have hT0 : T = 0 := by rw [← hT]; unfold turnW; rw [if_pos h0]
        subst hy0 hT0
        have v5 := wrap_small x.baths[B].warm.lo (by omega) (by omega)
        simp [kp41, rDip_enc, rBth_enc, hj, hjl, hB, e2, w1, hlen, c1, c2, v1, v2, v3, v4, v5, hne, e4]
      · have hpos : (0 : Int) < y.length := by omega
        have hposN : 0 < y.length := by omega
        have hi := Nat.mod_lt j (show 0 < y.length by omega)
        have hT' : T = y[j % y.length] := by rw [← hT]; unfold turnW; rw [if_neg h0, getD_at _ _ _ hi]
        have e5 : (j : Int).tmod y.length = ((j % y.length : Nat) : Int) := by
          rw [Int.tmod_eq_emod_of_nonneg (by omega)]; push_cast; rfl
        have hne' : ¬ (y.length : Int) = 0 := by omega
        have hne'' : ¬ y = [] := fun h => by rw [h] at h0; exact h0 rfl
        have hle := Nat.mod_le j y.length
        generalize hQ : j % y.length = Q at *
        have w2 := wrap_small (Q : Int) (by omega) (by omega)
        subst hT'
        have w3 := wrap_small y[Q] (by omega) (by omega)
        simp [kp41, rDip_enc, rBth_enc, hj, hjl, hB, e2, w1, hlen, c1, c2, hpos, hposN, hne', hne'', e5, w2, w3, hi, v1, v2, v3, v4, hne, e4]
    · simp [kp41, rInt_decL, warmedV]
  · cases hr
theorem call41 (xs : Array Value) (w : World) : (callFunc 41 xs).run Tryz.prog w = .ok (.enter 41 xs) w := by kernel_rfl
end Go.Proofs.YtcgacojnfkklaaaGreatDoor
