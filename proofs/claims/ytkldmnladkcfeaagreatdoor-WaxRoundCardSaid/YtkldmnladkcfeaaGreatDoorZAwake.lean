/-
  Helpers of the laws of the wax chapter. Conditions: none.
-/
import Derived.Test.YtkldmnladkcfeaaGreatDoorZRdL
import Derived.Test.YtkldmnladkcfeaaGreatDoorZLawP
namespace Go.Proofs.YtkldmnladkcfeaaGreatDoor
open Go.RowKit
set_option linter.unusedSimpArgs false
set_option linter.unusedVariables false
def kp37 (r : Nat) : List (Nat × Option Nat) := match r with
  | 0 => [(0, none)]
  | 1 => [(0, none)]
  | _ => []
def kp38 (r : Nat) : List (Nat × Option Nat) := match r with
  | 0 => [(0, none), (1, none), (4, none)]
  | 1 => [(4, none)]
  | _ => []
def kp61 (r : Nat) : List (Nat × Option Nat) := match r with
  | 0 => []
  | 1 => [(0, none)]
  | _ => []
def kp39 (r : Nat) : List (Nat × Option Nat) := match r with
  | 0 => [(1, none)]
  | 1 => [(5, none)]
  | 2 => [(2, none)]
  | _ => []
def kp43 (r : Nat) : List (Nat × Option Nat) := match r with
  | 0 => [(0, none), (1, none)]
  | 1 => [(0, none), (1, none), (5, none)]
  | 2 => [(0, none), (1, none), (5, none), (9, none)]
  | 3 => [(0, none), (1, none), (5, none)]
  | 4 => [(0, none), (1, none), (5, none), (17, none)]
  | 5 => [(4, none)]
  | 6 => [(4, none)]
  | _ => []
def kp45 (r : Nat) : List (Nat × Option Nat) := match r with
  | 0 => [(1, none), (2, none)]
  | 1 => [(4, none)]
  | _ => []
def kp48 (r : Nat) : List (Nat × Option Nat) := match r with
  | 0 => [(0, none), (1, none)]
  | 1 => [(0, none), (1, none), (7, none)]
  | 2 => [(4, none)]
  | 3 => [(4, none)]
  | _ => []
def s38 : List D → Option D := sp2 cInt cInt (cAgg rSpn) fun a b => some ⟨a, b⟩
theorem ok38 : ∀ ds d, s38 ds = some d → PureC Tryz.prog 38 ds d := ok_sp2 fun a b r hr => by
  cases hr
  refine pure_of_call (mkCx_ok del_nil 8 kp38 []) Tryz.func38 rfl rfl (Nat.le_of_ble_eq_true rfl) (by kernel_rfl) ?_
  rw [Tryz.results38]
  simp [kp38, rSpn_enc]
theorem call38 (xs : Array Value) (w : World) : (callFunc 38 xs).run Tryz.prog w = .ok (.enter 38 xs) w := by kernel_rfl
def a1 : List (Nat × (List D → Option D)) := [(38, s38)]
theorem da1 : DelOk Tryz.prog (delOf a1) := del_cons del_nil call38 ok38
def tableV : Tbl := ⟨[⟨⟨#[109, 101, 108, 116]⟩, 5⟩, ⟨⟨#[97, 99, 105, 100]⟩, 2⟩], [⟨⟨#[98, 101, 101, 115]⟩, [⟨620, 640⟩, ⟨17, 22⟩]⟩, ⟨⟨#[112, 97, 114, 97, 102, 102, 105, 110]⟩, [⟨540, 580⟩, ⟨0, 0⟩]⟩, ⟨⟨#[116, 97, 108, 108, 111, 119]⟩, [⟨420, 460⟩, ⟨2, 10⟩]⟩], 950⟩
def s37 : List D → Option D := sp0 (cAgg rTbl) (some tableV)
theorem ok37 : ∀ ds d, s37 ds = some d → PureC Tryz.prog 37 ds d := ok_sp0 fun r hr => by
  cases hr
  refine pure_of_call (mkCx_ok da1 18 kp37 []) Tryz.func37 rfl rfl (Nat.le_of_ble_eq_true rfl) (by kernel_rfl) ?_
  rw [Tryz.results37]
  simp [kp37, a1, s38, rSpn_enc, tableV, rTbl_enc, rKnd_enc, rPrp_enc]
theorem call37 (xs : Array Value) (w : World) : (callFunc 37 xs).run Tryz.prog w = .ok (.enter 37 xs) w := by kernel_rfl
def validB (x : Tbl) : Bool := decide (okT x)
def g39 : List (Nat × (List D → Option D)) := [(17, s17)]
theorem dg39 : DelOk Tryz.prog (delOf g39) := del_cons del_nil call17 ok17
def s39 : List D → Option D := sp1 (cAgg rTbl) cBool fun x => some (validB x)
theorem ok39 : ∀ ds d, s39 ds = some d → PureC Tryz.prog 39 ds d := ok_sp1 fun x r hr => by
  cases hr
  refine pure_of_call (mkCx_ok dg39 14 kp39 []) Tryz.func39 rfl rfl (Nat.le_of_ble_eq_true rfl) (by kernel_rfl) ?_
  rw [Tryz.results39]
  unfold validB
  by_cases h : okT x
  · have h1 : (chk x).2.2 = 0 := h
    simp [kp39, rTbl_enc, rTbl_dec, g39, s17, h, h1]
  · have h1 : ((chk x).2.2 == 0) = false := by
      have : ¬ (chk x).2.2 = 0 := h
      simpa using this
    simp [kp39, rTbl_enc, rTbl_dec, g39, s17, h, h1]
theorem call39 (xs : Array Value) (w : World) : (callFunc 39 xs).run Tryz.prog w = .ok (.enter 39 xs) w := by kernel_rfl
def inB (l : List Int) (n : Int) : Bool := l.any fun a => a == n
def s43 : List D → Option D := sp2 (cList rInt) cInt cBool fun l n => if l.length < 1000000 then some (inB l n) else none
theorem ok43 : ∀ ds d, s43 ds = some d → PureC Tryz.prog 43 ds d := ok_sp2 fun l n r hr => by
  split at hr
  · rename_i hlm
    cases hr
    refine pure_of_call (mkCx_ok del_nil 18 kp43 []) Tryz.func43 rfl rfl (Nat.le_of_ble_eq_true rfl) (by kernel_rfl) ?_
    rw [Tryz.results43]
    unfold inB
    rcases first_is (fun a => a == n) l with ⟨e1, hall⟩ | ⟨k, hk, e1, hbad, hgood⟩
    · rw [e1]
      simp [kp43]
      (generalize hLoopQ : Cx.loop _ _ _ = rLoopQ; apply loop_then hLoopQ (fun k => ⟨[(0, .d (.sl 1 (l.map rInt.enc))), (1, .d (DI n)), (5, .d (DI k))], [], [], []⟩) l.length rfl; rotate_left; (show _ < 281474976710656; omega); rfl; rotate_left; all_goals clear hLoopQ)
      · intro j hj
        have w1 := wrap_small ((j : Int) + 1) (by omega) (by omega)
        have hjl : (j : Int) < l.length := by omega
        have hn := hall j hj
        simp [kp43, rInt_k, rInt_enc, hj, hjl, hn, w1]
      · simp [kp43, rInt_k]
    · rw [e1]
      simp [kp43]
      (generalize hLoopQ : Cx.loop _ _ _ = rLoopQ; apply loop_then hLoopQ (fun k => ⟨[(0, .d (.sl 1 (l.map rInt.enc))), (1, .d (DI n)), (5, .d (DI k))], [], [], []⟩) k rfl; rotate_left; (show _ < 281474976710656; omega); rfl; rotate_left; all_goals clear hLoopQ)
      · intro j hj'
        have hj : j < l.length := by omega
        have w1 := wrap_small ((j : Int) + 1) (by omega) (by omega)
        have hjl : (j : Int) < l.length := by omega
        have hn := hgood j hj hj'
        simp [kp43, rInt_k, rInt_enc, hj, hjl, hn, w1]
      · have hkl : (k : Int) < l.length := by omega
        simp [kp43, rInt_k, rInt_enc, hk, hkl, hbad]
  · cases hr
theorem call43 (xs : Array Value) (w : World) : (callFunc 43 xs).run Tryz.prog w = .ok (.enter 43 xs) w := by kernel_rfl
def amongV (s : Spn) (n : Int) : Int := s.lo + n % (s.hi - s.lo + 1)
theorem among_bd {s : Spn} {n : Int} (h1 : s.lo ≤ s.hi) : s.lo ≤ amongV s n ∧ amongV s n ≤ s.hi := by
  unfold amongV
  have a := Int.emod_nonneg n (show s.hi - s.lo + 1 ≠ 0 by omega)
  have b := Int.emod_lt_of_pos n (show 0 < s.hi - s.lo + 1 by omega)
  omega
def s45 : List D → Option D := sp2 (cAgg rSpn) cInt cInt fun s n => if (0 ≤ s.lo ∧ s.lo ≤ s.hi ∧ s.hi ≤ 1000000) ∧ 0 ≤ n ∧ n ≤ 1000000 then some (amongV s n) else none
theorem ok45 : ∀ ds d, s45 ds = some d → PureC Tryz.prog 45 ds d := ok_sp2 fun s n r hr => by
  split at hr
  · rename_i hc
    cases hr
    obtain ⟨⟨h0, h1, h2⟩, n0, n1⟩ := hc
    have hb := among_bd (n := n) h1
    unfold amongV at hb ⊢
    have v1 := wrap_small (s.hi - s.lo) (by omega) (by omega)
    have v2 := wrap_small (s.hi - s.lo + 1) (by omega) (by omega)
    have hne : ¬ s.hi - s.lo + 1 = 0 := by omega
    have e4 : n.tmod (s.hi - s.lo + 1) = n % (s.hi - s.lo + 1) := Int.tmod_eq_emod_of_nonneg n0
    have v3 := wrap_small (n % (s.hi - s.lo + 1)) (by omega) (by omega)
    have v4 := wrap_small (s.lo + n % (s.hi - s.lo + 1)) (by omega) (by omega)
    refine pure_of_call (mkCx_ok del_nil 16 kp45 []) Tryz.func45 rfl rfl (Nat.le_of_ble_eq_true rfl) (by kernel_rfl) ?_
    rw [Tryz.results45]
    simp [kp45, rSpn_enc, v1, v2, v3, v4, hne, e4]
  · cases hr
theorem call45 (xs : Array Value) (w : World) : (callFunc 45 xs).run Tryz.prog w = .ok (.enter 45 xs) w := by kernel_rfl
def wordOk (l : List Int) : Prop := ∀ z ∈ l, 0 ≤ z ∧ z ≤ 65535
instance (l : List Int) : Decidable (wordOk l) := inferInstanceAs (Decidable (∀ z ∈ l, _))
def turnV (l : List Int) (n : Int) : Int := l.getD (n.toNat % l.length) 0
theorem turn_bd {l : List Int} (h : wordOk l) (n : Int) : 0 ≤ turnV l n ∧ turnV l n ≤ 65535 := by
  unfold turnV
  by_cases hl : l.length = 0
  · have : l = [] := List.length_eq_zero_iff.1 hl
    subst this; simp
  · have hi := Nat.mod_lt n.toNat (show 0 < l.length by omega)
    rw [getD_at _ _ _ hi]
    exact h _ (List.getElem_mem hi)
def s48 : List D → Option D := sp2 (cList (rK .u16)) cInt cInt fun l n => if wordOk l ∧ 0 ≤ n ∧ n ≤ 1000000 then some (turnV l n) else none
theorem ok48 : ∀ ds d, s48 ds = some d → PureC Tryz.prog 48 ds d := ok_sp2 fun l n r hr => by
  split at hr
  · rename_i hc
    cases hr
    obtain ⟨hb, h0, h1⟩ := hc
    obtain ⟨N, rfl⟩ : ∃ B : Nat, n = B := ⟨n.toNat, by omega⟩
    refine pure_of_call (mkCx_ok del_nil 16 kp48 []) Tryz.func48 rfl rfl (Nat.le_of_ble_eq_true rfl) (by kernel_rfl) ?_
    rw [Tryz.results48]
    by_cases hl : l.length = 0
    · have : l = [] := List.length_eq_zero_iff.1 hl
      subst this
      simp [kp48, turnV]
    · have hl' : ((l.length : Int) == 0) = false := by rw [beq_eq_false_iff_ne]; omega
      have hl'' : ¬ (l.length : Int) = 0 := by omega
      have hne : ¬ l = [] := fun h => by rw [h] at hl; exact hl rfl
      have hi := Nat.mod_lt N (show 0 < l.length by omega)
      have hle := Nat.mod_le N l.length
      have hv : turnV l N = l[N % l.length] := by unfold turnV; rw [Int.toNat_natCast, getD_at _ _ _ hi]
      have hbd := turn_bd hb N
      rw [hv] at hbd
      have e1 : (N : Int).tmod l.length = ((N % l.length : Nat) : Int) := by
        rw [Int.tmod_eq_emod_of_nonneg (by omega)]; push_cast; rfl
      rw [hv]
      generalize hQ : N % l.length = Q at *
      have w1 := wrap_small (Q : Int) (by omega) (by omega)
      have w2 := wrap_small l[Q] (by omega) (by omega)
      simp [kp48, hl', hl'', hne, e1, w1, w2, hi]
  · cases hr
theorem call48 (xs : Array Value) (w : World) : (callFunc 48 xs).run Tryz.prog w = .ok (.enter 48 xs) w := by kernel_rfl
end Go.Proofs.YtkldmnladkcfeaaGreatDoor
namespace Go.Proofs.YtkldmnladkcfeaaGreatDoor
open Go.RowKit
set_option linter.unusedSimpArgs false
set_option linter.unusedVariables false
def textV0 : ByteArray := ⟨#[116, 101, 115, 116, 115, 32, 109, 101, 108, 116, 32, 53, 32, 97, 99, 105, 100, 32, 50, 10, 112, 117, 114, 101, 32, 57, 53, 48, 10, 98, 101, 101, 115, 32, 54, 50, 48, 32, 54, 52, 48, 32, 49, 55, 32, 50, 50, 10, 112, 97, 114, 97, 102, 102, 105, 110, 32, 53, 52, 48, 32, 53, 56, 48, 32, 48, 32, 48, 10, 116, 97, 108, 108, 111, 119, 32, 52, 50, 48, 32, 52, 54, 48, 32, 50, 32, 49, 48, 10]⟩
theorem names0 : namesOk tableV := by decide
theorem chk0 : chk tableV = (0, 0, 0) := by kernel_rfl
theorem okT0 : okT tableV := by unfold okT; rw [chk0]
theorem aMixed : mixP tableV [615, 16] 0 1 = (⟨637, 1000⟩, 0) := by kernel_rfl
theorem aDown : mixP tableV [615, 16] 1 2 = (⟨0, 0⟩, 9) := by kernel_rfl
theorem aSets : setsP tableV [615, 16] = ([1, 3, 5], 0) := by kernel_rfl
theorem aSold : soldP tableV [643, 16] 0 = (⟨967, 1000⟩, 1, 0) := by kernel_rfl
theorem aWithin : withP tableV [600, 9] = ([0, 1], [0, 1], 0) := by kernel_rfl
theorem aDet : detP tableV 0 1 = (410, 0) := by kernel_rfl
theorem aText : textV tableV = textV0 := by kernel_rfl
theorem aWrite : writeR tableV = (textV0, 0) := by unfold writeR; rw [if_pos okT0, aText]
theorem aRead : readP textV0 = (tableV, 0) := by
  have h := parse_P okT0
  rw [aText] at h
  unfold readP
  rw [if_neg (by decide), h]
  simp only
  rw [if_pos ⟨okT0, by rw [aText]⟩]
def kp20 (r : Nat) : List (Nat × Option Nat) := match r with
  | 0 => []
  | 1 => [(1, none), (2, none)]
  | 2 => [(1, none), (2, none), (4, none)]
  | 3 => [(1, none), (2, none), (4, none), (5, none), (6, none)]
  | 4 => [(1, none), (2, none), (4, none), (5, none), (6, none), (7, none), (8, none), (9, none)]
  | 5 => [(1, none), (2, none), (4, none), (5, none), (6, none), (7, none), (8, none), (9, none), (10, none), (11, none), (12, none)]
  | 6 => [(1, none), (2, none), (4, none), (5, none), (6, none), (7, none), (8, none), (9, none), (10, none), (11, none), (12, none), (13, none), (14, none)]
  | 7 => [(1, none), (2, none), (4, none), (5, none), (6, none), (7, none), (8, none), (9, none), (10, none), (11, none), (12, none), (13, none), (14, none), (15, none), (16, none)]
  | 8 => [(1, none), (2, none), (4, none), (5, none), (6, none), (7, none), (8, none), (9, none), (10, none), (11, none), (12, none), (13, none), (14, none), (15, none), (16, none), (17, none), (18, none)]
  | 9 => [(0, none)]
  | _ => []
def s61 : List D → Option D := sp0 cStr (some textV0)
theorem ok61 : ∀ ds d, s61 ds = some d → PureC Tryz.prog 61 ds d := ok_sp0 fun r hr => by
  cases hr
  refine pure_of_call (mkCx_ok del_nil 1 kp61 []) Tryz.func61 rfl rfl (Nat.le_of_ble_eq_true rfl) (by kernel_rfl) ?_
  rw [Tryz.results61]
  simp [kp61, textV0, List.append_eq, List.cons_append, List.nil_append]
theorem call61 (xs : Array Value) (w : World) : (callFunc 61 xs).run Tryz.prog w = .ok (.enter 61 xs) w := by kernel_rfl
theorem spn_mk' (a b : Int) : rSpn.dec [.v (.int .i64 a), .v (.int .i64 b)] = some ⟨a, b⟩ := rfl
theorem spn_mk'' (a b : Int) : rSpn.dec [DI a, DI b] = some ⟨a, b⟩ := rfl
theorem ints2' (a b : Int) : (cList rInt).dec (.sl 1 [[.v (.int .i64 a)], [.v (.int .i64 b)]]) = some [a, b] := rfl
theorem ints3' (a b c : Int) : (cList rInt).dec (.sl 1 [[.v (.int .i64 a)], [.v (.int .i64 b)], [.v (.int .i64 c)]]) = some [a, b, c] := rfl
theorem ints2'' (a b : Int) : (cList rInt).dec (.sl 1 [[DI a], [DI b]]) = some [a, b] := rfl
theorem ints3'' (a b c : Int) : (cList rInt).dec (.sl 1 [[DI a], [DI b], [DI c]]) = some [a, b, c] := rfl
theorem lim0 : limT tableV := by decide
theorem eq135 : eqI intB 0 [1, 3, 5] [1, 3, 5] = true := by decide
theorem eq01 : eqI intB 0 [0, 1] [0, 1] = true := by decide
theorem eqT : tblB tableV tableV = true := tblB_iff.2 rfl
def a2 : List (Nat × (List D → Option D)) := (37, s37) :: (21, s21) :: (25, s25) :: (30, s30) :: (28, s28) :: (23, s23) :: (32, s32) :: (34, s34) :: (18, s18) :: (27, s27) :: (36, s36) :: (61, s61) :: a1
theorem da2 : DelOk Tryz.prog (delOf a2) := del_cons (del_cons (del_cons (del_cons (del_cons (del_cons (del_cons (del_cons (del_cons (del_cons (del_cons (del_cons da1 call61 ok61) call36 ok36) call27 ok27) call18 ok18) call34 ok34) call32 ok32) call23 ok23) call28 ok28) call30 ok30) call25 ok25) call21 ok21) call37 ok37
def s20 : List D → Option D := sp0 cBool (some true)
set_option maxRecDepth 100000 in
set_option maxHeartbeats 8000000 in
theorem ok20 : ∀ ds d, s20 ds = some d → PureC Tryz.prog 20 ds d := ok_sp0 fun r hr => by
  cases hr
  refine pure_of_call (mkCx_ok da2 146 kp20 []) Tryz.func20 rfl rfl (Nat.le_of_ble_eq_true rfl) (by kernel_rfl) ?_
  rw [Tryz.results20]
  have hN := names0
  have hT := okT0
  have h1 := aMixed
  have h2 := aDown
  have h3 := aSets
  have h4 := aSold
  have h5 := aWithin
  have h6 := aDet
  have h7 := aWrite
  have h8 := aRead
  have hl := lim0
  have e1 := eq135
  have e2 := eq01
  have e3 := eqT
  have n1 : refName ⟨#[98, 101, 101, 115, 45, 119, 97, 120]⟩ = true := by decide
  have n2 : refName ⟨#[98, 101, 101, 115, 45]⟩ = false := by decide
  have m1 : strOk ⟨#[98, 101, 101, 115, 45, 119, 97, 120]⟩ := by decide
  have m2 : strOk ⟨#[98, 101, 101, 115, 45]⟩ := by decide
  simp [kp20, a2, a1, s37, s21, s25, s30, s28, s23, s32, s34, s18, s27, s36, s61, s38, rTbl_enc, rTbl_dec, rSpn_enc, rSpn_dec, spn_mk', spn_mk'', ints2', ints3', ints2'', ints3'', rInt_enc, hN, h1, h2, h3, h4, h5, h6, h7, h8, hl, e1, e2, e3, n1, n2, m1, m2]
theorem call20 (xs : Array Value) (w : World) : (callFunc 20 xs).run Tryz.prog w = .ok (.enter 20 xs) w := by kernel_rfl
end Go.Proofs.YtkldmnladkcfeaaGreatDoor
namespace Go.Proofs.YtkldmnladkcfeaaGreatDoor
open Go.RowKit
set_option linter.unusedSimpArgs false
set_option linter.unusedVariables false
def kp3 (r : Nat) : List (Nat × Option Nat) := match r with
  | 0 => [(0, none), (3, none)]
  | 1 => [(0, none), (3, none), (5, none), (6, none), (7, none)]
  | 2 => [(0, none), (5, none), (6, none), (7, none), (8, none), (9, none), (10, none)]
  | 3 => [(4, none)]
  | _ => []
def a3 : List (Nat × (List D → Option D)) := (16, s16) :: (17, s17) :: (18, s18) :: (19, s19) :: (20, s20) :: []
theorem da3 : DelOk Tryz.prog (delOf a3) := del_cons (del_cons (del_cons (del_cons (del_cons del_nil call20 ok20) call19 ok19) call18 ok18) call17 ok17) call16 ok16
def s3 : List D → Option D := sp2 cStr (cAgg rTbl) cBool fun s x => if strOk s ∧ namesOk x then some true else none
set_option maxHeartbeats 2000000 in
theorem ok3 : ∀ ds d, s3 ds = some d → PureC Tryz.prog 3 ds d := ok_sp2 fun s x r hr => by
  split at hr
  · rename_i hc
    cases hr
    obtain ⟨hs, hn⟩ := hc
    refine pure_of_call (mkCx_ok da3 46 kp3 []) Tryz.func3 rfl rfl (Nat.le_of_ble_eq_true rfl) (by kernel_rfl) ?_
    rw [Tryz.results3]
    simp [kp3, a3, s16, s17, s18, s19, s20, rTbl_enc, rTbl_dec, hs, hn]
  · cases hr
def a4 : List (Nat × (List D → Option D)) := (21, s21) :: (22, s22) :: (23, s23) :: (24, s24) :: (20, s20) :: []
def s4 : List D → Option D := sp3 (cAgg rTbl) (cList rInt) (cAgg rSpn) cBool fun x l y => if namesOk x then some true else none
theorem setsR_len (x : Tbl) (l : List Int) : (setsR x l).1.length < 1000000 := by
  unfold setsR
  split
  · simp
  · rename_i h
    have f := fine_of (okR_of (show okR x l by unfold okR; omega)).1
    have := allR_len (x := x) (l := l) f.k8
    simp only; omega
theorem withR_len (x : Tbl) (l : List Int) : (withR x l).1.length < 1000000 ∧ (withR x l).2.1.length < 1000000 := by
  unfold withR
  split
  · simp
  · rename_i h
    have f := fine_of (okR_of (show okR x l by unfold okR; omega)).1
    have := f.k8
    split
    · simp
    · have h1 := whereK_len (mustAt (allR x l)) x.kinds.length
      have h2 := whereK_len (mayAt (allR x l)) x.kinds.length
      exact ⟨by simp only; omega, by simp only; omega⟩
def a5 : List (Nat × (List D → Option D)) := (25, s25) :: (26, s26) :: (27, s27) :: (28, s28) :: (29, s29) :: (30, s30) :: (31, s31) :: (20, s20) :: []
theorem lim_ok {x : Tbl} (h : okT x) : limT x := by
  have f := fine_of h
  have h5 := f.p5
  have h8 := f.k8
  refine ⟨by omega, by omega, fun k hk => ?_⟩
  obtain ⟨i, hi, rfl⟩ := List.getElem_of_mem hk
  have := (f.span i hi).1
  omega
theorem lim_no : limT noT := ⟨by decide, by decide, fun k hk => by cases hk⟩
theorem lim_read (s : ByteArray) : limT (readR s).1 := by
  unfold readR
  split
  · exact lim_no
  · split
    · rename_i h; exact lim_ok h.1
    · exact lim_no
def a6 : List (Nat × (List D → Option D)) := (32, s32) :: (33, s33) :: (34, s34) :: (35, s35) :: (36, s36) :: (20, s20) :: []
end Go.Proofs.YtkldmnladkcfeaaGreatDoor
