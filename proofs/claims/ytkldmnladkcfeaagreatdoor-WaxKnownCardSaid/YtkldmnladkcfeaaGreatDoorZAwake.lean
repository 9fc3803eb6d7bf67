/-
  Helpers of the laws of the wax chapter. Conditions: none.
-/
import Derived.Test.YtkldmnladkcfeaaGreatDoorZRdL
import Derived.Test.YtkldmnladkcfeaaGreatDoorZLawP
namespace Go.Proofs.YtkldmnladkcfeaaGreatDoor
open Go.RowKit
set_option linter.unusedSimpArgs false
set_option linter.unusedVariables false
def kp37 (r : Nat) : List (Nat × Option Nat) := match r with
  | 0 => [(0, none)]
  | 1 => [(0, none)]
  | _ => []
def kp38 (r : Nat) : List (Nat × Option Nat) := match r with
  | 0 => [(0, none), (1, none), (4, none)]
  | 1 => [(4, none)]
  | _ => []
def kp61 (r : Nat) : List (Nat × Option Nat) := match r with
  | 0 => []
  | 1 => [(0, none)]
  | _ => []
def s38 : List D → Option D := sp2 cInt cInt (cAgg rSpn) fun a b => some ⟨a, b⟩
theorem ok38 : ∀ ds d, s38 ds = some d → PureC Tryz.prog 38 ds d := ok_sp2 fun a b r hr => by
  cases hr
  refine pure_of_call (mkCx_ok del_nil 8 kp38 []) Tryz.func38 rfl rfl (Nat.le_of_ble_eq_true rfl) (by kernel_rfl) ?_
  rw [Tryz.results38]
  simp [kp38, rSpn_enc]
theorem call38 (xs : Array Value) (w : World) : (callFunc 38 xs).run Tryz.prog w = .ok (.enter 38 xs) w := by kernel_rfl
def a1 : List (Nat × (List D → Option D)) := [(38, s38)]
theorem da1 : DelOk Tryz.prog (delOf a1) := del_cons del_nil call38 ok38
def tableV : Tbl := ⟨[⟨⟨#[109, 101, 108, 116]⟩, 5⟩, ⟨⟨#[97, 99, 105, 100]⟩, 2⟩], [⟨⟨#[98, 101, 101, 115]⟩, [⟨620, 640⟩, ⟨17, 22⟩]⟩, ⟨⟨#[112, 97, 114, 97, 102, 102, 105, 110]⟩, [⟨540, 580⟩, ⟨0, 0⟩]⟩, ⟨⟨#[116, 97, 108, 108, 111, 119]⟩, [⟨420, 460⟩, ⟨2, 10⟩]⟩], 950⟩
def s37 : List D → Option D := sp0 (cAgg rTbl) (some tableV)
theorem ok37 : ∀ ds d, s37 ds = some d → PureC Tryz.prog 37 ds d := ok_sp0 fun r hr => by
  cases hr
  refine pure_of_call (mkCx_ok da1 18 kp37 []) Tryz.func37 rfl rfl (Nat.le_of_ble_eq_true rfl) (by kernel_rfl) ?_
  rw [Tryz.results37]
  simp [kp37, a1, s38, rSpn_enc, tableV, rTbl_enc, rKnd_enc, rPrp_enc]
theorem call37 (xs : Array Value) (w : World) : (callFunc 37 xs).run Tryz.prog w = .ok (.enter 37 xs) w := by kernel_rfl
def wordOk (l : List Int) : Prop := ∀ z ∈ l, 0 ≤ z ∧ z ≤ 65535
instance (l : List Int) : Decidable (wordOk l) := inferInstanceAs (Decidable (∀ z ∈ l, _))
end Go.Proofs.YtkldmnladkcfeaaGreatDoor
namespace Go.Proofs.YtkldmnladkcfeaaGreatDoor
open Go.RowKit
set_option linter.unusedSimpArgs false
set_option linter.unusedVariables false
def textV0 : ByteArray := ⟨#[116, 101, 115, 116, 115, 32, 109, 101, 108, 116, 32, 53, 32, 97, 99, 105, 100, 32, 50, 10, 112, 117, 114, 101, 32, 57, 53, 48, 10, 98, 101, 101, 115, 32, 54, 50, 48, 32, 54, 52, 48, 32, 49, 55, 32, 50, 50, 10, 112, 97, 114, 97, 102, 102, 105, 110, 32, 53, 52, 48, 32, 53, 56, 48, 32, 48, 32, 48, 10, 116, 97, 108, 108, 111, 119, 32, 52, 50, 48, 32, 52, 54, 48, 32, 50, 32, 49, 48, 10]⟩
theorem names0 : namesOk tableV := by decide
theorem chk0 : chk tableV = (0, 0, 0) := by kernel_rfl
theorem okT0 : okT tableV := by unfold okT; rw [chk0]
theorem aMixed : mixP tableV [615, 16] 0 1 = (⟨637, 1000⟩, 0) := by kernel_rfl
theorem aDown : mixP tableV [615, 16] 1 2 = (⟨0, 0⟩, 9) := by kernel_rfl
theorem aSets : setsP tableV [615, 16] = ([1, 3, 5], 0) := by kernel_rfl
theorem aSold : soldP tableV [643, 16] 0 = (⟨967, 1000⟩, 1, 0) := by kernel_rfl
theorem aWithin : withP tableV [600, 9] = ([0, 1], [0, 1], 0) := by kernel_rfl
theorem aDet : detP tableV 0 1 = (410, 0) := by kernel_rfl
theorem aText : textV tableV = textV0 := by kernel_rfl
theorem aWrite : writeR tableV = (textV0, 0) := by unfold writeR; rw [if_pos okT0, aText]
theorem aRead : readP textV0 = (tableV, 0) := by
  have h := parse_P okT0
  rw [aText] at h
  unfold readP
  rw [if_neg (by decide), h]
  simp only
  rw [if_pos ⟨okT0, by rw [aText]⟩]
def kp20 (r : Nat) : List (Nat × Option Nat) := match r with
  | 0 => []
  | 1 => [(1, none), (2, none)]
  | 2 => [(1, none), (2, none), (4, none)]
  | 3 => [(1, none), (2, none), (4, none), (5, none), (6, none)]
  | 4 => [(1, none), (2, none), (4, none), (5, none), (6, none), (7, none), (8, none), (9, none)]
  | 5 => [(1, none), (2, none), (4, none), (5, none), (6, none), (7, none), (8, none), (9, none), (10, none), (11, none), (12, none)]
  | 6 => [(1, none), (2, none), (4, none), (5, none), (6, none), (7, none), (8, none), (9, none), (10, none), (11, none), (12, none), (13, none), (14, none)]
  | 7 => [(1, none), (2, none), (4, none), (5, none), (6, none), (7, none), (8, none), (9, none), (10, none), (11, none), (12, none), (13, none), (14, none), (15, none), (16, none)]
  | 8 => [(1, none), (2, none), (4, none), (5, none), (6, none), (7, none), (8, none), (9, none), (10, none), (11, none), (12, none), (13, none), (14, none), (15, none), (16, none), (17, none), (18, none)]
  | 9 => [(0, none)]
  | _ => []
def s61 : List D → Option D := sp0 cStr (some textV0)
theorem ok61 : ∀ ds d, s61 ds = some d → PureC Tryz.prog 61 ds d := ok_sp0 fun r hr => by
  cases hr
  refine pure_of_call (mkCx_ok del_nil 1 kp61 []) Tryz.func61 rfl rfl (Nat.le_of_ble_eq_true rfl) (by kernel_rfl) ?_
  rw [Tryz.results61]
  simp [kp61, textV0, List.append_eq, List.cons_append, List.nil_append]
theorem call61 (xs : Array Value) (w : World) : (callFunc 61 xs).run Tryz.prog w = .ok (.enter 61 xs) w := by kernel_rfl
theorem spn_mk' (a b : Int) : rSpn.dec [.v (.int .i64 a), .v (.int .i64 b)] = some ⟨a, b⟩ := rfl
theorem spn_mk'' (a b : Int) : rSpn.dec [DI a, DI b] = some ⟨a, b⟩ := rfl
theorem ints2' (a b : Int) : (cList rInt).dec (.sl 1 [[.v (.int .i64 a)], [.v (.int .i64 b)]]) = some [a, b] := rfl
theorem ints3' (a b c : Int) : (cList rInt).dec (.sl 1 [[.v (.int .i64 a)], [.v (.int .i64 b)], [.v (.int .i64 c)]]) = some [a, b, c] := rfl
theorem ints2'' (a b : Int) : (cList rInt).dec (.sl 1 [[DI a], [DI b]]) = some [a, b] := rfl
theorem ints3'' (a b c : Int) : (cList rInt).dec (.sl 1 [[DI a], [DI b], [DI c]]) = some [a, b, c] := rfl
theorem lim0 : limT tableV := by decide
theorem eq135 : eqI intB 0 [1, 3, 5] [1, 3, 5] = true := by decide
theorem eq01 : eqI intB 0 [0, 1] [0, 1] = true := by decide
theorem eqT : tblB tableV tableV = true := tblB_iff.2 rfl
def a2 : List (Nat × (List D → Option D)) := (37, s37) :: (21, s21) :: (25, s25) :: (30, s30) :: (28, s28) :: (23, s23) :: (32, s32) :: (34, s34) :: (18, s18) :: (27, s27) :: (36, s36) :: (61, s61) :: a1
theorem da2 : DelOk Tryz.prog (delOf a2) := del_cons (del_cons (del_cons (del_cons (del_cons (del_cons (del_cons (del_cons (del_cons (del_cons (del_cons (del_cons da1 call61 ok61) call36 ok36) call27 ok27) call18 ok18) call34 ok34) call32 ok32) call23 ok23) call28 ok28) call30 ok30) call25 ok25) call21 ok21) call37 ok37
def s20 : List D → Option D := sp0 cBool (some true)
set_option maxRecDepth 100000 in
set_option maxHeartbeats 8000000 in
theorem ok20 : ∀ ds d, s20 ds = some d → PureC Tryz.prog 20 ds d := ok_sp0 fun r hr => by
  cases hr
  refine pure_of_call (mkCx_ok da2 146 kp20 []) Tryz.func20 rfl rfl (Nat.le_of_ble_eq_true rfl) (by kernel_rfl) ?_
  rw [Tryz.results20]
  have hN := names0
  have hT := okT0
  have h1 := aMixed
  have h2 := aDown
  have h3 := aSets
  have h4 := aSold
  have h5 := aWithin
  have h6 := aDet
  have h7 := aWrite
  have h8 := aRead
  have hl := lim0
  have e1 := eq135
  have e2 := eq01
  have e3 := eqT
  have n1 : refName ⟨#[98, 101, 101, 115, 45, 119, 97, 120]⟩ = true := by decide
  have n2 : refName ⟨#[98, 101, 101, 115, 45]⟩ = false := by decide
  have m1 : strOk ⟨#[98, 101, 101, 115, 45, 119, 97, 120]⟩ := by decide
  have m2 : strOk ⟨#[98, 101, 101, 115, 45]⟩ := by decide
  simp [kp20, a2, a1, s37, s21, s25, s30, s28, s23, s32, s34, s18, s27, s36, s61, s38, rTbl_enc, rTbl_dec, rSpn_enc, rSpn_dec, spn_mk', spn_mk'', ints2', ints3', ints2'', ints3'', rInt_enc, hN, h1, h2, h3, h4, h5, h6, h7, h8, hl, e1, e2, e3, n1, n2, m1, m2]
theorem call20 (xs : Array Value) (w : World) : (callFunc 20 xs).run Tryz.prog w = .ok (.enter 20 xs) w := by kernel_rfl
end Go.Proofs.YtkldmnladkcfeaaGreatDoor
namespace Go.Proofs.YtkldmnladkcfeaaGreatDoor
open Go.RowKit
set_option linter.unusedSimpArgs false
set_option linter.unusedVariables false
def kp4 (r : Nat) : List (Nat × Option Nat) := match r with
  | 0 => [(1, none), (3, none), (5, none)]
  | 1 => [(1, none), (3, none), (5, none), (7, none), (8, none)]
  | 2 => [(3, none), (5, none), (7, none), (8, none), (9, none), (10, none)]
  | 3 => [(3, none), (5, none), (40, none)]
  | 4 => [(6, none)]
  | 5 => [(3, none), (5, none), (8, none), (11, none)]
  | 6 => [(8, none), (10, none), (11, none), (12, none)]
  | 7 => [(6, none)]
  | _ => []
def kp5 (r : Nat) : List (Nat × Option Nat) := match r with
  | 0 => [(1, none), (2, none), (3, none)]
  | 1 => [(1, none), (2, none), (3, none), (7, none), (8, none)]
  | 2 => [(1, none), (2, none), (3, none), (7, none), (8, none), (9, none), (10, none)]
  | 3 => [(1, none), (2, none), (3, none), (39, none)]
  | 4 => [(6, none)]
  | 5 => [(1, none), (2, none), (3, none), (8, none), (11, none), (12, none)]
  | 6 => [(1, none), (2, none), (3, none), (8, none), (10, none), (11, none), (12, none), (13, none), (14, none)]
  | 7 => [(1, none), (2, none), (3, none), (68, none)]
  | 8 => [(6, none)]
  | 9 => [(1, none), (2, none), (3, none), (8, none), (15, none), (16, none)]
  | 10 => [(8, none), (10, none), (15, none), (16, none), (17, none), (18, none)]
  | 11 => [(6, none)]
  | _ => []
def kp6 (r : Nat) : List (Nat × Option Nat) := match r with
  | 0 => [(1, none), (2, none)]
  | 1 => [(1, none), (2, none), (5, none), (6, none)]
  | 2 => [(1, none), (5, none), (6, none), (7, none), (8, none)]
  | 3 => [(1, none), (28, none)]
  | 4 => [(4, none)]
  | 5 => [(1, none), (6, none), (9, none)]
  | 6 => [(6, none), (8, none), (9, none), (10, none)]
  | 7 => [(4, none)]
  | _ => []
def kp7 (r : Nat) : List (Nat × Option Nat) := match r with
  | 0 => []
  | 1 => [(1, none), (2, none)]
  | 2 => [(1, none), (2, none), (3, none), (4, none), (5, none)]
  | 3 => [(1, none), (2, none), (3, none), (4, none), (5, none), (6, none), (7, none), (8, none)]
  | 4 => [(1, none), (2, none), (3, none), (4, none), (5, none), (6, none), (7, none), (8, none), (9, none), (10, none), (11, none)]
  | 5 => [(1, none), (2, none), (3, none), (4, none), (5, none), (6, none), (7, none), (8, none), (9, none), (10, none), (11, none), (12, none), (13, none)]
  | 6 => [(0, none)]
  | _ => []
def a3 : List (Nat × (List D → Option D)) := (16, s16) :: (17, s17) :: (18, s18) :: (19, s19) :: (20, s20) :: []
def s3 : List D → Option D := sp2 cStr (cAgg rTbl) cBool fun s x => if strOk s ∧ namesOk x then some true else none
def a4 : List (Nat × (List D → Option D)) := (21, s21) :: (22, s22) :: (23, s23) :: (24, s24) :: (20, s20) :: []
theorem da4 : DelOk Tryz.prog (delOf a4) := del_cons (del_cons (del_cons (del_cons (del_cons del_nil call20 ok20) call24 ok24) call23 ok23) call22 ok22) call21 ok21
def s4 : List D → Option D := sp3 (cAgg rTbl) (cList rInt) (cAgg rSpn) cBool fun x l y => if namesOk x then some true else none
set_option maxHeartbeats 2000000 in
theorem ok4 : ∀ ds d, s4 ds = some d → PureC Tryz.prog 4 ds d := ok_sp3 fun x l y r hr => by
  split at hr
  · rename_i hn
    cases hr
    refine pure_of_call (mkCx_ok da4 70 kp4 []) Tryz.func4 rfl rfl (Nat.le_of_ble_eq_true rfl) (by kernel_rfl) ?_
    rw [Tryz.results4]
    simp [kp4, a4, s21, s22, s23, s24, s20, mix_eq, det_eq, rTbl_enc, rTbl_dec, rSpn_enc, rInt_decL, hn]
  · cases hr
theorem eqI_refl (l : List Int) : eqI intB 0 l l = true := intsB_iff.2 rfl
theorem setsR_len (x : Tbl) (l : List Int) : (setsR x l).1.length < 1000000 := by
  unfold setsR
  split
  · simp
  · rename_i h
    have f := fine_of (okR_of (show okR x l by unfold okR; omega)).1
    have := allR_len (x := x) (l := l) f.k8
    simp only; omega
theorem withR_len (x : Tbl) (l : List Int) : (withR x l).1.length < 1000000 ∧ (withR x l).2.1.length < 1000000 := by
  unfold withR
  split
  · simp
  · rename_i h
    have f := fine_of (okR_of (show okR x l by unfold okR; omega)).1
    have := f.k8
    split
    · simp
    · have h1 := whereK_len (mustAt (allR x l)) x.kinds.length
      have h2 := whereK_len (mayAt (allR x l)) x.kinds.length
      exact ⟨by simp only; omega, by simp only; omega⟩
def a5 : List (Nat × (List D → Option D)) := (25, s25) :: (26, s26) :: (27, s27) :: (28, s28) :: (29, s29) :: (30, s30) :: (31, s31) :: (20, s20) :: []
theorem da5 : DelOk Tryz.prog (delOf a5) := del_cons (del_cons (del_cons (del_cons (del_cons (del_cons (del_cons (del_cons del_nil call20 ok20) call31 ok31) call30 ok30) call29 ok29) call28 ok28) call27 ok27) call26 ok26) call25 ok25
def s5 : List D → Option D := sp3 (cAgg rTbl) (cList rInt) cInt cBool fun x l k => if namesOk x then some true else none
set_option maxHeartbeats 2000000 in
theorem ok5 : ∀ ds d, s5 ds = some d → PureC Tryz.prog 5 ds d := ok_sp3 fun x l k r hr => by
  split at hr
  · rename_i hn
    cases hr
    have hl := setsR_len x l
    obtain ⟨hl1, hl2⟩ := withR_len x l
    refine pure_of_call (mkCx_ok da5 101 kp5 []) Tryz.func5 rfl rfl (Nat.le_of_ble_eq_true rfl) (by kernel_rfl) ?_
    rw [Tryz.results5]
    simp [kp5, a5, s25, s26, s27, s28, s29, s30, s31, s20, sets_eq, with_eq, sold_eq, eqI_refl, rTbl_enc, rTbl_dec, rSpn_enc, rInt_decL, hn, hl, hl1, hl2]
  · cases hr
theorem lim_ok {x : Tbl} (h : okT x) : limT x := by
  have f := fine_of h
  have h5 := f.p5
  have h8 := f.k8
  refine ⟨by omega, by omega, fun k hk => ?_⟩
  obtain ⟨i, hi, rfl⟩ := List.getElem_of_mem hk
  have := (f.span i hi).1
  omega
theorem lim_no : limT noT := ⟨by decide, by decide, fun k hk => by cases hk⟩
theorem lim_read (s : ByteArray) : limT (readR s).1 := by
  unfold readR
  split
  · exact lim_no
  · split
    · rename_i h; exact lim_ok h.1
    · exact lim_no
theorem tbl_refl (x : Tbl) : tblB x x = true := tblB_iff.2 rfl
def a6 : List (Nat × (List D → Option D)) := (32, s32) :: (33, s33) :: (34, s34) :: (35, s35) :: (36, s36) :: (20, s20) :: []
theorem da6 : DelOk Tryz.prog (delOf a6) := del_cons (del_cons (del_cons (del_cons (del_cons (del_cons del_nil call20 ok20) call36 ok36) call35 ok35) call34 ok34) call33 ok33) call32 ok32
def s6 : List D → Option D := sp2 (cAgg rTbl) cStr cBool fun x s => if namesOk x then some true else none
set_option maxHeartbeats 2000000 in
theorem ok6 : ∀ ds d, s6 ds = some d → PureC Tryz.prog 6 ds d := ok_sp2 fun x s r hr => by
  split at hr
  · rename_i hn
    cases hr
    have hl := lim_read s
    refine pure_of_call (mkCx_ok da6 50 kp6 []) Tryz.func6 rfl rfl (Nat.le_of_ble_eq_true rfl) (by kernel_rfl) ?_
    rw [Tryz.results6]
    simp [kp6, a6, s32, s33, s34, s35, s36, s20, read_eq, tbl_refl, rTbl_enc, rTbl_dec, hn, hl]
  · cases hr
theorem kMixed : mixP tableV [615, 16] 0 2 = (⟨834, 1000⟩, 0) := by kernel_rfl
theorem kSold : soldP tableV [615, 16] 0 = (⟨637, 1000⟩, 2, 0) := by kernel_rfl
theorem kSold2 : soldP tableV [600, 9] 0 = (⟨319, 647⟩, 0, 0) := by kernel_rfl
theorem kWithin : withP tableV [615, 16] = ([0], [0, 1, 2], 0) := by kernel_rfl
theorem kDet : detP tableV 1 0 = (236, 0) := by kernel_rfl
theorem ints1' (a : Int) : (cList rInt).dec (.sl 1 [[.v (.int .i64 a)]]) = some [a] := rfl
theorem ints1'' (a : Int) : (cList rInt).dec (.sl 1 [[DI a]]) = some [a] := rfl
theorem eq0 : eqI intB 0 [0] [0] = true := by decide
theorem eq012 : eqI intB 0 [0, 1, 2] [0, 1, 2] = true := by decide
def a7 : List (Nat × (List D → Option D)) := (20, s20) :: a2
theorem da7 : DelOk Tryz.prog (delOf a7) := del_cons da2 call20 ok20
def s7 : List D → Option D := sp0 cBool (some true)
set_option maxRecDepth 100000 in
set_option maxHeartbeats 8000000 in
theorem ok7 : ∀ ds d, s7 ds = some d → PureC Tryz.prog 7 ds d := ok_sp0 fun r hr => by
  cases hr
  refine pure_of_call (mkCx_ok da7 104 kp7 []) Tryz.func7 rfl rfl (Nat.le_of_ble_eq_true rfl) (by kernel_rfl) ?_
  rw [Tryz.results7]
  have hN := names0
  have h1 := kMixed
  have h2 := kSold
  have h3 := kSold2
  have h4 := kWithin
  have h5 := kDet
  have e1 := eq0
  have e2 := eq012
  simp [kp7, a7, a2, a1, s37, s21, s25, s30, s28, s23, s27, s38, s20, rTbl_enc, rTbl_dec, rSpn_enc, rSpn_dec, spn_mk', spn_mk'', ints1', ints2', ints3', ints1'', ints2'', ints3'', rInt_enc, hN, h1, h2, h3, h4, h5, e1, e2]
end Go.Proofs.YtkldmnladkcfeaaGreatDoor
