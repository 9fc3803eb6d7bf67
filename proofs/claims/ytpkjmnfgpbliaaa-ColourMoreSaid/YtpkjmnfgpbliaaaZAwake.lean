/-
  Awake returns true. Conditions: none.
-/
import Derived.Test.YtpkjmnfgpbliaaaZBridge2
namespace Go.Proofs.Ytpkjmnfgpbliaaa
open Go.RowKit
set_option linter.unusedSimpArgs false
set_option linter.unusedVariables false

theorem rBat_decC (c g : Int) : rBat.dec [.v (.int .i64 c), .v (.int .i64 g)] = some ⟨c, g⟩ := rfl
theorem rTwo_decC (c g : Int) : rTwo.dec [.v (.int .i64 c), .v (.int .i64 g)] = some (c, g) := rfl
theorem ints3 (a b c : Int) : (cList rInt).dec (.sl 1 [[.v (.int .i64 a)], [.v (.int .i64 b)], [.v (.int .i64 c)]]) = some [a, b, c] := rfl
theorem ints0 : (cList rInt).dec (.sl 1 []) = some [] := rfl
theorem ints4 (a b c : Int) : (cList rInt).dec (.sl 1 [[DI a], [DI b], [DI c]]) = some [a, b, c] := rfl
theorem names0 : namesOk shopV := by decide
theorem aLeft : leftR shopV 2 2 = (⟨200, 1600⟩, 0) := by kernel_rfl
theorem aRinses : rinsesR shopV 2 ⟨0, 2000⟩ = (2, 0) := by kernel_rfl
theorem aDown : rinsesR shopV 2 ⟨0, 100⟩ = (0, 9) := by kernel_rfl
theorem aLost : lostR shopV 2 batsV [2, 0, 1] = (150, 0) := by kernel_rfl
theorem aShows : showsR shopV 2 batsV [0, 1, 2] [0, 1, 0] = (1, 0) := by kernel_rfl
theorem aBest : refBest shopV 2 batsV = ([0, 1, 2], 100, 0) := by kernel_rfl
theorem aRush : rushR shopV 0 batsV [1, 2, 0] ⟨1, 2000⟩ = (1, 0, 0) := by kernel_rfl
theorem aTwo : refTwo shopV (2, 0) batsV = (([], [1, 2, 0]), 0, 0) := by kernel_rfl
def kp21 (r : Nat) : List (Nat × Option Nat) := match r with
  | 0 => []
  | 1 => [(1, none), (2, none)]
  | 2 => [(1, none), (2, none), (3, none), (4, none)]
  | 3 => [(1, none), (2, none), (3, none), (4, none), (6, none)]
  | 4 => [(1, none), (2, none), (3, none), (4, none), (6, none), (7, none), (8, none)]
  | 5 => [(1, none), (2, none), (3, none), (4, none), (6, none), (7, none), (8, none), (9, none), (10, none)]
  | 6 => [(1, none), (2, none), (3, none), (4, none), (6, none), (7, none), (8, none), (9, none), (10, none), (11, none), (12, none), (13, none)]
  | 7 => [(1, none), (2, none), (3, none), (4, none), (6, none), (7, none), (8, none), (9, none), (10, none), (11, none), (12, none), (13, none), (14, none), (15, none), (16, none)]
  | 8 => [(1, none), (2, none), (3, none), (4, none), (6, none), (7, none), (8, none), (9, none), (10, none), (11, none), (12, none), (13, none), (14, none), (15, none), (16, none), (17, none), (18, none), (19, none)]
  | 9 => [(0, none)]
  | _ => []
theorem call17' (xs : Array Value) (w : World) : (callFunc 22 xs).run Try.prog w = .ok (.enter 22 xs) w := by kernel_rfl
theorem call24' (xs : Array Value) (w : World) : (callFunc 24 xs).run Try.prog w = .ok (.enter 24 xs) w := by kernel_rfl
theorem call28' (xs : Array Value) (w : World) : (callFunc 28 xs).run Try.prog w = .ok (.enter 28 xs) w := by kernel_rfl
theorem call26' (xs : Array Value) (w : World) : (callFunc 26 xs).run Try.prog w = .ok (.enter 26 xs) w := by kernel_rfl
theorem call31' (xs : Array Value) (w : World) : (callFunc 31 xs).run Try.prog w = .ok (.enter 31 xs) w := by kernel_rfl
theorem call33' (xs : Array Value) (w : World) : (callFunc 33 xs).run Try.prog w = .ok (.enter 33 xs) w := by kernel_rfl
theorem call34' (xs : Array Value) (w : World) : (callFunc 34 xs).run Try.prog w = .ok (.enter 34 xs) w := by kernel_rfl
theorem call30' (xs : Array Value) (w : World) : (callFunc 30 xs).run Try.prog w = .ok (.enter 30 xs) w := by kernel_rfl
def pa : List (Nat × (List D → Option D)) := (22, sLost) :: (24, sShows) :: (28, sBest) :: (26, sRush) :: (31, sTwo) :: (17, sLeft) :: (19, sRinses) :: (33, s33) :: (34, s34) :: (30, s30) :: o1
theorem depa : DelOk Try.prog (delOf pa) := del_cons (del_cons (del_cons (del_cons (del_cons (del_cons (del_cons (del_cons (del_cons (del_cons deo1 call30' ok30) call34' ok34) call33' ok33) call19 okRinses) call17 okLeft) call31' okTwo) call26' okRush) call28' okBest) call24' okShows) call17' okLost
set_option maxRecDepth 100000 in
set_option maxHeartbeats 4000000 in
theorem ok21 : AwakeOk := ok_sp0 fun r hr => by
  cases hr
  refine pure_of_call (mkCx_ok depa 156 kp21 []) Try.func21 rfl rfl (Nat.le_of_ble_eq_true rfl) (by kernel_rfl) ?_
  rw [Try.results21]
  have hN := names0
  have h1 := aLeft
  have h2 := aRinses
  have h3 := aDown
  have h4 := aLost
  have h5 := aShows
  have h6 := aBest
  have h7 := aRush
  have h8 := aTwo
  simp [kp21, pa, o1, l12, s35, sLost, sShows, sBest, sRush, sTwo, sLeft, sRinses, s33, s34, List.append_eq, List.cons_append, List.nil_append, rShp_enc, rShp_dec, rBat_enc, rBat_dec, rBat_k, rBat_decL, rSpn_enc, rTwo_enc, rPair_enc, rInt_dec2, rBat_decC, rTwo_decC, ints3, ints0, ints4, l11, l10, l9, l8, l7, l6, l5, l4, l3, l2, l1, s30, hN, h1, h2, h3, h4, h5, h6, h7, h8]
end Go.Proofs.Ytpkjmnfgpbliaaa
