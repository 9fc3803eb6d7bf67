/-
  Awake returns true. Conditions: none.
-/
import Derived.Test.YtpkjmnfgpbliaaaZBridge2
namespace Go.Proofs.Ytpkjmnfgpbliaaa
open Go.RowKit
set_option linter.unusedSimpArgs false
set_option linter.unusedVariables false

theorem rBat_decC (c g : Int) : rBat.dec [.v (.int .i64 c), .v (.int .i64 g)] = some ⟨c, g⟩ := rfl
theorem rTwo_decC (c g : Int) : rTwo.dec [.v (.int .i64 c), .v (.int .i64 g)] = some (c, g) := rfl
theorem ints3 (a b c : Int) : (cList rInt).dec (.sl 1 [[.v (.int .i64 a)], [.v (.int .i64 b)], [.v (.int .i64 c)]]) = some [a, b, c] := rfl
theorem ints0 : (cList rInt).dec (.sl 1 []) = some [] := rfl
theorem ints4 (a b c : Int) : (cList rInt).dec (.sl 1 [[DI a], [DI b], [DI c]]) = some [a, b, c] := rfl
theorem names0 : namesOk shopV := by decide
theorem aLeft : leftR shopV 2 2 = (⟨200, 1600⟩, 0) := by kernel_rfl
theorem aRinses : rinsesR shopV 2 ⟨0, 2000⟩ = (2, 0) := by kernel_rfl
theorem aDown : rinsesR shopV 2 ⟨0, 100⟩ = (0, 9) := by kernel_rfl
theorem aLost : lostR shopV 2 batsV [2, 0, 1] = (150, 0) := by kernel_rfl
theorem aShows : showsR shopV 2 batsV [0, 1, 2] [0, 1, 0] = (1, 0) := by kernel_rfl
theorem aBest : refBest shopV 2 batsV = ([0, 1, 2], 100, 0) := by kernel_rfl
theorem aRush : rushR shopV 0 batsV [1, 2, 0] ⟨1, 2000⟩ = (1, 0, 0) := by kernel_rfl
theorem aTwo : refTwo shopV (2, 0) batsV = (([], [1, 2, 0]), 0, 0) := by kernel_rfl
def kp21 (r : Nat) : List (Nat × Option Nat) := match r with
  | 0 => []
  | 1 => [(1, none), (2, none)]
  | 2 => [(1, none), (2, none), (3, none), (4, none)]
  | 3 => [(1, none), (2, none), (3, none), (4, none), (6, none)]
  | 4 => [(1, none), (2, none), (3, none), (4, none), (6, none), (7, none), (8, none)]
  | 5 => [(1, none), (2, none), (3, none), (4, none), (6, none), (7, none), (8, none), (9, none), (10, none)]
  | 6 => [(1, none), (2, none), (3, none), (4, none), (6, none), (7, none), (8, none), (9, none), (10, none), (11, none), (12, none), (13, none)]
  | 7 => [(1, none), (2, none), (3, none), (4, none), (6, none), (7, none), (8, none), (9, none), (10, none), (11, none), (12, none), (13, none), (14, none), (15, none), (16, none)]
  | 8 => [(1, none), (2, none), (3, none), (4, none), (6, none), (7, none), (8, none), (9, none), (10, none), (11, none), (12, none), (13, none), (14, none), (15, none), (16, none), (17, none), (18, none), (19, none)]
  | 9 => [(0, none)]
  | _ => []
theorem call17' (xs : Array Value) (w : World) : (callFunc 22 xs).run Try.prog w = .ok (.enter 22 xs) w := by kernel_rfl
theorem call24' (xs : Array Value) (w : World) : (callFunc 24 xs).run Try.prog w = .ok (.enter 24 xs) w := by kernel_rfl
theorem call28' (xs : Array Value) (w : World) : (callFunc 28 xs).run Try.prog w = .ok (.enter 28 xs) w := by kernel_rfl
theorem call26' (xs : Array Value) (w : World) : (callFunc 26 xs).run Try.prog w = .ok (.enter 26 xs) w := by kernel_rfl
theorem call31' (xs : Array Value) (w : World) : (callFunc 31 xs).run Try.prog w = .ok (.enter 31 xs) w := by kernel_rfl
theorem call33' (xs : Array Value) (w : World) : (callFunc 33 xs).run Try.prog w = .ok (.enter 33 xs) w := by kernel_rfl
theorem call34' (xs : Array Value) (w : World) : (callFunc 34 xs).run Try.prog w = .ok (.enter 34 xs) w := by kernel_rfl
theorem call30' (xs : Array Value) (w : World) : (callFunc 30 xs).run Try.prog w = .ok (.enter 30 xs) w := by kernel_rfl
def pa : List (Nat × (List D → Option D)) := (22, sLost) :: (24, sShows) :: (28, sBest) :: (26, sRush) :: (31, sTwo) :: (17, sLeft) :: (19, sRinses) :: (33, s33) :: (34, s34) :: (30, s30) :: o1
theorem depa : DelOk Try.prog (delOf pa) := del_cons (del_cons (del_cons (del_cons (del_cons (del_cons (del_cons (del_cons (del_cons (del_cons deo1 call30' ok30) call34' ok34) call33' ok33) call19 okRinses) call17 okLeft) call31' okTwo) call26' okRush) call28' okBest) call24' okShows) call17' okLost
set_option maxRecDepth 100000 in
set_option maxHeartbeats 4000000 in
theorem ok21 : AwakeOk := ok_sp0 fun r hr => by
  cases hr
  refine pure_of_call (mkCx_ok depa 156 kp21 []) Try.func21 rfl rfl (Nat.le_of_ble_eq_true rfl) (by kernel_rfl) ?_
  rw [Try.results21]
  have hN := names0
  have h1 := aLeft
  have h2 := aRinses
  have h3 := aDown
  have h4 := aLost
  have h5 := aShows
  have h6 := aBest
  have h7 := aRush
  have h8 := aTwo
  simp [cTup2_dec, cTup3_dec, bind_some', cAgg_dec, rInt_decL, rStr_decL, rK_decL, cList_nil, stopK_n, stopK_e, stopK_r, wrap_one, wrap_zero, call_eq, callK_n, callK_r, code_skip, code_label, code_region, regK_some, regK_none, region_eq, closeK_some, ops_nil, ops_cons, opsK_some, opsK_none, step_eq, stepK_t, stepK_f, putK_some, code_seq, seqK_n, seqK_e, seqK_r, code_cond, condK_t, condK_f, code_block, blkK_n, blkK_e, blkK_r, code_loop, code_exit, code_scope, code_ret, startB, allocs, allocDst, aWanted, aop, aCall, aAppend, aLen, aPick, aNil, aMinMax, aIndexAddr, aIndex, aSlice, aExtract, aFieldAddr, aField, aPart, aLoad, aBuild, aBuildSlice, aConv, aUn, aBin, vop, iop, sop, zerosD, rowsOf, fillD, placesD, bound?, St.ev, St.put, St.res, dstB, putT, setL, getA, argT, Cx.close, closeT, closeX, closeB, closeC, annOf, locsOf, X.strip, X.plain, X.data, X.cells, X.rows, X.int, dataL, ofVal, ofCell, ownTok, Own.isEx, toksApp, tokAt, nodupB, Res.ofX, aRes, oneOf, mkCx, eqsC, tyAt2, tyAt3, tyAt4, tyAt5, tyAt6, tyAt7, tyAt8, tyAt9, tyAt10, tyAt11, tyAt12, tyAt13, tyAt14, tyAt15, tyAt16, tyAt17, tyAt18, tyAt19, tyAt21, tyAt22, tyAt23, tyAt24, tyAt25, tyAt26, tyAt27, tyAt28, tyAt29, tyAt30, tyAt31, tyAt40, tyAt41, tyAt42, tyAt43, tyAt44, tyAt52, tyAt59, tyAt60, tyAt61, tyAt62, tyAt66, tyAt67, tyAt70, tyAt77, tyAt78, tyAt80, tyAt81, tyAt84, tyAt85, tyAt86, tyAt89, tyAt98, tyAt101, tyAt104, tyAt105, tyAt106, tyAt124, tyAt125, tyAt126, tyAt127, tyAt151, tyAt159, tyAt162, tyAt170, tyAt172, tyAt173, tyAt177, tyAt179, tyAt183, tyAt184, tyAt185, tyAt186, tyAt187, tyAt189, tyAt190, tyAt192, tyAt193, tyAt194, TyI.agg, TyI.isBool, TyI.elem, TyI.field, TyI.zeroD, Value.cells, Value.oneCell', intsOf, delOf, sp0, sp1, sp2, sp3, sp4, sp5, cInt_dec, cBool_dec, cStr_dec, cK_dec, rInt_k, rStr_k, rK_k, rInt_enc, rStr_enc, rK_enc, cInt_enc, cBool_enc, cStr_enc, cK_enc, cList_enc, cAgg_enc, cTup2_enc, cTup3_enc, ty2, ty3, ty4, ty5, ty6, ty7, ty8, ty9, ty10, ty11, ty12, ty13, ty14, ty15, ty16, ty17, ty18, ty19, ty21, ty22, ty23, ty24, ty25, ty26, ty27, ty28, ty29, ty30, ty31, ty40, ty41, ty42, ty43, ty44, ty52, ty59, ty60, ty61, ty62, ty66, ty67, ty70, ty77, ty78, ty80, ty81, ty84, ty85, ty86, ty89, ty98, ty101, ty104, ty105, ty106, ty124, ty125, ty126, ty127, ty151, ty159, ty162, ty170, ty172, ty173, ty177, ty179, ty183, ty184, ty185, ty186, ty187, ty189, ty190, ty192, ty193, ty194, kp21, pa, o1, l12, s35, sLost, sShows, sBest, sRush, sTwo, sLeft, sRinses, s33, s34, List.append_eq, List.cons_append, List.nil_append, rShp_enc, rShp_dec, rBat_enc, rBat_dec, rBat_k, rBat_decL, rSpn_enc, rTwo_enc, rPair_enc, rInt_dec2, rBat_decC, rTwo_decC, ints3, ints0, ints4, l11, l10, l9, l8, l7, l6, l5, l4, l3, l2, l1, s30, hN, h1, h2, h3, h4, h5, h6, h7, h8]
end Go.Proofs.Ytpkjmnfgpbliaaa
