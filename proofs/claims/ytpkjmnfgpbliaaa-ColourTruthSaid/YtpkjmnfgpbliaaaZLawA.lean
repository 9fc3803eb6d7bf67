/-
  Helpers of the laws of the colour chapter. Conditions: none.
-/
import Derived.Test.YtpkjmnfgpbliaaaZBridge
namespace Go.Proofs.Ytpkjmnfgpbliaaa
open Go.RowKit
set_option linter.unusedSimpArgs false
set_option linter.unusedVariables false

def kp33 (r : Nat) : List (Nat × Option Nat) := match r with
  | 0 => [(0, none)]
  | 1 => [(0, none)]
  | _ => []
def kp34 (r : Nat) : List (Nat × Option Nat) := match r with
  | 0 => []
  | 1 => [(0, none)]
  | _ => []
def kp35 (r : Nat) : List (Nat × Option Nat) := match r with
  | 0 => [(0, none), (1, none), (4, none)]
  | 1 => [(4, none)]
  | _ => []
def kp36 (r : Nat) : List (Nat × Option Nat) := match r with
  | 0 => [(1, none), (2, none)]
  | 1 => [(1, none), (2, none), (7, none)]
  | 2 => [(1, none), (2, none), (7, none), (15, none)]
  | 3 => [(7, none)]
  | 4 => [(4, none)]
  | _ => []
def kp37 (r : Nat) : List (Nat × Option Nat) := match r with
  | 0 => [(1, none), (3, none), (4, none), (5, none), (7, none)]
  | 1 => [(10, none)]
  | _ => []
def kp46 (r : Nat) : List (Nat × Option Nat) := match r with
  | 0 => [(1, none), (2, none)]
  | 1 => [(4, none)]
  | _ => []
def kp40 (r : Nat) : List (Nat × Option Nat) := match r with
  | 0 => [(0, none), (1, none)]
  | 1 => [(0, none), (1, none), (7, none)]
  | 2 => [(4, none)]
  | 3 => [(4, none)]
  | _ => []
def s35 : List D → Option D := sp2 cInt cInt (cAgg rSpn) fun a b => some ⟨a, b⟩
theorem ok35 : ∀ ds d, s35 ds = some d → PureC Try.prog 35 ds d := ok_sp2 fun a b r hr => by
  cases hr
  refine pure_of_call (mkCx_ok del_nil 8 kp35 []) Try.func35 rfl rfl (Nat.le_of_ble_eq_true rfl) (by kernel_rfl) ?_
  rw [Try.results35]
  simp [cTup2_dec, cTup3_dec, bind_some', cAgg_dec, rInt_decL, rStr_decL, rK_decL, cList_nil, stopK_n, stopK_e, stopK_r, wrap_one, wrap_zero, call_eq, callK_n, callK_r, code_skip, code_label, code_region, regK_some, regK_none, region_eq, closeK_some, ops_nil, ops_cons, opsK_some, opsK_none, step_eq, stepK_t, stepK_f, putK_some, code_seq, seqK_n, seqK_e, seqK_r, code_cond, condK_t, condK_f, code_block, blkK_n, blkK_e, blkK_r, code_loop, code_exit, code_scope, code_ret, startB, allocs, allocDst, aWanted, aop, aCall, aAppend, aLen, aPick, aNil, aMinMax, aIndexAddr, aIndex, aSlice, aExtract, aFieldAddr, aField, aPart, aLoad, aBuild, aBuildSlice, aConv, aUn, aBin, vop, iop, sop, zerosD, rowsOf, fillD, placesD, bound?, St.ev, St.put, St.res, dstB, putT, setL, getA, argT, Cx.close, closeT, closeX, closeB, closeC, annOf, locsOf, X.strip, X.plain, X.data, X.cells, X.rows, X.int, dataL, ofVal, ofCell, ownTok, Own.isEx, toksApp, tokAt, nodupB, Res.ofX, aRes, oneOf, mkCx, eqsC, tyAt2, tyAt3, tyAt4, tyAt5, tyAt6, tyAt7, tyAt8, tyAt9, tyAt10, tyAt11, tyAt12, tyAt13, tyAt14, tyAt15, tyAt16, tyAt17, tyAt18, tyAt19, tyAt21, tyAt22, tyAt23, tyAt24, tyAt25, tyAt26, tyAt27, tyAt28, tyAt29, tyAt30, tyAt31, tyAt40, tyAt41, tyAt42, tyAt43, tyAt44, tyAt52, tyAt59, tyAt60, tyAt61, tyAt62, tyAt66, tyAt67, tyAt70, tyAt77, tyAt78, tyAt80, tyAt81, tyAt84, tyAt85, tyAt86, tyAt89, tyAt98, tyAt101, tyAt104, tyAt105, tyAt106, tyAt124, tyAt125, tyAt126, tyAt127, tyAt151, tyAt159, tyAt162, tyAt170, tyAt172, tyAt173, tyAt177, tyAt179, tyAt183, tyAt184, tyAt185, tyAt186, tyAt187, tyAt189, tyAt190, tyAt192, tyAt193, tyAt194, TyI.agg, TyI.isBool, TyI.elem, TyI.field, TyI.zeroD, Value.cells, Value.oneCell', intsOf, delOf, sp0, sp1, sp2, sp3, sp4, sp5, cInt_dec, cBool_dec, cStr_dec, cK_dec, rInt_k, rStr_k, rK_k, rInt_enc, rStr_enc, rK_enc, cInt_enc, cBool_enc, cStr_enc, cK_enc, cList_enc, cAgg_enc, cTup2_enc, cTup3_enc, ty2, ty3, ty4, ty5, ty6, ty7, ty8, ty9, ty10, ty11, ty12, ty13, ty14, ty15, ty16, ty17, ty18, ty19, ty21, ty22, ty23, ty24, ty25, ty26, ty27, ty28, ty29, ty30, ty31, ty40, ty41, ty42, ty43, ty44, ty52, ty59, ty60, ty61, ty62, ty66, ty67, ty70, ty77, ty78, ty80, ty81, ty84, ty85, ty86, ty89, ty98, ty101, ty104, ty105, ty106, ty124, ty125, ty126, ty127, ty151, ty159, ty162, ty170, ty172, ty173, ty177, ty179, ty183, ty184, ty185, ty186, ty187, ty189, ty190, ty192, ty193, ty194, kp35, rSpn_enc]
theorem call35 (xs : Array Value) (w : World) : (callFunc 35 xs).run Try.prog w = .ok (.enter 35 xs) w := by kernel_rfl
def o1 : List (Nat × (List D → Option D)) := (35, s35) :: l12
theorem deo1 : DelOk Try.prog (delOf o1) := del_cons del12 call35 ok35
def white : ByteArray := ⟨#[119, 104, 105, 116, 101]⟩
def red : ByteArray := ⟨#[114, 101, 100]⟩
def black : ByteArray := ⟨#[98, 108, 97, 99, 107]⟩
def shopV : Shp := ⟨[⟨white, ⟨10, 20⟩, [1000, 1000, 1000]⟩, ⟨red, ⟨10, 20⟩, [2, 1000, 50]⟩, ⟨black, ⟨20, 40⟩, [1, 5, 1000]⟩], ⟨100, 200⟩, 50⟩
def batsV : List Bat := [⟨2, 2000⟩, ⟨0, 2000⟩, ⟨1, 2000⟩]
def s33 : List D → Option D := sp0 (cAgg rShp) (some shopV)
theorem ok33 : ∀ ds d, s33 ds = some d → PureC Try.prog 33 ds d := ok_sp0 fun r hr => by
  cases hr
  refine pure_of_call (mkCx_ok deo1 13 kp33 []) Try.func33 rfl rfl (Nat.le_of_ble_eq_true rfl) (by kernel_rfl) ?_
  rw [Try.results33]
  simp [cTup2_dec, cTup3_dec, bind_some', cAgg_dec, rInt_decL, rStr_decL, rK_decL, cList_nil, stopK_n, stopK_e, stopK_r, wrap_one, wrap_zero, call_eq, callK_n, callK_r, code_skip, code_label, code_region, regK_some, regK_none, region_eq, closeK_some, ops_nil, ops_cons, opsK_some, opsK_none, step_eq, stepK_t, stepK_f, putK_some, code_seq, seqK_n, seqK_e, seqK_r, code_cond, condK_t, condK_f, code_block, blkK_n, blkK_e, blkK_r, code_loop, code_exit, code_scope, code_ret, startB, allocs, allocDst, aWanted, aop, aCall, aAppend, aLen, aPick, aNil, aMinMax, aIndexAddr, aIndex, aSlice, aExtract, aFieldAddr, aField, aPart, aLoad, aBuild, aBuildSlice, aConv, aUn, aBin, vop, iop, sop, zerosD, rowsOf, fillD, placesD, bound?, St.ev, St.put, St.res, dstB, putT, setL, getA, argT, Cx.close, closeT, closeX, closeB, closeC, annOf, locsOf, X.strip, X.plain, X.data, X.cells, X.rows, X.int, dataL, ofVal, ofCell, ownTok, Own.isEx, toksApp, tokAt, nodupB, Res.ofX, aRes, oneOf, mkCx, eqsC, tyAt2, tyAt3, tyAt4, tyAt5, tyAt6, tyAt7, tyAt8, tyAt9, tyAt10, tyAt11, tyAt12, tyAt13, tyAt14, tyAt15, tyAt16, tyAt17, tyAt18, tyAt19, tyAt21, tyAt22, tyAt23, tyAt24, tyAt25, tyAt26, tyAt27, tyAt28, tyAt29, tyAt30, tyAt31, tyAt40, tyAt41, tyAt42, tyAt43, tyAt44, tyAt52, tyAt59, tyAt60, tyAt61, tyAt62, tyAt66, tyAt67, tyAt70, tyAt77, tyAt78, tyAt80, tyAt81, tyAt84, tyAt85, tyAt86, tyAt89, tyAt98, tyAt101, tyAt104, tyAt105, tyAt106, tyAt124, tyAt125, tyAt126, tyAt127, tyAt151, tyAt159, tyAt162, tyAt170, tyAt172, tyAt173, tyAt177, tyAt179, tyAt183, tyAt184, tyAt185, tyAt186, tyAt187, tyAt189, tyAt190, tyAt192, tyAt193, tyAt194, TyI.agg, TyI.isBool, TyI.elem, TyI.field, TyI.zeroD, Value.cells, Value.oneCell', intsOf, delOf, sp0, sp1, sp2, sp3, sp4, sp5, cInt_dec, cBool_dec, cStr_dec, cK_dec, rInt_k, rStr_k, rK_k, rInt_enc, rStr_enc, rK_enc, cInt_enc, cBool_enc, cStr_enc, cK_enc, cList_enc, cAgg_enc, cTup2_enc, cTup3_enc, ty2, ty3, ty4, ty5, ty6, ty7, ty8, ty9, ty10, ty11, ty12, ty13, ty14, ty15, ty16, ty17, ty18, ty19, ty21, ty22, ty23, ty24, ty25, ty26, ty27, ty28, ty29, ty30, ty31, ty40, ty41, ty42, ty43, ty44, ty52, ty59, ty60, ty61, ty62, ty66, ty67, ty70, ty77, ty78, ty80, ty81, ty84, ty85, ty86, ty89, ty98, ty101, ty104, ty105, ty106, ty124, ty125, ty126, ty127, ty151, ty159, ty162, ty170, ty172, ty173, ty177, ty179, ty183, ty184, ty185, ty186, ty187, ty189, ty190, ty192, ty193, ty194, kp33, o1, s35, rSpn_enc, shopV, rShp_enc, rCol_enc, white, red, black]
def s34 : List D → Option D := sp0 (cList rBat) (some batsV)
theorem ok34 : ∀ ds d, s34 ds = some d → PureC Try.prog 34 ds d := ok_sp0 fun r hr => by
  cases hr
  refine pure_of_call (mkCx_ok deo1 5 kp34 []) Try.func34 rfl rfl (Nat.le_of_ble_eq_true rfl) (by kernel_rfl) ?_
  rw [Try.results34]
  simp [cTup2_dec, cTup3_dec, bind_some', cAgg_dec, rInt_decL, rStr_decL, rK_decL, cList_nil, stopK_n, stopK_e, stopK_r, wrap_one, wrap_zero, call_eq, callK_n, callK_r, code_skip, code_label, code_region, regK_some, regK_none, region_eq, closeK_some, ops_nil, ops_cons, opsK_some, opsK_none, step_eq, stepK_t, stepK_f, putK_some, code_seq, seqK_n, seqK_e, seqK_r, code_cond, condK_t, condK_f, code_block, blkK_n, blkK_e, blkK_r, code_loop, code_exit, code_scope, code_ret, startB, allocs, allocDst, aWanted, aop, aCall, aAppend, aLen, aPick, aNil, aMinMax, aIndexAddr, aIndex, aSlice, aExtract, aFieldAddr, aField, aPart, aLoad, aBuild, aBuildSlice, aConv, aUn, aBin, vop, iop, sop, zerosD, rowsOf, fillD, placesD, bound?, St.ev, St.put, St.res, dstB, putT, setL, getA, argT, Cx.close, closeT, closeX, closeB, closeC, annOf, locsOf, X.strip, X.plain, X.data, X.cells, X.rows, X.int, dataL, ofVal, ofCell, ownTok, Own.isEx, toksApp, tokAt, nodupB, Res.ofX, aRes, oneOf, mkCx, eqsC, tyAt2, tyAt3, tyAt4, tyAt5, tyAt6, tyAt7, tyAt8, tyAt9, tyAt10, tyAt11, tyAt12, tyAt13, tyAt14, tyAt15, tyAt16, tyAt17, tyAt18, tyAt19, tyAt21, tyAt22, tyAt23, tyAt24, tyAt25, tyAt26, tyAt27, tyAt28, tyAt29, tyAt30, tyAt31, tyAt40, tyAt41, tyAt42, tyAt43, tyAt44, tyAt52, tyAt59, tyAt60, tyAt61, tyAt62, tyAt66, tyAt67, tyAt70, tyAt77, tyAt78, tyAt80, tyAt81, tyAt84, tyAt85, tyAt86, tyAt89, tyAt98, tyAt101, tyAt104, tyAt105, tyAt106, tyAt124, tyAt125, tyAt126, tyAt127, tyAt151, tyAt159, tyAt162, tyAt170, tyAt172, tyAt173, tyAt177, tyAt179, tyAt183, tyAt184, tyAt185, tyAt186, tyAt187, tyAt189, tyAt190, tyAt192, tyAt193, tyAt194, TyI.agg, TyI.isBool, TyI.elem, TyI.field, TyI.zeroD, Value.cells, Value.oneCell', intsOf, delOf, sp0, sp1, sp2, sp3, sp4, sp5, cInt_dec, cBool_dec, cStr_dec, cK_dec, rInt_k, rStr_k, rK_k, rInt_enc, rStr_enc, rK_enc, cInt_enc, cBool_enc, cStr_enc, cK_enc, cList_enc, cAgg_enc, cTup2_enc, cTup3_enc, ty2, ty3, ty4, ty5, ty6, ty7, ty8, ty9, ty10, ty11, ty12, ty13, ty14, ty15, ty16, ty17, ty18, ty19, ty21, ty22, ty23, ty24, ty25, ty26, ty27, ty28, ty29, ty30, ty31, ty40, ty41, ty42, ty43, ty44, ty52, ty59, ty60, ty61, ty62, ty66, ty67, ty70, ty77, ty78, ty80, ty81, ty84, ty85, ty86, ty89, ty98, ty101, ty104, ty105, ty106, ty124, ty125, ty126, ty127, ty151, ty159, ty162, ty170, ty172, ty173, ty177, ty179, ty183, ty184, ty185, ty186, ty187, ty189, ty190, ty192, ty193, ty194, kp34, batsV, rBat_enc, rBat_k]
def validE (s : Shp) (l : List Bat) : Int := if (chk s).2.2 = 0 then batsE s l else (chk s).2.2
def s36 : List D → Option D := sp2 (cAgg rShp) (cList rBat) cInt fun s l => some (validE s l)
theorem ok36 : ∀ ds d, s36 ds = some d → PureC Try.prog 36 ds d := ok_sp2 fun s l r hr => by
  cases hr
  refine pure_of_call (mkCx_ok deo1 20 kp36 []) Try.func36 rfl rfl (Nat.le_of_ble_eq_true rfl) (by kernel_rfl) ?_
  rw [Try.results36]
  unfold validE
  by_cases h1 : (chk s).2.2 = 0
  · have hlen : s.cols.length < 1000000 := by have := (good_of_chk h1).n1; omega
    simp [cTup2_dec, cTup3_dec, bind_some', cAgg_dec, rInt_decL, rStr_decL, rK_decL, cList_nil, stopK_n, stopK_e, stopK_r, wrap_one, wrap_zero, call_eq, callK_n, callK_r, code_skip, code_label, code_region, regK_some, regK_none, region_eq, closeK_some, ops_nil, ops_cons, opsK_some, opsK_none, step_eq, stepK_t, stepK_f, putK_some, code_seq, seqK_n, seqK_e, seqK_r, code_cond, condK_t, condK_f, code_block, blkK_n, blkK_e, blkK_r, code_loop, code_exit, code_scope, code_ret, startB, allocs, allocDst, aWanted, aop, aCall, aAppend, aLen, aPick, aNil, aMinMax, aIndexAddr, aIndex, aSlice, aExtract, aFieldAddr, aField, aPart, aLoad, aBuild, aBuildSlice, aConv, aUn, aBin, vop, iop, sop, zerosD, rowsOf, fillD, placesD, bound?, St.ev, St.put, St.res, dstB, putT, setL, getA, argT, Cx.close, closeT, closeX, closeB, closeC, annOf, locsOf, X.strip, X.plain, X.data, X.cells, X.rows, X.int, dataL, ofVal, ofCell, ownTok, Own.isEx, toksApp, tokAt, nodupB, Res.ofX, aRes, oneOf, mkCx, eqsC, tyAt2, tyAt3, tyAt4, tyAt5, tyAt6, tyAt7, tyAt8, tyAt9, tyAt10, tyAt11, tyAt12, tyAt13, tyAt14, tyAt15, tyAt16, tyAt17, tyAt18, tyAt19, tyAt21, tyAt22, tyAt23, tyAt24, tyAt25, tyAt26, tyAt27, tyAt28, tyAt29, tyAt30, tyAt31, tyAt40, tyAt41, tyAt42, tyAt43, tyAt44, tyAt52, tyAt59, tyAt60, tyAt61, tyAt62, tyAt66, tyAt67, tyAt70, tyAt77, tyAt78, tyAt80, tyAt81, tyAt84, tyAt85, tyAt86, tyAt89, tyAt98, tyAt101, tyAt104, tyAt105, tyAt106, tyAt124, tyAt125, tyAt126, tyAt127, tyAt151, tyAt159, tyAt162, tyAt170, tyAt172, tyAt173, tyAt177, tyAt179, tyAt183, tyAt184, tyAt185, tyAt186, tyAt187, tyAt189, tyAt190, tyAt192, tyAt193, tyAt194, TyI.agg, TyI.isBool, TyI.elem, TyI.field, TyI.zeroD, Value.cells, Value.oneCell', intsOf, delOf, sp0, sp1, sp2, sp3, sp4, sp5, cInt_dec, cBool_dec, cStr_dec, cK_dec, rInt_k, rStr_k, rK_k, rInt_enc, rStr_enc, rK_enc, cInt_enc, cBool_enc, cStr_enc, cK_enc, cList_enc, cAgg_enc, cTup2_enc, cTup3_enc, ty2, ty3, ty4, ty5, ty6, ty7, ty8, ty9, ty10, ty11, ty12, ty13, ty14, ty15, ty16, ty17, ty18, ty19, ty21, ty22, ty23, ty24, ty25, ty26, ty27, ty28, ty29, ty30, ty31, ty40, ty41, ty42, ty43, ty44, ty52, ty59, ty60, ty61, ty62, ty66, ty67, ty70, ty77, ty78, ty80, ty81, ty84, ty85, ty86, ty89, ty98, ty101, ty104, ty105, ty106, ty124, ty125, ty126, ty127, ty151, ty159, ty162, ty170, ty172, ty173, ty177, ty179, ty183, ty184, ty185, ty186, ty187, ty189, ty190, ty192, ty193, ty194, kp36, o1, l12, l11, l10, l9, l8, l7, l6, l5, l4, s16, s73, rShp_enc, rShp_dec, rBat_k, rBat_decL, h1, hlen]
  · have h1' : ((chk s).2.2 == 0) = false := by simpa using h1
    simp [cTup2_dec, cTup3_dec, bind_some', cAgg_dec, rInt_decL, rStr_decL, rK_decL, cList_nil, stopK_n, stopK_e, stopK_r, wrap_one, wrap_zero, call_eq, callK_n, callK_r, code_skip, code_label, code_region, regK_some, regK_none, region_eq, closeK_some, ops_nil, ops_cons, opsK_some, opsK_none, step_eq, stepK_t, stepK_f, putK_some, code_seq, seqK_n, seqK_e, seqK_r, code_cond, condK_t, condK_f, code_block, blkK_n, blkK_e, blkK_r, code_loop, code_exit, code_scope, code_ret, startB, allocs, allocDst, aWanted, aop, aCall, aAppend, aLen, aPick, aNil, aMinMax, aIndexAddr, aIndex, aSlice, aExtract, aFieldAddr, aField, aPart, aLoad, aBuild, aBuildSlice, aConv, aUn, aBin, vop, iop, sop, zerosD, rowsOf, fillD, placesD, bound?, St.ev, St.put, St.res, dstB, putT, setL, getA, argT, Cx.close, closeT, closeX, closeB, closeC, annOf, locsOf, X.strip, X.plain, X.data, X.cells, X.rows, X.int, dataL, ofVal, ofCell, ownTok, Own.isEx, toksApp, tokAt, nodupB, Res.ofX, aRes, oneOf, mkCx, eqsC, tyAt2, tyAt3, tyAt4, tyAt5, tyAt6, tyAt7, tyAt8, tyAt9, tyAt10, tyAt11, tyAt12, tyAt13, tyAt14, tyAt15, tyAt16, tyAt17, tyAt18, tyAt19, tyAt21, tyAt22, tyAt23, tyAt24, tyAt25, tyAt26, tyAt27, tyAt28, tyAt29, tyAt30, tyAt31, tyAt40, tyAt41, tyAt42, tyAt43, tyAt44, tyAt52, tyAt59, tyAt60, tyAt61, tyAt62, tyAt66, tyAt67, tyAt70, tyAt77, tyAt78, tyAt80, tyAt81, tyAt84, tyAt85, tyAt86, tyAt89, tyAt98, tyAt101, tyAt104, tyAt105, tyAt106, tyAt124, tyAt125, tyAt126, tyAt127, tyAt151, tyAt159, tyAt162, tyAt170, tyAt172, tyAt173, tyAt177, tyAt179, tyAt183, tyAt184, tyAt185, tyAt186, tyAt187, tyAt189, tyAt190, tyAt192, tyAt193, tyAt194, TyI.agg, TyI.isBool, TyI.elem, TyI.field, TyI.zeroD, Value.cells, Value.oneCell', intsOf, delOf, sp0, sp1, sp2, sp3, sp4, sp5, cInt_dec, cBool_dec, cStr_dec, cK_dec, rInt_k, rStr_k, rK_k, rInt_enc, rStr_enc, rK_enc, cInt_enc, cBool_enc, cStr_enc, cK_enc, cList_enc, cAgg_enc, cTup2_enc, cTup3_enc, ty2, ty3, ty4, ty5, ty6, ty7, ty8, ty9, ty10, ty11, ty12, ty13, ty14, ty15, ty16, ty17, ty18, ty19, ty21, ty22, ty23, ty24, ty25, ty26, ty27, ty28, ty29, ty30, ty31, ty40, ty41, ty42, ty43, ty44, ty52, ty59, ty60, ty61, ty62, ty66, ty67, ty70, ty77, ty78, ty80, ty81, ty84, ty85, ty86, ty89, ty98, ty101, ty104, ty105, ty106, ty124, ty125, ty126, ty127, ty151, ty159, ty162, ty170, ty172, ty173, ty177, ty179, ty183, ty184, ty185, ty186, ty187, ty189, ty190, ty192, ty193, ty194, kp36, o1, l12, l11, l10, l9, l8, l7, l6, l5, l4, s16, s73, rShp_enc, rShp_dec, rBat_k, rBat_decL, h1, h1']
def amongV (s : Spn) (n : Int) : Int := s.lo + n % (s.hi - s.lo + 1)
def s46 : List D → Option D := sp2 (cAgg rSpn) cInt cInt fun s n => if 0 ≤ s.lo ∧ s.lo ≤ s.hi ∧ s.hi ≤ 1000 ∧ 0 ≤ n ∧ n ≤ 1000000 then some (amongV s n) else none
theorem among_bd {s : Spn} {n : Int} (h1 : s.lo ≤ s.hi) : s.lo ≤ amongV s n ∧ amongV s n ≤ s.hi := by
  unfold amongV
  have a := Int.emod_nonneg n (show s.hi - s.lo + 1 ≠ 0 by omega)
  have b := Int.emod_lt_of_pos n (show 0 < s.hi - s.lo + 1 by omega)
  omega
theorem ok46 : ∀ ds d, s46 ds = some d → PureC Try.prog 46 ds d := ok_sp2 fun s n r hr => by
  split at hr
  · rename_i hc
    cases hr
    obtain ⟨h0, h1, h2, h3, h4⟩ := hc
    have hb := among_bd (n := n) h1
    have w1 := wrap_small (s.hi - s.lo) (by omega) (by omega)
    have w2 := wrap_small (s.hi - s.lo + 1) (by omega) (by omega)
    have e1 : n.tmod (s.hi - s.lo + 1) = n % (s.hi - s.lo + 1) := Int.tmod_eq_emod_of_nonneg h3
    have a := Int.emod_nonneg n (show s.hi - s.lo + 1 ≠ 0 by omega)
    have b := Int.emod_lt_of_pos n (show 0 < s.hi - s.lo + 1 by omega)
    have w3 := wrap_small (n % (s.hi - s.lo + 1)) (by omega) (by omega)
    have w4 := wrap_small (s.lo + n % (s.hi - s.lo + 1)) (by omega) (by omega)
    have hne : ¬ s.hi - s.lo + 1 = 0 := by omega
    unfold amongV
    refine pure_of_call (mkCx_ok deo1 16 kp46 []) Try.func46 rfl rfl (Nat.le_of_ble_eq_true rfl) (by kernel_rfl) ?_
    rw [Try.results46]
    simp [cTup2_dec, cTup3_dec, bind_some', cAgg_dec, rInt_decL, rStr_decL, rK_decL, cList_nil, stopK_n, stopK_e, stopK_r, wrap_one, wrap_zero, call_eq, callK_n, callK_r, code_skip, code_label, code_region, regK_some, regK_none, region_eq, closeK_some, ops_nil, ops_cons, opsK_some, opsK_none, step_eq, stepK_t, stepK_f, putK_some, code_seq, seqK_n, seqK_e, seqK_r, code_cond, condK_t, condK_f, code_block, blkK_n, blkK_e, blkK_r, code_loop, code_exit, code_scope, code_ret, startB, allocs, allocDst, aWanted, aop, aCall, aAppend, aLen, aPick, aNil, aMinMax, aIndexAddr, aIndex, aSlice, aExtract, aFieldAddr, aField, aPart, aLoad, aBuild, aBuildSlice, aConv, aUn, aBin, vop, iop, sop, zerosD, rowsOf, fillD, placesD, bound?, St.ev, St.put, St.res, dstB, putT, setL, getA, argT, Cx.close, closeT, closeX, closeB, closeC, annOf, locsOf, X.strip, X.plain, X.data, X.cells, X.rows, X.int, dataL, ofVal, ofCell, ownTok, Own.isEx, toksApp, tokAt, nodupB, Res.ofX, aRes, oneOf, mkCx, eqsC, tyAt2, tyAt3, tyAt4, tyAt5, tyAt6, tyAt7, tyAt8, tyAt9, tyAt10, tyAt11, tyAt12, tyAt13, tyAt14, tyAt15, tyAt16, tyAt17, tyAt18, tyAt19, tyAt21, tyAt22, tyAt23, tyAt24, tyAt25, tyAt26, tyAt27, tyAt28, tyAt29, tyAt30, tyAt31, tyAt40, tyAt41, tyAt42, tyAt43, tyAt44, tyAt52, tyAt59, tyAt60, tyAt61, tyAt62, tyAt66, tyAt67, tyAt70, tyAt77, tyAt78, tyAt80, tyAt81, tyAt84, tyAt85, tyAt86, tyAt89, tyAt98, tyAt101, tyAt104, tyAt105, tyAt106, tyAt124, tyAt125, tyAt126, tyAt127, tyAt151, tyAt159, tyAt162, tyAt170, tyAt172, tyAt173, tyAt177, tyAt179, tyAt183, tyAt184, tyAt185, tyAt186, tyAt187, tyAt189, tyAt190, tyAt192, tyAt193, tyAt194, TyI.agg, TyI.isBool, TyI.elem, TyI.field, TyI.zeroD, Value.cells, Value.oneCell', intsOf, delOf, sp0, sp1, sp2, sp3, sp4, sp5, cInt_dec, cBool_dec, cStr_dec, cK_dec, rInt_k, rStr_k, rK_k, rInt_enc, rStr_enc, rK_enc, cInt_enc, cBool_enc, cStr_enc, cK_enc, cList_enc, cAgg_enc, cTup2_enc, cTup3_enc, ty2, ty3, ty4, ty5, ty6, ty7, ty8, ty9, ty10, ty11, ty12, ty13, ty14, ty15, ty16, ty17, ty18, ty19, ty21, ty22, ty23, ty24, ty25, ty26, ty27, ty28, ty29, ty30, ty31, ty40, ty41, ty42, ty43, ty44, ty52, ty59, ty60, ty61, ty62, ty66, ty67, ty70, ty77, ty78, ty80, ty81, ty84, ty85, ty86, ty89, ty98, ty101, ty104, ty105, ty106, ty124, ty125, ty126, ty127, ty151, ty159, ty162, ty170, ty172, ty173, ty177, ty179, ty183, ty184, ty185, ty186, ty187, ty189, ty190, ty192, ty193, ty194, kp46, rSpn_enc, w1, w2, e1, w3, w4, hne]
  · cases hr
def byteOk (l : List Int) : Prop := ∀ x ∈ l, 0 ≤ x ∧ x ≤ 255
instance (l : List Int) : Decidable (byteOk l) := inferInstanceAs (Decidable (∀ x ∈ l, _))
def turnV (l : List Int) (n : Int) : Int := l.getD (n.toNat % l.length) 0
theorem turn_bd {l : List Int} (h : byteOk l) (n : Int) : 0 ≤ turnV l n ∧ turnV l n ≤ 255 := by
  unfold turnV
  by_cases hl : l.length = 0
  · have : l = [] := List.length_eq_zero_iff.1 hl
    subst this; simp
  · have hi := Nat.mod_lt n.toNat (show 0 < l.length by omega)
    rw [getD_at _ _ _ hi]
    exact h _ (List.getElem_mem hi)
def s40 : List D → Option D := sp2 (cList (rK .u8)) cInt cInt fun l n => if byteOk l ∧ 0 ≤ n ∧ n ≤ 1000000 then some (turnV l n) else none
theorem ok40 : ∀ ds d, s40 ds = some d → PureC Try.prog 40 ds d := ok_sp2 fun l n r hr => by
  split at hr
  · rename_i hc
    cases hr
    obtain ⟨hb, h0, h1⟩ := hc
    obtain ⟨N, rfl⟩ : ∃ B : Nat, n = B := ⟨n.toNat, by omega⟩
    refine pure_of_call (mkCx_ok deo1 16 kp40 []) Try.func40 rfl rfl (Nat.le_of_ble_eq_true rfl) (by kernel_rfl) ?_
    rw [Try.results40]
    by_cases hl : l.length = 0
    · have : l = [] := List.length_eq_zero_iff.1 hl
      subst this
      simp [cTup2_dec, cTup3_dec, bind_some', cAgg_dec, rInt_decL, rStr_decL, rK_decL, cList_nil, stopK_n, stopK_e, stopK_r, wrap_one, wrap_zero, call_eq, callK_n, callK_r, code_skip, code_label, code_region, regK_some, regK_none, region_eq, closeK_some, ops_nil, ops_cons, opsK_some, opsK_none, step_eq, stepK_t, stepK_f, putK_some, code_seq, seqK_n, seqK_e, seqK_r, code_cond, condK_t, condK_f, code_block, blkK_n, blkK_e, blkK_r, code_loop, code_exit, code_scope, code_ret, startB, allocs, allocDst, aWanted, aop, aCall, aAppend, aLen, aPick, aNil, aMinMax, aIndexAddr, aIndex, aSlice, aExtract, aFieldAddr, aField, aPart, aLoad, aBuild, aBuildSlice, aConv, aUn, aBin, vop, iop, sop, zerosD, rowsOf, fillD, placesD, bound?, St.ev, St.put, St.res, dstB, putT, setL, getA, argT, Cx.close, closeT, closeX, closeB, closeC, annOf, locsOf, X.strip, X.plain, X.data, X.cells, X.rows, X.int, dataL, ofVal, ofCell, ownTok, Own.isEx, toksApp, tokAt, nodupB, Res.ofX, aRes, oneOf, mkCx, eqsC, tyAt2, tyAt3, tyAt4, tyAt5, tyAt6, tyAt7, tyAt8, tyAt9, tyAt10, tyAt11, tyAt12, tyAt13, tyAt14, tyAt15, tyAt16, tyAt17, tyAt18, tyAt19, tyAt21, tyAt22, tyAt23, tyAt24, tyAt25, tyAt26, tyAt27, tyAt28, tyAt29, tyAt30, tyAt31, tyAt40, tyAt41, tyAt42, tyAt43, tyAt44, tyAt52, tyAt59, tyAt60, tyAt61, tyAt62, tyAt66, tyAt67, tyAt70, tyAt77, tyAt78, tyAt80, tyAt81, tyAt84, tyAt85, tyAt86, tyAt89, tyAt98, tyAt101, tyAt104, tyAt105, tyAt106, tyAt124, tyAt125, tyAt126, tyAt127, tyAt151, tyAt159, tyAt162, tyAt170, tyAt172, tyAt173, tyAt177, tyAt179, tyAt183, tyAt184, tyAt185, tyAt186, tyAt187, tyAt189, tyAt190, tyAt192, tyAt193, tyAt194, TyI.agg, TyI.isBool, TyI.elem, TyI.field, TyI.zeroD, Value.cells, Value.oneCell', intsOf, delOf, sp0, sp1, sp2, sp3, sp4, sp5, cInt_dec, cBool_dec, cStr_dec, cK_dec, rInt_k, rStr_k, rK_k, rInt_enc, rStr_enc, rK_enc, cInt_enc, cBool_enc, cStr_enc, cK_enc, cList_enc, cAgg_enc, cTup2_enc, cTup3_enc, ty2, ty3, ty4, ty5, ty6, ty7, ty8, ty9, ty10, ty11, ty12, ty13, ty14, ty15, ty16, ty17, ty18, ty19, ty21, ty22, ty23, ty24, ty25, ty26, ty27, ty28, ty29, ty30, ty31, ty40, ty41, ty42, ty43, ty44, ty52, ty59, ty60, ty61, ty62, ty66, ty67, ty70, ty77, ty78, ty80, ty81, ty84, ty85, ty86, ty89, ty98, ty101, ty104, ty105, ty106, ty124, ty125, ty126, ty127, ty151, ty159, ty162, ty170, ty172, ty173, ty177, ty179, ty183, ty184, ty185, ty186, ty187, ty189, ty190, ty192, ty193, ty194, kp40, turnV]
    · have hl' : ((l.length : Int) == 0) = false := by rw [beq_eq_false_iff_ne]; omega
      have hl'' : ¬ (l.length : Int) = 0 := by omega
      have hne : ¬ l = [] := fun h => by rw [h] at hl; exact hl rfl
      have hi := Nat.mod_lt N (show 0 < l.length by omega)
      have hle := Nat.mod_le N l.length
      have hv : turnV l N = l[N % l.length] := by unfold turnV; rw [Int.toNat_natCast, getD_at _ _ _ hi]
      have hbd := turn_bd hb N
      rw [hv] at hbd
      have e1 : (N : Int).tmod l.length = ((N % l.length : Nat) : Int) := by
        rw [Int.tmod_eq_emod_of_nonneg (by omega)]; push_cast; rfl
      rw [hv]
      generalize hQ : N % l.length = Q at *
      have w1 := wrap_small (Q : Int) (by omega) (by omega)
      have w2 := wrap_small l[Q] (by omega) (by omega)
      simp [cTup2_dec, cTup3_dec, bind_some', cAgg_dec, rInt_decL, rStr_decL, rK_decL, cList_nil, stopK_n, stopK_e, stopK_r, wrap_one, wrap_zero, call_eq, callK_n, callK_r, code_skip, code_label, code_region, regK_some, regK_none, region_eq, closeK_some, ops_nil, ops_cons, opsK_some, opsK_none, step_eq, stepK_t, stepK_f, putK_some, code_seq, seqK_n, seqK_e, seqK_r, code_cond, condK_t, condK_f, code_block, blkK_n, blkK_e, blkK_r, code_loop, code_exit, code_scope, code_ret, startB, allocs, allocDst, aWanted, aop, aCall, aAppend, aLen, aPick, aNil, aMinMax, aIndexAddr, aIndex, aSlice, aExtract, aFieldAddr, aField, aPart, aLoad, aBuild, aBuildSlice, aConv, aUn, aBin, vop, iop, sop, zerosD, rowsOf, fillD, placesD, bound?, St.ev, St.put, St.res, dstB, putT, setL, getA, argT, Cx.close, closeT, closeX, closeB, closeC, annOf, locsOf, X.strip, X.plain, X.data, X.cells, X.rows, X.int, dataL, ofVal, ofCell, ownTok, Own.isEx, toksApp, tokAt, nodupB, Res.ofX, aRes, oneOf, mkCx, eqsC, tyAt2, tyAt3, tyAt4, tyAt5, tyAt6, tyAt7, tyAt8, tyAt9, tyAt10, tyAt11, tyAt12, tyAt13, tyAt14, tyAt15, tyAt16, tyAt17, tyAt18, tyAt19, tyAt21, tyAt22, tyAt23, tyAt24, tyAt25, tyAt26, tyAt27, tyAt28, tyAt29, tyAt30, tyAt31, tyAt40, tyAt41, tyAt42, tyAt43, tyAt44, tyAt52, tyAt59, tyAt60, tyAt61, tyAt62, tyAt66, tyAt67, tyAt70, tyAt77, tyAt78, tyAt80, tyAt81, tyAt84, tyAt85, tyAt86, tyAt89, tyAt98, tyAt101, tyAt104, tyAt105, tyAt106, tyAt124, tyAt125, tyAt126, tyAt127, tyAt151, tyAt159, tyAt162, tyAt170, tyAt172, tyAt173, tyAt177, tyAt179, tyAt183, tyAt184, tyAt185, tyAt186, tyAt187, tyAt189, tyAt190, tyAt192, tyAt193, tyAt194, TyI.agg, TyI.isBool, TyI.elem, TyI.field, TyI.zeroD, Value.cells, Value.oneCell', intsOf, delOf, sp0, sp1, sp2, sp3, sp4, sp5, cInt_dec, cBool_dec, cStr_dec, cK_dec, rInt_k, rStr_k, rK_k, rInt_enc, rStr_enc, rK_enc, cInt_enc, cBool_enc, cStr_enc, cK_enc, cList_enc, cAgg_enc, cTup2_enc, cTup3_enc, ty2, ty3, ty4, ty5, ty6, ty7, ty8, ty9, ty10, ty11, ty12, ty13, ty14, ty15, ty16, ty17, ty18, ty19, ty21, ty22, ty23, ty24, ty25, ty26, ty27, ty28, ty29, ty30, ty31, ty40, ty41, ty42, ty43, ty44, ty52, ty59, ty60, ty61, ty62, ty66, ty67, ty70, ty77, ty78, ty80, ty81, ty84, ty85, ty86, ty89, ty98, ty101, ty104, ty105, ty106, ty124, ty125, ty126, ty127, ty151, ty159, ty162, ty170, ty172, ty173, ty177, ty179, ty183, ty184, ty185, ty186, ty187, ty189, ty190, ty192, ty193, ty194, kp40, hl', hl'', hne, e1, w1, w2, hi]
  · cases hr
end Go.Proofs.Ytpkjmnfgpbliaaa
