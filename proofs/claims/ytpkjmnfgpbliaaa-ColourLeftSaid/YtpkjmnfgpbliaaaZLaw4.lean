/-
  The laws of the colour chapter that compare orders, and the examples: what they return. Conditions: none.
-/
import Derived.Test.YtpkjmnfgpbliaaaZAwake
namespace Go.Proofs.Ytpkjmnfgpbliaaa
open Go.RowKit
set_option linter.unusedSimpArgs false
set_option linter.unusedVariables false

structure Plnd where
  starts : Int × Int
  order : List Int
  rinses : List Int
  rush : Bat
def rPlnd : Row Plnd := ⟨6, fun x => [DI x.starts.1, DI x.starts.2, .sl 1 (x.order.map rInt.enc), .sl 1 (x.rinses.map rInt.enc), DI x.rush.c, DI x.rush.g], fun d => match d with
  | [.v (.int .i64 a), .v (.int .i64 b), o, r, .v (.int .i64 c), .v (.int .i64 g)] => (match (cList rInt).dec o, (cList rInt).dec r with | some x, some y => some ⟨(a, b), x, y, ⟨c, g⟩⟩ | _, _ => none)
  | _ => none, fun x => by simp only [rInt_decL], fun d x h => by
  split at h
  · split at h
    · rename_i p q h1 h2; cases h
      exact ⟨_, _, rfl, DImp.refl _, _, _, rfl, DImp.refl _, _, _, rfl, (cList rInt).ed _ _ h1, _, _, rfl, (cList rInt).ed _ _ h2, _, _, rfl, DImp.refl _, _, _, rfl, DImp.refl _, rfl⟩
    · cases h
  · cases h⟩
theorem rPlnd_enc (x : Plnd) : rPlnd.enc x = [DI x.starts.1, DI x.starts.2, .sl 1 (x.order.map rInt.enc), .sl 1 (x.rinses.map rInt.enc), DI x.rush.c, DI x.rush.g] := rfl
theorem call21' (xs : Array Value) (w : World) : (callFunc 21 xs).run Try.prog w = .ok (.enter 21 xs) w := by kernel_rfl
theorem call23' (xs : Array Value) (w : World) : (callFunc 23 xs).run Try.prog w = .ok (.enter 23 xs) w := by kernel_rfl
theorem call25' (xs : Array Value) (w : World) : (callFunc 25 xs).run Try.prog w = .ok (.enter 25 xs) w := by kernel_rfl
theorem call27' (xs : Array Value) (w : World) : (callFunc 27 xs).run Try.prog w = .ok (.enter 27 xs) w := by kernel_rfl
theorem call29' (xs : Array Value) (w : World) : (callFunc 29 xs).run Try.prog w = .ok (.enter 29 xs) w := by kernel_rfl
theorem call32' (xs : Array Value) (w : World) : (callFunc 32 xs).run Try.prog w = .ok (.enter 32 xs) w := by kernel_rfl
def pb : List (Nat × (List D → Option D)) := (21, sAwake) :: (23, s23) :: (25, s25) :: (27, s27) :: (29, s29) :: (32, s32) :: pa
theorem depb : DelOk Try.prog (delOf pb) := del_cons (del_cons (del_cons (del_cons (del_cons (del_cons depa call32' ok32) call29' ok29) call27' ok27) call25' ok25) call23' ok23) call21' ok21
theorem refBest_len (s : Shp) (st : Int) (l : List Bat) : (refBest s st l).1.length < 1000 := by
  rw [← bestR_eq]
  unfold bestR
  split
  · simp
  · rename_i he
    split
    · simp
    · have := orderV_len s l st (2 ^ l.length - 1)
      obtain ⟨_, _, hl7, _⟩ := openErr_zero (by simpa using he)
      have := (pow_len hl7).2
      dsimp only; omega
theorem refTwo_len (s : Shp) (st : Int × Int) (l : List Bat) : (refTwo s st l).1.1.length < 1000 ∧ (refTwo s st l).1.2.length < 1000 := by
  rw [← twoR_eq]
  unfold twoR
  split
  · simp
  · rename_i he
    split
    · simp
    · obtain ⟨_, _, hl7, _⟩ := openErr_zero (by simpa using he)
      have h1 := (pow_len hl7).2
      have h2 := (twoL_lt s l st.1 st.2 (2 ^ l.length)).1
      have h3 := orderV_len s l st.1 (twoL s l st.1 st.2 (2 ^ l.length)).1
      have h4 := orderV_len s l st.2 (2 ^ l.length - 1 - (twoL s l st.1 st.2 (2 ^ l.length)).1)
      dsimp only
      omega
def kp4 (r : Nat) : List (Nat × Option Nat) := match r with
  | 0 => [(1, none), (3, none), (5, none)]
  | 1 => [(1, none), (3, none), (5, none), (7, none), (8, none)]
  | 2 => [(1, none), (3, none), (5, none), (7, none), (8, none), (9, none), (10, none)]
  | 3 => [(1, none), (3, none), (5, none), (44, none)]
  | 4 => [(6, none)]
  | 5 => [(1, none), (3, none), (5, none), (7, none), (8, none)]
  | 6 => [(1, none), (3, none), (5, none), (7, none), (8, none), (9, none), (10, none)]
  | 7 => [(1, none), (3, none), (5, none), (78, none)]
  | 8 => [(6, none)]
  | 9 => [(1, none), (3, none), (5, none), (8, none), (11, none), (12, none)]
  | 10 => [(8, none), (10, none), (11, none), (12, none), (13, none), (14, none)]
  | 11 => [(6, none)]
  | _ => []
def kp5 (r : Nat) : List (Nat × Option Nat) := match r with
  | 0 => [(2, none), (3, none), (4, none)]
  | 1 => [(2, none), (3, none), (4, none), (7, none), (8, none), (9, none)]
  | 2 => [(2, none), (3, none), (4, none), (7, none), (8, none), (9, none), (10, none), (11, none), (12, none)]
  | 3 => [(2, none), (3, none), (4, none), (46, none)]
  | 4 => [(6, none)]
  | 5 => [(2, none), (3, none), (4, none), (8, none), (9, none), (13, none)]
  | 6 => [(8, none), (9, none), (11, none), (12, none), (13, none), (14, none)]
  | 7 => [(6, none)]
  | _ => []
def kp6 (r : Nat) : List (Nat × Option Nat) := match r with
  | 0 => []
  | 1 => [(1, none), (2, none)]
  | 2 => [(1, none), (2, none), (3, none), (4, none)]
  | 3 => [(1, none), (2, none), (3, none), (4, none), (5, none), (6, none)]
  | 4 => [(1, none), (2, none), (3, none), (4, none), (5, none), (6, none), (7, none), (8, none)]
  | 5 => [(1, none), (2, none), (3, none), (4, none), (5, none), (6, none), (7, none), (8, none), (9, none), (10, none)]
  | 6 => [(1, none), (2, none), (3, none), (4, none), (5, none), (6, none), (7, none), (8, none), (9, none), (10, none), (11, none), (12, none)]
  | 7 => [(1, none), (2, none), (3, none), (4, none), (5, none), (6, none), (7, none), (8, none), (9, none), (10, none), (11, none), (12, none), (13, none), (14, none), (15, none)]
  | 8 => [(1, none), (2, none), (3, none), (4, none), (5, none), (6, none), (7, none), (8, none), (9, none), (10, none), (11, none), (12, none), (13, none), (14, none), (15, none), (16, none), (17, none), (18, none)]
  | 9 => [(0, none)]
  | _ => []
def s4 : List D → Option D := sp3 (cAgg rShp) (cList rBat) (cAgg rPlnd) cBool fun s l x => if namesOk s then some true else none
set_option maxHeartbeats 4000000 in
theorem ok4 : ∀ ds d, s4 ds = some d → PureC Try.prog 4 ds d := ok_sp3 fun s l x r hr => by
  split at hr
  · rename_i hs
    cases hr
    refine pure_of_call (mkCx_ok depb 123 kp4 []) Try.func4 rfl rfl (Nat.le_of_ble_eq_true rfl) (by kernel_rfl) ?_
    rw [Try.results4]
    simp [cTup2_dec, cTup3_dec, bind_some', cAgg_dec, rInt_decL, rStr_decL, rK_decL, cList_nil, stopK_n, stopK_e, stopK_r, wrap_one, wrap_zero, call_eq, callK_n, callK_r, code_skip, code_label, code_region, regK_some, regK_none, region_eq, closeK_some, ops_nil, ops_cons, opsK_some, opsK_none, step_eq, stepK_t, stepK_f, putK_some, code_seq, seqK_n, seqK_e, seqK_r, code_cond, condK_t, condK_f, code_block, blkK_n, blkK_e, blkK_r, code_loop, code_exit, code_scope, code_ret, startB, allocs, allocDst, aWanted, aop, aCall, aAppend, aLen, aPick, aNil, aMinMax, aIndexAddr, aIndex, aSlice, aExtract, aFieldAddr, aField, aPart, aLoad, aBuild, aBuildSlice, aConv, aUn, aBin, vop, iop, sop, zerosD, rowsOf, fillD, placesD, bound?, St.ev, St.put, St.res, dstB, putT, setL, getA, argT, Cx.close, closeT, closeX, closeB, closeC, annOf, locsOf, X.strip, X.plain, X.data, X.cells, X.rows, X.int, dataL, ofVal, ofCell, ownTok, Own.isEx, toksApp, tokAt, nodupB, Res.ofX, aRes, oneOf, mkCx, eqsC, tyAt2, tyAt3, tyAt4, tyAt5, tyAt6, tyAt7, tyAt8, tyAt9, tyAt10, tyAt11, tyAt12, tyAt13, tyAt14, tyAt15, tyAt16, tyAt17, tyAt18, tyAt19, tyAt21, tyAt22, tyAt23, tyAt24, tyAt25, tyAt26, tyAt27, tyAt28, tyAt29, tyAt30, tyAt31, tyAt40, tyAt41, tyAt42, tyAt43, tyAt44, tyAt52, tyAt59, tyAt60, tyAt61, tyAt62, tyAt66, tyAt67, tyAt70, tyAt77, tyAt78, tyAt80, tyAt81, tyAt84, tyAt85, tyAt86, tyAt89, tyAt98, tyAt101, tyAt104, tyAt105, tyAt106, tyAt124, tyAt125, tyAt126, tyAt127, tyAt151, tyAt159, tyAt162, tyAt170, tyAt172, tyAt173, tyAt177, tyAt179, tyAt183, tyAt184, tyAt185, tyAt186, tyAt187, tyAt189, tyAt190, tyAt192, tyAt193, tyAt194, TyI.agg, TyI.isBool, TyI.elem, TyI.field, TyI.zeroD, Value.cells, Value.oneCell', intsOf, delOf, sp0, sp1, sp2, sp3, sp4, sp5, cInt_dec, cBool_dec, cStr_dec, cK_dec, rInt_k, rStr_k, rK_k, rInt_enc, rStr_enc, rK_enc, cInt_enc, cBool_enc, cStr_enc, cK_enc, cList_enc, cAgg_enc, cTup2_enc, cTup3_enc, ty2, ty3, ty4, ty5, ty6, ty7, ty8, ty9, ty10, ty11, ty12, ty13, ty14, ty15, ty16, ty17, ty18, ty19, ty21, ty22, ty23, ty24, ty25, ty26, ty27, ty28, ty29, ty30, ty31, ty40, ty41, ty42, ty43, ty44, ty52, ty59, ty60, ty61, ty62, ty66, ty67, ty70, ty77, ty78, ty80, ty81, ty84, ty85, ty86, ty89, ty98, ty101, ty104, ty105, ty106, ty124, ty125, ty126, ty127, ty151, ty159, ty162, ty170, ty172, ty173, ty177, ty179, ty183, ty184, ty185, ty186, ty187, ty189, ty190, ty192, ty193, ty194, kp4, rShp_enc, rShp_dec, rPlnd_enc, rBat_dec, rBat_k, rBat_decL, pb, pa, sAwake, sLost, sShows, sRush, s23, s25, s27, hs]
  · cases hr
def s5 : List D → Option D := sp3 (cAgg rShp) (cAgg rTwo) (cList rBat) cBool fun s st l => if namesOk s then some true else none
set_option maxHeartbeats 4000000 in
theorem ok5 : ∀ ds d, s5 ds = some d → PureC Try.prog 5 ds d := ok_sp3 fun s st l r hr => by
  split at hr
  · rename_i hs
    cases hr
    have h1 := refBest_len s st.1 l
    obtain ⟨h2, h3⟩ := refTwo_len s st l
    refine pure_of_call (mkCx_ok depb 88 kp5 []) Try.func5 rfl rfl (Nat.le_of_ble_eq_true rfl) (by kernel_rfl) ?_
    rw [Try.results5]
    simp [cTup2_dec, cTup3_dec, bind_some', cAgg_dec, rInt_decL, rStr_decL, rK_decL, cList_nil, stopK_n, stopK_e, stopK_r, wrap_one, wrap_zero, call_eq, callK_n, callK_r, code_skip, code_label, code_region, regK_some, regK_none, region_eq, closeK_some, ops_nil, ops_cons, opsK_some, opsK_none, step_eq, stepK_t, stepK_f, putK_some, code_seq, seqK_n, seqK_e, seqK_r, code_cond, condK_t, condK_f, code_block, blkK_n, blkK_e, blkK_r, code_loop, code_exit, code_scope, code_ret, startB, allocs, allocDst, aWanted, aop, aCall, aAppend, aLen, aPick, aNil, aMinMax, aIndexAddr, aIndex, aSlice, aExtract, aFieldAddr, aField, aPart, aLoad, aBuild, aBuildSlice, aConv, aUn, aBin, vop, iop, sop, zerosD, rowsOf, fillD, placesD, bound?, St.ev, St.put, St.res, dstB, putT, setL, getA, argT, Cx.close, closeT, closeX, closeB, closeC, annOf, locsOf, X.strip, X.plain, X.data, X.cells, X.rows, X.int, dataL, ofVal, ofCell, ownTok, Own.isEx, toksApp, tokAt, nodupB, Res.ofX, aRes, oneOf, mkCx, eqsC, tyAt2, tyAt3, tyAt4, tyAt5, tyAt6, tyAt7, tyAt8, tyAt9, tyAt10, tyAt11, tyAt12, tyAt13, tyAt14, tyAt15, tyAt16, tyAt17, tyAt18, tyAt19, tyAt21, tyAt22, tyAt23, tyAt24, tyAt25, tyAt26, tyAt27, tyAt28, tyAt29, tyAt30, tyAt31, tyAt40, tyAt41, tyAt42, tyAt43, tyAt44, tyAt52, tyAt59, tyAt60, tyAt61, tyAt62, tyAt66, tyAt67, tyAt70, tyAt77, tyAt78, tyAt80, tyAt81, tyAt84, tyAt85, tyAt86, tyAt89, tyAt98, tyAt101, tyAt104, tyAt105, tyAt106, tyAt124, tyAt125, tyAt126, tyAt127, tyAt151, tyAt159, tyAt162, tyAt170, tyAt172, tyAt173, tyAt177, tyAt179, tyAt183, tyAt184, tyAt185, tyAt186, tyAt187, tyAt189, tyAt190, tyAt192, tyAt193, tyAt194, TyI.agg, TyI.isBool, TyI.elem, TyI.field, TyI.zeroD, Value.cells, Value.oneCell', intsOf, delOf, sp0, sp1, sp2, sp3, sp4, sp5, cInt_dec, cBool_dec, cStr_dec, cK_dec, rInt_k, rStr_k, rK_k, rInt_enc, rStr_enc, rK_enc, cInt_enc, cBool_enc, cStr_enc, cK_enc, cList_enc, cAgg_enc, cTup2_enc, cTup3_enc, ty2, ty3, ty4, ty5, ty6, ty7, ty8, ty9, ty10, ty11, ty12, ty13, ty14, ty15, ty16, ty17, ty18, ty19, ty21, ty22, ty23, ty24, ty25, ty26, ty27, ty28, ty29, ty30, ty31, ty40, ty41, ty42, ty43, ty44, ty52, ty59, ty60, ty61, ty62, ty66, ty67, ty70, ty77, ty78, ty80, ty81, ty84, ty85, ty86, ty89, ty98, ty101, ty104, ty105, ty106, ty124, ty125, ty126, ty127, ty151, ty159, ty162, ty170, ty172, ty173, ty177, ty179, ty183, ty184, ty185, ty186, ty187, ty189, ty190, ty192, ty193, ty194, kp5, rShp_enc, rShp_dec, rTwo_enc, rTwo_decC, rPair_enc, rBat_dec, rBat_k, rBat_decL, pb, pa, sAwake, sBest, sTwo, s29, s32, s30, hs, h1, h2, h3]
  · cases hr
theorem kLeft0 : leftR shopV 2 0 = (⟨20000, 40000⟩, 0) := by kernel_rfl
theorem kLeft1 : leftR shopV 2 1 = (⟨2000, 8000⟩, 0) := by kernel_rfl
theorem kRin1 : rinsesR shopV 1 ⟨0, 2000⟩ = (1, 0) := by kernel_rfl
theorem kRin2 : rinsesR shopV 2 ⟨1, 2000⟩ = (1, 0) := by kernel_rfl
theorem kLost : lostR shopV 2 batsV [0, 1, 2] = (100, 0) := by kernel_rfl
theorem kShows : showsR shopV 2 batsV [0, 1, 2] [0, 2, 0] = (-1, 0) := by kernel_rfl
theorem kBest : refBest shopV 0 batsV = ([1, 2, 0], 0, 0) := by kernel_rfl
theorem kTwo : refTwo shopV (2, 2) batsV = (([], [0, 1, 2]), 100, 0) := by kernel_rfl
def s6 : List D → Option D := sp0 cBool (some true)
set_option maxRecDepth 100000 in
set_option maxHeartbeats 4000000 in
theorem ok6 : ∀ ds d, s6 ds = some d → PureC Try.prog 6 ds d := ok_sp0 fun r hr => by
  cases hr
  refine pure_of_call (mkCx_ok depb 155 kp6 []) Try.func6 rfl rfl (Nat.le_of_ble_eq_true rfl) (by kernel_rfl) ?_
  rw [Try.results6]
  have hN := names0
  have h1 := kLeft0
  have h2 := kLeft1
  have h3 := kRin1
  have h4 := kRin2
  have h5 := kLost
  have h6 := kShows
  have h7 := kBest
  have h8 := kTwo
  simp [cTup2_dec, cTup3_dec, bind_some', cAgg_dec, rInt_decL, rStr_decL, rK_decL, cList_nil, stopK_n, stopK_e, stopK_r, wrap_one, wrap_zero, call_eq, callK_n, callK_r, code_skip, code_label, code_region, regK_some, regK_none, region_eq, closeK_some, ops_nil, ops_cons, opsK_some, opsK_none, step_eq, stepK_t, stepK_f, putK_some, code_seq, seqK_n, seqK_e, seqK_r, code_cond, condK_t, condK_f, code_block, blkK_n, blkK_e, blkK_r, code_loop, code_exit, code_scope, code_ret, startB, allocs, allocDst, aWanted, aop, aCall, aAppend, aLen, aPick, aNil, aMinMax, aIndexAddr, aIndex, aSlice, aExtract, aFieldAddr, aField, aPart, aLoad, aBuild, aBuildSlice, aConv, aUn, aBin, vop, iop, sop, zerosD, rowsOf, fillD, placesD, bound?, St.ev, St.put, St.res, dstB, putT, setL, getA, argT, Cx.close, closeT, closeX, closeB, closeC, annOf, locsOf, X.strip, X.plain, X.data, X.cells, X.rows, X.int, dataL, ofVal, ofCell, ownTok, Own.isEx, toksApp, tokAt, nodupB, Res.ofX, aRes, oneOf, mkCx, eqsC, tyAt2, tyAt3, tyAt4, tyAt5, tyAt6, tyAt7, tyAt8, tyAt9, tyAt10, tyAt11, tyAt12, tyAt13, tyAt14, tyAt15, tyAt16, tyAt17, tyAt18, tyAt19, tyAt21, tyAt22, tyAt23, tyAt24, tyAt25, tyAt26, tyAt27, tyAt28, tyAt29, tyAt30, tyAt31, tyAt40, tyAt41, tyAt42, tyAt43, tyAt44, tyAt52, tyAt59, tyAt60, tyAt61, tyAt62, tyAt66, tyAt67, tyAt70, tyAt77, tyAt78, tyAt80, tyAt81, tyAt84, tyAt85, tyAt86, tyAt89, tyAt98, tyAt101, tyAt104, tyAt105, tyAt106, tyAt124, tyAt125, tyAt126, tyAt127, tyAt151, tyAt159, tyAt162, tyAt170, tyAt172, tyAt173, tyAt177, tyAt179, tyAt183, tyAt184, tyAt185, tyAt186, tyAt187, tyAt189, tyAt190, tyAt192, tyAt193, tyAt194, TyI.agg, TyI.isBool, TyI.elem, TyI.field, TyI.zeroD, Value.cells, Value.oneCell', intsOf, delOf, sp0, sp1, sp2, sp3, sp4, sp5, cInt_dec, cBool_dec, cStr_dec, cK_dec, rInt_k, rStr_k, rK_k, rInt_enc, rStr_enc, rK_enc, cInt_enc, cBool_enc, cStr_enc, cK_enc, cList_enc, cAgg_enc, cTup2_enc, cTup3_enc, ty2, ty3, ty4, ty5, ty6, ty7, ty8, ty9, ty10, ty11, ty12, ty13, ty14, ty15, ty16, ty17, ty18, ty19, ty21, ty22, ty23, ty24, ty25, ty26, ty27, ty28, ty29, ty30, ty31, ty40, ty41, ty42, ty43, ty44, ty52, ty59, ty60, ty61, ty62, ty66, ty67, ty70, ty77, ty78, ty80, ty81, ty84, ty85, ty86, ty89, ty98, ty101, ty104, ty105, ty106, ty124, ty125, ty126, ty127, ty151, ty159, ty162, ty170, ty172, ty173, ty177, ty179, ty183, ty184, ty185, ty186, ty187, ty189, ty190, ty192, ty193, ty194, kp6, pb, pa, sAwake, o1, l12, s35, sLost, sShows, sBest, sRush, sTwo, sLeft, sRinses, s33, s34, List.append_eq, List.cons_append, List.nil_append, rShp_enc, rShp_dec, rBat_enc, rBat_dec, rBat_k, rBat_decL, rSpn_enc, rTwo_enc, rPair_enc, rInt_dec2, rBat_decC, rTwo_decC, ints3, ints0, ints4, s30, hN, h1, h2, h3, h4, h5, h6, h7, h8]
end Go.Proofs.Ytpkjmnfgpbliaaa
