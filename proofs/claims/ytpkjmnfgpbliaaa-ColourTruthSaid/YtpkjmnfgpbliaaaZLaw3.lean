/-
  The laws of the colour chapter that compare: what they return, Awake being known. Conditions: Awake returns true.
-/
import Derived.Test.YtpkjmnfgpbliaaaZLawB
namespace Go.Proofs.Ytpkjmnfgpbliaaa
open Go.RowKit
set_option linter.unusedSimpArgs false
set_option linter.unusedVariables false

def kp3 (r : Nat) : List (Nat × Option Nat) := match r with
  | 0 => [(2, none), (3, none)]
  | 1 => [(2, none), (3, none), (5, none), (6, none), (7, none)]
  | 2 => [(2, none), (3, none), (5, none), (6, none), (7, none), (8, none), (9, none), (10, none)]
  | 3 => [(2, none), (3, none), (39, none)]
  | 4 => [(4, none)]
  | 5 => [(2, none), (3, none), (7, none), (11, none)]
  | 6 => [(2, none), (3, none), (7, none), (10, none), (11, none), (12, none)]
  | 7 => [(2, none), (3, none), (65, none)]
  | 8 => [(4, none)]
  | 9 => [(2, none), (3, none), (7, none), (13, none)]
  | 10 => [(7, none), (10, none), (13, none), (14, none)]
  | 11 => [(4, none)]
  | _ => []
def sAwake : List D → Option D := sp0 cBool (some true)
def AwakeOk : Prop := ∀ ds d, sAwake ds = some d → PureC Try.prog 21 ds d
theorem call21 (xs : Array Value) (w : World) : (callFunc 21 xs).run Try.prog w = .ok (.enter 21 xs) w := by kernel_rfl
theorem call15 (xs : Array Value) (w : World) : (callFunc 15 xs).run Try.prog w = .ok (.enter 15 xs) w := by kernel_rfl
theorem call17 (xs : Array Value) (w : World) : (callFunc 17 xs).run Try.prog w = .ok (.enter 17 xs) w := by kernel_rfl
theorem call19 (xs : Array Value) (w : World) : (callFunc 19 xs).run Try.prog w = .ok (.enter 19 xs) w := by kernel_rfl
theorem call18 (xs : Array Value) (w : World) : (callFunc 18 xs).run Try.prog w = .ok (.enter 18 xs) w := by kernel_rfl
theorem call20 (xs : Array Value) (w : World) : (callFunc 20 xs).run Try.prog w = .ok (.enter 20 xs) w := by kernel_rfl
def p3 : List (Nat × (List D → Option D)) := (21, sAwake) :: (15, sCheck) :: (17, sLeft) :: (19, sRinses) :: (18, s18) :: (20, s20) :: l4
theorem dep3 (h : AwakeOk) : DelOk Try.prog (delOf p3) := del_cons (del_cons (del_cons (del_cons (del_cons (del_cons del4 call20 ok20) call18 ok18) call19 okRinses) call17 okLeft) call15 okCheck) call21 h
structure Chg where
  before : Int
  rinses : Int
  batch : Bat
def rChg : Row Chg := ⟨4, fun x => [DI x.before, DI x.rinses, DI x.batch.c, DI x.batch.g], fun d => match d with
  | [.v (.int .i64 a), .v (.int .i64 b), .v (.int .i64 c), .v (.int .i64 e)] => some ⟨a, b, ⟨c, e⟩⟩ | _ => none, fun _ => rfl, fun d x h => by
  split at h
  · cases h; exact LImp.refl _
  · cases h⟩
theorem rChg_enc (x : Chg) : rChg.enc x = [DI x.before, DI x.rinses, DI x.batch.c, DI x.batch.g] := rfl
def s3 : List D → Option D := sp2 (cAgg rShp) (cAgg rChg) cBool fun s x => if namesOk s then some true else none
theorem ok3 (hA : AwakeOk) : ∀ ds d, s3 ds = some d → PureC Try.prog 3 ds d := ok_sp2 fun s x r hr => by
  split at hr
  · rename_i hs
    cases hr
    refine pure_of_call (mkCx_ok (dep3 hA) 95 kp3 []) Try.func3 rfl rfl (Nat.le_of_ble_eq_true rfl) (by kernel_rfl) ?_
    rw [Try.results3]
    simp [cTup2_dec, cTup3_dec, bind_some', cAgg_dec, rInt_decL, rStr_decL, rK_decL, cList_nil, stopK_n, stopK_e, stopK_r, wrap_one, wrap_zero, call_eq, callK_n, callK_r, code_skip, code_label, code_region, regK_some, regK_none, region_eq, closeK_some, ops_nil, ops_cons, opsK_some, opsK_none, step_eq, stepK_t, stepK_f, putK_some, code_seq, seqK_n, seqK_e, seqK_r, code_cond, condK_t, condK_f, code_block, blkK_n, blkK_e, blkK_r, code_loop, code_exit, code_scope, code_ret, startB, allocs, allocDst, aWanted, aop, aCall, aAppend, aLen, aPick, aNil, aMinMax, aIndexAddr, aIndex, aSlice, aExtract, aFieldAddr, aField, aPart, aLoad, aBuild, aBuildSlice, aConv, aUn, aBin, vop, iop, sop, zerosD, rowsOf, fillD, placesD, bound?, St.ev, St.put, St.res, dstB, putT, setL, getA, argT, Cx.close, closeT, closeX, closeB, closeC, annOf, locsOf, X.strip, X.plain, X.data, X.cells, X.rows, X.int, dataL, ofVal, ofCell, ownTok, Own.isEx, toksApp, tokAt, nodupB, Res.ofX, aRes, oneOf, mkCx, eqsC, tyAt2, tyAt3, tyAt4, tyAt5, tyAt6, tyAt7, tyAt8, tyAt9, tyAt10, tyAt11, tyAt12, tyAt13, tyAt14, tyAt15, tyAt16, tyAt17, tyAt18, tyAt19, tyAt21, tyAt22, tyAt23, tyAt24, tyAt25, tyAt26, tyAt27, tyAt28, tyAt29, tyAt30, tyAt31, tyAt40, tyAt41, tyAt42, tyAt43, tyAt44, tyAt52, tyAt59, tyAt60, tyAt61, tyAt62, tyAt66, tyAt67, tyAt70, tyAt77, tyAt78, tyAt80, tyAt81, tyAt84, tyAt85, tyAt86, tyAt89, tyAt98, tyAt101, tyAt104, tyAt105, tyAt106, tyAt124, tyAt125, tyAt126, tyAt127, tyAt151, tyAt159, tyAt162, tyAt170, tyAt172, tyAt173, tyAt177, tyAt179, tyAt183, tyAt184, tyAt185, tyAt186, tyAt187, tyAt189, tyAt190, tyAt192, tyAt193, tyAt194, TyI.agg, TyI.isBool, TyI.elem, TyI.field, TyI.zeroD, Value.cells, Value.oneCell', intsOf, delOf, sp0, sp1, sp2, sp3, sp4, sp5, cInt_dec, cBool_dec, cStr_dec, cK_dec, rInt_k, rStr_k, rK_k, rInt_enc, rStr_enc, rK_enc, cInt_enc, cBool_enc, cStr_enc, cK_enc, cList_enc, cAgg_enc, cTup2_enc, cTup3_enc, ty2, ty3, ty4, ty5, ty6, ty7, ty8, ty9, ty10, ty11, ty12, ty13, ty14, ty15, ty16, ty17, ty18, ty19, ty21, ty22, ty23, ty24, ty25, ty26, ty27, ty28, ty29, ty30, ty31, ty40, ty41, ty42, ty43, ty44, ty52, ty59, ty60, ty61, ty62, ty66, ty67, ty70, ty77, ty78, ty80, ty81, ty84, ty85, ty86, ty89, ty98, ty101, ty104, ty105, ty106, ty124, ty125, ty126, ty127, ty151, ty159, ty162, ty170, ty172, ty173, ty177, ty179, ty183, ty184, ty185, ty186, ty187, ty189, ty190, ty192, ty193, ty194, kp3, rShp_enc, rShp_dec, rChg_enc, rSpn_enc, rBat_dec, p3, l4, sAwake, sCheck, sLeft, sRinses, s16, s18, s20, hs]
  · cases hr
end Go.Proofs.Ytpkjmnfgpbliaaa
