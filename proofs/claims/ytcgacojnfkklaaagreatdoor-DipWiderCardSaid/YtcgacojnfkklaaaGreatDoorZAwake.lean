/-
  Awake returns true. Conditions: none.
-/
import Derived.Test.YtcgacojnfkklaaaGreatDoorZLawA
namespace Go.Proofs.YtcgacojnfkklaaaGreatDoor
open Go.RowKit
set_option linter.unusedSimpArgs false
set_option linter.unusedVariables false
def textV0 : ByteArray := ⟨#[108, 111, 119, 32, 51, 32, 52, 48, 10, 108, 111, 119, 32, 51, 32, 51, 48, 32, 116, 117, 114, 110, 101, 100, 10]⟩
theorem names0 : namesOk shopV := by decide
theorem aFollow : followR shopV taperV [⟨0, 7, 40, false⟩] [620] = (⟨2000, 2760, 2680⟩, 0) := by kernel_rfl
theorem aAfter : afterE shopV taperV [⟨0, 3, 30, false⟩, ⟨0, 3, 30, true⟩] = ([⟨⟨2660, 2860⟩, ⟨2740, 2940⟩, ⟨80, 80⟩⟩, ⟨⟨3400, 3800⟩, ⟨3400, 3800⟩, ⟨0, 0⟩⟩], 0) := by kernel_rfl
theorem aWorst : worstR shopV taperV [⟨0, 7, 40, false⟩] 119 = ([630], 0) := by kernel_rfl
theorem aFewest : fewR shopV taperV dipsV ⟨3400, 3800⟩ 50 = ([0, 0], 0) := by kernel_rfl
theorem aWrite : writeR shopV [⟨0, 3, 40, false⟩, ⟨0, 3, 30, true⟩] = (textV0, 0) := by kernel_rfl
theorem aRead : readR shopV textV0 = ([⟨0, 3, 40, false⟩, ⟨0, 3, 30, true⟩], 0) := by kernel_rfl
theorem aDown : afterE shopV taperV [⟨1, 7, 40, false⟩] = ([], 9) := by kernel_rfl
def kp22 (r : Nat) : List (Nat × Option Nat) := match r with
  | 0 => []
  | 1 => [(1, none), (2, none)]
  | 2 => [(1, none), (2, none), (3, none), (4, none)]
  | 3 => [(1, none), (2, none), (3, none), (4, none), (5, none), (6, none)]
  | 4 => [(1, none), (2, none), (3, none), (4, none), (5, none), (6, none), (7, none), (8, none)]
  | 5 => [(1, none), (2, none), (3, none), (4, none), (5, none), (6, none), (7, none), (8, none), (9, none), (10, none)]
  | 6 => [(1, none), (2, none), (3, none), (4, none), (5, none), (6, none), (7, none), (8, none), (9, none), (10, none), (11, none), (12, none)]
  | 7 => [(1, none), (2, none), (3, none), (4, none), (5, none), (6, none), (7, none), (8, none), (9, none), (10, none), (11, none), (12, none), (14, none)]
  | 8 => [(0, none)]
  | _ => []
theorem tap_mk' (a b c : Int) : rTap.dec [.v (.int .i64 a), .v (.int .i64 b), .v (.int .i64 c)] = some ⟨a, b, c⟩ := rfl
theorem spn_mk' (a b : Int) : rSpn.dec [.v (.int .i64 a), .v (.int .i64 b)] = some ⟨a, b⟩ := rfl
theorem ints1' (a : Int) : (cList rInt).dec (.sl 1 [[.v (.int .i64 a)]]) = some [a] := rfl
theorem ints2' (a b : Int) : (cList rInt).dec (.sl 1 [[.v (.int .i64 a)], [.v (.int .i64 b)]]) = some [a, b] := rfl
theorem dips1' (a b c : Int) (t : Bool) : (cList rDip).dec (.sl 4 [[.v (.int .i64 a), .v (.int .i64 b), .v (.int .i64 c), .v (.bool t)]]) = some [⟨a, b, c, t⟩] := rfl
theorem dips2' (a b c a' b' c' : Int) (t t' : Bool) : (cList rDip).dec (.sl 4 [[.v (.int .i64 a), .v (.int .i64 b), .v (.int .i64 c), .v (.bool t)], [.v (.int .i64 a'), .v (.int .i64 b'), .v (.int .i64 c'), .v (.bool t')]]) = some [⟨a, b, c, t⟩, ⟨a', b', c', t'⟩] := rfl
theorem rngs2' (a b c d e f a' b' c' d' e' f' : Int) : (cList rRng).dec (.sl 6 [[.v (.int .i64 a), .v (.int .i64 b), .v (.int .i64 c), .v (.int .i64 d), .v (.int .i64 e), .v (.int .i64 f)], [.v (.int .i64 a'), .v (.int .i64 b'), .v (.int .i64 c'), .v (.int .i64 d'), .v (.int .i64 e'), .v (.int .i64 f')]]) = some [⟨⟨a, b⟩, ⟨c, d⟩, ⟨e, f⟩⟩, ⟨⟨a', b'⟩, ⟨c', d'⟩, ⟨e', f'⟩⟩] := rfl
theorem rngs2'' (a b c d e f a' b' c' d' e' f' : Int) : (cList rRng).dec (.sl 6 [[DI a, DI b, DI c, DI d, DI e, DI f], [DI a', DI b', DI c', DI d', DI e', DI f']]) = some [⟨⟨a, b⟩, ⟨c, d⟩, ⟨e, f⟩⟩, ⟨⟨a', b'⟩, ⟨c', d'⟩, ⟨e', f'⟩⟩] := rfl
theorem ints2'' (a b : Int) : (cList rInt).dec (.sl 1 [[DI a], [DI b]]) = some [a, b] := rfl
theorem dips1'' (a b c : Int) (t : Bool) : (cList rDip).dec (.sl 4 [[DI a, DI b, DI c, DB t]]) = some [⟨a, b, c, t⟩] := rfl
theorem dips2'' (a b c a' b' c' : Int) (t t' : Bool) : (cList rDip).dec (.sl 4 [[DI a, DI b, DI c, DB t], [DI a', DI b', DI c', DB t']]) = some [⟨a, b, c, t⟩, ⟨a', b', c', t'⟩] := rfl
theorem ints1'' (a : Int) : (cList rInt).dec (.sl 1 [[DI a]]) = some [a] := rfl
theorem spn_mk'' (a b : Int) : rSpn.dec [DI a, DI b] = some ⟨a, b⟩ := rfl
theorem dipsV_enc : dipsV.map rDip.enc = [[DI 0, DI 3, DI 40, DB false], [DI 0, DI 7, DI 40, DB false], [DI 0, DI 3, DI 30, DB false], [DI 0, DI 3, DI 30, DB true]] := rfl
theorem dipsV_dec : (cList rDip).dec (.sl 4 [[DI 0, DI 3, DI 40, DB false], [DI 0, DI 7, DI 40, DB false], [DI 0, DI 3, DI 30, DB false], [DI 0, DI 3, DI 30, DB true]]) = some dipsV := rfl
theorem dipsV_len : dipsV.length = 4 := rfl
theorem textV0_list : textV0.toList = [108, 111, 119, 32, 51, 32, 52, 48, 10, 108, 111, 119, 32, 51, 32, 51, 48, 32, 116, 117, 114, 110, 101, 100, 10] := by rw [ByteArray.toList_eq]; rfl
def a2 : List (Nat × (List D → Option D)) := (36, s36) :: (37, s37) :: (38, s38) :: (20, s20) :: (23, s23) :: (26, s26) :: (29, s29) :: (31, s31) :: (33, s33) :: (25, s25) :: (28, s28) :: (35, s35) :: a1
theorem da2 : DelOk Tryz.prog (delOf a2) := del_cons (del_cons (del_cons (del_cons (del_cons (del_cons (del_cons (del_cons (del_cons (del_cons (del_cons (del_cons da1 call35 ok35) call28 ok28) call25 ok25) call33 ok33) call31 ok31) call29 ok29) call26 ok26) call23 ok23) call20 ok20) call38 ok38) call37 ok37) call36 ok36
def s22 : List D → Option D := sp0 cBool (some true)
theorem i64_50 : i64Ok 50 := by decide
set_option maxRecDepth 100000 in
set_option maxHeartbeats 4000000 in
theorem ok22 : ∀ ds d, s22 ds = some d → PureC Tryz.prog 22 ds d := ok_sp0 fun r hr => by
  cases hr
  refine pure_of_call (mkCx_ok da2 154 kp22 []) Tryz.func22 rfl rfl (Nat.le_of_ble_eq_true rfl) (by kernel_rfl) ?_
  rw [Tryz.results22]
  have hN := names0
  have h1 := aFollow
  have h2 := aAfter
  have h3 := aWorst
  have h4 := aFewest
  have h5 := aWrite
  have h6 := aRead
  have h7 := aDown
  simp [kp22, a2, a1, s36, s37, s38, s20, s23, s26, s29, s31, s33, s25, s28, s35, s39, List.append_eq, List.cons_append, List.nil_append, rDsh_enc, rDsh_dec, rTap_enc, rTap_dec, rDip_enc, rDip_dec, rDip_k, rDip_decL, rSpn_enc, rSpn_dec, rRng_enc, tap_mk', spn_mk', ints1', ints2', dips1', dips2', rngs2', i64_50, textV0_list, rRng_k, rngs2'', ints2'', eqBy, rngC, dipC, dips1'', dips2'', ints1'', spn_mk'', dipsV_enc, dipsV_dec, dipsV_len, hN, h1, h2, h3, h4, h5, h6, h7]
theorem call22 (xs : Array Value) (w : World) : (callFunc 22 xs).run Tryz.prog w = .ok (.enter 22 xs) w := by kernel_rfl
end Go.Proofs.YtcgacojnfkklaaaGreatDoor
