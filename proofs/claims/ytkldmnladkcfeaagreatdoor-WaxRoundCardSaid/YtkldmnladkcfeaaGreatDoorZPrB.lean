/-
  The program of the wax chapter: names, ranges, Check. Conditions: the names are strings.
-/
import Derived.Test.YtkldmnladkcfeaaGreatDoorZPrA
namespace Go.Proofs.YtkldmnladkcfeaaGreatDoor
open Go.RowKit
set_option linter.unusedSimpArgs false
set_option linter.unusedVariables false
def kp52 (r : Nat) : List (Nat × Option Nat) := match r with
  | 0 => [(1, none)]
  | 1 => [(2, none)]
  | _ => []
def kp54 (r : Nat) : List (Nat × Option Nat) := match r with
  | 0 => [(1, none)]
  | 1 => [(2, none)]
  | _ => []
def kp81 (r : Nat) : List (Nat × Option Nat) := match r with
  | 0 => [(1, none), (2, none), (3, none)]
  | 1 => [(4, none)]
  | _ => []
def kp83 (r : Nat) : List (Nat × Option Nat) := match r with
  | 0 => [(1, none), (2, none), (3, none)]
  | 1 => [(4, none)]
  | _ => []
def kp101 (r : Nat) : List (Nat × Option Nat) := match r with
  | 0 => [(0, none), (1, none)]
  | 1 => [(0, none), (1, none), (7, none), (8, none)]
  | 2 => [(0, none), (1, none), (7, none), (8, none), (9, none)]
  | 3 => [(0, none), (1, none), (5, none), (7, none), (8, none)]
  | 4 => [(0, none), (1, none), (5, none), (7, none), (8, none), (16, none)]
  | 5 => [(4, none)]
  | 6 => [(0, none), (1, none), (7, none), (8, none)]
  | 7 => [(4, none)]
  | _ => []
def kp80 (r : Nat) : List (Nat × Option Nat) := match r with
  | 0 => [(0, none), (1, none)]
  | 1 => [(4, none)]
  | _ => []
def kp102 (r : Nat) : List (Nat × Option Nat) := match r with
  | 0 => [(0, none), (1, none)]
  | 1 => [(0, none), (1, none), (7, none), (8, none)]
  | 2 => [(0, none), (1, none), (7, none), (8, none), (9, none)]
  | 3 => [(0, none), (1, none), (5, none), (7, none), (8, none)]
  | 4 => [(0, none), (1, none), (5, none), (7, none), (8, none), (16, none)]
  | 5 => [(4, none)]
  | 6 => [(0, none), (1, none), (7, none), (8, none)]
  | 7 => [(4, none)]
  | _ => []
def kp82 (r : Nat) : List (Nat × Option Nat) := match r with
  | 0 => [(0, none), (1, none)]
  | 1 => [(4, none)]
  | _ => []
def kp51 (r : Nat) : List (Nat × Option Nat) := match r with
  | 0 => [(0, none), (3, none)]
  | 1 => [(0, none), (3, none), (5, none)]
  | 2 => [(0, none), (3, none), (5, none), (6, none)]
  | 3 => [(0, none), (3, none), (5, none), (6, none), (16, none)]
  | 4 => [(4, none)]
  | 5 => [(20, none)]
  | 6 => [(4, none)]
  | 7 => [(4, none)]
  | _ => []
def kp53 (r : Nat) : List (Nat × Option Nat) := match r with
  | 0 => [(0, none), (3, none)]
  | 1 => [(0, none), (3, none), (5, none)]
  | 2 => [(0, none), (3, none), (5, none), (6, none)]
  | 3 => [(0, none), (3, none), (5, none), (6, none), (16, none)]
  | 4 => [(4, none)]
  | 5 => [(20, none)]
  | 6 => [(4, none)]
  | 7 => [(4, none)]
  | _ => []
def kp56 (r : Nat) : List (Nat × Option Nat) := match r with
  | 0 => [(1, none)]
  | 1 => [(2, none)]
  | _ => []
def kp57 (r : Nat) : List (Nat × Option Nat) := match r with
  | 0 => [(1, none)]
  | 1 => [(2, none)]
  | _ => []
def kp84 (r : Nat) : List (Nat × Option Nat) := match r with
  | 0 => [(0, none), (1, none)]
  | 1 => [(0, none), (1, none), (7, none), (8, none)]
  | 2 => [(0, none), (1, none), (7, none), (8, none), (9, none)]
  | 3 => [(0, none), (1, none), (5, none), (7, none), (8, none)]
  | 4 => [(0, none), (1, none), (5, none), (7, none), (8, none), (16, none)]
  | 5 => [(4, none)]
  | 6 => [(0, none), (1, none), (7, none), (8, none)]
  | 7 => [(4, none)]
  | _ => []
def kp55 (r : Nat) : List (Nat × Option Nat) := match r with
  | 0 => [(0, none), (1, none)]
  | 1 => [(4, none)]
  | _ => []
def kp16 (r : Nat) : List (Nat × Option Nat) := match r with
  | 0 => [(1, none)]
  | 1 => [(1, none), (9, none)]
  | 2 => [(2, none), (3, none), (4, none)]
  | 3 => [(1, none), (22, none)]
  | 4 => [(2, none), (3, none), (4, none)]
  | 5 => [(1, none), (28, none), (29, none), (30, none)]
  | 6 => [(1, none), (28, none), (29, none), (30, none), (31, none)]
  | 7 => [(1, none), (5, none), (6, none), (28, none), (29, none), (30, none)]
  | 8 => [(1, none), (4, none), (5, none), (6, none), (28, none), (29, none), (30, none)]
  | 9 => [(1, none), (4, none), (5, none), (6, none), (28, none), (29, none), (30, none), (42, none)]
  | 10 => [(2, none), (3, none), (4, none)]
  | 11 => [(1, none), (5, none), (28, none), (29, none), (30, none), (48, none)]
  | 12 => [(2, none), (3, none), (4, none)]
  | 13 => [(1, none), (28, none), (29, none), (30, none)]
  | 14 => [(1, none), (52, none), (53, none), (54, none)]
  | 15 => [(1, none), (52, none), (53, none), (54, none), (55, none)]
  | 16 => [(1, none), (7, none), (8, none), (52, none), (53, none), (54, none)]
  | 17 => [(1, none), (4, none), (7, none), (8, none), (52, none), (53, none), (54, none)]
  | 18 => [(1, none), (4, none), (7, none), (8, none), (52, none), (53, none), (54, none), (65, none)]
  | 19 => [(2, none), (3, none), (4, none)]
  | 20 => [(1, none), (7, none), (8, none), (52, none), (53, none), (54, none), (70, none)]
  | 21 => [(2, none), (3, none), (4, none)]
  | 22 => [(1, none), (7, none), (8, none), (52, none), (53, none), (54, none), (79, none)]
  | 23 => [(2, none), (3, none), (4, none)]
  | 24 => [(1, none), (7, none), (52, none), (53, none), (54, none), (84, none)]
  | 25 => [(2, none), (3, none), (4, none)]
  | 26 => [(1, none), (52, none), (53, none), (54, none)]
  | 27 => [(2, none), (3, none), (4, none)]
  | _ => []
def s52 : List D → Option D := sp1 (cAgg rPrp) cStr fun x => some x.name
theorem ok52 : ∀ ds d, s52 ds = some d → PureC Tryz.prog 52 ds d := ok_sp1 fun x r hr => by
  cases hr
  refine pure_of_call (mkCx_ok del_nil 5 kp52 []) Tryz.func52 rfl rfl (Nat.le_of_ble_eq_true rfl) (by kernel_rfl) ?_
  rw [Tryz.results52]
  simp [kp52, rPrp_enc]
theorem call52 (xs : Array Value) (w : World) : (callFunc 52 xs).run Tryz.prog w = .ok (.enter 52 xs) w := by kernel_rfl
def samePrp (s : ByteArray) (x : Prp) : Bool := x.name.toList == s.toList
def cNmPrp : Cod ByteArray := ⟨fun s => .fn 81 [] [(cFnP 52).enc (), cStrP.enc s], fun d => match d with | .fn 81 [] [a, b] => (match (cFnP 52).dec a, cStrP.dec b with | some _, some s => some s | _, _ => none) | _ => none, fun d x h => by
  split at h
  · split at h
    · rename_i h1 h2; cases h
      exact fnc_imp ⟨_, _, rfl, (cFnP 52).ed _ _ h1, _, _, rfl, cStrP.ed _ _ h2, rfl⟩
    · cases h
  · cases h⟩
theorem cNmPrp_enc (s : ByteArray) : cNmPrp.enc s = .fn 81 [] [.dat 1 [[.v (.func (.func 52) #[] #[])]] 0 0, .dat 1 [[DS s]] 0 0] := rfl
theorem cNmPrp_dec (s : ByteArray) : cNmPrp.dec (.fn 81 [] [.dat 1 [[.v (.func (.func 52) #[] #[])]] 0 0, .dat 1 [[DS s]] 0 0]) = some s := rfl
def s81 : List D → Option D := sp3 (cAgg rPrp) (cFnP 52) cStrP cBool fun x _ s => some (samePrp s x)
theorem ok81 : ∀ ds d, s81 ds = some d → PureC Tryz.prog 81 ds d := ok_sp3 fun x u s r hr => by
  cases hr
  refine pure_of_call (mkCx_ok (del_cons del_nil call52 ok52) 10 kp81 []) Tryz.func81 rfl rfl (Nat.le_of_ble_eq_true rfl) (by kernel_rfl) ?_
  rw [Tryz.results81]
  unfold samePrp
  simp [kp81, s52, cFnP_enc, cStrP_enc, rPrp_enc, rPrp_dec]
theorem call81 (xs : Array Value) (w : World) : (callFunc 81 xs).run Tryz.prog w = .ok (.enter 81 xs) w := by kernel_rfl
def s101 : List D → Option D := sp2 (cList rPrp) cNmPrp cInt fun l q => if l.length < 1000000 ∧ True then some (idxF (samePrp q) l) else none
set_option maxHeartbeats 1000000 in
theorem ok101 : ∀ ds d, s101 ds = some d → PureC Tryz.prog 101 ds d := ok_sp2 fun l q r hr => by
  split at hr
  · rename_i hlm
    cases hr
    obtain ⟨hlm, hyp⟩ := hlm
    refine pure_of_call (mkCx_ok (del_cons del_nil call81 ok81) 19 kp101 []) Tryz.func101 rfl rfl (Nat.le_of_ble_eq_true rfl) (by kernel_rfl) ?_
    rw [Tryz.results101]
    simp [kp101, cNmPrp_enc, rPrp_k]
    rcases idxF_cases (samePrp q) l with ⟨e1, _, hall⟩ | ⟨k, hk, e1, _, hbad, hgood⟩
    · rw [e1]
      (generalize hLoopQ : Cx.loop _ _ _ = rLoopQ; apply loop_then hLoopQ (fun k => ⟨[(0, .d (.sl 2 (l.map rPrp.enc))), (1, .d (.fn 81 [] [.dat 1 [[.v (.func (.func 52) #[] #[])]] 0 0, .dat 1 [[DS q]] 0 0])), (7, .d (DI l.length)), (8, .d (DI k))], [], [], []⟩) l.length rfl; rotate_left; (show _ < 281474976710656; omega); rfl; rotate_left; all_goals clear hLoopQ)
      · intro j hj
        have w1 := wrap_small ((j : Int) + 1) (by omega) (by omega)
        have hjl : (j : Int) < l.length := by omega
        have hn := hall j hj
        have hq : cStrP.dec (.dat 1 [[DS q]] 0 0) = some q := rfl
        simp [kp101, delOf, s81, cFnP_dec, cStrP_dec, rPrp_enc, rPrp_dec, hj, hjl, hn, hyp, w1]
      · simp [kp101]
    · rw [e1]
      (generalize hLoopQ : Cx.loop _ _ _ = rLoopQ; apply loop_then hLoopQ (fun k => ⟨[(0, .d (.sl 2 (l.map rPrp.enc))), (1, .d (.fn 81 [] [.dat 1 [[.v (.func (.func 52) #[] #[])]] 0 0, .dat 1 [[DS q]] 0 0])), (7, .d (DI l.length)), (8, .d (DI k))], [], [], []⟩) k rfl; rotate_left; (show _ < 281474976710656; omega); rfl; rotate_left; all_goals clear hLoopQ)
      · intro j hj'
        have hj : j < l.length := by omega
        have w1 := wrap_small ((j : Int) + 1) (by omega) (by omega)
        have hjl : (j : Int) < l.length := by omega
        have hn := hgood j hj hj'
        have hq : cStrP.dec (.dat 1 [[DS q]] 0 0) = some q := rfl
        simp [kp101, delOf, s81, cFnP_dec, cStrP_dec, rPrp_enc, rPrp_dec, hj, hjl, hn, hyp, w1]
      · have hkl : (k : Int) < l.length := by omega
        have hn := hbad
        have hq : cStrP.dec (.dat 1 [[DS q]] 0 0) = some q := rfl
        simp [kp101, delOf, s81, cFnP_dec, cStrP_dec, rPrp_enc, rPrp_dec, hk, hkl, hn, hyp]
  · cases hr
theorem call101 (xs : Array Value) (w : World) : (callFunc 101 xs).run Tryz.prog w = .ok (.enter 101 xs) w := by kernel_rfl
def s80 : List D → Option D := sp2 (cList rPrp) cNmPrp cBool fun l q => if l.length < 1000000 ∧ True then some (l.any (samePrp q)) else none
theorem ok80 : ∀ ds d, s80 ds = some d → PureC Tryz.prog 80 ds d := ok_sp2 fun l q r hr => by
  split at hr
  · rename_i hlm
    cases hr
    obtain ⟨hlm, hyp⟩ := hlm
    refine pure_of_call (mkCx_ok (del_cons del_nil call101 ok101) 9 kp80 []) Tryz.func80 rfl rfl (Nat.le_of_ble_eq_true rfl) (by kernel_rfl) ?_
    rw [Tryz.results80]
    have hp := idxF_pos (samePrp q) l
    rw [← hp]
    simp [kp80, s101, cNmPrp_enc, cNmPrp_dec, rPrp_k, rPrp_decL, hlm, hyp]
  · cases hr
theorem call80 (xs : Array Value) (w : World) : (callFunc 80 xs).run Tryz.prog w = .ok (.enter 80 xs) w := by kernel_rfl
def g51 : List (Nat × (List D → Option D)) := (52, s52) :: (80, s80) :: (18, s18) :: []
theorem dg51 : DelOk Tryz.prog (delOf g51) := del_cons (del_cons (del_cons del_nil call18 ok18) call80 ok80) call52 ok52
def lastEPrp (l : List Prp) : Int := namedE (l.getD (l.length - 1) default).name ((l.take (l.length - 1)).map (·.name))
def s51 : List D → Option D := sp2 (cList rPrp) (cFn 52) cInt fun l _ => if 0 < l.length ∧ l.length < 1000000 ∧ strOk (l.getD (l.length - 1) default).name then some (lastEPrp l) else none
set_option maxHeartbeats 1000000 in
theorem ok51 : ∀ ds d, s51 ds = some d → PureC Tryz.prog 51 ds d := ok_sp2 fun l u r hr => by
  split at hr
  · rename_i hc
    cases hr
    obtain ⟨h0, hlm, hs⟩ := hc
    unfold lastEPrp
    obtain ⟨n, hn⟩ : ∃ n, l.length = n + 1 := ⟨l.length - 1, by omega⟩
    rw [hn] at hs ⊢
    simp only [Nat.add_sub_cancel] at hs ⊢
    have hnl : n < l.length := by omega
    have hnI : (n : Int) < l.length := by omega
    have hnI2 : (n : Int) ≤ l.length := by omega
    rw [getD_at _ _ _ hnl] at hs ⊢
    have w1 : IntKind.i64.wrap ((l.length : Int) - 1) = n := by rw [wrap_small _ (by omega) (by omega)]; omega
    refine pure_of_call (mkCx_ok dg51 26 kp51 []) Tryz.func51 rfl rfl (Nat.le_of_ble_eq_true rfl) (by kernel_rfl) ?_
    rw [Tryz.results51]
    have hany : (l.take n).any (samePrp l[n].name) = ((l.take n).map (·.name)).any (fun x => x.toList == l[n].name.toList) := by rw [List.any_map]; rfl
    have hdec : (cList rPrp).dec (.sl 2 ((l.map rPrp.enc).take n)) = some (l.take n) := by rw [← List.map_take]; exact rPrp_decL _
    have htl : min n l.length < 1000000 := by omega
    unfold namedE
    rw [← hany]
    generalize hq : (l.take n).any (samePrp l[n].name) = q at *
    cases h1 : refName l[n].name
    · simp [kp51, g51, s52, s18, cFn_enc, rPrp_k, rPrp_enc, rPrp_dec, hnl, hnI, hnI2, w1, hs, h1]
    · cases q
      · simp [kp51, g51, s52, s18, s80, cFn_enc, cNmPrp_dec, rPrp_k, rPrp_enc, rPrp_dec, hnl, hnI, hnI2, w1, hs, h1, hdec, htl, hq]
      · simp [kp51, g51, s52, s18, s80, cFn_enc, cNmPrp_dec, rPrp_k, rPrp_enc, rPrp_dec, hnl, hnI, hnI2, w1, hs, h1, hdec, htl, hq]
  · cases hr
theorem call51 (xs : Array Value) (w : World) : (callFunc 51 xs).run Tryz.prog w = .ok (.enter 51 xs) w := by kernel_rfl
def s54 : List D → Option D := sp1 (cAgg rKnd) cStr fun x => some x.name
theorem ok54 : ∀ ds d, s54 ds = some d → PureC Tryz.prog 54 ds d := ok_sp1 fun x r hr => by
  cases hr
  refine pure_of_call (mkCx_ok del_nil 5 kp54 []) Tryz.func54 rfl rfl (Nat.le_of_ble_eq_true rfl) (by kernel_rfl) ?_
  rw [Tryz.results54]
  simp [kp54, rKnd_enc]
theorem call54 (xs : Array Value) (w : World) : (callFunc 54 xs).run Tryz.prog w = .ok (.enter 54 xs) w := by kernel_rfl
def sameKnd (s : ByteArray) (x : Knd) : Bool := x.name.toList == s.toList
def cNmKnd : Cod ByteArray := ⟨fun s => .fn 83 [] [(cFnP 54).enc (), cStrP.enc s], fun d => match d with | .fn 83 [] [a, b] => (match (cFnP 54).dec a, cStrP.dec b with | some _, some s => some s | _, _ => none) | _ => none, fun d x h => by
  split at h
  · split at h
    · rename_i h1 h2; cases h
      exact fnc_imp ⟨_, _, rfl, (cFnP 54).ed _ _ h1, _, _, rfl, cStrP.ed _ _ h2, rfl⟩
    · cases h
  · cases h⟩
theorem cNmKnd_enc (s : ByteArray) : cNmKnd.enc s = .fn 83 [] [.dat 1 [[.v (.func (.func 54) #[] #[])]] 0 0, .dat 1 [[DS s]] 0 0] := rfl
theorem cNmKnd_dec (s : ByteArray) : cNmKnd.dec (.fn 83 [] [.dat 1 [[.v (.func (.func 54) #[] #[])]] 0 0, .dat 1 [[DS s]] 0 0]) = some s := rfl
def s83 : List D → Option D := sp3 (cAgg rKnd) (cFnP 54) cStrP cBool fun x _ s => some (sameKnd s x)
theorem ok83 : ∀ ds d, s83 ds = some d → PureC Tryz.prog 83 ds d := ok_sp3 fun x u s r hr => by
  cases hr
  refine pure_of_call (mkCx_ok (del_cons del_nil call54 ok54) 10 kp83 []) Tryz.func83 rfl rfl (Nat.le_of_ble_eq_true rfl) (by kernel_rfl) ?_
  rw [Tryz.results83]
  unfold sameKnd
  simp [kp83, s54, cFnP_enc, cStrP_enc, rKnd_enc, rKnd_dec]
theorem call83 (xs : Array Value) (w : World) : (callFunc 83 xs).run Tryz.prog w = .ok (.enter 83 xs) w := by kernel_rfl
def s102 : List D → Option D := sp2 (cList rKnd) cNmKnd cInt fun l q => if l.length < 1000000 ∧ True then some (idxF (sameKnd q) l) else none
set_option maxHeartbeats 1000000 in
theorem ok102 : ∀ ds d, s102 ds = some d → PureC Tryz.prog 102 ds d := ok_sp2 fun l q r hr => by
  split at hr
  · rename_i hlm
    cases hr
    obtain ⟨hlm, hyp⟩ := hlm
    refine pure_of_call (mkCx_ok (del_cons del_nil call83 ok83) 19 kp102 []) Tryz.func102 rfl rfl (Nat.le_of_ble_eq_true rfl) (by kernel_rfl) ?_
    rw [Tryz.results102]
    simp [kp102, cNmKnd_enc, rKnd_k]
    rcases idxF_cases (sameKnd q) l with ⟨e1, _, hall⟩ | ⟨k, hk, e1, _, hbad, hgood⟩
    · rw [e1]
      (generalize hLoopQ : Cx.loop _ _ _ = rLoopQ; apply loop_then hLoopQ (fun k => ⟨[(0, .d (.sl 2 (l.map rKnd.enc))), (1, .d (.fn 83 [] [.dat 1 [[.v (.func (.func 54) #[] #[])]] 0 0, .dat 1 [[DS q]] 0 0])), (7, .d (DI l.length)), (8, .d (DI k))], [], [], []⟩) l.length rfl; rotate_left; (show _ < 281474976710656; omega); rfl; rotate_left; all_goals clear hLoopQ)
      · intro j hj
        have w1 := wrap_small ((j : Int) + 1) (by omega) (by omega)
        have hjl : (j : Int) < l.length := by omega
        have hn := hall j hj
        have hq : cStrP.dec (.dat 1 [[DS q]] 0 0) = some q := rfl
        simp [kp102, delOf, s83, cFnP_dec, cStrP_dec, rKnd_enc, rKnd_dec, hj, hjl, hn, hyp, w1]
      · simp [kp102]
    · rw [e1]
      (generalize hLoopQ : Cx.loop _ _ _ = rLoopQ; apply loop_then hLoopQ (fun k => ⟨[(0, .d (.sl 2 (l.map rKnd.enc))), (1, .d (.fn 83 [] [.dat 1 [[.v (.func (.func 54) #[] #[])]] 0 0, .dat 1 [[DS q]] 0 0])), (7, .d (DI l.length)), (8, .d (DI k))], [], [], []⟩) k rfl; rotate_left; (show _ < 281474976710656; omega); rfl; rotate_left; all_goals clear hLoopQ)
      · intro j hj'
        have hj : j < l.length := by omega
        have w1 := wrap_small ((j : Int) + 1) (by omega) (by omega)
        have hjl : (j : Int) < l.length := by omega
        have hn := hgood j hj hj'
        have hq : cStrP.dec (.dat 1 [[DS q]] 0 0) = some q := rfl
        simp [kp102, delOf, s83, cFnP_dec, cStrP_dec, rKnd_enc, rKnd_dec, hj, hjl, hn, hyp, w1]
      · have hkl : (k : Int) < l.length := by omega
        have hn := hbad
        have hq : cStrP.dec (.dat 1 [[DS q]] 0 0) = some q := rfl
        simp [kp102, delOf, s83, cFnP_dec, cStrP_dec, rKnd_enc, rKnd_dec, hk, hkl, hn, hyp]
  · cases hr
theorem call102 (xs : Array Value) (w : World) : (callFunc 102 xs).run Tryz.prog w = .ok (.enter 102 xs) w := by kernel_rfl
def s82 : List D → Option D := sp2 (cList rKnd) cNmKnd cBool fun l q => if l.length < 1000000 ∧ True then some (l.any (sameKnd q)) else none
theorem ok82 : ∀ ds d, s82 ds = some d → PureC Tryz.prog 82 ds d := ok_sp2 fun l q r hr => by
  split at hr
  · rename_i hlm
    cases hr
    obtain ⟨hlm, hyp⟩ := hlm
    refine pure_of_call (mkCx_ok (del_cons del_nil call102 ok102) 9 kp82 []) Tryz.func82 rfl rfl (Nat.le_of_ble_eq_true rfl) (by kernel_rfl) ?_
    rw [Tryz.results82]
    have hp := idxF_pos (sameKnd q) l
    rw [← hp]
    simp [kp82, s102, cNmKnd_enc, cNmKnd_dec, rKnd_k, rKnd_decL, hlm, hyp]
  · cases hr
theorem call82 (xs : Array Value) (w : World) : (callFunc 82 xs).run Tryz.prog w = .ok (.enter 82 xs) w := by kernel_rfl
def g53 : List (Nat × (List D → Option D)) := (54, s54) :: (82, s82) :: (18, s18) :: []
theorem dg53 : DelOk Tryz.prog (delOf g53) := del_cons (del_cons (del_cons del_nil call18 ok18) call82 ok82) call54 ok54
def lastEKnd (l : List Knd) : Int := namedE (l.getD (l.length - 1) default).name ((l.take (l.length - 1)).map (·.name))
def s53 : List D → Option D := sp2 (cList rKnd) (cFn 54) cInt fun l _ => if 0 < l.length ∧ l.length < 1000000 ∧ strOk (l.getD (l.length - 1) default).name then some (lastEKnd l) else none
set_option maxHeartbeats 1000000 in
theorem ok53 : ∀ ds d, s53 ds = some d → PureC Tryz.prog 53 ds d := ok_sp2 fun l u r hr => by
  split at hr
  · rename_i hc
    cases hr
    obtain ⟨h0, hlm, hs⟩ := hc
    unfold lastEKnd
    obtain ⟨n, hn⟩ : ∃ n, l.length = n + 1 := ⟨l.length - 1, by omega⟩
    rw [hn] at hs ⊢
    simp only [Nat.add_sub_cancel] at hs ⊢
    have hnl : n < l.length := by omega
    have hnI : (n : Int) < l.length := by omega
    have hnI2 : (n : Int) ≤ l.length := by omega
    rw [getD_at _ _ _ hnl] at hs ⊢
    have w1 : IntKind.i64.wrap ((l.length : Int) - 1) = n := by rw [wrap_small _ (by omega) (by omega)]; omega
    refine pure_of_call (mkCx_ok dg53 26 kp53 []) Tryz.func53 rfl rfl (Nat.le_of_ble_eq_true rfl) (by kernel_rfl) ?_
    rw [Tryz.results53]
    have hany : (l.take n).any (sameKnd l[n].name) = ((l.take n).map (·.name)).any (fun x => x.toList == l[n].name.toList) := by rw [List.any_map]; rfl
    have hdec : (cList rKnd).dec (.sl 2 ((l.map rKnd.enc).take n)) = some (l.take n) := by rw [← List.map_take]; exact rKnd_decL _
    have htl : min n l.length < 1000000 := by omega
    unfold namedE
    rw [← hany]
    generalize hq : (l.take n).any (sameKnd l[n].name) = q at *
    cases h1 : refName l[n].name
    · simp [kp53, g53, s54, s18, cFn_enc, rKnd_k, rKnd_enc, rKnd_dec, hnl, hnI, hnI2, w1, hs, h1]
    · cases q
      · simp [kp53, g53, s54, s18, s82, cFn_enc, cNmKnd_dec, rKnd_k, rKnd_enc, rKnd_dec, hnl, hnI, hnI2, w1, hs, h1, hdec, htl, hq]
      · simp [kp53, g53, s54, s18, s82, cFn_enc, cNmKnd_dec, rKnd_k, rKnd_enc, rKnd_dec, hnl, hnI, hnI2, w1, hs, h1, hdec, htl, hq]
  · cases hr
theorem call53 (xs : Array Value) (w : World) : (callFunc 53 xs).run Tryz.prog w = .ok (.enter 53 xs) w := by kernel_rfl
def outS (s : Spn) : Bool := outB 0 100000 [s.lo, s.hi]
def backS (s : Spn) : Bool := decide (s.hi < s.lo)
def s56 : List D → Option D := sp1 (cAgg rSpn) cBool fun s => some (outS s)
theorem two_dec (a b : Int) : (cList rInt).dec (.sl 1 [[.v (.int .i64 a)], [.v (.int .i64 b)]]) = some [a, b] := rfl
theorem one_dec (a : Int) : (cList rInt).dec (.sl 1 [[.v (.int .i64 a)]]) = some [a] := rfl
theorem ok56 : ∀ ds d, s56 ds = some d → PureC Tryz.prog 56 ds d := ok_sp1 fun s r hr => by
  cases hr
  refine pure_of_call (mkCx_ok (del_cons del_nil call50 ok50) 9 kp56 []) Tryz.func56 rfl rfl (Nat.le_of_ble_eq_true rfl) (by kernel_rfl) ?_
  rw [Tryz.results56]
  unfold outS
  simp [kp56, s50, rSpn_enc, two_dec]
theorem call56 (xs : Array Value) (w : World) : (callFunc 56 xs).run Tryz.prog w = .ok (.enter 56 xs) w := by kernel_rfl
def s57 : List D → Option D := sp1 (cAgg rSpn) cBool fun s => some (backS s)
theorem ok57 : ∀ ds d, s57 ds = some d → PureC Tryz.prog 57 ds d := ok_sp1 fun s r hr => by
  cases hr
  refine pure_of_call (mkCx_ok del_nil 8 kp57 []) Tryz.func57 rfl rfl (Nat.le_of_ble_eq_true rfl) (by kernel_rfl) ?_
  rw [Tryz.results57]
  unfold backS
  simp [kp57, rSpn_enc]
theorem call57 (xs : Array Value) (w : World) : (callFunc 57 xs).run Tryz.prog w = .ok (.enter 57 xs) w := by kernel_rfl
def s84a : List D → Option D := sp2 (cList rSpn) (cFn 56) cInt fun l q => if l.length < 1000000 ∧ True then some (idxF (outS) l) else none
set_option maxHeartbeats 1000000 in
theorem ok84a : ∀ ds d, s84a ds = some d → PureC Tryz.prog 84 ds d := ok_sp2 fun l q r hr => by
  split at hr
  · rename_i hlm
    cases hr
    obtain ⟨hlm, hyp⟩ := hlm
    refine pure_of_call (mkCx_ok (del_cons del_nil call56 ok56) 19 kp84 []) Tryz.func84 rfl rfl (Nat.le_of_ble_eq_true rfl) (by kernel_rfl) ?_
    rw [Tryz.results84]
    simp [kp84, cFn_enc, rSpn_k]
    rcases idxF_cases (outS) l with ⟨e1, _, hall⟩ | ⟨k, hk, e1, _, hbad, hgood⟩
    · rw [e1]
      (generalize hLoopQ : Cx.loop _ _ _ = rLoopQ; apply loop_then hLoopQ (fun k => ⟨[(0, .d (.sl 2 (l.map rSpn.enc))), (1, .d (.v (.func (.func 56) #[] #[]))), (7, .d (DI l.length)), (8, .d (DI k))], [], [], []⟩) l.length rfl; rotate_left; (show _ < 281474976710656; omega); rfl; rotate_left; all_goals clear hLoopQ)
      · intro j hj
        have w1 := wrap_small ((j : Int) + 1) (by omega) (by omega)
        have hjl : (j : Int) < l.length := by omega
        have hn := hall j hj
        skip
        simp [kp84, delOf, s56, rSpn_enc, rSpn_dec, hj, hjl, hn, hyp, w1]
      · simp [kp84]
    · rw [e1]
      (generalize hLoopQ : Cx.loop _ _ _ = rLoopQ; apply loop_then hLoopQ (fun k => ⟨[(0, .d (.sl 2 (l.map rSpn.enc))), (1, .d (.v (.func (.func 56) #[] #[]))), (7, .d (DI l.length)), (8, .d (DI k))], [], [], []⟩) k rfl; rotate_left; (show _ < 281474976710656; omega); rfl; rotate_left; all_goals clear hLoopQ)
      · intro j hj'
        have hj : j < l.length := by omega
        have w1 := wrap_small ((j : Int) + 1) (by omega) (by omega)
        have hjl : (j : Int) < l.length := by omega
        have hn := hgood j hj hj'
        skip
        simp [kp84, delOf, s56, rSpn_enc, rSpn_dec, hj, hjl, hn, hyp, w1]
      · have hkl : (k : Int) < l.length := by omega
        have hn := hbad
        skip
        simp [kp84, delOf, s56, rSpn_enc, rSpn_dec, hk, hkl, hn, hyp]
  · cases hr
theorem call84 (xs : Array Value) (w : World) : (callFunc 84 xs).run Tryz.prog w = .ok (.enter 84 xs) w := by kernel_rfl
def s55a : List D → Option D := sp2 (cList rSpn) (cFn 56) cBool fun l q => if l.length < 1000000 ∧ True then some (l.any (outS)) else none
theorem ok55a : ∀ ds d, s55a ds = some d → PureC Tryz.prog 55 ds d := ok_sp2 fun l q r hr => by
  split at hr
  · rename_i hlm
    cases hr
    obtain ⟨hlm, hyp⟩ := hlm
    refine pure_of_call (mkCx_ok (del_cons del_nil call84 ok84a) 9 kp55 []) Tryz.func55 rfl rfl (Nat.le_of_ble_eq_true rfl) (by kernel_rfl) ?_
    rw [Tryz.results55]
    have hp := idxF_pos (outS) l
    rw [← hp]
    simp [kp55, s84a, cFn_enc, cFn_dec, rSpn_k, rSpn_decL, hlm, hyp]
  · cases hr
def s84b : List D → Option D := sp2 (cList rSpn) (cFn 57) cInt fun l q => if l.length < 1000000 ∧ True then some (idxF (backS) l) else none
set_option maxHeartbeats 1000000 in
theorem ok84b : ∀ ds d, s84b ds = some d → PureC Tryz.prog 84 ds d := ok_sp2 fun l q r hr => by
  split at hr
  · rename_i hlm
    cases hr
    obtain ⟨hlm, hyp⟩ := hlm
    refine pure_of_call (mkCx_ok (del_cons del_nil call57 ok57) 19 kp84 []) Tryz.func84 rfl rfl (Nat.le_of_ble_eq_true rfl) (by kernel_rfl) ?_
    rw [Tryz.results84]
    simp [kp84, cFn_enc, rSpn_k]
    rcases idxF_cases (backS) l with ⟨e1, _, hall⟩ | ⟨k, hk, e1, _, hbad, hgood⟩
    · rw [e1]
      (generalize hLoopQ : Cx.loop _ _ _ = rLoopQ; apply loop_then hLoopQ (fun k => ⟨[(0, .d (.sl 2 (l.map rSpn.enc))), (1, .d (.v (.func (.func 57) #[] #[]))), (7, .d (DI l.length)), (8, .d (DI k))], [], [], []⟩) l.length rfl; rotate_left; (show _ < 281474976710656; omega); rfl; rotate_left; all_goals clear hLoopQ)
      · intro j hj
        have w1 := wrap_small ((j : Int) + 1) (by omega) (by omega)
        have hjl : (j : Int) < l.length := by omega
        have hn := hall j hj
        skip
        simp [kp84, delOf, s57, rSpn_enc, rSpn_dec, hj, hjl, hn, hyp, w1]
      · simp [kp84]
    · rw [e1]
      (generalize hLoopQ : Cx.loop _ _ _ = rLoopQ; apply loop_then hLoopQ (fun k => ⟨[(0, .d (.sl 2 (l.map rSpn.enc))), (1, .d (.v (.func (.func 57) #[] #[]))), (7, .d (DI l.length)), (8, .d (DI k))], [], [], []⟩) k rfl; rotate_left; (show _ < 281474976710656; omega); rfl; rotate_left; all_goals clear hLoopQ)
      · intro j hj'
        have hj : j < l.length := by omega
        have w1 := wrap_small ((j : Int) + 1) (by omega) (by omega)
        have hjl : (j : Int) < l.length := by omega
        have hn := hgood j hj hj'
        skip
        simp [kp84, delOf, s57, rSpn_enc, rSpn_dec, hj, hjl, hn, hyp, w1]
      · have hkl : (k : Int) < l.length := by omega
        have hn := hbad
        skip
        simp [kp84, delOf, s57, rSpn_enc, rSpn_dec, hk, hkl, hn, hyp]
  · cases hr
def s55b : List D → Option D := sp2 (cList rSpn) (cFn 57) cBool fun l q => if l.length < 1000000 ∧ True then some (l.any (backS)) else none
theorem ok55b : ∀ ds d, s55b ds = some d → PureC Tryz.prog 55 ds d := ok_sp2 fun l q r hr => by
  split at hr
  · rename_i hlm
    cases hr
    obtain ⟨hlm, hyp⟩ := hlm
    refine pure_of_call (mkCx_ok (del_cons del_nil call84 ok84b) 9 kp55 []) Tryz.func55 rfl rfl (Nat.le_of_ble_eq_true rfl) (by kernel_rfl) ?_
    rw [Tryz.results55]
    have hp := idxF_pos (backS) l
    rw [← hp]
    simp [kp55, s84b, cFn_enc, cFn_dec, rSpn_k, rSpn_decL, hlm, hyp]
  · cases hr
theorem call55 (xs : Array Value) (w : World) : (callFunc 55 xs).run Tryz.prog w = .ok (.enter 55 xs) w := by kernel_rfl
theorem outS_iff (s : Spn) : outS s = (vSpan s == 7) := by
  unfold outS outB vSpan spanE
  cases h1 : inR s.lo 0 100000 <;> cases h2 : inR s.hi 0 100000 <;> by_cases h3 : s.hi < s.lo <;> simp [h1, h2, h3]
theorem backS_iff {s : Spn} (h : outS s = false) : backS s = (vSpan s == 2) := by
  unfold outS outB at h
  unfold backS vSpan spanE
  simp only [List.any_cons, List.any_nil, Bool.or_false, Bool.or_eq_false_iff, Bool.not_eq_false'] at h
  rw [h.1, h.2]
  by_cases h3 : s.hi < s.lo <;> simp [h3]
theorem ranges_out {l : List Spn} {n : Int} (h : (l.length : Int) = n) : rangesE l n = if l.any outS = true then 7 else if l.any backS = true then 2 else 0 := by
  unfold rangesE
  rw [if_neg (by simpa using h)]
  have e1 : l.any (fun s => vSpan s == 7) = l.any outS := by
    congr 1; funext s; rw [outS_iff]
  rw [e1]
  by_cases h1 : l.any outS = true
  · rw [if_pos h1, if_pos h1]
  · rw [if_neg h1, if_neg h1]
    have e2 : l.any (fun s => vSpan s == 2) = l.any backS := by
      have key : ∀ l : List Spn, ¬ l.any outS = true → l.any (fun s => vSpan s == 2) = l.any backS := by
        intro l
        induction l with
        | nil => intro _; rfl
        | cons a t ih =>
          intro h
          simp only [List.any_cons, Bool.or_eq_true, not_or] at h ⊢
          rw [ih h.2, backS_iff (by simpa using h.1)]
      exact key l h1
    rw [e2]
def namesOk (x : Tbl) : Prop := (∀ p ∈ x.props, strOk p.name) ∧ ∀ k ∈ x.kinds, strOk k.name
instance (x : Tbl) : Decidable (namesOk x) := inferInstanceAs (Decidable ((∀ p ∈ x.props, _) ∧ ∀ k ∈ x.kinds, _))
def g16 : List (Nat × (List D → Option D)) := (50, s50) :: (51, s51) :: (53, s53) :: (55, spOr s55a s55b) :: []
theorem dg16 : DelOk Tryz.prog (delOf g16) := del_cons (del_cons (del_cons (del_cons del_nil call55 (ok_or ok55a ok55b)) call53 ok53) call51 ok51) call50 ok50
theorem lastP_at {x : Tbl} {j : Nat} (h : j < x.props.length) : (x.props.take (j + 1)).length = j + 1 ∧ (x.props.take (j + 1)).getD j default = x.props[j] ∧ lastEPrp (x.props.take (j + 1)) = namedE x.props[j].name (nmP x j) := by
  have h1 : (x.props.take (j + 1)).length = j + 1 := by rw [List.length_take]; omega
  have h2 : (x.props.take (j + 1)).getD j default = x.props[j] := by rw [getD_at _ _ _ (by omega)]; simp
  refine ⟨h1, h2, ?_⟩
  unfold lastEPrp nmP
  rw [h1, Nat.add_sub_cancel, h2, List.take_take, Nat.min_eq_left (by omega)]
theorem lastK_at {x : Tbl} {j : Nat} (h : j < x.kinds.length) : (x.kinds.take (j + 1)).length = j + 1 ∧ (x.kinds.take (j + 1)).getD j default = x.kinds[j] ∧ lastEKnd (x.kinds.take (j + 1)) = namedE x.kinds[j].name (nmK x j) := by
  have h1 : (x.kinds.take (j + 1)).length = j + 1 := by rw [List.length_take]; omega
  have h2 : (x.kinds.take (j + 1)).getD j default = x.kinds[j] := by rw [getD_at _ _ _ (by omega)]; simp
  refine ⟨h1, h2, ?_⟩
  unfold lastEKnd nmK
  rw [h1, Nat.add_sub_cancel, h2, List.take_take, Nat.min_eq_left (by omega)]
theorem out1 (lo hi a : Int) : outB lo hi [a] = !inR a lo hi := by simp [outB]
theorem h55a (l : List Spn) (h : l.length < 1000000) : spOr s55a s55b [.sl 2 (l.map rSpn.enc), .v (.func (.func 56) #[] #[])] = some (DB (l.any outS)) := by
  have e : s55a [.sl 2 (l.map rSpn.enc), .v (.func (.func 56) #[] #[])] = some (DB (l.any outS)) := by
    simp only [s55a, sp2, rSpn_decL, cFn_dec]
    rw [if_pos trivial]
    simp only
    rw [if_pos ⟨h, trivial⟩]; rfl
  unfold spOr
  rw [e]
theorem h55b (l : List Spn) (h : l.length < 1000000) : spOr s55a s55b [.sl 2 (l.map rSpn.enc), .v (.func (.func 57) #[] #[])] = some (DB (l.any backS)) := by
  have e0 : s55a [.sl 2 (l.map rSpn.enc), .v (.func (.func 57) #[] #[])] = none := by
    simp only [s55a, sp2, rSpn_decL, cFn_dec]
    rw [if_neg (by decide)]
  have e : s55b [.sl 2 (l.map rSpn.enc), .v (.func (.func 57) #[] #[])] = some (DB (l.any backS)) := by
    simp only [s55b, sp2, rSpn_decL, cFn_dec]
    rw [if_pos trivial]
    simp only
    rw [if_pos ⟨h, trivial⟩]; rfl
  unfold spOr
  rw [e0]
  exact e
def s16 : List D → Option D := sp1 (cAgg rTbl) (cTup3 cInt cInt cInt) fun x => if namesOk x then some (chk x) else none
set_option maxHeartbeats 8000000 in
theorem ok16 : ∀ ds d, s16 ds = some d → PureC Tryz.prog 16 ds d := ok_sp1 fun x r hr => by
  split at hr
  · rename_i hnm
    cases hr
    refine pure_of_call (mkCx_ok dg16 90 kp16 []) Tryz.func16 rfl rfl (Nat.le_of_ble_eq_true rfl) (by kernel_rfl) ?_
    rw [Tryz.results16]
    unfold chk
    cases h1 : inR x.props.length 1 5
    · simp [kp16, rTbl_enc, rPrp_k, rKnd_k, g16, s50, one_dec, out1, h1]
    cases h2 : inR x.kinds.length 1 8
    · simp [kp16, rTbl_enc, rPrp_k, rKnd_k, g16, s50, one_dec, out1, h1, h2]
    cases h3 : inR x.purity 1 1000
    · simp [kp16, rTbl_enc, rPrp_k, rKnd_k, g16, s50, one_dec, out1, h1, h2, h3]
    have hp := inR_iff.1 h1
    have hk := inR_iff.1 h2
    have h51 : ∀ j (hj : j < x.props.length), s51 [.sl 2 ((x.props.map rPrp.enc).take (j + 1)), .v (.func (.func 52) #[] #[])] = some (DI (namedE x.props[j].name (nmP x j))) := fun j hj => by
      obtain ⟨e1, e2, e3⟩ := lastP_at hj
      simp only [s51, sp2, cFn_dec]
      rw [← List.map_take, rPrp_decL, if_pos trivial]
      simp only
      rw [e1, Nat.add_sub_cancel, e2, if_pos ⟨by omega, by omega, hnm.1 _ (List.getElem_mem hj)⟩, e3]; rfl
    have h53 : ∀ j (hj : j < x.kinds.length), s53 [.sl 2 ((x.kinds.map rKnd.enc).take (j + 1)), .v (.func (.func 54) #[] #[])] = some (DI (namedE x.kinds[j].name (nmK x j))) := fun j hj => by
      obtain ⟨e1, e2, e3⟩ := lastK_at hj
      simp only [s53, sp2, cFn_dec]
      rw [← List.map_take, rKnd_decL, if_pos trivial]
      simp only
      rw [e1, Nat.add_sub_cancel, e2, if_pos ⟨by omega, by omega, hnm.2 _ (List.getElem_mem hj)⟩, e3]; rfl
    rcases findI_cases (prpE x) x.props with ⟨e1, hall⟩ | ⟨k, hk1, e1, hbad, hgood⟩
    · rw [e1]
      rcases findI_cases (kndE x) x.kinds with ⟨e2, hall2⟩ | ⟨k, hk2, e2, hbad, hgood⟩
      · rw [e2]
        simp [kp16, rTbl_enc, rPrp_k, rKnd_k, g16, s50, one_dec, out1, h1, h2, h3]
        (generalize hLoopQ : Cx.loop _ _ _ = rLoopQ; apply loop_then hLoopQ (fun k => ⟨[(1, .loc 1 0), (28, .d (.sl 2 (x.props.map rPrp.enc))), (29, .d (DI x.props.length)), (30, .d (DI k))], [(1, [.d (.sl 2 (x.props.map rPrp.enc)), .d (.sl 2 (x.kinds.map rKnd.enc)), .d (DI x.purity)])], [], []⟩) x.props.length rfl; rotate_left; (show _ < 281474976710656; omega); rfl; rotate_left; all_goals clear hLoopQ)
        · intro j hj0
          have hj : j < x.props.length := by omega
          have w1 := wrap_small ((j : Int) + 1) (by omega) (by omega)
          have hjl : (j : Int) < x.props.length := by omega
          have hjl2 : (j : Int) + 1 ≤ x.props.length := by omega
          have hj00 : (0 : Int) ≤ (j : Int) + 1 := by omega
          obtain ⟨q1, q2⟩ := prpE_zero (hall j hj)
          have h5 := h51 j hj
          rw [q1] at h5
          simp [kp16, g16, s50, one_dec, out1, h5, rPrp_enc, hj, hjl, hjl2, hj00, q2, w1]
        · simp [kp16, rKnd_k]
          (generalize hLoopQ : Cx.loop _ _ _ = rLoopQ; apply loop_then hLoopQ (fun k => ⟨[(1, .loc 1 0), (52, .d (.sl 2 (x.kinds.map rKnd.enc))), (53, .d (DI x.kinds.length)), (54, .d (DI k))], [(1, [.d (.sl 2 (x.props.map rPrp.enc)), .d (.sl 2 (x.kinds.map rKnd.enc)), .d (DI x.purity)])], [], []⟩) x.kinds.length rfl; rotate_left; (show _ < 281474976710656; omega); rfl; rotate_left; all_goals clear hLoopQ)
          · intro j hj0
            have hj : j < x.kinds.length := by omega
            have w1 := wrap_small ((j : Int) + 1) (by omega) (by omega)
            have hjl : (j : Int) < x.kinds.length := by omega
            have hjl2 : (j : Int) + 1 ≤ x.kinds.length := by omega
            have hj00 : (0 : Int) ≤ (j : Int) + 1 := by omega
            obtain ⟨q1, q2⟩ := kndE_zero (hall2 j hj)
            have h5 := h53 j hj
            rw [q1] at h5
            obtain ⟨q3, q4⟩ := ranges_zero q2
            have q3' : ((x.kinds[j].props.length : Int) != (x.props.length : Int)) = false := by simp [q3]
            rw [ranges_out q3] at q2
            have qa : x.kinds[j].props.any outS = false := by
              cases q : x.kinds[j].props.any outS with
              | false => rfl
              | true => rw [q] at q2; simp at q2
            have qb : x.kinds[j].props.any backS = false := by
              rw [qa] at q2
              cases q : x.kinds[j].props.any backS with
              | false => rfl
              | true => rw [q] at q2; simp at q2
            have hl6 : x.kinds[j].props.length < 1000000 := by omega
            simp only [List.any_eq_false] at qa qb
            have qa' : x.kinds[j].props.any outS = false := by rw [List.any_eq_false]; exact qa
            have qb' : x.kinds[j].props.any backS = false := by rw [List.any_eq_false]; exact qb
            have h6 : spOr s55a s55b [.sl 2 (x.kinds[j].props.map rSpn.enc), .v (.func (.func 56) #[] #[])] = some (DB false) := by
              rw [← qa']; exact h55a _ hl6
            have h7 : spOr s55a s55b [.sl 2 (x.kinds[j].props.map rSpn.enc), .v (.func (.func 57) #[] #[])] = some (DB false) := by
              rw [← qb']; exact h55b _ hl6
            generalize spOr s55a s55b = S55 at *
            simp [kp16, g16, h5, h6, h7, rKnd_enc, rSpn_k, hj, hjl, hjl2, hj00, q3', w1]
          · simp [kp16]
      · rw [e2]
        simp [kp16, rTbl_enc, rPrp_k, rKnd_k, g16, s50, one_dec, out1, h1, h2, h3, hbad]
        (generalize hLoopQ : Cx.loop _ _ _ = rLoopQ; apply loop_then hLoopQ (fun k => ⟨[(1, .loc 1 0), (28, .d (.sl 2 (x.props.map rPrp.enc))), (29, .d (DI x.props.length)), (30, .d (DI k))], [(1, [.d (.sl 2 (x.props.map rPrp.enc)), .d (.sl 2 (x.kinds.map rKnd.enc)), .d (DI x.purity)])], [], []⟩) x.props.length rfl; rotate_left; (show _ < 281474976710656; omega); rfl; rotate_left; all_goals clear hLoopQ)
        · intro j hj0
          have hj : j < x.props.length := by omega
          have w1 := wrap_small ((j : Int) + 1) (by omega) (by omega)
          have hjl : (j : Int) < x.props.length := by omega
          have hjl2 : (j : Int) + 1 ≤ x.props.length := by omega
          have hj00 : (0 : Int) ≤ (j : Int) + 1 := by omega
          obtain ⟨q1, q2⟩ := prpE_zero (hall j hj)
          have h5 := h51 j hj
          rw [q1] at h5
          simp [kp16, g16, s50, one_dec, out1, h5, rPrp_enc, hj, hjl, hjl2, hj00, q2, w1]
        · simp [kp16, rKnd_k]
          (generalize hLoopQ : Cx.loop _ _ _ = rLoopQ; apply loop_then hLoopQ (fun k => ⟨[(1, .loc 1 0), (52, .d (.sl 2 (x.kinds.map rKnd.enc))), (53, .d (DI x.kinds.length)), (54, .d (DI k))], [(1, [.d (.sl 2 (x.props.map rPrp.enc)), .d (.sl 2 (x.kinds.map rKnd.enc)), .d (DI x.purity)])], [], []⟩) k rfl; rotate_left; (show _ < 281474976710656; omega); rfl; rotate_left; all_goals clear hLoopQ)
          · intro j hj0
            have hj : j < x.kinds.length := by omega
            have w1 := wrap_small ((j : Int) + 1) (by omega) (by omega)
            have hjl : (j : Int) < x.kinds.length := by omega
            have hjl2 : (j : Int) + 1 ≤ x.kinds.length := by omega
            have hj00 : (0 : Int) ≤ (j : Int) + 1 := by omega
            obtain ⟨q1, q2⟩ := kndE_zero (hgood j hj hj0)
            have h5 := h53 j hj
            rw [q1] at h5
            obtain ⟨q3, q4⟩ := ranges_zero q2
            have q3' : ((x.kinds[j].props.length : Int) != (x.props.length : Int)) = false := by simp [q3]
            rw [ranges_out q3] at q2
            have qa : x.kinds[j].props.any outS = false := by
              cases q : x.kinds[j].props.any outS with
              | false => rfl
              | true => rw [q] at q2; simp at q2
            have qb : x.kinds[j].props.any backS = false := by
              rw [qa] at q2
              cases q : x.kinds[j].props.any backS with
              | false => rfl
              | true => rw [q] at q2; simp at q2
            have hl6 : x.kinds[j].props.length < 1000000 := by omega
            simp only [List.any_eq_false] at qa qb
            have qa' : x.kinds[j].props.any outS = false := by rw [List.any_eq_false]; exact qa
            have qb' : x.kinds[j].props.any backS = false := by rw [List.any_eq_false]; exact qb
            have h6 : spOr s55a s55b [.sl 2 (x.kinds[j].props.map rSpn.enc), .v (.func (.func 56) #[] #[])] = some (DB false) := by
              rw [← qa']; exact h55a _ hl6
            have h7 : spOr s55a s55b [.sl 2 (x.kinds[j].props.map rSpn.enc), .v (.func (.func 57) #[] #[])] = some (DB false) := by
              rw [← qb']; exact h55b _ hl6
            generalize spOr s55a s55b = S55 at *
            simp [kp16, g16, h5, h6, h7, rKnd_enc, rSpn_k, hj, hjl, hjl2, hj00, q3', w1]
          · have hkl : (k : Int) < x.kinds.length := by omega
            have hkl2 : (k : Int) + 1 ≤ x.kinds.length := by omega
            have hk00 : (0 : Int) ≤ (k : Int) + 1 := by omega
            have w1 := wrap_small ((k : Int) + 1) (by omega) (by omega)
            have h5 := h53 k hk2
            rcases kndE_bad hbad with ⟨q1, q2, q3⟩ | ⟨q1, q2⟩
            · rw [q2]
              rw [q1] at h5
              by_cases hlen : (x.kinds[k].props.length : Int) = x.props.length
              · have q3' : ((x.kinds[k].props.length : Int) != (x.props.length : Int)) = false := by simp [hlen]
                have hl6 : x.kinds[k].props.length < 1000000 := by omega
                rw [ranges_out hlen] at q3 ⊢
                have h6 := h55a x.kinds[k].props hl6
                have h7 := h55b x.kinds[k].props hl6
                generalize spOr s55a s55b = S55 at *
                generalize x.kinds[k].props.any outS = a at *
                generalize x.kinds[k].props.any backS = b at *
                cases a
                · cases b
                  · simp at q3
                  · simp [kp16, g16, h5, h6, h7, rKnd_enc, rSpn_k, hk2, hkl, hkl2, hk00, q3', w1]
                · simp [kp16, g16, h5, h6, h7, rKnd_enc, rSpn_k, hk2, hkl, hkl2, hk00, q3', w1]
              · have q3' : ((x.kinds[k].props.length : Int) != (x.props.length : Int)) = true := bne_iff_ne.2 hlen
                have e3 : rangesE x.kinds[k].props x.props.length = 3 := by unfold rangesE; rw [if_pos hlen]
                rw [e3]
                simp [kp16, g16, h5, rKnd_enc, rSpn_k, hk2, hkl, hkl2, hk00, q3', w1]
            · rw [q2]
              have q3 := nePos q1
              generalize namedE x.kinds[k].name (nmK x k) = e at *
              simp [kp16, g16, h5, rKnd_enc, hk2, hkl, hkl2, hk00, q3, w1]
    · rw [e1]
      simp [kp16, rTbl_enc, rPrp_k, rKnd_k, g16, s50, one_dec, out1, h1, h2, h3, hbad]
      (generalize hLoopQ : Cx.loop _ _ _ = rLoopQ; apply loop_then hLoopQ (fun k => ⟨[(1, .loc 1 0), (28, .d (.sl 2 (x.props.map rPrp.enc))), (29, .d (DI x.props.length)), (30, .d (DI k))], [(1, [.d (.sl 2 (x.props.map rPrp.enc)), .d (.sl 2 (x.kinds.map rKnd.enc)), .d (DI x.purity)])], [], []⟩) k rfl; rotate_left; (show _ < 281474976710656; omega); rfl; rotate_left; all_goals clear hLoopQ)
      · intro j hj0
        have hj : j < x.props.length := by omega
        have w1 := wrap_small ((j : Int) + 1) (by omega) (by omega)
        have hjl : (j : Int) < x.props.length := by omega
        have hjl2 : (j : Int) + 1 ≤ x.props.length := by omega
        have hj00 : (0 : Int) ≤ (j : Int) + 1 := by omega
        obtain ⟨q1, q2⟩ := prpE_zero (hgood j hj hj0)
        have h5 := h51 j hj
        rw [q1] at h5
        simp [kp16, g16, s50, one_dec, out1, h5, rPrp_enc, hj, hjl, hjl2, hj00, q2, w1]
      · have hkl : (k : Int) < x.props.length := by omega
        have hkl2 : (k : Int) + 1 ≤ x.props.length := by omega
        have hk00 : (0 : Int) ≤ (k : Int) + 1 := by omega
        have w1 := wrap_small ((k : Int) + 1) (by omega) (by omega)
        have h5 := h51 k hk1
        rcases prpE_bad hbad with ⟨q1, q2, q3⟩ | ⟨q1, q2⟩
        · rw [q3]
          rw [q1] at h5
          simp [kp16, g16, s50, one_dec, out1, h5, rPrp_enc, hk1, hkl, hkl2, hk00, q2, w1]
        · rw [q2]
          have q3 := nePos q1
          generalize namedE x.props[k].name (nmP x k) = e at *
          simp [kp16, g16, h5, rPrp_enc, hk1, hkl, hkl2, hk00, q3, w1]
  · cases hr
theorem call16 (xs : Array Value) (w : World) : (callFunc 16 xs).run Tryz.prog w = .ok (.enter 16 xs) w := by kernel_rfl
end Go.Proofs.YtkldmnladkcfeaaGreatDoor
