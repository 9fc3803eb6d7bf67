/-
  The law WaxSets: what must be in a sample, and what may. Conditions: the names are strings; what is drawn is of its type.
-/
import Derived.Test.YtkldmnladkcfeaaGreatDoorZLawC
namespace Go.Proofs.YtkldmnladkcfeaaGreatDoor
open Go.RowKit
set_option linter.unusedSimpArgs false
set_option linter.unusedVariables false
def kp10 (r : Nat) : List (Nat × Option Nat) := match r with
  | 0 => [(2, none), (3, none)]
  | 1 => [(2, none), (3, none), (18, none)]
  | 2 => [(7, none)]
  | 3 => [(4, none)]
  | 4 => [(2, none), (8, none), (9, none), (10, none), (11, none)]
  | 5 => [(8, none), (9, none), (10, none), (12, none), (13, none), (14, none)]
  | 6 => [(8, none), (9, none), (10, none), (12, none), (13, none), (62, none)]
  | 7 => [(4, none)]
  | 8 => [(8, none), (9, none), (10, none), (12, none), (13, none), (15, none)]
  | 9 => [(8, none), (9, none), (10, none), (12, none), (13, none), (15, none), (66, none)]
  | 10 => [(8, none), (9, none), (10, none), (12, none), (13, none), (15, none)]
  | 11 => [(8, none), (9, none), (10, none), (12, none), (13, none), (15, none), (95, none)]
  | 12 => [(4, none)]
  | 13 => [(4, none)]
  | _ => []
def tb10 : List (Nat × (List D → Option D)) := (39, s39) :: (28, s28) :: (20, s20) :: (40, s40) :: (43, s43) :: []
theorem dtb10 : DelOk Tryz.prog (delOf tb10) := (del_cons (del_cons (del_cons (del_cons (del_cons del_nil call43 ok43) call40 ok40) call20 ok20) call28 ok28) call39 ok39)
def s10 : List D → Option D := sp2 (cAgg rTbl) (cAgg rMlt) cBool fun x m => if namesOk x ∧ mltOk m then some true else none
set_option maxHeartbeats 8000000 in
theorem ok10 : ∀ ds d, s10 ds = some d → PureC Tryz.prog 10 ds d := ok_sp2 fun x m r hr => by
  split at hr
  · rename_i hc
    cases hr
    obtain ⟨hn, hm⟩ := hc
    refine pure_of_call (mkCx_ok dtb10 97 kp10 []) Tryz.func10 rfl rfl (Nat.le_of_ble_eq_true rfl) (by kernel_rfl) ?_
    rw [Tryz.results10]
    by_cases hT : okT x
    · have hv : validB x = true := by unfold validB; exact decide_eq_true hT
      have f := fine_of hT
      have hTm : okT x ∧ mltOk m := ⟨hT, hm⟩
      obtain ⟨hR, mm⟩ := mlt_ok hT hm
      generalize hA : mltA x m = A at *
      generalize hB : mltB x m = B at *
      generalize hN : mltN x m = n at *
      generalize hL : mltK x m x.props.length = L at *
      have n2 := mm.n2
      obtain ⟨must, may, e1, e2, e3, e4⟩ := mix_within hR mm
      have hl := withR_len x L
      rw [e1] at hl
      obtain ⟨hl1, hl2⟩ := hl
      simp only at hl1 hl2
      by_cases hn1 : n < 1000
      · have e3' := e3 hn1
        have hn2 : (n == 1000) = false := by rw [beq_eq_false_iff_ne]; omega
        simp [kp10, tb10, s39, s28, s40, s43, s20, with_eq, rTbl_enc, rTbl_dec, rMlt_enc, rMlt_dec, rInt_decL, rInt_k, hv, hn, hTm, hA, hB, hN, hL, e1, e2, hl1, hl2, hn1, e3']
        (generalize hLoopQ : Cx.loop _ _ _ = rLoopQ; apply loop_then hLoopQ (fun k => ⟨[(8, .d (DI (A : Int))), (9, .d (DI (B : Int))), (10, .d (DI n)), (12, .d (.sl 1 (must.map rInt.enc))), (13, .d (.sl 1 (may.map rInt.enc))), (15, .d (DI k))], [], [], []⟩) must.length (by first | (simp; done) | (simp; rfl) | (simp; simp [*])); rotate_left; (show _ < 281474976710656; omega); rfl; rotate_left; all_goals clear hLoopQ)
        · intro j hj
          have y1 := wrap_small ((j : Int) + 1) (by omega) (by omega)
          have hjl : (j : Int) < must.length := by omega
          obtain ⟨g1, g2⟩ := e4 must[j] (List.getElem_mem hj)
          by_cases c1 : must[j] = A
          · have c1' : (must[j] != (A : Int)) = false := by simpa using c1
            simp [kp10, tb10, s43, rInt_decL, rInt_enc, rInt_k, hj, hjl, y1, c1', g2, hl2]
          · have c1' : (must[j] != (A : Int)) = true := by simpa using c1
            have g3 := g1.resolve_left c1
            have c2' : (must[j] != (B : Int)) = false := by simpa using g3.2
            simp [kp10, tb10, s43, rInt_decL, rInt_enc, rInt_k, hj, hjl, y1, c1', c2', hn2, g2, hl2]
        · simp [kp10, tb10, s20, rInt_k]
      · have hn2 : (n == 1000) = true := by rw [beq_iff_eq]; omega
        simp [kp10, tb10, s39, s28, s40, s43, s20, with_eq, rTbl_enc, rTbl_dec, rMlt_enc, rMlt_dec, rInt_decL, rInt_k, hv, hn, hTm, hA, hB, hN, hL, e1, e2, hl1, hl2, hn1]
        (generalize hLoopQ : Cx.loop _ _ _ = rLoopQ; apply loop_then hLoopQ (fun k => ⟨[(8, .d (DI (A : Int))), (9, .d (DI (B : Int))), (10, .d (DI n)), (12, .d (.sl 1 (must.map rInt.enc))), (13, .d (.sl 1 (may.map rInt.enc))), (15, .d (DI k))], [], [], []⟩) must.length (by first | (simp; done) | (simp; rfl) | (simp; simp [*])); rotate_left; (show _ < 281474976710656; omega); rfl; rotate_left; all_goals clear hLoopQ)
        · intro j hj
          have y1 := wrap_small ((j : Int) + 1) (by omega) (by omega)
          have hjl : (j : Int) < must.length := by omega
          obtain ⟨g1, g2⟩ := e4 must[j] (List.getElem_mem hj)
          by_cases c1 : must[j] = A
          · have c1' : (must[j] != (A : Int)) = false := by simpa using c1
            simp [kp10, tb10, s43, rInt_decL, rInt_enc, rInt_k, hj, hjl, y1, c1', g2, hl2]
          · have c1' : (must[j] != (A : Int)) = true := by simpa using c1
            have g3 := g1.resolve_left c1
            have c2' : (must[j] != (B : Int)) = false := by simpa using g3.2
            exact absurd g3.1 hn1
        · simp [kp10, tb10, s20, rInt_k]
    · have hv : validB x = false := by unfold validB; exact decide_eq_false hT
      obtain ⟨hr1, hr2⟩ := not_valid hT []
      have hS : withR x [] = ([], [], (chk x).2.2) := by unfold withR; rw [hr1, if_pos hr2]
      have hr3 := nePos hr2
      simp [kp10, tb10, s39, s28, s20, with_eq, rTbl_enc, rTbl_dec, rMlt_enc, ints0, hv, hn, hS, hr3]
  · cases hr
end Go.Proofs.YtkldmnladkcfeaaGreatDoor
