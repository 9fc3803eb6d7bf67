/-
  The laws of the best order (ColourLeast, ColourTurned): they return true. Conditions: none.
-/
import Derived.Test.YtpkjmnfgpbliaaaZLeast
import Derived.Test.YtpkjmnfgpbliaaaZLaw7
namespace Go.Proofs.Ytpkjmnfgpbliaaa
open Go.RowKit
set_option linter.unusedSimpArgs false
set_option linter.unusedVariables false

theorem valid_openL (s : Shp) (l : List Bat) : openErr s l [0] = validE s l := by
  rw [openErr_eq]
  unfold validE colE
  by_cases h : (chk s).2.2 = 0
  · have hn := (good_of_chk h).n0
    have ho : outB 0 ((s.cols.length : Int) - 1) [0] = false := (outB_one _ _ _).2 ⟨by omega, by omega⟩
    simp [h, ho]
  · simp [h]
theorem rK_decL8 (l : List Int) : (cList (rK .u8)).dec (.sl 1 (l.map (rK .u8).enc)) = some l := rK_decL .u8 l
theorem call41' (xs : Array Value) (w : World) : (callFunc 41 xs).run Try.prog w = .ok (.enter 41 xs) w := by kernel_rfl
def pe : List (Nat × (List D → Option D)) := (21, sAwake) :: (36, s36) :: (28, sBest) :: (22, sLost) :: (41, s41) :: o2
theorem depe : DelOk Try.prog (delOf pe) := del_cons (del_cons (del_cons (del_cons (del_cons deo2 call41' ok41) call17' okLost) call28' okBest) call36' ok36) call21c ok21
def kp8 (r : Nat) : List (Nat × Option Nat) := match r with
  | 0 => [(1, none), (2, none), (3, none)]
  | 1 => [(1, none), (2, none), (3, none), (7, none)]
  | 2 => [(1, none), (2, none), (3, none), (7, none), (23, none)]
  | 3 => [(7, none), (10, none)]
  | 4 => [(6, none)]
  | 5 => [(1, none), (2, none), (3, none), (11, none)]
  | 6 => [(1, none), (2, none), (3, none), (11, none), (12, none), (13, none), (14, none)]
  | 7 => [(1, none), (3, none), (11, none), (12, none), (13, none), (14, none), (15, none), (16, none)]
  | 8 => [(1, none), (3, none), (11, none), (12, none), (13, none), (14, none), (15, none), (16, none), (67, none)]
  | 9 => [(6, none)]
  | 10 => [(1, none), (3, none), (11, none), (12, none), (13, none), (14, none), (15, none), (16, none), (69, none)]
  | 11 => [(6, none)]
  | 12 => [(1, none), (3, none), (11, none), (12, none), (13, none), (15, none), (16, none), (17, none), (18, none)]
  | 13 => [(6, none)]
  | _ => []
def kp14 (r : Nat) : List (Nat × Option Nat) := match r with
  | 0 => [(1, none), (2, none), (3, none)]
  | 1 => [(1, none), (2, none), (3, none), (7, none)]
  | 2 => [(1, none), (2, none), (3, none), (7, none), (23, none)]
  | 3 => [(7, none), (10, none)]
  | 4 => [(6, none)]
  | 5 => [(1, none), (2, none), (3, none), (11, none)]
  | 6 => [(1, none), (3, none), (11, none), (12, none)]
  | 7 => [(1, none), (3, none), (11, none), (12, none), (14, none), (15, none)]
  | 8 => [(1, none), (14, none), (15, none), (16, none), (17, none), (18, none)]
  | 9 => [(6, none)]
  | _ => []
def s8 : List D → Option D := sp3 (cAgg rShp) (cList rBat) (cList (rK .u8)) cBool fun s l x => if namesOk s ∧ byteOk x then some true else none
set_option maxHeartbeats 8000000 in
theorem ok8 : ∀ ds d, s8 ds = some d → PureC Try.prog 8 ds d := ok_sp3 fun s l x r hr => by
  split at hr
  · rename_i hc
    cases hr
    obtain ⟨hs, hx⟩ := hc
    refine pure_of_call (mkCx_ok depe 132 kp8 []) Try.func8 rfl rfl (Nat.le_of_ble_eq_true rfl) (by kernel_rfl) ?_
    rw [Try.results8]
    by_cases h1 : validE s l = 0
    · have h2 : (chk s).2.2 = 0 := by
        unfold validE at h1
        by_cases h : (chk s).2.2 = 0
        · exact h
        · rw [if_neg h] at h1; exact h1
      have h3 : l.length ≤ 7 ∧ batsErr s l = 0 := by
        unfold validE at h1
        rw [if_pos h2] at h1
        unfold batsE at h1
        by_cases h : 7 < l.length
        · rw [if_pos h] at h1; cases h1
        · rw [if_neg h] at h1; exact ⟨by omega, h1⟩
      obtain ⟨h7, hbe⟩ := h3
      have hg := good_of_chk h2
      have hn0 := hg.n0
      have hne : ¬ (s.cols.length : Int) = 0 := by omega
      have hne' : ¬ s.cols = [] := fun h => by rw [h] at hn0; simp at hn0
      have hlen : s.cols.length < 1000000 := by have := hg.n1; omega
      have htb := turn_bd hx 0
      obtain ⟨B, hBe⟩ : ∃ B : Nat, (turnV x 0).tmod s.cols.length = B := ⟨((turnV x 0).tmod s.cols.length).toNat, by rw [Int.toNat_of_nonneg]; rw [Int.tmod_eq_emod_of_nonneg htb.1]; exact Int.emod_nonneg _ hne⟩
      have hB : B < s.cols.length := by
        have := Int.emod_lt_of_pos (turnV x 0) (show (0 : Int) < s.cols.length by omega)
        rw [Int.tmod_eq_emod_of_nonneg htb.1] at hBe
        omega
      have hop : openErr s l [(B : Int)] = 0 := open_ok h2 hbe (by omega) (by omega) h7
      have hop' : ¬ ¬ openErr s l [(B : Int)] = 0 := by simpa using hop
      have hperm : (anyO x l.length).Perm (nums l.length) := anyO_perm x l.length
      have hst := perm_strange hperm
      have hl1000 : (l.length : Int) ≤ 1000 := by omega
      have hbl := best_law h2 hbe (show (0 : Int) ≤ B by omega) (by omega) h7
      rcases hbl with ⟨b1, b2⟩ | ⟨p, m, b1, b2, b3, b4, b5, b6⟩
      · have hlo : lostR s B l (anyO x l.length) = (0, 9) := by
          unfold lostR
          rw [if_neg hop', if_neg (by simpa using hst), b2 _ hperm, if_pos (by decide)]
        simp [kp8, pe, o2, s40, s41, sAwake, s36, sBest, sLost, rShp_enc, rShp_dec, rBat_k, rBat_decL, rK_decL8, hs, hx, h1, hne, hne', hBe, hB, hlen, hl1000, b1, hlo]
      · have hlp : lostR s B l p = (m, 0) := by
          unfold lostR
          rw [if_neg hop', if_neg (by simpa using perm_strange b2), b3, if_neg (by omega)]
        have hor := perm_order b2
        have hpo : putOk l p := ⟨perm_out b2, by rw [perm_len b2]; omega⟩
        have hlo : losOk s B (putL l p) := ⟨h2, putL_okR (perm_out b2) hbe, by omega, by omega, by rw [putL_len, perm_len b2]; omega⟩
        have hl9 : (l.length : Int) < 1000000 := by omega
        rcases b6 _ hperm with c1 | c1
        · have hlo2 : lostR s B l (anyO x l.length) = (0, 9) := by
            unfold lostR
            rw [if_neg hop', if_neg (by simpa using hst), c1, if_pos (by decide)]
          simp [kp8, pe, o2, o1, l12, l11, l10, l9, l8, l7, l6, s40, s41, s42, s43, s44, sAwake, s36, sBest, sLost, rShp_enc, rShp_dec, rBat_k, rBat_decL, rK_decL8, hs, hx, h1, hne, hne', hBe, hB, hlen, hl1000, b1, hlo2, hlp, hor, hpo, hlo, b3, hl9]
        · have hlo2 : lostR s B l (anyO x l.length) = (lossB s B (putL l (anyO x l.length)), 0) := by
            unfold lostR
            rw [if_neg hop', if_neg (by simpa using hst), if_neg (by omega)]
          simp [kp8, pe, o2, o1, l12, l11, l10, l9, l8, l7, l6, s40, s41, s42, s43, s44, sAwake, s36, sBest, sLost, rShp_enc, rShp_dec, rBat_k, rBat_decL, rK_decL8, hs, hx, h1, hne, hne', hBe, hB, hlen, hl1000, b1, hlo2, hlp, hor, hpo, hlo, b3, hl9, c1]
    · have h1' : (validE s l == 0) = false := by simpa using h1
      have h1'' : (validE s l != 0) = true := by simpa using h1
      have hr1 : refBest s 0 l = ([], 0, validE s l) := by
        unfold refBest
        rw [valid_openL, if_pos h1]
      simp [kp8, pe, sAwake, s36, sBest, rShp_enc, rShp_dec, rBat_k, rBat_decL, hs, h1, h1', h1'', hr1]
  · cases hr
def s14 : List D → Option D := sp3 (cAgg rShp) (cList rBat) (cList (rK .u8)) cBool fun s l x => if namesOk s ∧ byteOk x then some true else none
set_option maxHeartbeats 8000000 in
theorem ok14 : ∀ ds d, s14 ds = some d → PureC Try.prog 14 ds d := ok_sp3 fun s l x r hr => by
  split at hr
  · rename_i hc
    cases hr
    obtain ⟨hs, hx⟩ := hc
    refine pure_of_call (mkCx_ok depe 87 kp14 []) Try.func14 rfl rfl (Nat.le_of_ble_eq_true rfl) (by kernel_rfl) ?_
    rw [Try.results14]
    by_cases h1 : validE s l = 0
    · have h2 : (chk s).2.2 = 0 := by
        unfold validE at h1
        by_cases h : (chk s).2.2 = 0
        · exact h
        · rw [if_neg h] at h1; exact h1
      have h3 : l.length ≤ 7 ∧ batsErr s l = 0 := by
        unfold validE at h1
        rw [if_pos h2] at h1
        unfold batsE at h1
        by_cases h : 7 < l.length
        · rw [if_pos h] at h1; cases h1
        · rw [if_neg h] at h1; exact ⟨by omega, h1⟩
      obtain ⟨h7, hbe⟩ := h3
      have hg := good_of_chk h2
      have hn0 := hg.n0
      have hne : ¬ (s.cols.length : Int) = 0 := by omega
      have hne' : ¬ s.cols = [] := fun h => by rw [h] at hn0; simp at hn0
      have hlen : s.cols.length < 1000000 := by have := hg.n1; omega
      have htb := turn_bd hx 0
      obtain ⟨B, hBe⟩ : ∃ B : Nat, (turnV x 0).tmod s.cols.length = B := ⟨((turnV x 0).tmod s.cols.length).toNat, by rw [Int.toNat_of_nonneg]; rw [Int.tmod_eq_emod_of_nonneg htb.1]; exact Int.emod_nonneg _ hne⟩
      have hB : B < s.cols.length := by
        have := Int.emod_lt_of_pos (turnV x 0) (show (0 : Int) < s.cols.length by omega)
        rw [Int.tmod_eq_emod_of_nonneg htb.1] at hBe
        omega
      have hop : openErr s l [(B : Int)] = 0 := open_ok h2 hbe (by omega) (by omega) h7
      have hop' : ¬ ¬ openErr s l [(B : Int)] = 0 := by simpa using hop
      have hperm : (anyO x l.length).Perm (nums l.length) := anyO_perm x l.length
      have hst := perm_strange hperm
      have hl1000 : (l.length : Int) ≤ 1000 := by omega
      have hbl := best_law h2 hbe (show (0 : Int) ≤ B by omega) (by omega) h7
      obtain ⟨t1, t2⟩ := turned_law h2 hbe (show (0 : Int) ≤ B by omega) (by omega) h7 hperm
      have hpo : putOk l (anyO x l.length) := ⟨perm_out hperm, by rw [perm_len hperm]; omega⟩
      have hl9 : (l.length : Int) < 1000000 := by omega
      have u1 : (refBest s B (putL l (anyO x l.length))).2.1 = (refBest s B l).2.1 := by rw [t1]
      have u2 : (refBest s B (putL l (anyO x l.length))).2.2 = (refBest s B l).2.2 := by rw [t1]
      by_cases hz : (refBest s B l).2.2 = 0
      · have hor := perm_order (t2 (by rw [u2]; exact hz))
        simp [kp14, pe, o2, o1, l12, l11, l10, l9, l8, l7, l6, s40, s41, s42, s43, s44, sAwake, s36, sBest, sLost, rShp_enc, rShp_dec, rBat_k, rBat_decL, rK_decL8, hs, hx, h1, hne, hne', hBe, hB, hlen, hl1000, hpo, hl9, u1, u2, hz, hor]
      · have hzb : ((refBest s B l).2.2 == 0) = false := by simpa using hz
        have hzb' : ((refBest s B l).2.2 != 0) = true := by simpa using hz
        simp [kp14, pe, o2, o1, l12, l11, l10, l9, l8, l7, l6, s40, s41, s42, s43, s44, sAwake, s36, sBest, sLost, rShp_enc, rShp_dec, rBat_k, rBat_decL, rK_decL8, hs, hx, h1, hne, hne', hBe, hB, hlen, hl1000, hpo, hl9, u1, u2, hz, hzb, hzb']
    · have h1' : (validE s l == 0) = false := by simpa using h1
      have h1'' : (validE s l != 0) = true := by simpa using h1
      have hr1 : refBest s 0 l = ([], 0, validE s l) := by
        unfold refBest
        rw [valid_openL, if_pos h1]
      simp [kp14, pe, sAwake, s36, sBest, rShp_enc, rShp_dec, rBat_k, rBat_decL, hs, h1, h1', h1'', hr1]
  · cases hr
end Go.Proofs.Ytpkjmnfgpbliaaa
