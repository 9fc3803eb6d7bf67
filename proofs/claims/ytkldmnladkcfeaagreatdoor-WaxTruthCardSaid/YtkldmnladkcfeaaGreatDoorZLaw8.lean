/-
  The law WaxTruth: any mixture and truth is in the ranges. Conditions: the names are strings; what is drawn is of its type.
-/
import Derived.Test.YtkldmnladkcfeaaGreatDoorZLawC
namespace Go.Proofs.YtkldmnladkcfeaaGreatDoor
open Go.RowKit
set_option linter.unusedSimpArgs false
set_option linter.unusedVariables false
def kp8 (r : Nat) : List (Nat × Option Nat) := match r with
  | 0 => [(2, none), (3, none)]
  | 1 => [(2, none), (3, none), (23, none)]
  | 2 => [(6, none)]
  | 3 => [(4, none)]
  | 4 => [(2, none), (7, none), (8, none), (9, none), (10, none)]
  | 5 => [(2, none), (7, none), (8, none), (9, none), (10, none), (48, none)]
  | 6 => [(4, none)]
  | 7 => [(2, none), (7, none), (8, none), (9, none), (10, none), (11, none), (12, none)]
  | 8 => [(2, none), (7, none), (8, none), (9, none), (10, none), (11, none), (12, none), (13, none)]
  | 9 => [(2, none), (7, none), (8, none), (9, none), (10, none), (11, none), (12, none), (13, none), (58, none)]
  | 10 => [(2, none), (7, none), (8, none), (9, none), (10, none), (11, none), (12, none), (13, none)]
  | 11 => [(2, none), (7, none), (8, none), (9, none), (10, none), (70, none)]
  | 12 => [(4, none)]
  | 13 => [(2, none), (7, none), (8, none), (9, none), (10, none), (73, none)]
  | 14 => [(2, none), (7, none), (8, none), (9, none), (10, none), (14, none), (15, none)]
  | 15 => [(2, none), (7, none), (8, none), (9, none), (10, none), (95, none)]
  | 16 => [(4, none)]
  | 17 => [(2, none), (7, none), (8, none), (9, none), (10, none), (16, none)]
  | 18 => [(2, none), (7, none), (8, none), (9, none), (10, none), (16, none), (100, none)]
  | 19 => [(2, none), (7, none), (8, none), (9, none), (10, none), (16, none)]
  | 20 => [(2, none), (7, none), (8, none), (9, none), (10, none), (16, none), (17, none)]
  | 21 => [(2, none), (7, none), (8, none), (9, none), (10, none), (16, none), (17, none), (105, none)]
  | 22 => [(2, none), (7, none), (8, none), (9, none), (10, none), (16, none), (17, none)]
  | 23 => [(2, none), (7, none), (8, none), (9, none), (10, none), (16, none), (17, none), (109, none)]
  | 24 => [(2, none), (7, none), (8, none), (9, none), (10, none), (16, none), (17, none)]
  | 25 => [(2, none), (7, none), (8, none), (9, none), (10, none), (16, none), (17, none), (18, none), (19, none), (20, none)]
  | 26 => [(2, none), (7, none), (8, none), (9, none), (10, none), (16, none), (153, none)]
  | 27 => [(4, none)]
  | 28 => [(4, none)]
  | _ => []
def tb8 : List (Nat × (List D → Option D)) := (39, s39) :: (25, s25) :: (20, s20) :: (40, s40) :: (41, s41) :: (42, s42) :: (43, s43) :: (21, s21) :: (30, s30) :: []
theorem dtb8 : DelOk Tryz.prog (delOf tb8) := (del_cons (del_cons (del_cons (del_cons (del_cons (del_cons (del_cons (del_cons (del_cons del_nil call30 ok30) call21 ok21) call43 ok43) call42 ok42) call41 ok41) call40 ok40) call20 ok20) call25 ok25) call39 ok39)
def s8 : List D → Option D := sp2 (cAgg rTbl) (cAgg rMlt) cBool fun x m => if namesOk x ∧ mltOk m then some true else none
set_option maxHeartbeats 8000000 in
theorem ok8 : ∀ ds d, s8 ds = some d → PureC Tryz.prog 8 ds d := ok_sp2 fun x m r hr => by
  split at hr
  · rename_i hc
    cases hr
    obtain ⟨hn, hm⟩ := hc
    refine pure_of_call (mkCx_ok dtb8 155 kp8 []) Tryz.func8 rfl rfl (Nat.le_of_ble_eq_true rfl) (by kernel_rfl) ?_
    rw [Tryz.results8]
    by_cases hT : okT x
    · have hv : validB x = true := by unfold validB; exact decide_eq_true hT
      have f := fine_of hT
      have hk8 := f.k8
      have hTm : okT x ∧ mltOk m := ⟨hT, hm⟩
      obtain ⟨hR, mm⟩ := mlt_ok hT hm
      generalize hA : mltA x m = A at *
      generalize hB : mltB x m = B at *
      generalize hN : mltN x m = n at *
      generalize hL : mltK x m x.props.length = L at *
      obtain ⟨hin, _⟩ := mix_set hk8 mm
      have hin : inB (allR x L) (setV A B n) = true := inB_iff.2 hin
      have ha := mm.ha
      have hb := mm.hb
      have n1 := mm.n1
      have n2 := mm.n2
      have hex := mm.ex
      have kA : kdOk x A := ⟨by omega, by omega⟩
      have kB : kdOk x B := ⟨by omega, by omega⟩
      have kN : ptOk n := ⟨by omega, by omega⟩
      have bA : bitOk (A : Int) := ⟨by omega, by omega⟩
      have bB : bitOk (B : Int) := ⟨by omega, by omega⟩
      have v1 := bitV_bd (k := A) (by omega)
      have v2 := bitV_bd (k := B) (by omega)
      have w1 := wrap_small (bitV A + bitV B) (by omega) (by omega)
      have hR0 : readE x L = 0 := hR
      have hS : setsR x L = (allR x L, 0) := by unfold setsR; rw [if_neg (by simp [hR0])]
      have hSl : (allR x L).length < 1000000 := by have := allR_len (l := L) hk8; omega
      have hsold : ∀ k, k < x.kinds.length → ∃ (s : Spn) (v : Int), soldR x L k = (s, v, 0) ∧ (s.lo ≤ partOf k A B n ∧ partOf k A B n ≤ s.hi) ∧ (partOf k A B n < x.purity → ¬ v = 1) ∧ (x.purity ≤ partOf k A B n → ¬ v = 0) := fun k hk => mix_sold hR mm hk
      by_cases hn1 : n < 1000
      · have hset : setV A B n = bitV A + bitV B := if_pos hn1
        rw [hset] at hin
        by_cases hAB : (A : Int) = B
        · have := mm.he (by omega); omega
        · have hAB' : ((A : Int) != B) = true := by simpa using hAB
          obtain ⟨s0, e0, e1, e2⟩ := mix_mixed hR mm (by omega)
          have e1' : ¬ n < s0.lo := by omega
          have e2' : ¬ s0.hi < n := by omega
          simp [kp8, tb8, s39, s25, s40, s41, s42, s43, s21, s30, s20, sets_eq, mix_eq, sold_eq, rTbl_enc, rTbl_dec, rMlt_enc, rMlt_dec, rInt_decL, rSpn_enc, rKnd_k, hv, hn, hTm, hA, hB, hN, hL, hR, kA, kB, kN, bA, bB, hex, hS, hSl, hin, hn1, w1, hAB', e0, e1', e2']
          (generalize hLoopQ : Cx.loop _ _ _ = rLoopQ; apply loop_then hLoopQ (fun k => ⟨[(2, .loc 2 0), (7, .d (DI (A : Int))), (8, .d (DI (B : Int))), (9, .d (DI n)), (10, .d (.sl 1 (L.map rInt.enc))), (16, .d (DI k))], [(2, [.d (.sl 2 (x.props.map rPrp.enc)), .d (.sl 2 (x.kinds.map rKnd.enc)), .d (DI x.purity)])], [], []⟩) x.kinds.length (by first | (simp; done) | (simp; rfl) | (simp; simp [*])); rotate_left; (show _ < 281474976710656; omega); rfl; rotate_left; all_goals clear hLoopQ)
          · intro j hj
            have y1 := wrap_small ((j : Int) + 1) (by omega) (by omega)
            have y2 := wrap_small (1000 - n) (by omega) (by omega)
            have hjl : (j : Int) < x.kinds.length := by omega
            obtain ⟨s, v, c1, ⟨c2, c3⟩, c4, c5⟩ := hsold j hj
            have c2' : ¬ partOf j A B n < s.lo := by omega
            have c3' : ¬ s.hi < partOf j A B n := by omega
            by_cases q : partOf j A B n < x.purity
            · have q' : ¬ x.purity ≤ partOf j A B n := by omega
              have c4' : (v == 1) = false := by simpa using c4 q
              by_cases p1 : (j : Int) = A
              · have p : partOf j A B n = n := if_pos p1
                have p1' : ((j : Int) == A) = true := by simpa using p1
                rw [p] at c2' c3' q q'
                simp [kp8, tb8, s30, sold_eq, rTbl_dec, rInt_decL, rSpn_enc, rKnd_k, hn, hj, hjl, y1, y2, c1, c2', c3', q, q', c4', p1']
              · have p1' : ((j : Int) == A) = false := by simpa using p1
                by_cases p2 : (j : Int) = B
                · have p : partOf j A B n = 1000 - n := by unfold partOf; rw [if_neg p1, if_pos p2]
                  have p2' : ((j : Int) == B) = true := by simpa using p2
                  rw [p] at c2' c3' q q'
                  simp [kp8, tb8, s30, sold_eq, rTbl_dec, rInt_decL, rSpn_enc, rKnd_k, hn, hj, hjl, y1, y2, c1, c2', c3', q, q', c4', p1', p2']
                · have p : partOf j A B n = 0 := by unfold partOf; rw [if_neg p1, if_neg p2]
                  have p2' : ((j : Int) == B) = false := by simpa using p2
                  rw [p] at c2' c3' q q'
                  simp [kp8, tb8, s30, sold_eq, rTbl_dec, rInt_decL, rSpn_enc, rKnd_k, hn, hj, hjl, y1, y2, c1, c2', c3', q, q', c4', p1', p2']
            · have q' : x.purity ≤ partOf j A B n := by omega
              have c5' : (v == 0) = false := by simpa using c5 q'
              by_cases p1 : (j : Int) = A
              · have p : partOf j A B n = n := if_pos p1
                have p1' : ((j : Int) == A) = true := by simpa using p1
                rw [p] at c2' c3' q q'
                simp [kp8, tb8, s30, sold_eq, rTbl_dec, rInt_decL, rSpn_enc, rKnd_k, hn, hj, hjl, y1, y2, c1, c2', c3', q, q', c5', p1']
              · have p1' : ((j : Int) == A) = false := by simpa using p1
                by_cases p2 : (j : Int) = B
                · have p : partOf j A B n = 1000 - n := by unfold partOf; rw [if_neg p1, if_pos p2]
                  have p2' : ((j : Int) == B) = true := by simpa using p2
                  rw [p] at c2' c3' q q'
                  simp [kp8, tb8, s30, sold_eq, rTbl_dec, rInt_decL, rSpn_enc, rKnd_k, hn, hj, hjl, y1, y2, c1, c2', c3', q, q', c5', p1', p2']
                · have p : partOf j A B n = 0 := by unfold partOf; rw [if_neg p1, if_neg p2]
                  have p2' : ((j : Int) == B) = false := by simpa using p2
                  rw [p] at c2' c3' q q'
                  simp [kp8, tb8, s30, sold_eq, rTbl_dec, rInt_decL, rSpn_enc, rKnd_k, hn, hj, hjl, y1, y2, c1, c2', c3', q, q', c5', p1', p2']
          · simp [kp8, tb8, s20, rKnd_k]
      · have hset : setV A B n = bitV A := if_neg hn1
        rw [hset] at hin
        by_cases hAB : (A : Int) = B
        · have hAB' : ((A : Int) != B) = false := by simpa using hAB
          simp [kp8, tb8, s39, s25, s40, s41, s42, s43, s21, s30, s20, sets_eq, mix_eq, sold_eq, rTbl_enc, rTbl_dec, rMlt_enc, rMlt_dec, rInt_decL, rSpn_enc, rKnd_k, hv, hn, hTm, hA, hB, hN, hL, hR, kA, kB, kN, bA, bB, hex, hS, hSl, hin, hn1, hAB']
          (generalize hLoopQ : Cx.loop _ _ _ = rLoopQ; apply loop_then hLoopQ (fun k => ⟨[(2, .loc 2 0), (7, .d (DI (A : Int))), (8, .d (DI (B : Int))), (9, .d (DI n)), (10, .d (.sl 1 (L.map rInt.enc))), (16, .d (DI k))], [(2, [.d (.sl 2 (x.props.map rPrp.enc)), .d (.sl 2 (x.kinds.map rKnd.enc)), .d (DI x.purity)])], [], []⟩) x.kinds.length (by first | (simp; done) | (simp; rfl) | (simp; simp [*])); rotate_left; (show _ < 281474976710656; omega); rfl; rotate_left; all_goals clear hLoopQ)
          · intro j hj
            have y1 := wrap_small ((j : Int) + 1) (by omega) (by omega)
            have y2 := wrap_small (1000 - n) (by omega) (by omega)
            have hjl : (j : Int) < x.kinds.length := by omega
            obtain ⟨s, v, c1, ⟨c2, c3⟩, c4, c5⟩ := hsold j hj
            have c2' : ¬ partOf j A B n < s.lo := by omega
            have c3' : ¬ s.hi < partOf j A B n := by omega
            by_cases q : partOf j A B n < x.purity
            · have q' : ¬ x.purity ≤ partOf j A B n := by omega
              have c4' : (v == 1) = false := by simpa using c4 q
              by_cases p1 : (j : Int) = A
              · have p : partOf j A B n = n := if_pos p1
                have p1' : ((j : Int) == A) = true := by simpa using p1
                rw [p] at c2' c3' q q'
                simp [kp8, tb8, s30, sold_eq, rTbl_dec, rInt_decL, rSpn_enc, rKnd_k, hn, hj, hjl, y1, y2, c1, c2', c3', q, q', c4', p1']
              · have p1' : ((j : Int) == A) = false := by simpa using p1
                by_cases p2 : (j : Int) = B
                · have p : partOf j A B n = 1000 - n := by unfold partOf; rw [if_neg p1, if_pos p2]
                  have p2' : ((j : Int) == B) = true := by simpa using p2
                  rw [p] at c2' c3' q q'
                  simp [kp8, tb8, s30, sold_eq, rTbl_dec, rInt_decL, rSpn_enc, rKnd_k, hn, hj, hjl, y1, y2, c1, c2', c3', q, q', c4', p1', p2']
                · have p : partOf j A B n = 0 := by unfold partOf; rw [if_neg p1, if_neg p2]
                  have p2' : ((j : Int) == B) = false := by simpa using p2
                  rw [p] at c2' c3' q q'
                  simp [kp8, tb8, s30, sold_eq, rTbl_dec, rInt_decL, rSpn_enc, rKnd_k, hn, hj, hjl, y1, y2, c1, c2', c3', q, q', c4', p1', p2']
            · have q' : x.purity ≤ partOf j A B n := by omega
              have c5' : (v == 0) = false := by simpa using c5 q'
              by_cases p1 : (j : Int) = A
              · have p : partOf j A B n = n := if_pos p1
                have p1' : ((j : Int) == A) = true := by simpa using p1
                rw [p] at c2' c3' q q'
                simp [kp8, tb8, s30, sold_eq, rTbl_dec, rInt_decL, rSpn_enc, rKnd_k, hn, hj, hjl, y1, y2, c1, c2', c3', q, q', c5', p1']
              · have p1' : ((j : Int) == A) = false := by simpa using p1
                by_cases p2 : (j : Int) = B
                · have p : partOf j A B n = 1000 - n := by unfold partOf; rw [if_neg p1, if_pos p2]
                  have p2' : ((j : Int) == B) = true := by simpa using p2
                  rw [p] at c2' c3' q q'
                  simp [kp8, tb8, s30, sold_eq, rTbl_dec, rInt_decL, rSpn_enc, rKnd_k, hn, hj, hjl, y1, y2, c1, c2', c3', q, q', c5', p1', p2']
                · have p : partOf j A B n = 0 := by unfold partOf; rw [if_neg p1, if_neg p2]
                  have p2' : ((j : Int) == B) = false := by simpa using p2
                  rw [p] at c2' c3' q q'
                  simp [kp8, tb8, s30, sold_eq, rTbl_dec, rInt_decL, rSpn_enc, rKnd_k, hn, hj, hjl, y1, y2, c1, c2', c3', q, q', c5', p1', p2']
          · simp [kp8, tb8, s20, rKnd_k]
        · have hAB' : ((A : Int) != B) = true := by simpa using hAB
          obtain ⟨s0, e0, e1, e2⟩ := mix_mixed hR mm (by omega)
          have e1' : ¬ n < s0.lo := by omega
          have e2' : ¬ s0.hi < n := by omega
          simp [kp8, tb8, s39, s25, s40, s41, s42, s43, s21, s30, s20, sets_eq, mix_eq, sold_eq, rTbl_enc, rTbl_dec, rMlt_enc, rMlt_dec, rInt_decL, rSpn_enc, rKnd_k, hv, hn, hTm, hA, hB, hN, hL, hR, kA, kB, kN, bA, bB, hex, hS, hSl, hin, hn1, hAB', e0, e1', e2']
          (generalize hLoopQ : Cx.loop _ _ _ = rLoopQ; apply loop_then hLoopQ (fun k => ⟨[(2, .loc 2 0), (7, .d (DI (A : Int))), (8, .d (DI (B : Int))), (9, .d (DI n)), (10, .d (.sl 1 (L.map rInt.enc))), (16, .d (DI k))], [(2, [.d (.sl 2 (x.props.map rPrp.enc)), .d (.sl 2 (x.kinds.map rKnd.enc)), .d (DI x.purity)])], [], []⟩) x.kinds.length (by first | (simp; done) | (simp; rfl) | (simp; simp [*])); rotate_left; (show _ < 281474976710656; omega); rfl; rotate_left; all_goals clear hLoopQ)
          · intro j hj
            have y1 := wrap_small ((j : Int) + 1) (by omega) (by omega)
            have y2 := wrap_small (1000 - n) (by omega) (by omega)
            have hjl : (j : Int) < x.kinds.length := by omega
            obtain ⟨s, v, c1, ⟨c2, c3⟩, c4, c5⟩ := hsold j hj
            have c2' : ¬ partOf j A B n < s.lo := by omega
            have c3' : ¬ s.hi < partOf j A B n := by omega
            by_cases q : partOf j A B n < x.purity
            · have q' : ¬ x.purity ≤ partOf j A B n := by omega
              have c4' : (v == 1) = false := by simpa using c4 q
              by_cases p1 : (j : Int) = A
              · have p : partOf j A B n = n := if_pos p1
                have p1' : ((j : Int) == A) = true := by simpa using p1
                rw [p] at c2' c3' q q'
                simp [kp8, tb8, s30, sold_eq, rTbl_dec, rInt_decL, rSpn_enc, rKnd_k, hn, hj, hjl, y1, y2, c1, c2', c3', q, q', c4', p1']
              · have p1' : ((j : Int) == A) = false := by simpa using p1
                by_cases p2 : (j : Int) = B
                · have p : partOf j A B n = 1000 - n := by unfold partOf; rw [if_neg p1, if_pos p2]
                  have p2' : ((j : Int) == B) = true := by simpa using p2
                  rw [p] at c2' c3' q q'
                  simp [kp8, tb8, s30, sold_eq, rTbl_dec, rInt_decL, rSpn_enc, rKnd_k, hn, hj, hjl, y1, y2, c1, c2', c3', q, q', c4', p1', p2']
                · have p : partOf j A B n = 0 := by unfold partOf; rw [if_neg p1, if_neg p2]
                  have p2' : ((j : Int) == B) = false := by simpa using p2
                  rw [p] at c2' c3' q q'
                  simp [kp8, tb8, s30, sold_eq, rTbl_dec, rInt_decL, rSpn_enc, rKnd_k, hn, hj, hjl, y1, y2, c1, c2', c3', q, q', c4', p1', p2']
            · have q' : x.purity ≤ partOf j A B n := by omega
              have c5' : (v == 0) = false := by simpa using c5 q'
              by_cases p1 : (j : Int) = A
              · have p : partOf j A B n = n := if_pos p1
                have p1' : ((j : Int) == A) = true := by simpa using p1
                rw [p] at c2' c3' q q'
                simp [kp8, tb8, s30, sold_eq, rTbl_dec, rInt_decL, rSpn_enc, rKnd_k, hn, hj, hjl, y1, y2, c1, c2', c3', q, q', c5', p1']
              · have p1' : ((j : Int) == A) = false := by simpa using p1
                by_cases p2 : (j : Int) = B
                · have p : partOf j A B n = 1000 - n := by unfold partOf; rw [if_neg p1, if_pos p2]
                  have p2' : ((j : Int) == B) = true := by simpa using p2
                  rw [p] at c2' c3' q q'
                  simp [kp8, tb8, s30, sold_eq, rTbl_dec, rInt_decL, rSpn_enc, rKnd_k, hn, hj, hjl, y1, y2, c1, c2', c3', q, q', c5', p1', p2']
                · have p : partOf j A B n = 0 := by unfold partOf; rw [if_neg p1, if_neg p2]
                  have p2' : ((j : Int) == B) = false := by simpa using p2
                  rw [p] at c2' c3' q q'
                  simp [kp8, tb8, s30, sold_eq, rTbl_dec, rInt_decL, rSpn_enc, rKnd_k, hn, hj, hjl, y1, y2, c1, c2', c3', q, q', c5', p1', p2']
          · simp [kp8, tb8, s20, rKnd_k]
    · have hv : validB x = false := by unfold validB; exact decide_eq_false hT
      obtain ⟨hr1, hr2⟩ := not_valid hT []
      have hS : setsR x [] = ([], (chk x).2.2) := by unfold setsR; rw [hr1, if_pos hr2]
      have hr3 := nePos hr2
      simp [kp8, tb8, s39, s25, s20, sets_eq, rTbl_enc, rTbl_dec, rMlt_enc, ints0, hv, hn, hS, hr3]
  · cases hr
end Go.Proofs.YtkldmnladkcfeaaGreatDoor
