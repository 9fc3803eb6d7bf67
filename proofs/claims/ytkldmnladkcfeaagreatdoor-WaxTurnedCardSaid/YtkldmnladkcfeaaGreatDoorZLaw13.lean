/-
  The law WaxTurned: kinds in another order. Conditions: the names are strings; what is drawn is of its type.
-/
import Derived.Test.YtkldmnladkcfeaaGreatDoorZLawT
namespace Go.Proofs.YtkldmnladkcfeaaGreatDoor
open Go.RowKit
set_option linter.unusedSimpArgs false
set_option linter.unusedVariables false
def kp13 (r : Nat) : List (Nat × Option Nat) := match r with
  | 0 => [(1, none), (3, none), (5, none)]
  | 1 => [(1, none), (3, none), (5, none), (27, none)]
  | 2 => [(6, none)]
  | 3 => [(1, none), (3, none), (5, none), (7, none)]
  | 4 => [(1, none), (3, none), (7, none), (8, none), (9, none), (10, none)]
  | 5 => [(1, none), (3, none), (7, none), (8, none), (9, none), (10, none), (49, none)]
  | 6 => [(1, none), (3, none), (7, none), (8, none), (9, none), (10, none), (11, none), (12, none)]
  | 7 => [(1, none), (3, none), (7, none), (10, none), (11, none), (12, none), (13, none), (14, none)]
  | 8 => [(1, none), (3, none), (7, none), (10, none), (91, none)]
  | 9 => [(6, none)]
  | 10 => [(1, none), (3, none), (7, none), (10, none), (15, none)]
  | 11 => [(1, none), (3, none), (7, none), (10, none), (15, none), (16, none)]
  | 12 => [(1, none), (3, none), (7, none), (10, none), (15, none), (16, none), (99, none)]
  | 13 => [(1, none), (3, none), (7, none), (10, none), (15, none), (16, none)]
  | 14 => [(1, none), (3, none), (7, none), (10, none), (15, none), (16, none)]
  | 15 => [(1, none), (7, none), (10, none), (15, none), (17, none), (18, none)]
  | 16 => [(7, none), (10, none), (17, none), (18, none), (19, none), (20, none)]
  | 17 => [(7, none), (10, none), (17, none), (19, none), (140, none)]
  | 18 => [(6, none)]
  | 19 => [(7, none), (10, none), (17, none), (19, none), (21, none)]
  | 20 => [(7, none), (10, none), (17, none), (19, none), (21, none), (144, none)]
  | 21 => [(7, none), (10, none), (17, none), (19, none), (21, none)]
  | 22 => [(7, none), (10, none), (17, none), (19, none), (21, none), (22, none)]
  | 23 => [(7, none), (10, none), (17, none), (19, none), (21, none), (22, none), (23, none)]
  | 24 => [(7, none), (10, none), (17, none), (19, none), (21, none), (22, none), (23, none), (149, none)]
  | 25 => [(7, none), (10, none), (17, none), (19, none), (21, none), (22, none), (23, none)]
  | 26 => [(7, none), (10, none), (17, none), (19, none), (21, none), (22, none), (23, none), (164, none)]
  | 27 => [(7, none), (10, none), (17, none), (19, none), (21, none), (22, none), (23, none)]
  | 28 => [(7, none), (10, none), (17, none), (19, none), (21, none), (192, none)]
  | 29 => [(6, none)]
  | 30 => [(6, none)]
  | _ => []
def tb13 : List (Nat × (List D → Option D)) := (44, s44) :: (20, s20) :: (21, s21) :: (25, s25) :: (49, s49) :: (42, s42) :: (43, s43) :: []
theorem dtb13 : DelOk Tryz.prog (delOf tb13) := (del_cons (del_cons (del_cons (del_cons (del_cons (del_cons (del_cons del_nil call43 ok43) call42 ok42) call49 ok49) call25 ok25) call21 ok21) call20 ok20) call44 ok44)
theorem rotS_bd {x : Tbl} {d : Nat} {s : Int} (f : Fine x) : ∀ k, 0 ≤ rotS x d s k ∧ rotS x d s k ≤ 1099511627776 * k
  | 0 => by simp [rotS]
  | k + 1 => by
    have ih := rotS_bd (x := x) (d := d) (s := s) f k
    have hq := rot_lt f d k
    have h8 := f.k8
    have hv := bitV_bd (k := rotI x d k) (by omega)
    rw [rotS]
    split <;> omega
theorem cut2 {c : Cx} {rs : List ResultVar} {rest : Code} {X : Option (AEx × St)} {d : Option D} {σ1 σ2 : St} (h : X = some (.normal, σ1) ∨ X = some (.normal, σ2)) (h2 : c.callK rs (c.seqK rest (some (.normal, σ2))) = c.callK rs (c.seqK rest (some (.normal, σ1)))) (h1 : c.callK rs (c.seqK rest (some (.normal, σ1))) = d) : c.callK rs (c.seqK rest X) = d := by
  rcases h with rfl | rfl
  · exact h1
  · rw [h2]; exact h1
def s13 : List D → Option D := sp3 (cAgg rTbl) (cList rInt) (cAgg (rThr .u8)) cBool fun x l y => if namesOk x ∧ thrOk 255 y then some true else none
set_option maxHeartbeats 16000000 in
theorem ok13 : ∀ ds d, s13 ds = some d → PureC Tryz.prog 13 ds d := ok_sp3 fun x l y r hr => by
  split at hr
  · rename_i hc
    cases hr
    obtain ⟨hn, ⟨a0, a1⟩, ⟨b0, b1⟩, c0, c1⟩ := hc
    refine pure_of_call (mkCx_ok dtb13 194 kp13 [(15, 1, 2)]) Tryz.func13 rfl rfl (Nat.le_of_ble_eq_true rfl) (by kernel_rfl) ?_
    rw [Tryz.results13]
    by_cases h1 : readE x l = 0
    · have hR : okR x l := h1
      obtain ⟨hT, hll, hlv⟩ := okR_of hR
      have f := fine_of hT
      have hk1 := f.k1
      have hk8 := f.k8
      have hKI : ¬ (x.kinds.length : Int) = 0 := by omega
      have hK0 : ¬ x.kinds = [] := fun h => by rw [h] at hk1; simp at hk1
      have e1 := mod_nat (k := x.kinds.length) a0
      have e2 := mod_nat (k := x.kinds.length) b0
      have e3 := mod_nat (k := x.kinds.length) c0
      have ha : y.a.toNat % x.kinds.length < x.kinds.length := Nat.mod_lt _ hk1
      have hb : y.b.toNat % x.kinds.length < x.kinds.length := Nat.mod_lt _ hk1
      have hd : y.c.toNat % x.kinds.length < x.kinds.length := Nat.mod_lt _ hk1
      generalize y.a.toNat % x.kinds.length = A at *
      generalize y.b.toNat % x.kinds.length = B at *
      generalize y.c.toNat % x.kinds.length = d at *
      have w1 := wrap_small y.a (by omega) (by omega)
      have w2 := wrap_small y.b (by omega) (by omega)
      have w3 := wrap_small y.c (by omega) (by omega)
      have w4 := wrap_small (A : Int) (by omega) (by omega)
      have w5 := wrap_small (B : Int) (by omega) (by omega)
      have w6 := wrap_small (d : Int) (by omega) (by omega)
      have hS1 : setsR x l = (allR x l, 0) := by unfold setsR; rw [if_neg (by simp [h1])]
      have hR2 := rot_okR hR d
      have h12 : readE (rotT x d) l = 0 := hR2
      have hS2 : setsR (rotT x d) l = (allR (rotT x d) l, 0) := by unfold setsR; rw [if_neg (by simp [h12])]
      have hn2 : namesOk (rotT x d) := text_names (rot_ok hT d)
      have hlk : (rotT x d).kinds.length = x.kinds.length := rotK_len _ _ _
      have hle := rot_len hR hd
      have hL1 : (allR x l).length ≤ 20000 := allR_len hk8
      have hp2 := all_pair (x := rotT x d) (l := l) (by rw [hlk]; exact hk8)
      have hm2 := allR_mem (x := rotT x d) (l := l) (by rw [hlk]; exact hk8)
      have hrin : ∀ s ∈ allR (rotT x d) l, inB (allR x l) (rotS x d s x.kinds.length) = true := fun s hs => inB_iff.2 (rot_in hR hs)
      simp [kp13, tb13, s44, s20, s21, mix_eq, rTbl_enc, rTbl_dec, rThr_enc, rSpn_enc, rSpn_dec, rInt_decL, rInt_k, rKnd_k, hn, hR, hKI, hK0, w1, w2, w3, w4, w5, w6, e1, e2, e3, h1]
      refine cut2 (σ1 := ⟨[(1, .d (.sl 1 (l.map rInt.enc))), (3, .loc 3 0), (7, .d (DI x.kinds.length)), (10, .d (DI d)), (91, .d (DB false))], [(3, [.d (.sl 2 (x.props.map rPrp.enc)), .d (.sl 2 (x.kinds.map rKnd.enc)), .d (DI x.purity)])], [], []⟩) (σ2 := ⟨[(1, .d (.sl 1 (l.map rInt.enc))), (3, .loc 3 0), (7, .d (DI x.kinds.length)), (8, .d (DI A)), (9, .d (DI B)), (10, .d (DI d)), (49, .d (DB false))], [(3, [.d (.sl 2 (x.props.map rPrp.enc)), .d (.sl 2 (x.kinds.map rKnd.enc)), .d (DI x.purity)])], [], []⟩) ?_ ?_ ?_
      · by_cases hAB : (A : Int) = B
        · have hAB' : ((A : Int) != B) = false := by simpa using hAB
          right
          simp [kp13, tb13, hAB, hAB']
        · have hAB' : ((A : Int) != B) = true := by simpa using hAB
          left
          rcases mix_turn hR ha hb (by omega) with ⟨q1, q2⟩ | ⟨s, q1, q2, q3, q4, q5⟩
          · simp [kp13, tb13, s21, mix_eq, rTbl_dec, rInt_decL, rSpn_enc, hn, hAB', q1, q2]
          · have v1 := wrap_small (1000 - s.hi) (by omega) (by omega)
            have v2 := wrap_small (1000 - s.lo) (by omega) (by omega)
            simp [kp13, tb13, s21, mix_eq, rTbl_dec, rInt_decL, rSpn_enc, hn, hAB', q1, q2, v1, v2]
      · simp [kp13, tb13]
      simp [kp13, tb13]
      (generalize hLoopQ : Cx.loop _ _ _ = rLoopQ; apply loop_then hLoopQ (fun k => ⟨[(1, .d (.sl 1 (l.map rInt.enc))), (3, .loc 3 0), (7, .d (DI x.kinds.length)), (10, .d (DI d)), (15, .loc 15 0), (16, .d (DI k))], [(3, [.d (.sl 2 (x.props.map rPrp.enc)), .d (.sl 2 (x.kinds.map rKnd.enc)), .d (DI x.purity)]), (15, [.d (.sl 2 (x.props.map rPrp.enc)), .sl 2 ((rotK x d k).map rKnd.enc) (.tok 101501), .d (DI x.purity)])], [101501], []⟩) x.kinds.length (by first | (simp; done) | (simp; rfl) | (simp; simp [*])); rotate_left; (show _ < 281474976710656; omega); rfl; rotate_left; all_goals clear hLoopQ)
      · intro j hj
        have y1 := wrap_small ((j : Int) + 1) (by omega) (by omega)
        have hjl : (j : Int) < x.kinds.length := by omega
        have y2 := wrap_small ((j : Int) + d) (by omega) (by omega)
        have y3 : ((j : Int) + d).tmod x.kinds.length = (rotI x d j : Int) := by
          rw [show (j : Int) + d = ((j + d : Nat) : Int) by omega, mod_nat (by omega)]; rfl
        have hq := rot_lt f d j
        have hl := rotK_len x d j
        rw [rotK_succ, getD_at _ _ _ hq]
        generalize rotK x d j = R at *
        generalize rotI x d j = q at *
        have hqI : (q : Int) < x.kinds.length := by omega
        have y4 := wrap_small (q : Int) (by omega) (by omega)
        have z1 : R.length + 1 ≤ 140737488355328 := by omega
        have z2 : (R.length + 1) * 40 ≤ 140737488355328 := by omega
        simp [kp13, tb13, rKnd_k, rKnd_enc, hj, hjl, hKI, hK0, hq, hqI, y1, y2, y3, y4, z1, z2]
      · have hdec : rTbl.dec [.sl 2 (x.props.map rPrp.enc), .sl 2 ((rotK x d x.kinds.length).map rKnd.enc), .v (.int .i64 x.purity)] = some (rotT x d) := rTbl.de (rotT x d)
        generalize allR (rotT x d) l = M at *
        generalize allR x l = L at *
        have hleI : ((L.length : Int) != M.length) = false := by rw [bne_eq_false_iff_eq]; omega
        simp [kp13, tb13, s25, sets_eq, rTbl_dec, rInt_decL, hn, hn2, hS1, hS2, hdec, hle, hleI]
        (generalize hLoopQ : Cx.loop _ _ _ = rLoopQ; apply loop_then hLoopQ (fun i => ⟨[(7, .d (DI x.kinds.length)), (10, .d (DI d)), (17, .d (.sl 1 (L.map rInt.enc))), (19, .d (.sl 1 (M.map rInt.enc))), (21, .d (DI i))], [], [], []⟩) M.length (by first | (simp; done) | (simp; rfl) | (simp; simp [*])); rotate_left; (show _ < 281474976710656; omega); rfl; rotate_left; all_goals clear hLoopQ)
        · intro i hi
          have u1 := wrap_small ((i : Int) + 1) (by omega) (by omega)
          have hiI : (i : Int) < M.length := by omega
          have hmi := hm2 _ (List.getElem_mem hi)
          have hin := hrin _ (List.getElem_mem hi)
          have sO : setOk M[i] := ⟨by omega, by omega⟩
          have hM0 : (0 : Int) ≤ M[i] := by omega
          simp [kp13, tb13, rInt_k, hi, hiI]
          (generalize hLoopQ : Cx.loop _ _ _ = rLoopQ; apply loop_then hLoopQ (fun k => ⟨[(7, .d (DI x.kinds.length)), (10, .d (DI d)), (17, .d (.sl 1 (L.map rInt.enc))), (19, .d (.sl 1 (M.map rInt.enc))), (21, .d (DI i)), (22, .d (DI (rotS x d M[i] k))), (23, .d (DI k))], [], [], []⟩) x.kinds.length (by first | (simp; done) | (simp; rfl) | (simp; simp [*])); rotate_left; (show _ < 281474976710656; omega); rfl; rotate_left; all_goals clear hLoopQ)
          · intro j hj
            have y1 := wrap_small ((j : Int) + 1) (by omega) (by omega)
            have hjl : (j : Int) < x.kinds.length := by omega
            have y2 := wrap_small ((j : Int) + d) (by omega) (by omega)
            have y3 : ((j : Int) + d).tmod x.kinds.length = (rotI x d j : Int) := by
              rw [show (j : Int) + d = ((j + d : Nat) : Int) by omega, mod_nat (by omega)]; rfl
            have hq := rot_lt f d j
            have bj : bitOk (j : Int) := ⟨by omega, by omega⟩
            have hb1 := rotS_bd (x := x) (d := d) (s := M[i]) f j
            have hv := bitV_bd (k := rotI x d j) (by omega)
            have E : rotS x d M[i] (j + 1) = if hasB M[i] j = true then rotS x d M[i] j + bitV (rotI x d j) else rotS x d M[i] j := rfl
            rw [E]
            have bq : bitOk (rotI x d j : Int) := ⟨by omega, by omega⟩
            generalize rotS x d M[i] j = S at *
            generalize rotI x d j = q at *
            have y4 := wrap_small (q : Int) (by omega) (by omega)
            have y5 := wrap_small (S + bitV q) (by omega) (by omega)
            cases hh : hasB M[i] j
            · simp [kp13, tb13, s49, rInt_enc, hi, hiI, hj, hjl, hM0, sO, bj, hh, y1]
            · simp [kp13, tb13, s49, s42, rInt_enc, hi, hiI, hj, hjl, hKI, hK0, hM0, sO, bj, bq, hh, y1, y2, y3, y4, y5]
          · generalize rotS x d M[i] x.kinds.length = S at *
            have hLl : L.length < 1000000 := by omega
            by_cases i0 : i = 0
            · subst i0
              simp [kp13, tb13, s43, rInt_decL, hin, hLl]
            · have i1 : 0 < i := by omega
              have i2 := wrap_small ((i : Int) - 1) (by omega) (by omega)
              have i3 : (i : Int) - 1 = ((i - 1 : Nat) : Int) := by omega
              have i4 : i - 1 < M.length := by omega
              have i4I : ((i - 1 : Nat) : Int) < M.length := by omega
              have i5 : ¬ M[i] ≤ M[i - 1] := by
                have := List.pairwise_iff_getElem.1 hp2 (i - 1) i i4 hi (by omega)
                omega
              rw [i3] at i2
              simp [kp13, tb13, s43, rInt_decL, rInt_enc, hin, hLl, hi, hiI, i1, i2, i3, i4, i4I, i5, u1]
        · simp [kp13, tb13, s20, rInt_k]
    · have h2 : (readE x l != 0) = true := by simpa using h1
      simp [kp13, tb13, s44, s20, rTbl_enc, rTbl_dec, rThr_enc, rInt_decL, rInt_k, hn, h1, h2]
  · cases hr
end Go.Proofs.YtkldmnladkcfeaaGreatDoor
