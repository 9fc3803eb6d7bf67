/-
  The law WaxReached: both ends are reached. Conditions: the names are strings; what is drawn is of its type.
-/
import Derived.Test.YtkldmnladkcfeaaGreatDoorZLawT
namespace Go.Proofs.YtkldmnladkcfeaaGreatDoor
open Go.RowKit
set_option linter.unusedSimpArgs false
set_option linter.unusedVariables false
def kp9 (r : Nat) : List (Nat × Option Nat) := match r with
  | 0 => [(1, none), (3, none), (5, none)]
  | 1 => [(1, none), (3, none), (5, none), (26, none)]
  | 2 => [(8, none)]
  | 3 => [(6, none)]
  | 4 => [(1, none), (3, none), (5, none), (9, none), (10, none)]
  | 5 => [(1, none), (3, none), (5, none), (9, none), (10, none), (54, none)]
  | 6 => [(1, none), (3, none), (5, none), (9, none), (10, none), (11, none), (12, none)]
  | 7 => [(1, none), (3, none), (5, none), (9, none), (10, none), (11, none), (12, none), (68, none)]
  | 8 => [(6, none)]
  | 9 => [(1, none), (3, none), (5, none), (9, none), (10, none), (11, none), (70, none)]
  | 10 => [(1, none), (3, none), (9, none), (118, none)]
  | 11 => [(6, none)]
  | 12 => [(1, none), (3, none), (9, none), (13, none), (15, none)]
  | 13 => [(1, none), (3, none), (9, none), (13, none), (15, none), (128, none)]
  | 14 => [(6, none)]
  | 15 => [(1, none), (3, none), (9, none), (13, none), (153, none)]
  | 16 => [(6, none)]
  | 17 => [(1, none), (3, none), (9, none), (13, none), (16, none), (17, none)]
  | 18 => [(1, none), (3, none), (9, none), (13, none), (16, none), (17, none), (18, none)]
  | 19 => [(1, none), (3, none), (9, none), (13, none), (16, none), (17, none), (18, none), (158, none)]
  | 20 => [(1, none), (3, none), (9, none), (13, none), (16, none), (17, none), (18, none)]
  | 21 => [(1, none), (3, none), (9, none), (13, none), (16, none), (17, none), (18, none)]
  | 22 => [(1, none), (3, none), (9, none), (13, none), (16, none), (17, none), (18, none), (19, none)]
  | 23 => [(1, none), (3, none), (9, none), (13, none), (16, none), (17, none), (18, none), (19, none), (205, none)]
  | 24 => [(1, none), (3, none), (9, none), (13, none), (16, none), (17, none), (18, none), (19, none)]
  | 25 => [(1, none), (3, none), (9, none), (13, none), (16, none), (17, none), (18, none), (19, none), (21, none)]
  | 26 => [(1, none), (3, none), (9, none), (13, none), (16, none), (17, none), (18, none), (19, none), (22, none)]
  | 27 => [(1, none), (3, none), (9, none), (13, none), (16, none), (17, none), (18, none), (19, none)]
  | 28 => [(6, none)]
  | _ => []
def tb9 : List (Nat × (List D → Option D)) := (44, s44) :: (25, s25) :: (20, s20) :: (21, s21) :: (41, s41) :: (45, s45) :: (30, s30) :: (46, s46) :: []
theorem dtb9 : DelOk Tryz.prog (delOf tb9) := (del_cons (del_cons (del_cons (del_cons (del_cons (del_cons (del_cons (del_cons del_nil call46 ok46) call30 ok30) call45 ok45) call41 ok41) call21 ok21) call20 ok20) call25 ok25) call44 ok44)
@[simp] theorem endK_zero (x : Tbl) (l : List Int) (a : Nat) (v : Int) : endK x l a v 0 = false := rfl
@[simp] theorem endM_zero (x : Tbl) (l : List Int) (a : Nat) (v : Int) (k : Nat) (o : Bool) : endM x l a v k o 0 = o := rfl
theorem decide_eq_beq9 (a b : Int) : decide (a = b) = (a == b) := rfl
def s9 : List D → Option D := sp3 (cAgg rTbl) (cList rInt) (cAgg (rThr .u16)) cBool fun x l y => if namesOk x ∧ thrOk 65535 y then some true else none
set_option maxHeartbeats 16000000 in
theorem ok9 : ∀ ds d, s9 ds = some d → PureC Tryz.prog 9 ds d := ok_sp3 fun x l y r hr => by
  split at hr
  · rename_i hc
    cases hr
    obtain ⟨hn, ⟨a0, a1⟩, ⟨b0, b1⟩, c0, c1⟩ := hc
    refine pure_of_call (mkCx_ok dtb9 252 kp9 []) Tryz.func9 rfl rfl (Nat.le_of_ble_eq_true rfl) (by kernel_rfl) ?_
    rw [Tryz.results9]
    by_cases h1 : readE x l = 0
    · have hR : okR x l := h1
      obtain ⟨hT, hll, hlv⟩ := okR_of hR
      have f := fine_of hT
      have hk1 := f.k1
      have hk8 := f.k8
      have hKI : ¬ (x.kinds.length : Int) = 0 := by omega
      have hK0 : ¬ x.kinds = [] := fun h => by rw [h] at hk1; simp at hk1
      have e1 := mod_nat (k := x.kinds.length) a0
      have e2 := mod_nat (k := x.kinds.length) b0
      have ha : y.a.toNat % x.kinds.length < x.kinds.length := Nat.mod_lt _ hk1
      have hb : y.b.toNat % x.kinds.length < x.kinds.length := Nat.mod_lt _ hk1
      generalize y.a.toNat % x.kinds.length = A at *
      generalize y.b.toNat % x.kinds.length = B at *
      have w1 := wrap_small y.a (by omega) (by omega)
      have w2 := wrap_small y.b (by omega) (by omega)
      have w3 := wrap_small y.c (by omega) (by omega)
      have w4 := wrap_small (A : Int) (by omega) (by omega)
      have w5 := wrap_small (B : Int) (by omega) (by omega)
      have hAI : (A : Int) < x.kinds.length := by omega
      have kA : kdOk x A := ⟨by omega, by omega⟩
      have kB : kdOk x B := ⟨by omega, by omega⟩
      have hBd : bdsOk 0 1000 := by decide
      rcases sold_cases hR ha with ⟨so, _⟩ | ⟨s, v, so, ⟨so1, so2, so3⟩, sp1, sp2, _, _⟩
      · by_cases hAB : (A : Int) = B
        · have hAB' : ((A : Int) != B) = false := by simpa using hAB
          simp [kp9, tb9, s44, s25, s20, s21, s41, s45, s30, mix_eq, sold_eq, rTbl_enc, rTbl_dec, rThr_enc, rSpn_enc, rSpn_dec, rInt_decL, rInt_k, rKnd_k, spn_mk', spn_mk'', hn, h1, hR, hKI, hK0, w1, w2, w3, w4, w5, e1, e2, kA, kB, hAB', so]
        · have hAB' : ((A : Int) != B) = true := by simpa using hAB
          rcases mix_cases hR ha hb (by omega) with ⟨mx, _⟩ | ⟨s0, mx, ⟨q1, q2, q3⟩, q4⟩
          · simp [kp9, tb9, s44, s25, s20, s21, s41, s45, s30, mix_eq, sold_eq, rTbl_enc, rTbl_dec, rThr_enc, rSpn_enc, rSpn_dec, rInt_decL, rInt_k, rKnd_k, spn_mk', spn_mk'', hn, h1, hR, hKI, hK0, w1, w2, w3, w4, w5, e1, e2, kA, kB, hAB', mx, so]
          · have r0 : True := trivial
            have r1 : ¬ s0.lo < 0 := by omega
            have r2 : ¬ 1000 < s0.hi := by omega
            have r3 : ¬ s0.hi < s0.lo := by omega
            have am := among_bd (n := y.c) q2
            have x1 := ((q4 s0.lo).1 ⟨Int.le_refl _, q2⟩).2
            have x2 := ((q4 s0.hi).1 ⟨q2, Int.le_refl _⟩).2
            have x3 := ((q4 (amongV s0 y.c)).1 am).2
            have g1 : ptOk s0.lo := ⟨by omega, by omega⟩
            have g2 : ptOk s0.hi := ⟨by omega, by omega⟩
            have g3 : ptOk (amongV s0 y.c) := ⟨by omega, by omega⟩
            have p1 : (0 ≤ s0.lo ∧ s0.lo ≤ s0.hi ∧ s0.hi ≤ 1000000) ∧ 0 ≤ y.c ∧ y.c ≤ 1000000 := ⟨⟨q1, q2, by omega⟩, c0, by omega⟩
            have p2 : (0 : Int) ≤ y.c := c0
            have p3 : y.c ≤ 1000000 := by omega
            simp [kp9, tb9, s44, s25, s20, s21, s41, s45, s30, mix_eq, sold_eq, rTbl_enc, rTbl_dec, rThr_enc, rSpn_enc, rSpn_dec, rInt_decL, rInt_k, rKnd_k, spn_mk', spn_mk'', hn, h1, hR, hKI, hK0, w1, w2, w3, w4, w5, e1, e2, kA, kB, hAB', mx, so, r1, r2, r3, x1, x2, x3, g1, g2, g3, p1, p2, p3]
      · have s1 : ¬ s.lo < 0 := by omega
        have s2 : ¬ 1000 < s.hi := by omega
        have s3 : ¬ s.hi < s.lo := by omega
        have sl : ptOk s.lo := ⟨by omega, by omega⟩
        have sh : ptOk s.hi := ⟨by omega, by omega⟩
        have pK : ptOk 1000 := by decide
        have f1 := end_ok sp1
        have f2 := end_ok sp2
        by_cases hAB : (A : Int) = B
        · have hAB' : ((A : Int) != B) = false := by simpa using hAB
          simp [kp9, tb9, s44, s25, s20, s21, s41, s45, s30, mix_eq, sold_eq, rTbl_enc, rTbl_dec, rThr_enc, rSpn_enc, rSpn_dec, rInt_decL, rInt_k, rKnd_k, spn_mk', spn_mk'', hn, h1, hR, hKI, hK0, w1, w2, w3, w4, w5, e1, e2, kA, kB, hAB', so, s1, s2, s3]
          (generalize hLoopQ : Cx.loop _ _ _ = rLoopQ; apply loop_then hLoopQ (fun k => ⟨[(1, .d (.sl 1 (l.map rInt.enc))), (3, .loc 3 0), (9, .d (DI A)), (13, .loc 13 0), (16, .d (DB (endK x l A s.lo k))), (17, .d (DB (endK x l A s.hi k))), (18, .d (DI k))], [(3, [.d (.sl 2 (x.props.map rPrp.enc)), .d (.sl 2 (x.kinds.map rKnd.enc)), .d (DI x.purity)]), (13, [.d (DI s.lo), .d (DI s.hi)])], [], []⟩) x.kinds.length (by first | (simp; done) | (simp; rfl) | (simp; simp [*])); rotate_left; (show _ < 281474976710656; omega); rfl; rotate_left; all_goals clear hLoopQ)
          · intro j hj
            have y1 := wrap_small ((j : Int) + 1) (by omega) (by omega)
            have hjl : (j : Int) < x.kinds.length := by omega
            have kJ : kdOk x j := ⟨by omega, by omega⟩
            have E1 : endK x l A s.lo (j + 1) = endM x l A s.lo j (endK x l A s.lo j || (!decide (j = A) || decide (s.lo = 1000)) && explB x l A j s.lo) x.kinds.length := rfl
            have E2 : endK x l A s.hi (j + 1) = endM x l A s.hi j (endK x l A s.hi j || (!decide (j = A) || decide (s.hi = 1000)) && explB x l A j s.hi) x.kinds.length := rfl
            rw [E1, E2]
            generalize endK x l A s.lo j = L0 at *
            generalize endK x l A s.hi j = H0 at *
            simp [kp9, tb9, rKnd_k, hj, hjl]
            refine Eq.trans (congrArg (fun X => Cx.seqK _ _ (blkK 1 (Cx.seqK _ _ X))) (?_ : _ = some (AEx.normal, (⟨[(1, .d (.sl 1 (l.map rInt.enc))), (3, .loc 3 0), (9, .d (DI A)), (13, .loc 13 0), (16, .d (DB (L0 || (!decide (j = A) || decide (s.lo = 1000)) && explB x l A j s.lo))), (17, .d (DB (H0 || (!decide (j = A) || decide (s.hi = 1000)) && explB x l A j s.hi))), (18, .d (DI j))], [(3, [.d (.sl 2 (x.props.map rPrp.enc)), .d (.sl 2 (x.kinds.map rKnd.enc)), .d (DI x.purity)]), (13, [.d (DI s.lo), .d (DI s.hi)])], [], []⟩ : St)))) ?_
            · by_cases z1 : j = A
              · have z1' : ((j : Int) != (A : Int)) = false := by subst z1; simp
                by_cases z2 : s.lo = 1000
                · have z2' : (s.lo == 1000) = true := by simpa using z2
                  by_cases z3 : s.hi = 1000
                  · have z3' : (s.hi == 1000) = true := by simpa using z3
                    cases L0 <;> cases H0 <;> simp [kp9, tb9, s41, rTbl_dec, rInt_decL, rSpn_enc, hR, kA, kJ, sl, sh, pK, z1', z1, z2', z2, z3', z3]
                  · have z3' : (s.hi == 1000) = false := by simpa using z3
                    cases L0 <;> cases H0 <;> simp [kp9, tb9, s41, rTbl_dec, rInt_decL, rSpn_enc, hR, kA, kJ, sl, sh, pK, z1', z1, z2', z2, z3', z3]
                · have z2' : (s.lo == 1000) = false := by simpa using z2
                  by_cases z3 : s.hi = 1000
                  · have z3' : (s.hi == 1000) = true := by simpa using z3
                    cases L0 <;> cases H0 <;> simp [kp9, tb9, s41, rTbl_dec, rInt_decL, rSpn_enc, hR, kA, kJ, sl, sh, pK, z1', z1, z2', z2, z3', z3]
                  · have z3' : (s.hi == 1000) = false := by simpa using z3
                    cases L0 <;> cases H0 <;> simp [kp9, tb9, s41, rTbl_dec, rInt_decL, rSpn_enc, hR, kA, kJ, sl, sh, pK, z1', z1, z2', z2, z3', z3]
              · have z1' : ((j : Int) != (A : Int)) = true := by rw [bne_iff_ne]; omega
                cases L0 <;> cases H0 <;> simp [kp9, tb9, s41, rTbl_dec, rInt_decL, rSpn_enc, hR, kA, kJ, sl, sh, pK, z1', z1]
            generalize (L0 || (!decide (j = A) || decide (s.lo = 1000)) && explB x l A j s.lo) = L1
            generalize (H0 || (!decide (j = A) || decide (s.hi = 1000)) && explB x l A j s.hi) = H1
            simp [kp9, tb9, rKnd_k]
            (generalize hLoopQ : Cx.loop _ _ _ = rLoopQ; apply loop_then hLoopQ (fun m => ⟨[(1, .d (.sl 1 (l.map rInt.enc))), (3, .loc 3 0), (9, .d (DI A)), (13, .loc 13 0), (16, .d (DB (endM x l A s.lo j L1 m))), (17, .d (DB (endM x l A s.hi j H1 m))), (18, .d (DI j)), (19, .d (DI m))], [(3, [.d (.sl 2 (x.props.map rPrp.enc)), .d (.sl 2 (x.kinds.map rKnd.enc)), .d (DI x.purity)]), (13, [.d (DI s.lo), .d (DI s.hi)])], [], []⟩) x.kinds.length (by first | (simp; done) | (simp; rfl) | (simp; simp [*])); rotate_left; (show _ < 281474976710656; omega); rfl; rotate_left; all_goals clear hLoopQ)
            · intro m hm
              have y2 := wrap_small ((m : Int) + 1) (by omega) (by omega)
              have hml : (m : Int) < x.kinds.length := by omega
              have kM : kdOk x m := ⟨by omega, by omega⟩
              have E3 : endM x l A s.lo j L1 (m + 1) = (endM x l A s.lo j L1 m || ((partsR x l j m 0 1000).2 && !decide (j = A) && !decide (m = A)) && decide (s.lo = 0)) := rfl
              have E4 : endM x l A s.hi j H1 (m + 1) = (endM x l A s.hi j H1 m || ((partsR x l j m 0 1000).2 && !decide (j = A) && !decide (m = A)) && decide (s.hi = 0)) := rfl
              rw [E3, E4]
              generalize endM x l A s.lo j L1 m = L2 at *
              generalize endM x l A s.hi j H1 m = H2 at *
              generalize hP : partsR x l j m 0 1000 = P at *
              obtain ⟨ps, pb⟩ := P
              cases pb
              · cases L2 <;> cases H2 <;> simp [kp9, tb9, s46, rTbl_dec, rInt_decL, rSpn_enc, rKnd_k, hR, hBd, kJ, kM, hml, y2, hP, y2]
              · by_cases z1 : j = A
                · subst z1
                  cases L2 <;> cases H2 <;> simp [kp9, tb9, s46, rTbl_dec, rInt_decL, rSpn_enc, rKnd_k, hR, hBd, kJ, kM, hml, y2, hP, ha]
                · have z1' : ((j : Int) != (A : Int)) = true := by rw [bne_iff_ne]; omega
                  by_cases z2 : m = A
                  · subst z2
                    cases L2 <;> cases H2 <;> simp [kp9, tb9, s46, rTbl_dec, rInt_decL, rSpn_enc, rKnd_k, hR, hBd, kJ, kM, hml, y2, hP, z1', z1, ha]
                  · have z2' : ((m : Int) != (A : Int)) = true := by rw [bne_iff_ne]; omega
                    cases L2 <;> cases H2 <;> simp [kp9, tb9, s46, rTbl_dec, rInt_decL, rSpn_enc, rKnd_k, hR, hBd, kJ, kM, hml, y2, hP, z1', z1, z2', z2, decide_eq_beq9]
            · simp [kp9, tb9, y1]
          · rw [f1, f2]
            simp [kp9, tb9, s20, rKnd_k]
        · have hAB' : ((A : Int) != B) = true := by simpa using hAB
          rcases mix_cases hR ha hb (by omega) with ⟨mx, _⟩ | ⟨s0, mx, ⟨q1, q2, q3⟩, q4⟩
          · simp [kp9, tb9, s44, s25, s20, s21, s41, s45, s30, mix_eq, sold_eq, rTbl_enc, rTbl_dec, rThr_enc, rSpn_enc, rSpn_dec, rInt_decL, rInt_k, rKnd_k, spn_mk', spn_mk'', hn, h1, hR, hKI, hK0, w1, w2, w3, w4, w5, e1, e2, kA, kB, hAB', mx, so, s1, s2, s3]
            (generalize hLoopQ : Cx.loop _ _ _ = rLoopQ; apply loop_then hLoopQ (fun k => ⟨[(1, .d (.sl 1 (l.map rInt.enc))), (3, .loc 3 0), (9, .d (DI A)), (13, .loc 13 0), (16, .d (DB (endK x l A s.lo k))), (17, .d (DB (endK x l A s.hi k))), (18, .d (DI k))], [(3, [.d (.sl 2 (x.props.map rPrp.enc)), .d (.sl 2 (x.kinds.map rKnd.enc)), .d (DI x.purity)]), (13, [.d (DI s.lo), .d (DI s.hi)])], [], []⟩) x.kinds.length (by first | (simp; done) | (simp; rfl) | (simp; simp [*])); rotate_left; (show _ < 281474976710656; omega); rfl; rotate_left; all_goals clear hLoopQ)
            · intro j hj
              have y1 := wrap_small ((j : Int) + 1) (by omega) (by omega)
              have hjl : (j : Int) < x.kinds.length := by omega
              have kJ : kdOk x j := ⟨by omega, by omega⟩
              have E1 : endK x l A s.lo (j + 1) = endM x l A s.lo j (endK x l A s.lo j || (!decide (j = A) || decide (s.lo = 1000)) && explB x l A j s.lo) x.kinds.length := rfl
              have E2 : endK x l A s.hi (j + 1) = endM x l A s.hi j (endK x l A s.hi j || (!decide (j = A) || decide (s.hi = 1000)) && explB x l A j s.hi) x.kinds.length := rfl
              rw [E1, E2]
              generalize endK x l A s.lo j = L0 at *
              generalize endK x l A s.hi j = H0 at *
              simp [kp9, tb9, rKnd_k, hj, hjl]
              refine Eq.trans (congrArg (fun X => Cx.seqK _ _ (blkK 1 (Cx.seqK _ _ X))) (?_ : _ = some (AEx.normal, (⟨[(1, .d (.sl 1 (l.map rInt.enc))), (3, .loc 3 0), (9, .d (DI A)), (13, .loc 13 0), (16, .d (DB (L0 || (!decide (j = A) || decide (s.lo = 1000)) && explB x l A j s.lo))), (17, .d (DB (H0 || (!decide (j = A) || decide (s.hi = 1000)) && explB x l A j s.hi))), (18, .d (DI j))], [(3, [.d (.sl 2 (x.props.map rPrp.enc)), .d (.sl 2 (x.kinds.map rKnd.enc)), .d (DI x.purity)]), (13, [.d (DI s.lo), .d (DI s.hi)])], [], []⟩ : St)))) ?_
              · by_cases z1 : j = A
                · have z1' : ((j : Int) != (A : Int)) = false := by subst z1; simp
                  by_cases z2 : s.lo = 1000
                  · have z2' : (s.lo == 1000) = true := by simpa using z2
                    by_cases z3 : s.hi = 1000
                    · have z3' : (s.hi == 1000) = true := by simpa using z3
                      cases L0 <;> cases H0 <;> simp [kp9, tb9, s41, rTbl_dec, rInt_decL, rSpn_enc, hR, kA, kJ, sl, sh, pK, z1', z1, z2', z2, z3', z3]
                    · have z3' : (s.hi == 1000) = false := by simpa using z3
                      cases L0 <;> cases H0 <;> simp [kp9, tb9, s41, rTbl_dec, rInt_decL, rSpn_enc, hR, kA, kJ, sl, sh, pK, z1', z1, z2', z2, z3', z3]
                  · have z2' : (s.lo == 1000) = false := by simpa using z2
                    by_cases z3 : s.hi = 1000
                    · have z3' : (s.hi == 1000) = true := by simpa using z3
                      cases L0 <;> cases H0 <;> simp [kp9, tb9, s41, rTbl_dec, rInt_decL, rSpn_enc, hR, kA, kJ, sl, sh, pK, z1', z1, z2', z2, z3', z3]
                    · have z3' : (s.hi == 1000) = false := by simpa using z3
                      cases L0 <;> cases H0 <;> simp [kp9, tb9, s41, rTbl_dec, rInt_decL, rSpn_enc, hR, kA, kJ, sl, sh, pK, z1', z1, z2', z2, z3', z3]
                · have z1' : ((j : Int) != (A : Int)) = true := by rw [bne_iff_ne]; omega
                  cases L0 <;> cases H0 <;> simp [kp9, tb9, s41, rTbl_dec, rInt_decL, rSpn_enc, hR, kA, kJ, sl, sh, pK, z1', z1]
              generalize (L0 || (!decide (j = A) || decide (s.lo = 1000)) && explB x l A j s.lo) = L1
              generalize (H0 || (!decide (j = A) || decide (s.hi = 1000)) && explB x l A j s.hi) = H1
              simp [kp9, tb9, rKnd_k]
              (generalize hLoopQ : Cx.loop _ _ _ = rLoopQ; apply loop_then hLoopQ (fun m => ⟨[(1, .d (.sl 1 (l.map rInt.enc))), (3, .loc 3 0), (9, .d (DI A)), (13, .loc 13 0), (16, .d (DB (endM x l A s.lo j L1 m))), (17, .d (DB (endM x l A s.hi j H1 m))), (18, .d (DI j)), (19, .d (DI m))], [(3, [.d (.sl 2 (x.props.map rPrp.enc)), .d (.sl 2 (x.kinds.map rKnd.enc)), .d (DI x.purity)]), (13, [.d (DI s.lo), .d (DI s.hi)])], [], []⟩) x.kinds.length (by first | (simp; done) | (simp; rfl) | (simp; simp [*])); rotate_left; (show _ < 281474976710656; omega); rfl; rotate_left; all_goals clear hLoopQ)
              · intro m hm
                have y2 := wrap_small ((m : Int) + 1) (by omega) (by omega)
                have hml : (m : Int) < x.kinds.length := by omega
                have kM : kdOk x m := ⟨by omega, by omega⟩
                have E3 : endM x l A s.lo j L1 (m + 1) = (endM x l A s.lo j L1 m || ((partsR x l j m 0 1000).2 && !decide (j = A) && !decide (m = A)) && decide (s.lo = 0)) := rfl
                have E4 : endM x l A s.hi j H1 (m + 1) = (endM x l A s.hi j H1 m || ((partsR x l j m 0 1000).2 && !decide (j = A) && !decide (m = A)) && decide (s.hi = 0)) := rfl
                rw [E3, E4]
                generalize endM x l A s.lo j L1 m = L2 at *
                generalize endM x l A s.hi j H1 m = H2 at *
                generalize hP : partsR x l j m 0 1000 = P at *
                obtain ⟨ps, pb⟩ := P
                cases pb
                · cases L2 <;> cases H2 <;> simp [kp9, tb9, s46, rTbl_dec, rInt_decL, rSpn_enc, rKnd_k, hR, hBd, kJ, kM, hml, y2, hP, y2]
                · by_cases z1 : j = A
                  · subst z1
                    cases L2 <;> cases H2 <;> simp [kp9, tb9, s46, rTbl_dec, rInt_decL, rSpn_enc, rKnd_k, hR, hBd, kJ, kM, hml, y2, hP, ha]
                  · have z1' : ((j : Int) != (A : Int)) = true := by rw [bne_iff_ne]; omega
                    by_cases z2 : m = A
                    · subst z2
                      cases L2 <;> cases H2 <;> simp [kp9, tb9, s46, rTbl_dec, rInt_decL, rSpn_enc, rKnd_k, hR, hBd, kJ, kM, hml, y2, hP, z1', z1, ha]
                    · have z2' : ((m : Int) != (A : Int)) = true := by rw [bne_iff_ne]; omega
                      cases L2 <;> cases H2 <;> simp [kp9, tb9, s46, rTbl_dec, rInt_decL, rSpn_enc, rKnd_k, hR, hBd, kJ, kM, hml, y2, hP, z1', z1, z2', z2, decide_eq_beq9]
              · simp [kp9, tb9, y1]
            · rw [f1, f2]
              simp [kp9, tb9, s20, rKnd_k]
          · have r0 : True := trivial
            have r1 : ¬ s0.lo < 0 := by omega
            have r2 : ¬ 1000 < s0.hi := by omega
            have r3 : ¬ s0.hi < s0.lo := by omega
            have am := among_bd (n := y.c) q2
            have x1 := ((q4 s0.lo).1 ⟨Int.le_refl _, q2⟩).2
            have x2 := ((q4 s0.hi).1 ⟨q2, Int.le_refl _⟩).2
            have x3 := ((q4 (amongV s0 y.c)).1 am).2
            have g1 : ptOk s0.lo := ⟨by omega, by omega⟩
            have g2 : ptOk s0.hi := ⟨by omega, by omega⟩
            have g3 : ptOk (amongV s0 y.c) := ⟨by omega, by omega⟩
            have p1 : (0 ≤ s0.lo ∧ s0.lo ≤ s0.hi ∧ s0.hi ≤ 1000000) ∧ 0 ≤ y.c ∧ y.c ≤ 1000000 := ⟨⟨q1, q2, by omega⟩, c0, by omega⟩
            have p2 : (0 : Int) ≤ y.c := c0
            have p3 : y.c ≤ 1000000 := by omega
            simp [kp9, tb9, s44, s25, s20, s21, s41, s45, s30, mix_eq, sold_eq, rTbl_enc, rTbl_dec, rThr_enc, rSpn_enc, rSpn_dec, rInt_decL, rInt_k, rKnd_k, spn_mk', spn_mk'', hn, h1, hR, hKI, hK0, w1, w2, w3, w4, w5, e1, e2, kA, kB, hAB', mx, so, r1, r2, r3, x1, x2, x3, g1, g2, g3, p1, p2, p3, s1, s2, s3]
            (generalize hLoopQ : Cx.loop _ _ _ = rLoopQ; apply loop_then hLoopQ (fun k => ⟨[(1, .d (.sl 1 (l.map rInt.enc))), (3, .loc 3 0), (9, .d (DI A)), (13, .loc 13 0), (16, .d (DB (endK x l A s.lo k))), (17, .d (DB (endK x l A s.hi k))), (18, .d (DI k))], [(3, [.d (.sl 2 (x.props.map rPrp.enc)), .d (.sl 2 (x.kinds.map rKnd.enc)), .d (DI x.purity)]), (13, [.d (DI s.lo), .d (DI s.hi)])], [], []⟩) x.kinds.length (by first | (simp; done) | (simp; rfl) | (simp; simp [*])); rotate_left; (show _ < 281474976710656; omega); rfl; rotate_left; all_goals clear hLoopQ)
            · intro j hj
              have y1 := wrap_small ((j : Int) + 1) (by omega) (by omega)
              have hjl : (j : Int) < x.kinds.length := by omega
              have kJ : kdOk x j := ⟨by omega, by omega⟩
              have E1 : endK x l A s.lo (j + 1) = endM x l A s.lo j (endK x l A s.lo j || (!decide (j = A) || decide (s.lo = 1000)) && explB x l A j s.lo) x.kinds.length := rfl
              have E2 : endK x l A s.hi (j + 1) = endM x l A s.hi j (endK x l A s.hi j || (!decide (j = A) || decide (s.hi = 1000)) && explB x l A j s.hi) x.kinds.length := rfl
              rw [E1, E2]
              generalize endK x l A s.lo j = L0 at *
              generalize endK x l A s.hi j = H0 at *
              simp [kp9, tb9, rKnd_k, hj, hjl]
              refine Eq.trans (congrArg (fun X => Cx.seqK _ _ (blkK 1 (Cx.seqK _ _ X))) (?_ : _ = some (AEx.normal, (⟨[(1, .d (.sl 1 (l.map rInt.enc))), (3, .loc 3 0), (9, .d (DI A)), (13, .loc 13 0), (16, .d (DB (L0 || (!decide (j = A) || decide (s.lo = 1000)) && explB x l A j s.lo))), (17, .d (DB (H0 || (!decide (j = A) || decide (s.hi = 1000)) && explB x l A j s.hi))), (18, .d (DI j))], [(3, [.d (.sl 2 (x.props.map rPrp.enc)), .d (.sl 2 (x.kinds.map rKnd.enc)), .d (DI x.purity)]), (13, [.d (DI s.lo), .d (DI s.hi)])], [], []⟩ : St)))) ?_
              · by_cases z1 : j = A
                · have z1' : ((j : Int) != (A : Int)) = false := by subst z1; simp
                  by_cases z2 : s.lo = 1000
                  · have z2' : (s.lo == 1000) = true := by simpa using z2
                    by_cases z3 : s.hi = 1000
                    · have z3' : (s.hi == 1000) = true := by simpa using z3
                      cases L0 <;> cases H0 <;> simp [kp9, tb9, s41, rTbl_dec, rInt_decL, rSpn_enc, hR, kA, kJ, sl, sh, pK, z1', z1, z2', z2, z3', z3]
                    · have z3' : (s.hi == 1000) = false := by simpa using z3
                      cases L0 <;> cases H0 <;> simp [kp9, tb9, s41, rTbl_dec, rInt_decL, rSpn_enc, hR, kA, kJ, sl, sh, pK, z1', z1, z2', z2, z3', z3]
                  · have z2' : (s.lo == 1000) = false := by simpa using z2
                    by_cases z3 : s.hi = 1000
                    · have z3' : (s.hi == 1000) = true := by simpa using z3
                      cases L0 <;> cases H0 <;> simp [kp9, tb9, s41, rTbl_dec, rInt_decL, rSpn_enc, hR, kA, kJ, sl, sh, pK, z1', z1, z2', z2, z3', z3]
                    · have z3' : (s.hi == 1000) = false := by simpa using z3
                      cases L0 <;> cases H0 <;> simp [kp9, tb9, s41, rTbl_dec, rInt_decL, rSpn_enc, hR, kA, kJ, sl, sh, pK, z1', z1, z2', z2, z3', z3]
                · have z1' : ((j : Int) != (A : Int)) = true := by rw [bne_iff_ne]; omega
                  cases L0 <;> cases H0 <;> simp [kp9, tb9, s41, rTbl_dec, rInt_decL, rSpn_enc, hR, kA, kJ, sl, sh, pK, z1', z1]
              generalize (L0 || (!decide (j = A) || decide (s.lo = 1000)) && explB x l A j s.lo) = L1
              generalize (H0 || (!decide (j = A) || decide (s.hi = 1000)) && explB x l A j s.hi) = H1
              simp [kp9, tb9, rKnd_k]
              (generalize hLoopQ : Cx.loop _ _ _ = rLoopQ; apply loop_then hLoopQ (fun m => ⟨[(1, .d (.sl 1 (l.map rInt.enc))), (3, .loc 3 0), (9, .d (DI A)), (13, .loc 13 0), (16, .d (DB (endM x l A s.lo j L1 m))), (17, .d (DB (endM x l A s.hi j H1 m))), (18, .d (DI j)), (19, .d (DI m))], [(3, [.d (.sl 2 (x.props.map rPrp.enc)), .d (.sl 2 (x.kinds.map rKnd.enc)), .d (DI x.purity)]), (13, [.d (DI s.lo), .d (DI s.hi)])], [], []⟩) x.kinds.length (by first | (simp; done) | (simp; rfl) | (simp; simp [*])); rotate_left; (show _ < 281474976710656; omega); rfl; rotate_left; all_goals clear hLoopQ)
              · intro m hm
                have y2 := wrap_small ((m : Int) + 1) (by omega) (by omega)
                have hml : (m : Int) < x.kinds.length := by omega
                have kM : kdOk x m := ⟨by omega, by omega⟩
                have E3 : endM x l A s.lo j L1 (m + 1) = (endM x l A s.lo j L1 m || ((partsR x l j m 0 1000).2 && !decide (j = A) && !decide (m = A)) && decide (s.lo = 0)) := rfl
                have E4 : endM x l A s.hi j H1 (m + 1) = (endM x l A s.hi j H1 m || ((partsR x l j m 0 1000).2 && !decide (j = A) && !decide (m = A)) && decide (s.hi = 0)) := rfl
                rw [E3, E4]
                generalize endM x l A s.lo j L1 m = L2 at *
                generalize endM x l A s.hi j H1 m = H2 at *
                generalize hP : partsR x l j m 0 1000 = P at *
                obtain ⟨ps, pb⟩ := P
                cases pb
                · cases L2 <;> cases H2 <;> simp [kp9, tb9, s46, rTbl_dec, rInt_decL, rSpn_enc, rKnd_k, hR, hBd, kJ, kM, hml, y2, hP, y2]
                · by_cases z1 : j = A
                  · subst z1
                    cases L2 <;> cases H2 <;> simp [kp9, tb9, s46, rTbl_dec, rInt_decL, rSpn_enc, rKnd_k, hR, hBd, kJ, kM, hml, y2, hP, ha]
                  · have z1' : ((j : Int) != (A : Int)) = true := by rw [bne_iff_ne]; omega
                    by_cases z2 : m = A
                    · subst z2
                      cases L2 <;> cases H2 <;> simp [kp9, tb9, s46, rTbl_dec, rInt_decL, rSpn_enc, rKnd_k, hR, hBd, kJ, kM, hml, y2, hP, z1', z1, ha]
                    · have z2' : ((m : Int) != (A : Int)) = true := by rw [bne_iff_ne]; omega
                      cases L2 <;> cases H2 <;> simp [kp9, tb9, s46, rTbl_dec, rInt_decL, rSpn_enc, rKnd_k, hR, hBd, kJ, kM, hml, y2, hP, z1', z1, z2', z2, decide_eq_beq9]
              · simp [kp9, tb9, y1]
            · rw [f1, f2]
              simp [kp9, tb9, s20, rKnd_k]
    · have h2 : (readE x l != 0) = true := by simpa using h1
      have hS : setsR x l = ([], readE x l) := by unfold setsR; rw [if_pos h1]
      simp [kp9, tb9, s25, s44, s20, sets_eq, rTbl_enc, rTbl_dec, rThr_enc, rInt_decL, rInt_k, hn, hS, h1, h2]
  · cases hr
end Go.Proofs.YtkldmnladkcfeaaGreatDoor
