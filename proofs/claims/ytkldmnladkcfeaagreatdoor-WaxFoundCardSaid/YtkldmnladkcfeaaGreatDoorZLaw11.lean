/-
  The law WaxFound: from which part on a mixture is told. Conditions: the names are strings; what is drawn is of its type.
-/
import Derived.Test.YtkldmnladkcfeaaGreatDoorZLawT
namespace Go.Proofs.YtkldmnladkcfeaaGreatDoor
open Go.RowKit
set_option linter.unusedSimpArgs false
set_option linter.unusedVariables false
def kp11 (r : Nat) : List (Nat × Option Nat) := match r with
  | 0 => [(2, none), (3, none)]
  | 1 => [(2, none), (3, none), (26, none)]
  | 2 => [(4, none)]
  | 3 => [(2, none), (3, none), (5, none)]
  | 4 => [(2, none), (3, none), (5, none), (6, none)]
  | 5 => [(2, none), (3, none), (5, none), (6, none), (7, none), (8, none)]
  | 6 => [(2, none), (3, none), (5, none), (6, none), (7, none), (8, none), (74, none)]
  | 7 => [(4, none)]
  | 8 => [(2, none), (5, none), (6, none), (7, none), (8, none), (9, none)]
  | 9 => [(2, none), (5, none), (6, none), (7, none), (8, none), (9, none), (10, none)]
  | 10 => [(2, none), (5, none), (6, none), (7, none), (9, none), (10, none), (81, none)]
  | 11 => [(2, none), (5, none), (6, none), (9, none), (10, none)]
  | 12 => [(2, none), (5, none), (6, none), (9, none), (10, none), (11, none)]
  | 13 => [(2, none), (5, none), (6, none), (9, none), (10, none), (11, none), (12, none)]
  | 14 => [(2, none), (5, none), (6, none), (9, none), (10, none), (11, none), (12, none), (89, none)]
  | 15 => [(2, none), (5, none), (6, none), (9, none), (10, none), (11, none), (12, none)]
  | 16 => [(2, none), (5, none), (6, none), (9, none), (10, none), (11, none), (12, none), (13, none), (14, none), (15, none)]
  | 17 => [(2, none), (5, none), (6, none), (9, none), (10, none), (11, none), (12, none), (16, none), (17, none)]
  | 18 => [(2, none), (5, none), (6, none), (9, none), (10, none), (11, none), (12, none)]
  | 19 => [(4, none)]
  | _ => []
def tb11 : List (Nat × (List D → Option D)) := (39, s39) :: (20, s20) :: (23, s23) :: (47, s47) :: []
theorem dtb11 : DelOk Tryz.prog (delOf tb11) := (del_cons (del_cons (del_cons (del_cons del_nil call47 ok47) call23 ok23) call20 ok20) call39 ok39)
def df11 (r : Nat) : List (Nat × Nat) := if r = 16 then [(7, 24), (11, 24), (14, 24), (16, 24), (20, 24), (16, 25), (20, 25)] else []
def fndB (x : Tbl) (m : Mlt) : Nat := (mltA x m + 1 + m.b.toNat % (x.kinds.length - 1)) % x.kinds.length
theorem fnd_b {x : Tbl} (m : Mlt) (h2 : 2 ≤ x.kinds.length) : fndB x m < x.kinds.length ∧ mltA x m ≠ fndB x m := by
  have h1 : mltA x m < x.kinds.length := Nat.mod_lt _ (by omega)
  have h3 := Nat.mod_lt m.b.toNat (show 0 < x.kinds.length - 1 by omega)
  unfold fndB
  refine ⟨Nat.mod_lt _ (by omega), fun e => ?_⟩
  generalize m.b.toNat % (x.kinds.length - 1) = q at *
  by_cases c : mltA x m + 1 + q < x.kinds.length
  · rw [Nat.mod_eq_of_lt c] at e; omega
  · rw [Nat.mod_eq_sub_mod (by omega), Nat.mod_eq_of_lt (by omega)] at e; omega
def s11 : List D → Option D := sp2 (cAgg rTbl) (cAgg rMlt) cBool fun x m => if namesOk x ∧ mltOk m then some true else none
set_option maxHeartbeats 8000000 in
theorem ok11 : ∀ ds d, s11 ds = some d → PureC Tryz.prog 11 ds d := ok_sp2 fun x m r hr => by
  split at hr
  · rename_i hc
    cases hr
    obtain ⟨hn, hm⟩ := hc
    refine pure_of_call (mkCxE_ok dtb11 eff_nil keys_nil (sq := []) (fun _ _ _ h => by cases h) 147 kp11 [] df11 (fun _ => 0)) Tryz.func11 rfl rfl (Nat.le_of_ble_eq_true rfl) (by kernel_rfl) ?_
    rw [Tryz.results11]
    by_cases hT : okT x
    · have hv : validB x = true := by unfold validB; exact decide_eq_true hT
      have f := fine_of hT
      have hk1 := f.k1
      have hk8 := f.k8
      have hp5 := f.p5
      by_cases h2 : (x.kinds.length : Int) < 2
      · simp [kp11, df11, tb11, s39, s20, rTbl_enc, rTbl_dec, rMlt_enc, rKnd_k, hv, h2]
      · have h2' : 2 ≤ x.kinds.length := by omega
        obtain ⟨hb, hab⟩ := fnd_b m h2'
        have ha := mlt_a f m
        obtain ⟨⟨a0, a1⟩, ⟨b0, b1⟩, ⟨q0, q1⟩, hnu, her, r0, r1⟩ := id hm
        have hKI : ¬ (x.kinds.length : Int) = 0 := by omega
        have hK0 : ¬ x.kinds = [] := fun h => by rw [h] at hk1; simp at hk1
        have w1 := wrap_small m.a (by omega) (by omega)
        have w2 := wrap_small m.b (by omega) (by omega)
        have w3 := wrap_small m.parts (by omega) (by omega)
        have eA : m.a.tmod x.kinds.length = (mltA x m : Int) := mod_nat a0
        have eQ : m.parts.tmod 1000 = m.parts % 1000 := Int.tmod_eq_emod_of_nonneg q0
        have w4 := wrap_small (mltA x m : Int) (by omega) (by omega)
        have w5 := wrap_small ((mltA x m : Int) + 1) (by omega) (by omega)
        have w6 := wrap_small ((x.kinds.length : Int) - 1) (by omega) (by omega)
        have hr3 := Nat.mod_lt m.b.toNat (show 0 < x.kinds.length - 1 by omega)
        have eB1 : m.b.tmod ((x.kinds.length : Int) - 1) = ((m.b.toNat % (x.kinds.length - 1) : Nat) : Int) := by
          rw [show (x.kinds.length : Int) - 1 = ((x.kinds.length - 1 : Nat) : Int) by omega]; exact mod_nat b0
        have w7 := wrap_small ((m.b.toNat % (x.kinds.length - 1) : Nat) : Int) (by omega) (by omega)
        have w8 := wrap_small ((mltA x m : Int) + 1 + ((m.b.toNat % (x.kinds.length - 1) : Nat) : Int)) (by omega) (by omega)
        have eB2 : ((mltA x m : Int) + 1 + ((m.b.toNat % (x.kinds.length - 1) : Nat) : Int)).tmod x.kinds.length = (fndB x m : Int) := by
          rw [mod_nat (by omega)]; unfold fndB; congr 2
        have w9 := wrap_small (fndB x m : Int) (by omega) (by omega)
        have hK1 : ¬ (x.kinds.length : Int) - 1 = 0 := by omega
        have w10 := wrap_small (m.parts % 1000) (by omega) (by omega)
        have w11 := wrap_small (1 + m.parts % 1000) (by omega) (by omega)
        have hD : ∃ (d e : Int) (fo : Bool), detR x (mltA x m) (fndB x m) = (d, e) ∧ ((e = 0 ∧ (1 ≤ d ∧ d ≤ 1000) ∧ fo = decide (d ≤ 1 + m.parts % 1000)) ∨ (e = 9 ∧ fo = false)) ∧ toldB x (mltA x m) (fndB x m) (1 + m.parts % 1000) = fo := by
          rcases det_cases hT ha hb hab with ⟨e1, e2⟩ | ⟨d, e1, e2, e3⟩
          · exact ⟨0, 9, false, e1, .inr ⟨rfl, rfl⟩, e2 _ (by omega) (by omega)⟩
          · exact ⟨d, 0, _, e1, .inl ⟨rfl, e2, rfl⟩, e3 _ (by omega) (by omega)⟩
        obtain ⟨d, e, fo, d1, d2, d3⟩ := hD
        have hcm : commB x (mltA x m) (fndB x m) (1 + m.parts % 1000) = !fo := by rw [comm_eq f ha hb ⟨by omega, by omega⟩, d3]
        generalize hA : mltA x m = A at *
        generalize hB : fndB x m = B at *
        generalize hQ : m.b.toNat % (x.kinds.length - 1) = Q at *
        have hNp : 1 ≤ 1 + m.parts % 1000 ∧ 1 + m.parts % 1000 ≤ 1000 := by omega
        generalize hN : 1 + m.parts % 1000 = n at *
        rcases d2 with ⟨rfl, ⟨d4, d5⟩, d6⟩ | ⟨rfl, d6⟩
        · have d4' : ¬ d < 1 := by omega
          have d5' : ¬ 1000 < d := by omega
          simp [kp11, df11, tb11, s39, s20, s23, det_eq, rTbl_enc, rTbl_dec, rMlt_enc, rKnd_k, hv, hn, h2, hKI, hK0, hK1, w1, w2, w3, w4, w5, w6, w7, w8, w9, w10, w11, eA, eB1, eB2, eQ, hN, d1, d4', d5', ← d6]
          (generalize hLoopQ : Cx.loop _ _ _ = rLoopQ; apply loop_then hLoopQ (fun j => ⟨[(2, .loc 2 0), (5, .d (DI A)), (6, .d (DI B)), (9, .d (DI n)), (10, .d (DB fo)), (11, .d (DB ((List.range j).all fun p => commAt x A B n p))), (12, .d (DI j))], [(2, [.d (.sl 2 (x.props.map rPrp.enc)), .d (.sl 2 (x.kinds.map rKnd.enc)), .d (DI x.purity)])], [], []⟩) x.props.length (by first | (simp; done) | (simp; rfl) | (simp; simp [*])); rotate_left; (show _ < 281474976710656; omega); rfl; rotate_left; all_goals clear hLoopQ)
          · intro j hj
            have y1 := wrap_small ((j : Int) + 1) (by omega) (by omega)
            have hjl : (j : Int) < x.props.length := by omega
            have hAI : (A : Int) < x.kinds.length := by omega
            obtain ⟨hpa, ea, p1, p2, p3⟩ := f.rng ha hj
            have hpaI : (j : Int) < x.kinds[A].props.length := by omega
            have eE := errV_at hj
            have hev := f.errv hj
            have kA : kdOk x A := ⟨by omega, by omega⟩
            have kB : kdOk x B := ⟨by omega, by omega⟩
            have kN : ptOk n := ⟨by omega, by omega⟩
            have kP : ppOk x j := ⟨by omega, by omega⟩
            obtain ⟨v1, v2, v3, v4⟩ := val_bd f hj hb ha kN
            have vlo : (valV x j B A n).lo = n * (rngV x B j).lo + (1000 - n) * (rngV x A j).lo := rfl
            have vhi : (valV x j B A n).hi = n * (rngV x B j).hi + (1000 - n) * (rngV x A j).hi := rfl
            have eS : ((List.range (j + 1)).all fun p => commAt x A B n p) = (((List.range j).all fun p => commAt x A B n p) && commAt x A B n j) := by simp [List.range_succ]
            rw [eS]
            have eC : commAt x A B n j = decide (max ((valV x j B A n).lo - 1000 * errV x j) (1000 * (rngV x A j).lo - 1000 * errV x j) ≤ min ((valV x j B A n).hi + 1000 * errV x j) (1000 * (rngV x A j).hi + 1000 * errV x j)) := rfl
            rw [eC]
            generalize ((List.range j).all fun p => commAt x A B n p) = bb at *
            have z0 := wrap_small (1000 * errV x j) (by omega) (by omega)
            have z1 := wrap_small (1000 * (rngV x A j).lo) (by omega) (by omega)
            have z2 := wrap_small (1000 * (rngV x A j).hi) (by omega) (by omega)
            have z3 := wrap_small ((valV x j B A n).lo - 1000 * errV x j) (by omega) (by omega)
            have z4 := wrap_small ((valV x j B A n).hi + 1000 * errV x j) (by omega) (by omega)
            have z5 := wrap_small (1000 * (rngV x A j).lo - 1000 * errV x j) (by omega) (by omega)
            have z6 := wrap_small (1000 * (rngV x A j).hi + 1000 * errV x j) (by omega) (by omega)
            have m1 : ∀ a b : Int, (if a < b then b else a) = max a b := fun a b => by omega
            have m2 : ∀ a b : Int, (if b < a then b else a) = min a b := fun a b => by omega
            cases bb <;> simp [kp11, df11, tb11, s47, rTbl_dec, rKnd_enc, rSpn_enc, rPrp_enc, rInt_enc, hT, kA, kB, kN, kP, hj, hjl, ha, hAI, hpa, hpaI, ea, eE, y1, z0, z1, z2, z3, z4, z5, z6, m1, m2] <;> (try (split <;> omega))
          · have hx : ((List.range x.props.length).all fun p => commAt x A B n p) = commB x A B n := rfl
            rw [hx, hcm]
            simp [kp11, df11, tb11, s20, rPrp_k]
        · subst d6
          simp [kp11, df11, tb11, s39, s20, s23, det_eq, rTbl_enc, rTbl_dec, rMlt_enc, rKnd_k, hv, hn, h2, hKI, hK0, hK1, w1, w2, w3, w4, w5, w6, w7, w8, w9, w10, w11, eA, eB1, eB2, eQ, hN, d1, d3]
          (generalize hLoopQ : Cx.loop _ _ _ = rLoopQ; apply loop_then hLoopQ (fun j => ⟨[(2, .loc 2 0), (5, .d (DI A)), (6, .d (DI B)), (9, .d (DI n)), (10, .d (DB false)), (11, .d (DB ((List.range j).all fun p => commAt x A B n p))), (12, .d (DI j))], [(2, [.d (.sl 2 (x.props.map rPrp.enc)), .d (.sl 2 (x.kinds.map rKnd.enc)), .d (DI x.purity)])], [], []⟩) x.props.length (by first | (simp; done) | (simp; rfl) | (simp; simp [*])); rotate_left; (show _ < 281474976710656; omega); rfl; rotate_left; all_goals clear hLoopQ)
          · intro j hj
            have y1 := wrap_small ((j : Int) + 1) (by omega) (by omega)
            have hjl : (j : Int) < x.props.length := by omega
            have hAI : (A : Int) < x.kinds.length := by omega
            obtain ⟨hpa, ea, p1, p2, p3⟩ := f.rng ha hj
            have hpaI : (j : Int) < x.kinds[A].props.length := by omega
            have eE := errV_at hj
            have hev := f.errv hj
            have kA : kdOk x A := ⟨by omega, by omega⟩
            have kB : kdOk x B := ⟨by omega, by omega⟩
            have kN : ptOk n := ⟨by omega, by omega⟩
            have kP : ppOk x j := ⟨by omega, by omega⟩
            obtain ⟨v1, v2, v3, v4⟩ := val_bd f hj hb ha kN
            have vlo : (valV x j B A n).lo = n * (rngV x B j).lo + (1000 - n) * (rngV x A j).lo := rfl
            have vhi : (valV x j B A n).hi = n * (rngV x B j).hi + (1000 - n) * (rngV x A j).hi := rfl
            have eS : ((List.range (j + 1)).all fun p => commAt x A B n p) = (((List.range j).all fun p => commAt x A B n p) && commAt x A B n j) := by simp [List.range_succ]
            rw [eS]
            have eC : commAt x A B n j = decide (max ((valV x j B A n).lo - 1000 * errV x j) (1000 * (rngV x A j).lo - 1000 * errV x j) ≤ min ((valV x j B A n).hi + 1000 * errV x j) (1000 * (rngV x A j).hi + 1000 * errV x j)) := rfl
            rw [eC]
            generalize ((List.range j).all fun p => commAt x A B n p) = bb at *
            have z0 := wrap_small (1000 * errV x j) (by omega) (by omega)
            have z1 := wrap_small (1000 * (rngV x A j).lo) (by omega) (by omega)
            have z2 := wrap_small (1000 * (rngV x A j).hi) (by omega) (by omega)
            have z3 := wrap_small ((valV x j B A n).lo - 1000 * errV x j) (by omega) (by omega)
            have z4 := wrap_small ((valV x j B A n).hi + 1000 * errV x j) (by omega) (by omega)
            have z5 := wrap_small (1000 * (rngV x A j).lo - 1000 * errV x j) (by omega) (by omega)
            have z6 := wrap_small (1000 * (rngV x A j).hi + 1000 * errV x j) (by omega) (by omega)
            have m1 : ∀ a b : Int, (if a < b then b else a) = max a b := fun a b => by omega
            have m2 : ∀ a b : Int, (if b < a then b else a) = min a b := fun a b => by omega
            cases bb <;> simp [kp11, df11, tb11, s47, rTbl_dec, rKnd_enc, rSpn_enc, rPrp_enc, rInt_enc, hT, kA, kB, kN, kP, hj, hjl, ha, hAI, hpa, hpaI, ea, eE, y1, z0, z1, z2, z3, z4, z5, z6, m1, m2] <;> (try (split <;> omega))
          · have hx : ((List.range x.props.length).all fun p => commAt x A B n p) = commB x A B n := rfl
            rw [hx, hcm]
            simp [kp11, df11, tb11, s20, rPrp_k]
    · have hv : validB x = false := by unfold validB; exact decide_eq_false hT
      simp [kp11, df11, tb11, s39, s20, rTbl_enc, rTbl_dec, rMlt_enc, hv]
  · cases hr
end Go.Proofs.YtkldmnladkcfeaaGreatDoor
