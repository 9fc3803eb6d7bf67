/-
  Melted: a mixture of a table, and what is read of it. Conditions: none.
-/
import Derived.Test.YtkldmnladkcfeaaGreatDoorZLawT
namespace Go.Proofs.YtkldmnladkcfeaaGreatDoor
open Go.RowKit
set_option linter.unusedSimpArgs false
set_option linter.unusedVariables false
def kp40 (r : Nat) : List (Nat × Option Nat) := match r with
  | 0 => [(2, none), (3, none)]
  | 1 => [(2, none), (3, none), (8, none), (9, none), (10, none)]
  | 2 => [(2, none), (3, none), (8, none), (9, none), (10, none), (39, none)]
  | 3 => [(2, none), (3, none), (8, none), (9, none), (10, none)]
  | 4 => [(2, none), (3, none), (8, none), (9, none), (10, none), (11, some 1)]
  | 5 => [(2, none), (3, none), (8, none), (9, none), (10, none), (11, some 1), (12, none)]
  | 6 => [(2, none), (3, none), (8, none), (9, none), (10, none), (11, some 1), (12, none), (44, none)]
  | 7 => [(2, none), (3, none), (8, none), (9, none), (10, none), (11, some 1), (12, none)]
  | 8 => [(2, none), (3, none), (8, none), (9, none), (10, none), (11, some 1), (12, none), (13, none)]
  | 9 => [(2, none), (3, none), (8, none), (9, none), (10, none), (11, some 1), (12, none), (13, none), (14, none)]
  | 10 => [(2, none), (3, none), (8, none), (9, none), (10, none), (11, some 1), (12, none), (13, none), (14, none), (15, none)]
  | 11 => [(2, none), (3, none), (8, none), (9, none), (10, none), (11, some 1), (12, none), (13, none), (14, none), (15, none), (98, none)]
  | 12 => [(2, none), (3, none), (8, none), (9, none), (10, none), (11, some 1), (12, none), (15, none)]
  | 13 => [(2, none), (3, none), (8, none), (9, none), (10, none), (11, some 1), (12, none), (13, none), (14, none), (15, none), (100, none)]
  | 14 => [(2, none), (3, none), (8, none), (9, none), (10, none), (11, some 1), (12, none), (13, none), (14, none), (16, none)]
  | 15 => [(2, none), (3, none), (8, none), (9, none), (10, none), (11, some 1), (12, none), (13, none), (14, none), (16, none), (110, none)]
  | 16 => [(2, none), (3, none), (8, none), (9, none), (10, none), (11, some 1), (12, none), (13, none), (14, none), (16, none)]
  | 17 => [(2, none), (3, none), (8, none), (9, none), (10, none), (11, some 1), (12, none), (16, none), (17, none)]
  | 18 => [(2, none), (3, none), (8, none), (9, none), (10, none), (11, some 1), (12, none), (15, none)]
  | 19 => [(2, none), (3, none), (8, none), (9, none), (10, none), (11, some 1), (12, none), (15, none), (130, none)]
  | 20 => [(2, none), (3, none), (8, none), (9, none), (10, none), (11, some 1), (12, none), (15, none)]
  | 21 => [(2, none), (3, none), (8, none), (9, none), (10, none), (11, some 1), (12, none)]
  | 22 => [(4, none), (5, none), (6, none), (7, some 1)]
  | _ => []
def cTup4 {α β γ δ : Type} (A : Cod α) (B : Cod β) (C : Cod γ) (E : Cod δ) : Cod (α × β × γ × δ) := ⟨fun x => .tup [A.enc x.1, B.enc x.2.1, C.enc x.2.2.1, E.enc x.2.2.2], fun d => match d with | .tup [a, b, c, e] => (match A.dec a, B.dec b, C.dec c, E.dec e with | some x, some y, some z, some u => some (x, y, z, u) | _, _, _, _ => none) | _ => none, fun d x h => by
  split at h
  · split at h
    · rename_i p q r u h1 h2 h3 h4; cases h; exact LImp.tup ⟨_, _, rfl, A.ed _ _ h1, _, _, rfl, B.ed _ _ h2, _, _, rfl, C.ed _ _ h3, _, _, rfl, E.ed _ _ h4, rfl⟩
    · cases h
  · cases h⟩
theorem cTup4_enc {α β γ δ : Type} (A : Cod α) (B : Cod β) (C : Cod γ) (E : Cod δ) (x : α × β × γ × δ) : (cTup4 A B C E).enc x = .tup [A.enc x.1, B.enc x.2.1, C.enc x.2.2.1, E.enc x.2.2.2] := rfl
theorem cTup4_dec {α β γ δ : Type} (A : Cod α) (B : Cod β) (C : Cod γ) (E : Cod δ) (a b c e : D) : (cTup4 A B C E).dec (.tup [a, b, c, e]) = (match A.dec a, B.dec b, C.dec c, E.dec e with | some x, some y, some z, some u => some (x, y, z, u) | _, _, _, _ => none) := rfl
attribute [simp] cTup4_enc cTup4_dec
def g40 : List (Nat × (List D → Option D)) := (48, s48) :: (45, s45) :: []
theorem dg40 : DelOk Tryz.prog (delOf g40) := del_cons (del_cons del_nil call45 ok45) call48 ok48
def s40 : List D → Option D := sp2 (cAgg rTbl) (cAgg rMlt) (cTup4 cInt cInt cInt (cList rInt)) fun x m => if okT x ∧ mltOk m then some ((mltA x m : Int), (mltB x m : Int), mltN x m, mltK x m x.props.length) else none
set_option maxHeartbeats 8000000 in
theorem ok40 : ∀ ds d, s40 ds = some d → PureC Tryz.prog 40 ds d := ok_sp2 fun x m r hr => by
  split at hr
  · rename_i hc
    cases hr
    obtain ⟨hT, hm⟩ := hc
    have f := fine_of hT
    have ha := mlt_a f m
    have hb := mlt_b f m
    obtain ⟨n1, n2⟩ := mlt_n x hm
    have hk1 := f.k1
    have hk8 := f.k8
    have hp5 := f.p5
    obtain ⟨⟨a0, a1⟩, ⟨b0, b1⟩, ⟨q0, q1⟩, hnu, her, r0, r1⟩ := id hm
    have hKI : ¬ (x.kinds.length : Int) = 0 := by omega
    have hK0 : ¬ x.kinds = [] := fun h => by rw [h] at hk1; simp at hk1
    have w1 := wrap_small m.a (by omega) (by omega)
    have w2 := wrap_small m.b (by omega) (by omega)
    have w3 := wrap_small m.parts (by omega) (by omega)
    have eA : m.a.tmod x.kinds.length = (mltA x m : Int) := mod_nat a0
    have eB : m.b.tmod x.kinds.length = (mltB x m : Int) := mod_nat b0
    have eQ : m.parts.tmod 1000 = m.parts % 1000 := Int.tmod_eq_emod_of_nonneg q0
    have w4 := wrap_small (mltA x m : Int) (by omega) (by omega)
    have w5 := wrap_small (mltB x m : Int) (by omega) (by omega)
    have w6 := wrap_small (m.parts % 1000) (by omega) (by omega)
    have w7 := wrap_small (1 + m.parts % 1000) (by omega) (by omega)
    refine pure_of_dec (cTup4 cInt cInt cInt (cList rInt)) ((mltA x m : Int), (mltB x m : Int), mltN x m, mltK x m x.props.length) (mkCx_ok dg40 139 kp40 []) Tryz.func40 rfl rfl (Nat.le_of_ble_eq_true rfl) (by kernel_rfl) ?_
    rw [Tryz.results40]
    have key : ∀ (σ : St) , True := fun _ => trivial
    by_cases e : mltA x m = mltB x m
    · have eN : mltN x m = 1000 := by unfold mltN; rw [if_pos e]
      have e' : ((mltA x m : Int) == (mltB x m : Int)) = true := by rw [e]; exact beq_self_eq_true _
      simp [kp40, rTbl_enc, rMlt_enc, rKnd_k, hKI, hK0, w1, w2, w3, w4, w5, w6, w7, eA, eB, eQ, e']
      (generalize hLoopQ : Cx.loop _ _ _ = rLoopQ; apply loop_then hLoopQ (fun k => ⟨[(2, .loc 2 0), (3, .loc 3 0), (8, .d (DI (mltA x m : Int))), (9, .d (DI (mltB x m : Int))), (10, .d (DI (mltN x m))), (11, .sl 1 ((mltK x m k).map rInt.enc) (.tok 11)), (12, .d (DI k))], [(2, [.d (.sl 2 (x.props.map rPrp.enc)), .d (.sl 2 (x.kinds.map rKnd.enc)), .d (DI x.purity)]), (3, [.d (.v (.int .u8 m.a)), .d (.v (.int .u8 m.b)), .d (.v (.int .u16 m.parts)), .d (.sl 1 (m.numbers.map (rK .u16).enc)), .d (.sl 1 (m.errors.map (rK .u16).enc)), .d (.v (.int .u8 m.read))])], [11], []⟩) x.props.length (by first | (simp; done) | (simp; rfl) | (simp; simp [*])); rotate_left; (show _ < 281474976710656; omega); rfl; rotate_left; all_goals clear hLoopQ)
      · intro j hj
        have y1 := wrap_small ((j : Int) + 1) (by omega) (by omega)
        have hjl : (j : Int) < x.props.length := by omega
        have hAI : (mltA x m : Int) < x.kinds.length := by omega
        have hBI : (mltB x m : Int) < x.kinds.length := by omega
        obtain ⟨hpa, ea, p1, p2, p3⟩ := f.rng ha hj
        obtain ⟨hpb, eb, o1, o2, o3⟩ := f.rng hb hj
        have hpaI : (j : Int) < x.kinds[mltA x m].props.length := by omega
        have hpbI : (j : Int) < x.kinds[mltB x m].props.length := by omega
        have t1 := turn_bd hnu (2 * (j : Int))
        have t2 := turn_bd hnu (2 * (j : Int) + 1)
        have t3 := turn_bd her (j : Int)
        have y2 := wrap_small (2 * (j : Int)) (by omega) (by omega)
        have y3 := wrap_small (2 * (j : Int) + 1) (by omega) (by omega)
        obtain ⟨⟨v1, v2⟩, v3, v4⟩ := mlt_v f hm hj
        have hq1 := among_bd (n := turnV m.numbers (2 * (j : Int))) p2
        have hq2 := among_bd (n := turnV m.numbers (2 * (j : Int) + 1)) o2
        have eV : mltV x m j = (mltN x m) * amongV (rngV x (mltA x m) j) (turnV m.numbers (2 * (j : Int))) + (1000 - (mltN x m)) * amongV (rngV x (mltB x m) j) (turnV m.numbers (2 * (j : Int) + 1)) := by
          rfl
        have eE := errV_at hj
        have hev := f.errv hj
        have eR : mltR x m j = if bitAt m.read j = 1 then -1 else gotV (mltV x m j) (errV x j) (turnV m.errors j) := rfl
        have m1 := mul_bd (show 0 ≤ (mltN x m) by omega) (show (mltN x m) ≤ 1000 by omega) (show 0 ≤ amongV (rngV x (mltA x m) j) (turnV m.numbers (2 * (j : Int))) by omega) (show amongV (rngV x (mltA x m) j) (turnV m.numbers (2 * (j : Int))) ≤ 100000 by omega)
        have m2 := mul_bd (show 0 ≤ 1000 - (mltN x m) by omega) (show 1000 - (mltN x m) ≤ 1000 by omega) (show 0 ≤ amongV (rngV x (mltB x m) j) (turnV m.numbers (2 * (j : Int) + 1)) by omega) (show amongV (rngV x (mltB x m) j) (turnV m.numbers (2 * (j : Int) + 1)) ≤ 100000 by omega)
        have cA : (0 ≤ (rngV x (mltA x m) j).lo ∧ (rngV x (mltA x m) j).lo ≤ (rngV x (mltA x m) j).hi ∧ (rngV x (mltA x m) j).hi ≤ 1000000) ∧ 0 ≤ turnV m.numbers (2 * (j : Int)) ∧ turnV m.numbers (2 * (j : Int)) ≤ 1000000 := ⟨⟨p1, p2, by omega⟩, by omega, by omega⟩
        have cB : (0 ≤ (rngV x (mltB x m) j).lo ∧ (rngV x (mltB x m) j).lo ≤ (rngV x (mltB x m) j).hi ∧ (rngV x (mltB x m) j).hi ≤ 1000000) ∧ 0 ≤ turnV m.numbers (2 * (j : Int) + 1) ∧ turnV m.numbers (2 * (j : Int) + 1) ≤ 1000000 := ⟨⟨o1, o2, by omega⟩, by omega, by omega⟩
        have cN1 : wordOk m.numbers ∧ 0 ≤ 2 * (j : Int) ∧ 2 * (j : Int) ≤ 1000000 := ⟨hnu, by omega, by omega⟩
        have cN2 : wordOk m.numbers ∧ 0 ≤ 2 * (j : Int) + 1 ∧ 2 * (j : Int) + 1 ≤ 1000000 := ⟨hnu, by omega, by omega⟩
        have cN3 : wordOk m.errors ∧ 0 ≤ (j : Int) ∧ (j : Int) ≤ 1000000 := ⟨her, by omega, by omega⟩
        have hlen := mltK_len x m j
        have hL : (mltK x m j).length + 1 ≤ 140737488355328 := by omega
        have hL2 : ((mltK x m j).length + 1) * 8 ≤ 140737488355328 := by omega
        rw [mltK_succ]
        generalize mltK x m j = L at *
        have gA : ∀ s : Spn, rSpn.enc s = [DI s.lo, DI s.hi] := fun _ => rfl
        generalize hQ1 : amongV (rngV x (mltA x m) j) (turnV m.numbers (2 * (j : Int))) = Q1 at *
        generalize hQ2 : amongV (rngV x (mltB x m) j) (turnV m.numbers (2 * (j : Int) + 1)) = Q2 at *
        have z1 := wrap_small ((mltN x m) * Q1) (by omega) (by omega)
        have z2 := wrap_small (1000 - (mltN x m)) (by omega) (by omega)
        have z3 := wrap_small ((1000 - (mltN x m)) * Q2) (by omega) (by omega)
        have z4 := wrap_small ((mltN x m) * Q1 + (1000 - (mltN x m)) * Q2) (by omega) (by omega)
        rw [← eV] at z4
        generalize hNN : mltN x m = n at *
        have eB1 : (m.read / 2 ^ min j IntKind.u8.bits).tmod 2 = bitAt m.read j := by
          have e8 : min j IntKind.u8.bits = j := Nat.min_eq_left (show j ≤ 8 by omega)
          have : 0 ≤ m.read / 2 ^ j := Int.ediv_nonneg r0 (Int.pow_nonneg (by omega))
          unfold bitAt
          rw [e8, Int.tmod_eq_emod_of_nonneg this]
        rw [eR]
        generalize hv : mltV x m j = v at *
        generalize he : errV x j = er at *
        generalize hT3 : turnV m.errors j = T at *
        generalize hbt : bitAt m.read j = bt at *
        have k1 : v.tdiv 1000 = v / 1000 := Int.tdiv_eq_ediv_of_nonneg v3
        have k2 : v.tmod 1000 = v % 1000 := Int.tmod_eq_emod_of_nonneg v3
        have k3 := wrap_small (v / 1000) (by omega) (by omega)
        have k4 := wrap_small (v % 1000) (by omega) (by omega)
        by_cases ce : er = 0
        · subst ce
          by_cases cv : 0 < v % 1000
          · have eG : gotV v 0 T = -1 := by unfold gotV; rw [if_pos rfl, if_pos cv]
            by_cases cb : bt = 1
            · subst cb
              simp [kp40, g40, s48, s45, rTbl_enc, rMlt_enc, rKnd_k, rKnd_enc, rSpn_k, rSpn_enc, rSpn_dec, spn_mk', spn_mk'', rPrp_enc, rW_decL, rInt_enc, hj, hjl, ha, hb, hAI, hBI, hpa, hpb, hpaI, hpbI, ea, eb, eE, y1, y2, y3, cA, cB, cN1, cN2, cN3, hQ1, hQ2, z1, z2, z3, z4, ← eV, hL, hL2, k1, k2, k3, k4, eB1, cv, eG]
            · have cb' : (bt == 1) = false := by simpa using cb
              simp [kp40, g40, s48, s45, rTbl_enc, rMlt_enc, rKnd_k, rKnd_enc, rSpn_k, rSpn_enc, rSpn_dec, spn_mk', spn_mk'', rPrp_enc, rW_decL, rInt_enc, hj, hjl, ha, hb, hAI, hBI, hpa, hpb, hpaI, hpbI, ea, eb, eE, y1, y2, y3, cA, cB, cN1, cN2, cN3, hQ1, hQ2, z1, z2, z3, z4, ← eV, hL, hL2, k1, k2, k3, k4, eB1, cv, eG, cb, cb']
          · have eG : gotV v 0 T = v / 1000 := by unfold gotV; rw [if_pos rfl, if_neg cv]
            by_cases cb : bt = 1
            · subst cb
              simp [kp40, g40, s48, s45, rTbl_enc, rMlt_enc, rKnd_k, rKnd_enc, rSpn_k, rSpn_enc, rSpn_dec, spn_mk', spn_mk'', rPrp_enc, rW_decL, rInt_enc, hj, hjl, ha, hb, hAI, hBI, hpa, hpb, hpaI, hpbI, ea, eb, eE, y1, y2, y3, cA, cB, cN1, cN2, cN3, hQ1, hQ2, z1, z2, z3, z4, ← eV, hL, hL2, k1, k2, k3, k4, eB1, cv, eG]
            · have cb' : (bt == 1) = false := by simpa using cb
              simp [kp40, g40, s48, s45, rTbl_enc, rMlt_enc, rKnd_k, rKnd_enc, rSpn_k, rSpn_enc, rSpn_dec, spn_mk', spn_mk'', rPrp_enc, rW_decL, rInt_enc, hj, hjl, ha, hb, hAI, hBI, hpa, hpb, hpaI, hpbI, ea, eb, eE, y1, y2, y3, cA, cB, cN1, cN2, cN3, hQ1, hQ2, z1, z2, z3, z4, ← eV, hL, hL2, k1, k2, k3, k4, eB1, cv, eG, cb, cb']
        · have ce' : (er == 0) = false := by simpa using ce
          have ce2 : 0 < er := by omega
          obtain ⟨l1, l2, l3, l4, l5⟩ := low_high v3 v4 (show 1 ≤ er by omega) hev.2
          have eG : gotV v er T = amongV ⟨lowV v er, highV v er⟩ T := by unfold gotV; rw [if_neg ce]
          have u1 := wrap_small (1000 * er) (by omega) (by omega)
          have u2 := wrap_small (v - 1000 * er) (by omega) (by omega)
          have u3 := wrap_small (v - 1000 * er + 999) (by omega) (by omega)
          have u4 := wrap_small (v + 1000 * er) (by omega) (by omega)
          have u5 : (v + 1000 * er).tdiv 1000 = (v + 1000 * er) / 1000 := Int.tdiv_eq_ediv_of_nonneg (by omega)
          have u6 := wrap_small ((v + 1000 * er) / 1000) (by omega) (by omega)
          have eH : (if (v + 1000 * er) / 1000 < 100000 then (v + 1000 * er) / 1000 else 100000) = highV v er := by unfold highV; split <;> omega
          have cS : (0 ≤ lowV v er ∧ lowV v er ≤ highV v er ∧ highV v er ≤ 1000000) ∧ 0 ≤ T ∧ T ≤ 1000000 := ⟨⟨l1, l2, by omega⟩, by omega, by omega⟩
          by_cases cl : v < 1000 * er
          · have eL : lowV v er = 0 := if_pos cl
            rw [eL] at cS eG
            by_cases cb : bt = 1
            · subst cb
              by_cases cv : 0 < v % 1000
              · simp [kp40, g40, s48, s45, rTbl_enc, rMlt_enc, rKnd_k, rKnd_enc, rSpn_k, rSpn_enc, rSpn_dec, spn_mk', spn_mk'', rPrp_enc, rW_decL, rInt_enc, hj, hjl, ha, hb, hAI, hBI, hpa, hpb, hpaI, hpbI, ea, eb, eE, y1, y2, y3, cA, cB, cN1, cN2, cN3, hQ1, hQ2, z1, z2, z3, z4, ← eV, hL, hL2, k1, k2, k3, k4, eB1, ce, ce', ce2, u1, u2, u3, u4, u5, u6, eH, cS, cv, eG, cl, hT3]
              · simp [kp40, g40, s48, s45, rTbl_enc, rMlt_enc, rKnd_k, rKnd_enc, rSpn_k, rSpn_enc, rSpn_dec, spn_mk', spn_mk'', rPrp_enc, rW_decL, rInt_enc, hj, hjl, ha, hb, hAI, hBI, hpa, hpb, hpaI, hpbI, ea, eb, eE, y1, y2, y3, cA, cB, cN1, cN2, cN3, hQ1, hQ2, z1, z2, z3, z4, ← eV, hL, hL2, k1, k2, k3, k4, eB1, ce, ce', ce2, u1, u2, u3, u4, u5, u6, eH, cS, cv, eG, cl, hT3]
            · have cb' : (bt == 1) = false := by simpa using cb
              by_cases cv : 0 < v % 1000
              · simp [kp40, g40, s48, s45, rTbl_enc, rMlt_enc, rKnd_k, rKnd_enc, rSpn_k, rSpn_enc, rSpn_dec, spn_mk', spn_mk'', rPrp_enc, rW_decL, rInt_enc, hj, hjl, ha, hb, hAI, hBI, hpa, hpb, hpaI, hpbI, ea, eb, eE, y1, y2, y3, cA, cB, cN1, cN2, cN3, hQ1, hQ2, z1, z2, z3, z4, ← eV, hL, hL2, k1, k2, k3, k4, eB1, ce, ce', ce2, u1, u2, u3, u4, u5, u6, eH, cS, cv, eG, cl, hT3, cb, cb']
              · simp [kp40, g40, s48, s45, rTbl_enc, rMlt_enc, rKnd_k, rKnd_enc, rSpn_k, rSpn_enc, rSpn_dec, spn_mk', spn_mk'', rPrp_enc, rW_decL, rInt_enc, hj, hjl, ha, hb, hAI, hBI, hpa, hpb, hpaI, hpbI, ea, eb, eE, y1, y2, y3, cA, cB, cN1, cN2, cN3, hQ1, hQ2, z1, z2, z3, z4, ← eV, hL, hL2, k1, k2, k3, k4, eB1, ce, ce', ce2, u1, u2, u3, u4, u5, u6, eH, cS, cv, eG, cl, hT3, cb, cb']
          · have eL : (v - 1000 * er + 999) / 1000 = lowV v er := (if_neg cl).symm
            have u7 : (v - 1000 * er + 999).tdiv 1000 = lowV v er := by rw [Int.tdiv_eq_ediv_of_nonneg (by omega), eL]
            have u8 := wrap_small (lowV v er) (by omega) (by omega)
            by_cases cb : bt = 1
            · subst cb
              by_cases cv : 0 < v % 1000
              · simp [kp40, g40, s48, s45, rTbl_enc, rMlt_enc, rKnd_k, rKnd_enc, rSpn_k, rSpn_enc, rSpn_dec, spn_mk', spn_mk'', rPrp_enc, rW_decL, rInt_enc, hj, hjl, ha, hb, hAI, hBI, hpa, hpb, hpaI, hpbI, ea, eb, eE, y1, y2, y3, cA, cB, cN1, cN2, cN3, hQ1, hQ2, z1, z2, z3, z4, ← eV, hL, hL2, k1, k2, k3, k4, eB1, ce, ce', ce2, u1, u2, u3, u4, u5, u6, u7, u8, eH, cS, cv, eG, cl, hT3]
              · simp [kp40, g40, s48, s45, rTbl_enc, rMlt_enc, rKnd_k, rKnd_enc, rSpn_k, rSpn_enc, rSpn_dec, spn_mk', spn_mk'', rPrp_enc, rW_decL, rInt_enc, hj, hjl, ha, hb, hAI, hBI, hpa, hpb, hpaI, hpbI, ea, eb, eE, y1, y2, y3, cA, cB, cN1, cN2, cN3, hQ1, hQ2, z1, z2, z3, z4, ← eV, hL, hL2, k1, k2, k3, k4, eB1, ce, ce', ce2, u1, u2, u3, u4, u5, u6, u7, u8, eH, cS, cv, eG, cl, hT3]
            · have cb' : (bt == 1) = false := by simpa using cb
              by_cases cv : 0 < v % 1000
              · simp [kp40, g40, s48, s45, rTbl_enc, rMlt_enc, rKnd_k, rKnd_enc, rSpn_k, rSpn_enc, rSpn_dec, spn_mk', spn_mk'', rPrp_enc, rW_decL, rInt_enc, hj, hjl, ha, hb, hAI, hBI, hpa, hpb, hpaI, hpbI, ea, eb, eE, y1, y2, y3, cA, cB, cN1, cN2, cN3, hQ1, hQ2, z1, z2, z3, z4, ← eV, hL, hL2, k1, k2, k3, k4, eB1, ce, ce', ce2, u1, u2, u3, u4, u5, u6, u7, u8, eH, cS, cv, eG, cl, hT3, cb, cb']
              · simp [kp40, g40, s48, s45, rTbl_enc, rMlt_enc, rKnd_k, rKnd_enc, rSpn_k, rSpn_enc, rSpn_dec, spn_mk', spn_mk'', rPrp_enc, rW_decL, rInt_enc, hj, hjl, ha, hb, hAI, hBI, hpa, hpb, hpaI, hpbI, ea, eb, eE, y1, y2, y3, cA, cB, cN1, cN2, cN3, hQ1, hQ2, z1, z2, z3, z4, ← eV, hL, hL2, k1, k2, k3, k4, eB1, ce, ce', ce2, u1, u2, u3, u4, u5, u6, u7, u8, eH, cS, cv, eG, cl, hT3, cb, cb']
      · simp [kp40, eN]
    · have eN : mltN x m = 1 + m.parts % 1000 := by unfold mltN; rw [if_neg e]
      have e' : ((mltA x m : Int) == (mltB x m : Int)) = false := by rw [beq_eq_false_iff_ne]; omega
      simp [kp40, rTbl_enc, rMlt_enc, rKnd_k, hKI, hK0, w1, w2, w3, w4, w5, w6, w7, eA, eB, eQ, e']
      (generalize hLoopQ : Cx.loop _ _ _ = rLoopQ; apply loop_then hLoopQ (fun k => ⟨[(2, .loc 2 0), (3, .loc 3 0), (8, .d (DI (mltA x m : Int))), (9, .d (DI (mltB x m : Int))), (10, .d (DI (mltN x m))), (11, .sl 1 ((mltK x m k).map rInt.enc) (.tok 11)), (12, .d (DI k))], [(2, [.d (.sl 2 (x.props.map rPrp.enc)), .d (.sl 2 (x.kinds.map rKnd.enc)), .d (DI x.purity)]), (3, [.d (.v (.int .u8 m.a)), .d (.v (.int .u8 m.b)), .d (.v (.int .u16 m.parts)), .d (.sl 1 (m.numbers.map (rK .u16).enc)), .d (.sl 1 (m.errors.map (rK .u16).enc)), .d (.v (.int .u8 m.read))])], [11], []⟩) x.props.length (by first | (simp; done) | (simp; rfl) | (simp; simp [*])); rotate_left; (show _ < 281474976710656; omega); rfl; rotate_left; all_goals clear hLoopQ)
      · intro j hj
        have y1 := wrap_small ((j : Int) + 1) (by omega) (by omega)
        have hjl : (j : Int) < x.props.length := by omega
        have hAI : (mltA x m : Int) < x.kinds.length := by omega
        have hBI : (mltB x m : Int) < x.kinds.length := by omega
        obtain ⟨hpa, ea, p1, p2, p3⟩ := f.rng ha hj
        obtain ⟨hpb, eb, o1, o2, o3⟩ := f.rng hb hj
        have hpaI : (j : Int) < x.kinds[mltA x m].props.length := by omega
        have hpbI : (j : Int) < x.kinds[mltB x m].props.length := by omega
        have t1 := turn_bd hnu (2 * (j : Int))
        have t2 := turn_bd hnu (2 * (j : Int) + 1)
        have t3 := turn_bd her (j : Int)
        have y2 := wrap_small (2 * (j : Int)) (by omega) (by omega)
        have y3 := wrap_small (2 * (j : Int) + 1) (by omega) (by omega)
        obtain ⟨⟨v1, v2⟩, v3, v4⟩ := mlt_v f hm hj
        have hq1 := among_bd (n := turnV m.numbers (2 * (j : Int))) p2
        have hq2 := among_bd (n := turnV m.numbers (2 * (j : Int) + 1)) o2
        have eV : mltV x m j = (mltN x m) * amongV (rngV x (mltA x m) j) (turnV m.numbers (2 * (j : Int))) + (1000 - (mltN x m)) * amongV (rngV x (mltB x m) j) (turnV m.numbers (2 * (j : Int) + 1)) := by
          rfl
        have eE := errV_at hj
        have hev := f.errv hj
        have eR : mltR x m j = if bitAt m.read j = 1 then -1 else gotV (mltV x m j) (errV x j) (turnV m.errors j) := rfl
        have m1 := mul_bd (show 0 ≤ (mltN x m) by omega) (show (mltN x m) ≤ 1000 by omega) (show 0 ≤ amongV (rngV x (mltA x m) j) (turnV m.numbers (2 * (j : Int))) by omega) (show amongV (rngV x (mltA x m) j) (turnV m.numbers (2 * (j : Int))) ≤ 100000 by omega)
        have m2 := mul_bd (show 0 ≤ 1000 - (mltN x m) by omega) (show 1000 - (mltN x m) ≤ 1000 by omega) (show 0 ≤ amongV (rngV x (mltB x m) j) (turnV m.numbers (2 * (j : Int) + 1)) by omega) (show amongV (rngV x (mltB x m) j) (turnV m.numbers (2 * (j : Int) + 1)) ≤ 100000 by omega)
        have cA : (0 ≤ (rngV x (mltA x m) j).lo ∧ (rngV x (mltA x m) j).lo ≤ (rngV x (mltA x m) j).hi ∧ (rngV x (mltA x m) j).hi ≤ 1000000) ∧ 0 ≤ turnV m.numbers (2 * (j : Int)) ∧ turnV m.numbers (2 * (j : Int)) ≤ 1000000 := ⟨⟨p1, p2, by omega⟩, by omega, by omega⟩
        have cB : (0 ≤ (rngV x (mltB x m) j).lo ∧ (rngV x (mltB x m) j).lo ≤ (rngV x (mltB x m) j).hi ∧ (rngV x (mltB x m) j).hi ≤ 1000000) ∧ 0 ≤ turnV m.numbers (2 * (j : Int) + 1) ∧ turnV m.numbers (2 * (j : Int) + 1) ≤ 1000000 := ⟨⟨o1, o2, by omega⟩, by omega, by omega⟩
        have cN1 : wordOk m.numbers ∧ 0 ≤ 2 * (j : Int) ∧ 2 * (j : Int) ≤ 1000000 := ⟨hnu, by omega, by omega⟩
        have cN2 : wordOk m.numbers ∧ 0 ≤ 2 * (j : Int) + 1 ∧ 2 * (j : Int) + 1 ≤ 1000000 := ⟨hnu, by omega, by omega⟩
        have cN3 : wordOk m.errors ∧ 0 ≤ (j : Int) ∧ (j : Int) ≤ 1000000 := ⟨her, by omega, by omega⟩
        have hlen := mltK_len x m j
        have hL : (mltK x m j).length + 1 ≤ 140737488355328 := by omega
        have hL2 : ((mltK x m j).length + 1) * 8 ≤ 140737488355328 := by omega
        rw [mltK_succ]
        generalize mltK x m j = L at *
        have gA : ∀ s : Spn, rSpn.enc s = [DI s.lo, DI s.hi] := fun _ => rfl
        generalize hQ1 : amongV (rngV x (mltA x m) j) (turnV m.numbers (2 * (j : Int))) = Q1 at *
        generalize hQ2 : amongV (rngV x (mltB x m) j) (turnV m.numbers (2 * (j : Int) + 1)) = Q2 at *
        have z1 := wrap_small ((mltN x m) * Q1) (by omega) (by omega)
        have z2 := wrap_small (1000 - (mltN x m)) (by omega) (by omega)
        have z3 := wrap_small ((1000 - (mltN x m)) * Q2) (by omega) (by omega)
        have z4 := wrap_small ((mltN x m) * Q1 + (1000 - (mltN x m)) * Q2) (by omega) (by omega)
        rw [← eV] at z4
        generalize hNN : mltN x m = n at *
        have eB1 : (m.read / 2 ^ min j IntKind.u8.bits).tmod 2 = bitAt m.read j := by
          have e8 : min j IntKind.u8.bits = j := Nat.min_eq_left (show j ≤ 8 by omega)
          have : 0 ≤ m.read / 2 ^ j := Int.ediv_nonneg r0 (Int.pow_nonneg (by omega))
          unfold bitAt
          rw [e8, Int.tmod_eq_emod_of_nonneg this]
        rw [eR]
        generalize hv : mltV x m j = v at *
        generalize he : errV x j = er at *
        generalize hT3 : turnV m.errors j = T at *
        generalize hbt : bitAt m.read j = bt at *
        have k1 : v.tdiv 1000 = v / 1000 := Int.tdiv_eq_ediv_of_nonneg v3
        have k2 : v.tmod 1000 = v % 1000 := Int.tmod_eq_emod_of_nonneg v3
        have k3 := wrap_small (v / 1000) (by omega) (by omega)
        have k4 := wrap_small (v % 1000) (by omega) (by omega)
        by_cases ce : er = 0
        · subst ce
          by_cases cv : 0 < v % 1000
          · have eG : gotV v 0 T = -1 := by unfold gotV; rw [if_pos rfl, if_pos cv]
            by_cases cb : bt = 1
            · subst cb
              simp [kp40, g40, s48, s45, rTbl_enc, rMlt_enc, rKnd_k, rKnd_enc, rSpn_k, rSpn_enc, rSpn_dec, spn_mk', spn_mk'', rPrp_enc, rW_decL, rInt_enc, hj, hjl, ha, hb, hAI, hBI, hpa, hpb, hpaI, hpbI, ea, eb, eE, y1, y2, y3, cA, cB, cN1, cN2, cN3, hQ1, hQ2, z1, z2, z3, z4, ← eV, hL, hL2, k1, k2, k3, k4, eB1, cv, eG]
            · have cb' : (bt == 1) = false := by simpa using cb
              simp [kp40, g40, s48, s45, rTbl_enc, rMlt_enc, rKnd_k, rKnd_enc, rSpn_k, rSpn_enc, rSpn_dec, spn_mk', spn_mk'', rPrp_enc, rW_decL, rInt_enc, hj, hjl, ha, hb, hAI, hBI, hpa, hpb, hpaI, hpbI, ea, eb, eE, y1, y2, y3, cA, cB, cN1, cN2, cN3, hQ1, hQ2, z1, z2, z3, z4, ← eV, hL, hL2, k1, k2, k3, k4, eB1, cv, eG, cb, cb']
          · have eG : gotV v 0 T = v / 1000 := by unfold gotV; rw [if_pos rfl, if_neg cv]
            by_cases cb : bt = 1
            · subst cb
              simp [kp40, g40, s48, s45, rTbl_enc, rMlt_enc, rKnd_k, rKnd_enc, rSpn_k, rSpn_enc, rSpn_dec, spn_mk', spn_mk'', rPrp_enc, rW_decL, rInt_enc, hj, hjl, ha, hb, hAI, hBI, hpa, hpb, hpaI, hpbI, ea, eb, eE, y1, y2, y3, cA, cB, cN1, cN2, cN3, hQ1, hQ2, z1, z2, z3, z4, ← eV, hL, hL2, k1, k2, k3, k4, eB1, cv, eG]
            · have cb' : (bt == 1) = false := by simpa using cb
              simp [kp40, g40, s48, s45, rTbl_enc, rMlt_enc, rKnd_k, rKnd_enc, rSpn_k, rSpn_enc, rSpn_dec, spn_mk', spn_mk'', rPrp_enc, rW_decL, rInt_enc, hj, hjl, ha, hb, hAI, hBI, hpa, hpb, hpaI, hpbI, ea, eb, eE, y1, y2, y3, cA, cB, cN1, cN2, cN3, hQ1, hQ2, z1, z2, z3, z4, ← eV, hL, hL2, k1, k2, k3, k4, eB1, cv, eG, cb, cb']
        · have ce' : (er == 0) = false := by simpa using ce
          have ce2 : 0 < er := by omega
          obtain ⟨l1, l2, l3, l4, l5⟩ := low_high v3 v4 (show 1 ≤ er by omega) hev.2
          have eG : gotV v er T = amongV ⟨lowV v er, highV v er⟩ T := by unfold gotV; rw [if_neg ce]
          have u1 := wrap_small (1000 * er) (by omega) (by omega)
          have u2 := wrap_small (v - 1000 * er) (by omega) (by omega)
          have u3 := wrap_small (v - 1000 * er + 999) (by omega) (by omega)
          have u4 := wrap_small (v + 1000 * er) (by omega) (by omega)
          have u5 : (v + 1000 * er).tdiv 1000 = (v + 1000 * er) / 1000 := Int.tdiv_eq_ediv_of_nonneg (by omega)
          have u6 := wrap_small ((v + 1000 * er) / 1000) (by omega) (by omega)
          have eH : (if (v + 1000 * er) / 1000 < 100000 then (v + 1000 * er) / 1000 else 100000) = highV v er := by unfold highV; split <;> omega
          have cS : (0 ≤ lowV v er ∧ lowV v er ≤ highV v er ∧ highV v er ≤ 1000000) ∧ 0 ≤ T ∧ T ≤ 1000000 := ⟨⟨l1, l2, by omega⟩, by omega, by omega⟩
          by_cases cl : v < 1000 * er
          · have eL : lowV v er = 0 := if_pos cl
            rw [eL] at cS eG
            by_cases cb : bt = 1
            · subst cb
              by_cases cv : 0 < v % 1000
              · simp [kp40, g40, s48, s45, rTbl_enc, rMlt_enc, rKnd_k, rKnd_enc, rSpn_k, rSpn_enc, rSpn_dec, spn_mk', spn_mk'', rPrp_enc, rW_decL, rInt_enc, hj, hjl, ha, hb, hAI, hBI, hpa, hpb, hpaI, hpbI, ea, eb, eE, y1, y2, y3, cA, cB, cN1, cN2, cN3, hQ1, hQ2, z1, z2, z3, z4, ← eV, hL, hL2, k1, k2, k3, k4, eB1, ce, ce', ce2, u1, u2, u3, u4, u5, u6, eH, cS, cv, eG, cl, hT3]
              · simp [kp40, g40, s48, s45, rTbl_enc, rMlt_enc, rKnd_k, rKnd_enc, rSpn_k, rSpn_enc, rSpn_dec, spn_mk', spn_mk'', rPrp_enc, rW_decL, rInt_enc, hj, hjl, ha, hb, hAI, hBI, hpa, hpb, hpaI, hpbI, ea, eb, eE, y1, y2, y3, cA, cB, cN1, cN2, cN3, hQ1, hQ2, z1, z2, z3, z4, ← eV, hL, hL2, k1, k2, k3, k4, eB1, ce, ce', ce2, u1, u2, u3, u4, u5, u6, eH, cS, cv, eG, cl, hT3]
            · have cb' : (bt == 1) = false := by simpa using cb
              by_cases cv : 0 < v % 1000
              · simp [kp40, g40, s48, s45, rTbl_enc, rMlt_enc, rKnd_k, rKnd_enc, rSpn_k, rSpn_enc, rSpn_dec, spn_mk', spn_mk'', rPrp_enc, rW_decL, rInt_enc, hj, hjl, ha, hb, hAI, hBI, hpa, hpb, hpaI, hpbI, ea, eb, eE, y1, y2, y3, cA, cB, cN1, cN2, cN3, hQ1, hQ2, z1, z2, z3, z4, ← eV, hL, hL2, k1, k2, k3, k4, eB1, ce, ce', ce2, u1, u2, u3, u4, u5, u6, eH, cS, cv, eG, cl, hT3, cb, cb']
              · simp [kp40, g40, s48, s45, rTbl_enc, rMlt_enc, rKnd_k, rKnd_enc, rSpn_k, rSpn_enc, rSpn_dec, spn_mk', spn_mk'', rPrp_enc, rW_decL, rInt_enc, hj, hjl, ha, hb, hAI, hBI, hpa, hpb, hpaI, hpbI, ea, eb, eE, y1, y2, y3, cA, cB, cN1, cN2, cN3, hQ1, hQ2, z1, z2, z3, z4, ← eV, hL, hL2, k1, k2, k3, k4, eB1, ce, ce', ce2, u1, u2, u3, u4, u5, u6, eH, cS, cv, eG, cl, hT3, cb, cb']
          · have eL : (v - 1000 * er + 999) / 1000 = lowV v er := (if_neg cl).symm
            have u7 : (v - 1000 * er + 999).tdiv 1000 = lowV v er := by rw [Int.tdiv_eq_ediv_of_nonneg (by omega), eL]
            have u8 := wrap_small (lowV v er) (by omega) (by omega)
            by_cases cb : bt = 1
            · subst cb
              by_cases cv : 0 < v % 1000
              · simp [kp40, g40, s48, s45, rTbl_enc, rMlt_enc, rKnd_k, rKnd_enc, rSpn_k, rSpn_enc, rSpn_dec, spn_mk', spn_mk'', rPrp_enc, rW_decL, rInt_enc, hj, hjl, ha, hb, hAI, hBI, hpa, hpb, hpaI, hpbI, ea, eb, eE, y1, y2, y3, cA, cB, cN1, cN2, cN3, hQ1, hQ2, z1, z2, z3, z4, ← eV, hL, hL2, k1, k2, k3, k4, eB1, ce, ce', ce2, u1, u2, u3, u4, u5, u6, u7, u8, eH, cS, cv, eG, cl, hT3]
              · simp [kp40, g40, s48, s45, rTbl_enc, rMlt_enc, rKnd_k, rKnd_enc, rSpn_k, rSpn_enc, rSpn_dec, spn_mk', spn_mk'', rPrp_enc, rW_decL, rInt_enc, hj, hjl, ha, hb, hAI, hBI, hpa, hpb, hpaI, hpbI, ea, eb, eE, y1, y2, y3, cA, cB, cN1, cN2, cN3, hQ1, hQ2, z1, z2, z3, z4, ← eV, hL, hL2, k1, k2, k3, k4, eB1, ce, ce', ce2, u1, u2, u3, u4, u5, u6, u7, u8, eH, cS, cv, eG, cl, hT3]
            · have cb' : (bt == 1) = false := by simpa using cb
              by_cases cv : 0 < v % 1000
              · simp [kp40, g40, s48, s45, rTbl_enc, rMlt_enc, rKnd_k, rKnd_enc, rSpn_k, rSpn_enc, rSpn_dec, spn_mk', spn_mk'', rPrp_enc, rW_decL, rInt_enc, hj, hjl, ha, hb, hAI, hBI, hpa, hpb, hpaI, hpbI, ea, eb, eE, y1, y2, y3, cA, cB, cN1, cN2, cN3, hQ1, hQ2, z1, z2, z3, z4, ← eV, hL, hL2, k1, k2, k3, k4, eB1, ce, ce', ce2, u1, u2, u3, u4, u5, u6, u7, u8, eH, cS, cv, eG, cl, hT3, cb, cb']
              · simp [kp40, g40, s48, s45, rTbl_enc, rMlt_enc, rKnd_k, rKnd_enc, rSpn_k, rSpn_enc, rSpn_dec, spn_mk', spn_mk'', rPrp_enc, rW_decL, rInt_enc, hj, hjl, ha, hb, hAI, hBI, hpa, hpb, hpaI, hpbI, ea, eb, eE, y1, y2, y3, cA, cB, cN1, cN2, cN3, hQ1, hQ2, z1, z2, z3, z4, ← eV, hL, hL2, k1, k2, k3, k4, eB1, ce, ce', ce2, u1, u2, u3, u4, u5, u6, u7, u8, eH, cS, cv, eG, cl, hT3, cb, cb']
      · simp [kp40, eN]
  · cases hr
theorem call40 (xs : Array Value) (w : World) : (callFunc 40 xs).run Tryz.prog w = .ok (.enter 40 xs) w := by kernel_rfl
end Go.Proofs.YtkldmnladkcfeaaGreatDoor
