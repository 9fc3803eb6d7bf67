/-
  The law WaxAlone: what a kind alone explains. Conditions: the names are strings; what is drawn is of its type.
-/
import Derived.Test.YtkldmnladkcfeaaGreatDoorZLawT
namespace Go.Proofs.YtkldmnladkcfeaaGreatDoor
open Go.RowKit
set_option linter.unusedSimpArgs false
set_option linter.unusedVariables false
def kp14 (r : Nat) : List (Nat × Option Nat) := match r with
  | 0 => [(1, none), (2, none), (3, none)]
  | 1 => [(1, none), (2, none), (3, none), (7, none), (8, none)]
  | 2 => [(1, none), (2, none), (3, none), (7, none), (8, none), (22, none)]
  | 3 => [(6, none)]
  | 4 => [(1, none), (3, none), (7, none), (8, none), (9, none)]
  | 5 => [(1, none), (3, none), (7, none), (8, none), (9, none), (10, none)]
  | 6 => [(1, none), (3, none), (7, none), (8, none), (9, none), (10, none), (11, none)]
  | 7 => [(1, none), (3, none), (7, none), (8, none), (9, none), (10, none), (11, none), (42, none)]
  | 8 => [(1, none), (3, none), (7, none), (8, none), (9, none), (10, none), (11, none)]
  | 9 => [(1, none), (3, none), (7, none), (8, none), (9, none), (10, none), (11, none), (12, none)]
  | 10 => [(1, none), (3, none), (7, none), (8, none), (9, none), (10, none), (11, none), (12, none), (58, none)]
  | 11 => [(1, none), (3, none), (7, none), (8, none), (9, none), (10, none), (11, none)]
  | 12 => [(6, none)]
  | _ => []
def tb14 : List (Nat × (List D → Option D)) := (25, s25) :: (44, s44) :: (20, s20) :: (42, s42) :: (43, s43) :: []
theorem dtb14 : DelOk Tryz.prog (delOf tb14) := (del_cons (del_cons (del_cons (del_cons (del_cons del_nil call43 ok43) call42 ok42) call20 ok20) call44 ok44) call25 ok25)
def s14 : List D → Option D := sp3 (cAgg rTbl) (cList rInt) (cK .u8) cBool fun x l k => if namesOk x ∧ byteOk k then some true else none
set_option maxHeartbeats 8000000 in
theorem ok14 : ∀ ds d, s14 ds = some d → PureC Tryz.prog 14 ds d := ok_sp3 fun x l k r hr => by
  split at hr
  · rename_i hc
    cases hr
    obtain ⟨hn, k0, k1⟩ := hc
    refine pure_of_call (mkCx_ok dtb14 105 kp14 []) Tryz.func14 rfl rfl (Nat.le_of_ble_eq_true rfl) (by kernel_rfl) ?_
    rw [Tryz.results14]
    have hlen := setsR_len x l
    by_cases h1 : readE x l = 0
    · have hR : okR x l := h1
      obtain ⟨hT, hll, hlv⟩ := okR_of hR
      have f := fine_of hT
      have hk1 := f.k1
      have hk8 := f.k8
      have hp5 := f.p5
      have hS : setsR x l = (allR x l, 0) := by unfold setsR; rw [if_neg (by simp [h1])]
      rw [hS] at hlen
      simp only at hlen
      have hKI : ¬ (x.kinds.length : Int) = 0 := by omega
      have hK0 : ¬ x.kinds = [] := fun h => by rw [h] at hk1; simp at hk1
      have e1 := mod_nat (k := x.kinds.length) k0
      have hA : k.toNat % x.kinds.length < x.kinds.length := Nat.mod_lt _ hk1
      generalize k.toNat % x.kinds.length = A at *
      have w1 := wrap_small k (by omega) (by omega)
      have w2 := wrap_small (A : Int) (by omega) (by omega)
      have hAI : (A : Int) < x.kinds.length := by omega
      have hin := alone_in hR hA
      have bA : bitOk (A : Int) := ⟨by omega, by omega⟩
      simp [kp14, tb14, s25, s44, sets_eq, rTbl_enc, rTbl_dec, rInt_decL, rInt_k, rKnd_k, cK, hn, hS, h1, hKI, hK0, w1, w2, e1]
      (generalize hLoopQ : Cx.loop _ _ _ = rLoopQ; apply loop_then hLoopQ (fun j => ⟨[(1, .d (.sl 1 (l.map rInt.enc))), (3, .loc 3 0), (7, .d (.sl 1 ((allR x l).map rInt.enc))), (8, .d (DI 0)), (9, .d (DI A)), (10, .d (DB ((List.range j).all fun p => aloneAt x l A p))), (11, .d (DI j))], [(3, [.d (.sl 2 (x.props.map rPrp.enc)), .d (.sl 2 (x.kinds.map rKnd.enc)), .d (DI x.purity)])], [], []⟩) l.length (by first | (simp; done) | (simp; rfl) | (simp; simp [*])); rotate_left; (show _ < 281474976710656; omega); rfl; rotate_left; all_goals clear hLoopQ)
      · intro j hj
        have y1 := wrap_small ((j : Int) + 1) (by omega) (by omega)
        have hjl : (j : Int) < l.length := by omega
        have hjp : j < x.props.length := by omega
        have hjpI : (j : Int) < x.props.length := by omega
        obtain ⟨hpa, ea, p1, p2, p3⟩ := f.rng hA hjp
        have hpaI : (j : Int) < x.kinds[A].props.length := by omega
        have eE := errV_at hjp
        have hev := f.errv hjp
        have hvj := hlv j hj
        have q1 := wrap_small ((rngV x A j).lo - errV x j) (by omega) (by omega)
        have q2 := wrap_small ((rngV x A j).hi + errV x j) (by omega) (by omega)
        have eS : ((List.range (j + 1)).all fun p => aloneAt x l A p) = (((List.range j).all fun p => aloneAt x l A p) && aloneAt x l A j) := by simp [List.range_succ]
        rw [eS]
        have eV : aloneAt x l A j = (l[j] == -1 || (decide ((rngV x A j).lo - errV x j ≤ l[j]) && decide (l[j] ≤ (rngV x A j).hi + errV x j))) := by unfold aloneAt; rw [getD_at _ _ _ hj]
        rw [eV]
        generalize ((List.range j).all fun p => aloneAt x l A p) = bb at *
        by_cases c : l[j] = -1
        · cases bb <;> simp [kp14, tb14, rKnd_enc, rSpn_enc, rPrp_enc, rInt_enc, hj, hjl, hjp, hjpI, hA, hAI, hpa, hpaI, ea, eE, y1, q1, q2, c]
        · have c' : (l[j] != -1) = true := by simpa using c
          by_cases c3 : (rngV x A j).lo - errV x j ≤ l[j]
          · cases bb <;> simp [kp14, tb14, rKnd_enc, rSpn_enc, rPrp_enc, rInt_enc, hj, hjl, hjp, hjpI, hA, hAI, hpa, hpaI, ea, eE, y1, q1, q2, c, c', c3]
          · cases bb <;> simp [kp14, tb14, rKnd_enc, rSpn_enc, rPrp_enc, rInt_enc, hj, hjl, hjp, hjpI, hA, hAI, hpa, hpaI, ea, eE, y1, q1, q2, c, c', c3]
      · have hx : ((List.range l.length).all fun p => aloneAt x l A p) = aloneB x l A := rfl
        rw [hx]
        simp [kp14, tb14, s42, s43, s20, rInt_decL, rInt_k, bA, hlen, hin]
    · have h2 : (readE x l != 0) = true := by simpa using h1
      have hS : setsR x l = ([], readE x l) := by unfold setsR; rw [if_pos h1]
      simp [kp14, tb14, s25, s44, s20, sets_eq, rTbl_enc, rTbl_dec, rInt_decL, rInt_k, hn, hS, h1, h2]
  · cases hr
end Go.Proofs.YtkldmnladkcfeaaGreatDoor
