/-
  Reference functions of the wax chapter: readings, parts, Mixed, sets of kinds. Conditions: none.
-/
import Derived.Test.YtkldmnladkcfeaaGreatDoorZRefA
namespace Go.Proofs.YtkldmnladkcfeaaGreatDoor
open Go.RowKit
set_option linter.unusedSimpArgs false
set_option linter.unusedVariables false
def kp42 (r : Nat) : List (Nat × Option Nat) := match r with
  | 0 => [(0, none)]
  | 1 => [(0, none), (3, none)]
  | 2 => [(0, none), (3, none), (4, none)]
  | 3 => [(0, none), (3, none), (4, none), (7, none)]
  | 4 => [(0, none), (3, none), (4, none)]
  | 5 => [(0, none), (3, none), (4, none)]
  | 6 => [(2, none)]
  | _ => []
def kp49 (r : Nat) : List (Nat × Option Nat) := match r with
  | 0 => [(0, none), (1, none)]
  | 1 => [(4, none)]
  | _ => []
def g44 : List (Nat × (List D → Option D)) := (17, s17) :: l1
theorem dg44 : DelOk Tryz.prog (delOf g44) := del_cons del1 call17 ok17
def s44 : List D → Option D := sp2 (cAgg rTbl) (cList rInt) cInt fun x l => some (readE x l)
set_option maxHeartbeats 2000000 in
theorem ok44 : ∀ ds d, s44 ds = some d → PureC Tryz.prog 44 ds d := ok_sp2 fun x l r hr => by
  cases hr
  refine pure_of_call (mkCx_ok dg44 49 kp44 []) Tryz.func44 rfl rfl (Nat.le_of_ble_eq_true rfl) (by kernel_rfl) ?_
  rw [Tryz.results44]
  unfold readE
  by_cases h1 : (chk x).2.2 = 0
  · rw [if_neg (by simpa using h1)]
    have f := fine_of h1
    by_cases h2 : l.length = x.props.length
    · rw [if_neg (by simpa using h2)]
      have hp5 := f.p5
      have h2I : ((l.length : Int) != x.props.length) = false := by simp [h2]
      rcases first_is badR l with ⟨e1, hall⟩ | ⟨k, hk, e1, hbad, hgood⟩
      · rw [e1]
        simp [kp44, rTbl_enc, rTbl_dec, rPrp_k, rInt_k, g44, l1, s17, h1, h2I]
        (generalize hLoopQ : Cx.loop _ _ _ = rLoopQ; apply loop_then hLoopQ (fun k => ⟨[(1, .d (.sl 1 (l.map rInt.enc))), (7, .d (DI 0)), (8, .d (DI k))], [], [], []⟩) l.length rfl; rotate_left; (show _ < 281474976710656; omega); rfl; rotate_left; all_goals clear hLoopQ)
        · intro j hj
          have w1 := wrap_small ((j : Int) + 1) (by omega) (by omega)
          have hjl : (j : Int) < l.length := by omega
          have hn := hall j hj
          unfold badR at hn
          by_cases hm : l[j] = -1
          · simp [kp44, hj, hjl, hm, w1]
          · have hm' : (l[j] == -1) = false := by simpa using hm
            have hin : inR l[j] 0 100000 = true := by rw [hm'] at hn; simpa using hn
            have hm2 : (l[j] != -1) = true := by simpa using hm
            simp [kp44, g44, l1, s58, hj, hjl, hm2, hin, w1]
        · simp [kp44]
      · rw [e1]
        simp [kp44, rTbl_enc, rTbl_dec, rPrp_k, rInt_k, g44, l1, s17, h1, h2I]
        (generalize hLoopQ : Cx.loop _ _ _ = rLoopQ; apply loop_then hLoopQ (fun j => ⟨[(1, .d (.sl 1 (l.map rInt.enc))), (7, .d (DI (if j ≤ k then 0 else 7))), (8, .d (DI j))], [], [], []⟩) (k + 1) rfl; rotate_left; (show _ < 281474976710656; omega); rfl; rotate_left; all_goals clear hLoopQ)
        · intro j hj0
          have hj : j < l.length := by omega
          have w1 := wrap_small ((j : Int) + 1) (by omega) (by omega)
          have hjl : (j : Int) < l.length := by omega
          by_cases hjk : j < k
          · have hn := hgood j hj hjk
            have h3 : j ≤ k := by omega
            have h4 : j + 1 ≤ k := by omega
            unfold badR at hn
            by_cases hm : l[j] = -1
            · simp [kp44, hj, hjl, hm, w1, h3, h4]
            · have hm' : (l[j] == -1) = false := by simpa using hm
              have hin : inR l[j] 0 100000 = true := by rw [hm'] at hn; simpa using hn
              have hm2 : (l[j] != -1) = true := by simpa using hm
              simp [kp44, g44, l1, s58, hj, hjl, hm2, hin, w1, h3, h4]
          · have hjk : j = k := by omega
            subst hjk
            unfold badR at hbad
            simp only [Bool.and_eq_true, Bool.not_eq_true', beq_eq_false_iff_ne] at hbad
            have hm2 : (l[j] != -1) = true := by simpa using hbad.1
            have hin := hbad.2
            simp [kp44, g44, l1, s58, hj, hjl, hm2, hin, w1]
        · have hkk : ¬ k + 1 ≤ k := by omega
          by_cases hkl : (k : Int) + 1 < l.length
          · simp [kp44, hkl, hkk]
          · simp [kp44, hkl, hkk]
    · rw [if_pos (by simpa using h2)]
      have h2I : ((l.length : Int) != x.props.length) = true := by simp; omega
      simp [kp44, rTbl_enc, rTbl_dec, rPrp_k, rInt_k, g44, l1, s17, h1, h2I]
      generalize hL : Cx.loop _ _ _ = R
      have hR : R = some (.exit 0, ⟨[(1, .d (.sl 1 (l.map rInt.enc))), (7, .d (DI 3)), (8, .d (DI 0)), (32, .d (DB false))], [], [], []⟩) := by
        rw [← hL]
        refine loop_run (fun k => ⟨[(1, .d (.sl 1 (l.map rInt.enc))), (7, .d (DI 3)), (8, .d (DI 0))], [], [], []⟩) _ _ 0 (by simp) (fun j hj => absurd hj (by omega)) ?_ (by simp only [mkCx, fuel]; omega)
        by_cases hl0 : 0 < l.length
        · simp [kp44, hl0]
        · simp [kp44, hl0]
      rw [hR]
      simp [kp44]
  · rw [if_pos h1]
    have h1' : ((chk x).2.2 == 0) = false := by simpa using h1
    simp [kp44, rTbl_enc, rTbl_dec, rPrp_k, rInt_k, g44, l1, s17, h1']
    generalize hL : Cx.loop _ _ _ = R
    have hR : R = some (.exit 0, ⟨[(1, .d (.sl 1 (l.map rInt.enc))), (7, .d (DI (chk x).2.2)), (8, .d (DI 0)), (32, .d (DB false))], [], [], []⟩) := by
      rw [← hL]
      refine loop_run (fun k => ⟨[(1, .d (.sl 1 (l.map rInt.enc))), (7, .d (DI (chk x).2.2)), (8, .d (DI 0))], [], [], []⟩) _ _ 0 (by simp) (fun j hj => absurd hj (by omega)) ?_ (by simp only [mkCx, fuel]; omega)
      by_cases hl0 : 0 < l.length
      · simp [kp44, hl0, h1']
      · simp [kp44, hl0]
    rw [hR]
    simp [kp44]
theorem call44 (xs : Array Value) (w : World) : (callFunc 44 xs).run Tryz.prog w = .ok (.enter 44 xs) w := by kernel_rfl
def partK (q : Int → Bool) (lo : Int) : Nat → Spn × Bool
  | 0 => (⟨0, 0⟩, false)
  | k + 1 => if q (lo + k) then (⟨if (partK q lo k).2 then (partK q lo k).1.lo else lo + k, lo + k⟩, true) else partK q lo k
def partsR (x : Tbl) (l : List Int) (a b : Nat) (lo hi : Int) : Spn × Bool := partK (explB x l a b) lo (hi + 1 - lo).toNat
def g46 : List (Nat × (List D → Option D)) := [(41, s41)]
theorem dg46 : DelOk Tryz.prog (delOf g46) := del_cons del_nil call41 ok41
def bdsOk (lo hi : Int) : Prop := 0 ≤ lo ∧ lo ≤ 1000 ∧ 0 ≤ hi ∧ hi ≤ 1000
instance (lo hi : Int) : Decidable (bdsOk lo hi) := inferInstanceAs (Decidable (_ ∧ _))
def s46 : List D → Option D := sp6 (cAgg rTbl) (cList rInt) cInt cInt cInt cInt (cTup2 (cAgg rSpn) cBool) fun x l a b lo hi => if okR x l ∧ kdOk x a ∧ kdOk x b ∧ bdsOk lo hi then some (partsR x l a.toNat b.toNat lo hi) else none
set_option maxHeartbeats 2000000 in
theorem ok46 : ∀ ds d, s46 ds = some d → PureC Tryz.prog 46 ds d := ok_sp6 fun x l a b lo hi r hr => by
  split at hr
  · rename_i hc
    cases hr
    obtain ⟨h0, k1, k2, b0, b1, b2, b3⟩ := hc
    obtain ⟨A, rfl⟩ : ∃ A : Nat, a = A := ⟨a.toNat, by have := k1.1; omega⟩
    obtain ⟨B, rfl⟩ : ∃ B : Nat, b = B := ⟨b.toNat, by have := k2.1; omega⟩
    simp only [Int.toNat_natCast]
    refine pure_of_call (mkCx_ok dg46 37 kp46 []) Tryz.func46 rfl rfl (Nat.le_of_ble_eq_true rfl) (by kernel_rfl) ?_
    rw [Tryz.results46]
    unfold partsR
    obtain ⟨N, hN⟩ : ∃ N : Nat, (hi + 1 - lo).toNat = N := ⟨_, rfl⟩
    rw [hN]
    have hNb : N ≤ 1001 := by omega
    have hrd : rSpn.enc (partK (explB x l A B) lo N).1 = [DI (partK (explB x l A B) lo N).1.lo, DI (partK (explB x l A B) lo N).1.hi] := rfl
    simp [kp46, rTbl_enc, rInt_k]
    (generalize hLoopQ : Cx.loop _ _ _ = rLoopQ; apply loop_then hLoopQ (fun k => ⟨[(1, .d (.sl 1 (l.map rInt.enc))), (2, .d (DI A)), (3, .d (DI B)), (5, .d (DI hi)), (6, .loc 6 0), (12, .loc 12 0), (14, .loc 14 0), (15, .d (DB (partK (explB x l A B) lo k).2)), (16, .d (DI (lo + k)))], [(6, [.d (.sl 2 (x.props.map rPrp.enc)), .d (.sl 2 (x.kinds.map rKnd.enc)), .d (DI x.purity)]), (12, [.d (DI 0), .d (DI 0)]), (14, [.d (DI (partK (explB x l A B) lo k).1.lo), .d (DI (partK (explB x l A B) lo k).1.hi)])], [], []⟩) N (by simp [partK]); rotate_left; (show _ < 281474976710656; omega); rfl; rotate_left; all_goals clear hLoopQ)
    · intro j hj
      have hjh : lo + (j : Int) ≤ hi := by omega
      have hpt : ptOk (lo + j) := ⟨by omega, by omega⟩
      have w1 := wrap_small (lo + (j : Int) + 1) (by omega) (by omega)
      have e1 : lo + ((j : Int) + 1) = lo + j + 1 := by omega
      simp only [partK]
      generalize partK (explB x l A B) lo j = s at *
      obtain ⟨⟨f, g⟩, b⟩ := s
      cases hq : explB x l A B (lo + j)
      · simp [kp46, g46, s41, rTbl_dec, h0, k1, k2, hjh, hpt, hq, w1, e1]
      · cases b
        · simp [kp46, g46, s41, rTbl_dec, h0, k1, k2, hjh, hpt, hq, w1, e1]
        · simp [kp46, g46, s41, rTbl_dec, h0, k1, k2, hjh, hpt, hq, w1, e1]
    · have hjh : ¬ lo + (N : Int) ≤ hi := by omega
      generalize partK (explB x l A B) lo N = s at *
      obtain ⟨⟨f, g⟩, b⟩ := s
      simp [kp46, hjh, rSpn_enc]
  · cases hr
theorem call46 (xs : Array Value) (w : World) : (callFunc 46 xs).run Tryz.prog w = .ok (.enter 46 xs) w := by kernel_rfl
def twoE (x : Tbl) (e a b : Int) : Int := if ¬ e = 0 then e else if inR a 0 ((x.kinds.length : Int) - 1) = false ∨ inR b 0 ((x.kinds.length : Int) - 1) = false then 4 else if a = b then 2 else 0
def mixR (x : Tbl) (l : List Int) (a b : Int) : Spn × Int :=
  if ¬ twoE x (readE x l) a b = 0 then (⟨0, 0⟩, twoE x (readE x l) a b) else if (partsR x l a.toNat b.toNat 0 1000).2 then ((partsR x l a.toNat b.toNat 0 1000).1, 0) else (⟨0, 0⟩, 9)
theorem kd_in {x : Tbl} {a : Int} (h : inR a 0 ((x.kinds.length : Int) - 1) = true) : kdOk x a := by
  have := inR_iff.1 h
  exact ⟨this.1, by omega⟩
def s22 : List D → Option D := sp4 (cAgg rTbl) (cList rInt) cInt cInt (cTup2 (cAgg rSpn) cInt) fun x l a b => some (mixR x l a b)
def bitOk (n : Int) : Prop := 0 ≤ n ∧ n ≤ 40
instance (n : Int) : Decidable (bitOk n) := inferInstanceAs (Decidable (_ ∧ _))
def bitV (k : Nat) : Int := 2 ^ k
theorem bitV_succ (k : Nat) : bitV (k + 1) = 2 * bitV k := by unfold bitV; rw [Int.pow_succ, Int.mul_comm]
theorem bitV_bd : ∀ {k : Nat}, k ≤ 40 → 1 ≤ bitV k ∧ bitV k ≤ 1099511627776 := by
  intro k hk
  have h1 : bitV k = ((2 ^ k : Nat) : Int) := by unfold bitV; simp
  have h2 : 2 ^ k ≤ 2 ^ 40 := Nat.pow_le_pow_right (by omega) hk
  have h3 : 0 < 2 ^ k := Nat.pow_pos (by omega)
  rw [h1]
  have : (2 : Nat) ^ 40 = 1099511627776 := by decide
  omega
def s42 : List D → Option D := sp1 cInt cInt fun k => if bitOk k then some (bitV k.toNat) else none
theorem ok42 : ∀ ds d, s42 ds = some d → PureC Tryz.prog 42 ds d := ok_sp1 fun k r hr => by
  split at hr
  · rename_i hc
    cases hr
    obtain ⟨h0, h1⟩ := hc
    obtain ⟨K, rfl⟩ : ∃ K : Nat, k = K := ⟨k.toNat, by omega⟩
    simp only [Int.toNat_natCast]
    refine pure_of_call (mkCx_ok del_nil 13 kp42 []) Tryz.func42 rfl rfl (Nat.le_of_ble_eq_true rfl) (by kernel_rfl) ?_
    rw [Tryz.results42]
    simp [kp42]
    (generalize hLoopQ : Cx.loop _ _ _ = rLoopQ; apply loop_then hLoopQ (fun j => ⟨[(0, .d (DI K)), (3, .d (DI (bitV j))), (4, .d (DI j))], [], [], []⟩) K rfl; rotate_left; (show _ < 281474976710656; omega); rfl; rotate_left; all_goals clear hLoopQ)
    · intro j hj
      have w1 := wrap_small ((j : Int) + 1) (by omega) (by omega)
      have hjl : (j : Int) < K := by omega
      have hb := bitV_bd (k := j) (by omega)
      have w2 := wrap_small (2 * bitV j) (by omega) (by omega)
      rw [bitV_succ]
      simp [kp42, hj, hjl, w1, w2]
    · simp [kp42]
  · cases hr
theorem call42 (xs : Array Value) (w : World) : (callFunc 42 xs).run Tryz.prog w = .ok (.enter 42 xs) w := by kernel_rfl
def g49 : List (Nat × (List D → Option D)) := [(42, s42)]
theorem dg49 : DelOk Tryz.prog (delOf g49) := del_cons del_nil call42 ok42
def setOk (n : Int) : Prop := 0 ≤ n ∧ n ≤ 9223372036854775807
instance (n : Int) : Decidable (setOk n) := inferInstanceAs (Decidable (_ ∧ _))
def hasB (s : Int) (k : Nat) : Bool := s / bitV k % 2 == 1
def s49 : List D → Option D := sp2 cInt cInt cBool fun s k => if setOk s ∧ bitOk k then some (hasB s k.toNat) else none
theorem ok49 : ∀ ds d, s49 ds = some d → PureC Tryz.prog 49 ds d := ok_sp2 fun s k r hr => by
  split at hr
  · rename_i hc
    cases hr
    obtain ⟨⟨s0, s1⟩, hk⟩ := hc
    obtain ⟨K, rfl⟩ : ∃ K : Nat, k = K := ⟨k.toNat, by have := hk.1; omega⟩
    simp only [Int.toNat_natCast]
    have hb := bitV_bd (k := K) (by have := hk.2; omega)
    have hne : ¬ bitV K = 0 := by omega
    have e1 : s.tdiv (bitV K) = s / bitV K := Int.tdiv_eq_ediv_of_nonneg s0
    have q0 : 0 ≤ s / bitV K := Int.ediv_nonneg s0 (by omega)
    have q1 : s / bitV K ≤ s := Int.ediv_le_self _ s0
    have w1 := wrap_small (s / bitV K) (by omega) (by omega)
    have e2 : (s / bitV K).tmod 2 = s / bitV K % 2 := Int.tmod_eq_emod_of_nonneg q0
    refine pure_of_call (mkCx_ok dg49 11 kp49 []) Tryz.func49 rfl rfl (Nat.le_of_ble_eq_true rfl) (by kernel_rfl) ?_
    rw [Tryz.results49]
    unfold hasB
    simp [kp49, g49, s42, hk, hne, e1, w1, e2]
  · cases hr
theorem call49 (xs : Array Value) (w : World) : (callFunc 49 xs).run Tryz.prog w = .ok (.enter 49 xs) w := by kernel_rfl
end Go.Proofs.YtkldmnladkcfeaaGreatDoor
namespace Go.Proofs.YtkldmnladkcfeaaGreatDoor
open Go.RowKit
set_option linter.unusedSimpArgs false
set_option linter.unusedVariables false
def pairK (x : Tbl) (l : List Int) (s : Int) (a : Nat) : Nat → List Int
  | 0 => []
  | b + 1 => pairK x l s a b ++ (if (partsR x l a b 1 999).2 = true ∧ s = bitV a + bitV b then [s] else [])
def kindK (x : Tbl) (l : List Int) (s : Int) : Nat → List Int
  | 0 => []
  | a + 1 => kindK x l s a ++ pairK x l s a a ++ (if s = bitV a ∧ explB x l a a 1000 = true then [s] else [])
def setK (x : Tbl) (l : List Int) : Nat → List Int
  | 0 => []
  | k + 1 => setK x l k ++ kindK x l ((k : Int) + 1) x.kinds.length
def allR (x : Tbl) (l : List Int) : List Int := setK x l (2 ^ x.kinds.length - 1)
@[simp] theorem pairK_zero (x : Tbl) (l : List Int) (s : Int) (a : Nat) : pairK x l s a 0 = [] := rfl
@[simp] theorem kindK_zero (x : Tbl) (l : List Int) (s : Int) : kindK x l s 0 = [] := rfl
@[simp] theorem setK_zero (x : Tbl) (l : List Int) : setK x l 0 = [] := rfl
theorem pairK_len (x : Tbl) (l : List Int) (s : Int) (a : Nat) : ∀ k, (pairK x l s a k).length ≤ k
  | 0 => by simp [pairK]
  | k + 1 => by
    have := pairK_len x l s a k
    unfold pairK
    rw [List.length_append]
    split <;> simp <;> omega
theorem kindK_len (x : Tbl) (l : List Int) (s : Int) : ∀ k, k ≤ 8 → (kindK x l s k).length ≤ 9 * k
  | 0, _ => by simp [kindK]
  | k + 1, h => by
    have := kindK_len x l s k (by omega)
    have := pairK_len x l s k k
    unfold kindK
    rw [List.length_append, List.length_append]
    split <;> simp <;> omega
theorem setK_len (x : Tbl) (l : List Int) (h : x.kinds.length ≤ 8) : ∀ k, (setK x l k).length ≤ 72 * k
  | 0 => by simp [setK]
  | k + 1 => by
    have := setK_len x l h k
    have := kindK_len x l ((k : Int) + 1) x.kinds.length h
    unfold setK
    rw [List.length_append]
    omega
theorem pairK_mem {x : Tbl} {l : List Int} {s : Int} {a : Nat} : ∀ {k : Nat}, ∀ t ∈ pairK x l s a k, t = s
  | 0, t, h => by cases h
  | k + 1, t, h => by
    unfold pairK at h
    rcases List.mem_append.1 h with h | h
    · exact pairK_mem t h
    · split at h
      · simpa using h
      · cases h
theorem kindK_mem {x : Tbl} {l : List Int} {s : Int} : ∀ {k : Nat}, ∀ t ∈ kindK x l s k, t = s
  | 0, t, h => by cases h
  | k + 1, t, h => by
    unfold kindK at h
    rcases List.mem_append.1 h with h | h
    · rcases List.mem_append.1 h with h | h
      · exact kindK_mem t h
      · exact pairK_mem t h
    · split at h
      · simpa using h
      · cases h
theorem setK_mem {x : Tbl} {l : List Int} : ∀ {k : Nat}, ∀ t ∈ setK x l k, 1 ≤ t ∧ t ≤ k
  | 0, t, h => by cases h
  | k + 1, t, h => by
    unfold setK at h
    rcases List.mem_append.1 h with h | h
    · have := setK_mem t h; omega
    · have := kindK_mem t h; omega
theorem pow_le8 {k : Nat} (h : k ≤ 8) : 1 ≤ 2 ^ k ∧ 2 ^ k ≤ 256 := by
  have h1 : 2 ^ k ≤ 2 ^ 8 := Nat.pow_le_pow_right (by omega) h
  have h2 : 0 < 2 ^ k := Nat.pow_pos (by omega)
  omega
theorem allR_mem {x : Tbl} {l : List Int} (h : x.kinds.length ≤ 8) : ∀ t ∈ allR x l, 1 ≤ t ∧ t ≤ 255 := fun t ht => by
  have := setK_mem t ht
  have := pow_le8 h
  omega
theorem allR_len {x : Tbl} {l : List Int} (h : x.kinds.length ≤ 8) : (allR x l).length ≤ 20000 := by
  have := setK_len x l h (2 ^ x.kinds.length - 1)
  have := pow_le8 h
  unfold allR; omega
theorem bitV_nat (k : Nat) : bitV k = ((2 ^ k : Nat) : Int) := by unfold bitV; simp
def setsR (x : Tbl) (l : List Int) : List Int × Int := if ¬ readE x l = 0 then ([], readE x l) else (allR x l, 0)
def s26 : List D → Option D := sp2 (cAgg rTbl) (cList rInt) (cTup2 (cList rInt) cInt) fun x l => some (setsR x l)
def mustAt (l : List Int) (k : Nat) : Bool := l.all fun s => hasB s k
def mayAt (l : List Int) (k : Nat) : Bool := l.any fun s => hasB s k
def whereK (q : Nat → Bool) : Nat → List Int
  | 0 => []
  | k + 1 => whereK q k ++ (if q k = true then [(k : Int)] else [])
@[simp] theorem whereK_zero (q : Nat → Bool) : whereK q 0 = [] := rfl
theorem whereK_len (q : Nat → Bool) : ∀ k, (whereK q k).length ≤ k
  | 0 => by simp
  | k + 1 => by
    have := whereK_len q k
    unfold whereK
    rw [List.length_append]
    split <;> simp <;> omega
def withR (x : Tbl) (l : List Int) : List Int × List Int × Int :=
  if ¬ readE x l = 0 then ([], [], readE x l) else if (allR x l).length = 0 then ([], [], 9) else (whereK (mustAt (allR x l)) x.kinds.length, whereK (mayAt (allR x l)) x.kinds.length, 0)
def s29 : List D → Option D := sp2 (cAgg rTbl) (cList rInt) (cTup3 (cList rInt) (cList rInt) cInt) fun x l => some (withR x l)
end Go.Proofs.YtkldmnladkcfeaaGreatDoor
