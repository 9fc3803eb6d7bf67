/-
  The program of the wax chapter: Sets and Within. Conditions: the names are strings.
-/
import Derived.Test.YtkldmnladkcfeaaGreatDoorZPrH
namespace Go.Proofs.YtkldmnladkcfeaaGreatDoor
open Go.RowKit
set_option linter.unusedSimpArgs false
set_option linter.unusedVariables false
def kp25 (r : Nat) : List (Nat × Option Nat) := match r with
  | 0 => [(1, none), (2, none)]
  | 1 => [(6, none), (7, none)]
  | 2 => [(6, none), (7, none), (15, none)]
  | 3 => [(4, none), (5, none)]
  | 4 => [(4, none), (5, none)]
  | _ => []
def kp28 (r : Nat) : List (Nat × Option Nat) := match r with
  | 0 => [(1, none), (2, none), (4, some 1), (5, some 1)]
  | 1 => [(2, none), (4, some 1), (5, some 1), (6, none), (7, none)]
  | 2 => [(2, none), (4, some 1), (5, some 1), (6, none), (7, none), (20, none)]
  | 3 => [(4, some 1), (5, some 1), (6, none)]
  | 4 => [(2, none), (4, some 1), (5, some 1), (7, none), (8, none), (9, none)]
  | 5 => [(2, none), (4, some 1), (5, some 1), (8, none), (9, none), (23, none), (24, none), (25, none)]
  | 6 => [(2, none), (4, some 1), (5, some 1), (8, none), (9, none), (23, none), (24, none), (25, none), (26, none)]
  | 7 => [(2, none), (4, some 1), (5, some 1), (8, none), (9, none), (11, none), (23, none), (24, none), (25, none)]
  | 8 => [(2, none), (4, some 1), (5, some 1), (8, none), (9, none), (11, none), (23, none), (24, none), (25, none)]
  | 9 => [(2, none), (4, some 1), (5, some 1), (8, none), (9, none), (23, none), (24, none), (25, none)]
  | 10 => [(2, none), (4, some 1), (5, some 1), (8, none), (9, none), (23, none), (24, none), (25, none)]
  | 11 => [(2, none), (4, some 1), (5, some 1), (8, none), (9, none), (37, none)]
  | 12 => [(4, some 1), (5, some 1), (6, none)]
  | 13 => [(4, some 1), (5, some 1), (8, none), (9, none), (40, none), (41, none)]
  | 14 => [(4, some 1), (5, some 1), (8, none), (9, none), (40, none), (41, none), (42, none)]
  | 15 => [(4, some 1), (5, some 1), (8, none), (9, none), (12, none), (40, none), (41, none)]
  | 16 => [(4, some 1), (5, some 1), (8, none), (9, none), (12, none), (40, none), (41, none), (48, none)]
  | 17 => [(4, some 1), (5, some 1), (8, none), (9, none), (12, none), (40, none), (41, none)]
  | 18 => [(4, some 1), (5, some 1), (8, none), (9, none), (12, none), (40, none), (41, none), (57, none)]
  | 19 => [(4, some 1), (5, some 1), (8, none), (9, none), (40, none), (41, none)]
  | 20 => [(4, some 1), (5, some 1), (8, none), (9, none), (40, none), (41, none)]
  | 21 => [(4, some 1), (5, some 1), (6, none)]
  | _ => []
theorem ofInt_nat (a : Nat) (h : a < 256) : (BitVec.ofInt 64 (a : Int)).toNat = a := by
  rw [BitVec.ofInt_natCast, BitVec.toNat_ofNat]; exact Nat.mod_eq_of_lt (by omega)
theorem bits_and {a b : Nat} (ha : a < 256) (hb : b < 256) : bits BinOp.and IntKind.i64 (a : Int) (b : Int) = ((a &&& b : Nat) : Int) := by
  show IntKind.i64.wrap (((BitVec.ofInt 64 (a : Int)) &&& (BitVec.ofInt 64 (b : Int))).toNat : Int) = _
  rw [BitVec.toNat_and, ofInt_nat a ha, ofInt_nat b hb]
  have := Nat.and_le_left (n := a) (m := b)
  exact wrap_small _ (by omega) (by omega)
theorem or_bd {a b : Nat} (ha : a < 256) (hb : b < 256) : (a ||| b) < 256 := Nat.or_lt_two_pow (n := 8) ha hb
theorem bits_or {a b : Nat} (ha : a < 256) (hb : b < 256) : bits BinOp.or IntKind.i64 (a : Int) (b : Int) = ((a ||| b : Nat) : Int) := by
  show IntKind.i64.wrap (((BitVec.ofInt 64 (a : Int)) ||| (BitVec.ofInt 64 (b : Int))).toNat : Int) = _
  rw [BitVec.toNat_or, ofInt_nat a ha, ofInt_nat b hb]
  have := or_bd ha hb
  exact wrap_small _ (by omega) (by omega)
theorem bits_all {b : Nat} (hb : b < 256) : bits BinOp.and IntKind.i64 (-1) (b : Int) = (b : Int) := by
  show IntKind.i64.wrap (((BitVec.ofInt 64 (-1)) &&& (BitVec.ofInt 64 (b : Int))).toNat : Int) = _
  have e : BitVec.ofInt 64 (-1) = BitVec.allOnes 64 := by decide
  rw [e, BitVec.allOnes_and, ofInt_nat b hb]
  exact wrap_small _ (by omega) (by omega)
theorem has_test {s k : Nat} (hk : k ≤ 40) : hasB (s : Int) k = s.testBit k := by
  unfold hasB bitV
  rw [Nat.testBit_eq_decide_div_mod_eq]
  have : ((s : Int) / 2 ^ k % 2) = ((s / 2 ^ k % 2 : Nat) : Int) := by simp
  rw [this]
  by_cases h : s / 2 ^ k % 2 = 1
  · rw [h]; rfl
  · have : ((s / 2 ^ k % 2 : Nat) : Int) ≠ 1 := by omega
    simp only [h, decide_false]
    exact beq_eq_false_iff_ne.2 this
def andF (l : List Int) : Int := l.foldl (fun a s => bits BinOp.and IntKind.i64 a s) (-1)
def orF (l : List Int) : Int := l.foldl (fun a s => bits BinOp.or IntKind.i64 a s) 0
@[simp] theorem andF_nil : andF [] = -1 := rfl
@[simp] theorem orF_nil : orF [] = 0 := rfl
theorem fold_next {α β : Type} (f : β → α → β) (z : β) {l : List α} {j : Nat} (h : j < l.length) : (l.take (j + 1)).foldl f z = f ((l.take j).foldl f z) l[j] := by
  rw [List.take_add_one, List.getElem?_eq_getElem h, Option.toList_some, List.foldl_append]; rfl
theorem or_law : ∀ (l : List Int) (n : Nat), n < 256 → (∀ s ∈ l, 0 ≤ s ∧ s ≤ 255) → ∃ n' : Nat, l.foldl (fun a s => bits BinOp.or IntKind.i64 a s) (n : Int) = n' ∧ n' < 256 ∧ ∀ k, n'.testBit k = (n.testBit k || l.any fun s => s.toNat.testBit k)
  | [], n, hn, _ => ⟨n, rfl, hn, fun k => by simp⟩
  | s :: t, n, hn, h => by
    obtain ⟨s0, s1⟩ := h s (by simp)
    obtain ⟨S, rfl⟩ : ∃ S : Nat, s = S := ⟨s.toNat, by omega⟩
    obtain ⟨n', h1, h2, h3⟩ := or_law t (n ||| S) (or_bd hn (by omega)) fun s hs => h s (by simp [hs])
    refine ⟨n', ?_, h2, fun k => ?_⟩
    · simp only [List.foldl_cons]
      rw [bits_or hn (by omega)]; exact h1
    · rw [h3, Nat.testBit_or]; simp [Bool.or_assoc]
theorem and_law : ∀ (l : List Int) (n : Nat), n < 256 → (∀ s ∈ l, 0 ≤ s ∧ s ≤ 255) → ∃ n' : Nat, l.foldl (fun a s => bits BinOp.and IntKind.i64 a s) (n : Int) = n' ∧ n' < 256 ∧ ∀ k, n'.testBit k = (n.testBit k && l.all fun s => s.toNat.testBit k)
  | [], n, hn, _ => ⟨n, rfl, hn, fun k => by simp⟩
  | s :: t, n, hn, h => by
    obtain ⟨s0, s1⟩ := h s (by simp)
    obtain ⟨S, rfl⟩ : ∃ S : Nat, s = S := ⟨s.toNat, by omega⟩
    have hle := Nat.and_le_left (n := n) (m := S)
    obtain ⟨n', h1, h2, h3⟩ := and_law t (n &&& S) (by omega) fun s hs => h s (by simp [hs])
    refine ⟨n', ?_, h2, fun k => ?_⟩
    · simp only [List.foldl_cons]
      rw [bits_and hn (by omega)]; exact h1
    · rw [h3, Nat.testBit_and]; simp [Bool.and_assoc]
theorem must_law {l : List Int} (hne : l ≠ []) (h : ∀ s ∈ l, 0 ≤ s ∧ s ≤ 255) : ∃ n : Nat, andF l = n ∧ n < 256 ∧ ∀ k, k ≤ 40 → n.testBit k = mustAt l k := by
  cases l with
  | nil => exact absurd rfl hne
  | cons s t =>
    obtain ⟨s0, s1⟩ := h s (by simp)
    obtain ⟨S, rfl⟩ : ∃ S : Nat, s = S := ⟨s.toNat, by omega⟩
    obtain ⟨n', h1, h2, h3⟩ := and_law t S (by omega) fun s hs => h s (by simp [hs])
    refine ⟨n', ?_, h2, fun k hk => ?_⟩
    · unfold andF; simp only [List.foldl_cons]; rw [bits_all (by omega)]; exact h1
    · rw [h3]
      unfold mustAt
      rw [List.all_cons, has_test hk]
      congr 1
      rw [Bool.eq_iff_iff, List.all_eq_true, List.all_eq_true]
      refine forall_congr' fun s => imp_congr_right fun hs => ?_
      obtain ⟨q0, q1⟩ := h s (by simp [hs])
      have := has_test (s := s.toNat) hk
      rw [show ((s.toNat : Nat) : Int) = s by omega] at this
      rw [this]
theorem may_law {l : List Int} (h : ∀ s ∈ l, 0 ≤ s ∧ s ≤ 255) : ∃ n : Nat, orF l = n ∧ n < 256 ∧ ∀ k, k ≤ 40 → n.testBit k = mayAt l k := by
  obtain ⟨n', h1, h2, h3⟩ := or_law l 0 (by omega) h
  refine ⟨n', h1, h2, fun k hk => ?_⟩
  rw [h3]
  unfold mayAt
  rw [Nat.zero_testBit, Bool.false_or, Bool.eq_iff_iff, List.any_eq_true, List.any_eq_true]
  refine exists_congr fun s => and_congr_right fun hs => ?_
  obtain ⟨q0, q1⟩ := h s hs
  have := has_test (s := s.toNat) hk
  rw [show ((s.toNat : Nat) : Int) = s by omega] at this
  rw [this]
theorem bit_one {n k : Nat} (hn : n < 256) (hk : k < 8) : (bits BinOp.and IntKind.i64 ((n : Int) / 2 ^ (min k IntKind.i64.bits)) 1 == 1) = n.testBit k := by
  have e : min k IntKind.i64.bits = k := by show min k 64 = k; omega
  have e2 : (n : Int) / 2 ^ k = ((n / 2 ^ k : Nat) : Int) := by simp
  have hle : n / 2 ^ k ≤ n := Nat.div_le_self _ _
  have e3 : bits BinOp.and IntKind.i64 ((n / 2 ^ k : Nat) : Int) 1 = ((n / 2 ^ k &&& 1 : Nat) : Int) := bits_and (b := 1) (by omega) (by omega)
  rw [e, e2, e3, Nat.and_one_is_mod, Nat.testBit_eq_decide_div_mod_eq]
  by_cases h : n / 2 ^ k % 2 = 1
  · rw [h]; rfl
  · have : ((n / 2 ^ k % 2 : Nat) : Int) ≠ 1 := by omega
    simp only [h, decide_false]
    exact beq_eq_false_iff_ne.2 this
def setsP (x : Tbl) (l : List Int) : List Int × Int := if ¬ readE x l = 0 then ([], readE x l) else (setsOf (mixL x l), 0)
def g25 : List (Nat × (List D → Option D)) := (62, s62) :: (66, s66) :: []
theorem dg25 : DelOk Tryz.prog (delOf g25) := del_cons (del_cons del_nil call66 ok66) call62 ok62
def s25 : List D → Option D := sp2 (cAgg rTbl) (cList rInt) (cTup2 (cList rInt) cInt) fun x l => if namesOk x then some (setsP x l) else none
theorem ok25 : ∀ ds d, s25 ds = some d → PureC Tryz.prog 25 ds d := ok_sp2 fun x l r hr => by
  split at hr
  · rename_i hnm
    cases hr
    refine pure_of_dec (cTup2 (cList rInt) cInt) (setsP x l) (mkCx_ok dg25 19 kp25 []) Tryz.func25 rfl rfl (Nat.le_of_ble_eq_true rfl) (by kernel_rfl) ?_
    rw [Tryz.results25]
    unfold setsP
    by_cases h1 : readE x l = 0
    · have hO := open_zero h1
      have hR : okR x l := h1
      simp [kp25, rTbl_enc, rTbl_dec, g25, s62, s66, smp_dec, hnm, hO, h1, hR]
    · have hO := open_err h1
      have h2 : (readE x l != 0) = true := by simpa using h1
      simp [kp25, rTbl_enc, rTbl_dec, g25, s62, hnm, hO, h1, h2]
  · cases hr
theorem call25 (xs : Array Value) (w : World) : (callFunc 25 xs).run Tryz.prog w = .ok (.enter 25 xs) w := by kernel_rfl
theorem bit_set {m : Mix} (h : (0 ≤ m.a ∧ m.a < 8) ∧ 0 ≤ m.b ∧ m.b < 8) : 1 ≤ maskV m ∧ maskV m ≤ 255 := by
  have := (or_lt m.a.toNat (by omega) m.b.toNat (by omega)).2
  have h1 : 2 ^ m.a.toNat ≤ (2 ^ m.a.toNat ||| 2 ^ m.b.toNat) := Nat.left_le_or
  have h2 : 1 ≤ 2 ^ m.a.toNat := Nat.one_le_two_pow
  unfold maskV; omega
theorem setsOf_bd {x : Tbl} {l : List Int} (h0 : okR x l) : ∀ s ∈ setsOf (mixL x l), 1 ≤ s ∧ s ≤ 255 := fun s hs => by
  have hk8 := (fine_of (okR_of h0).1).k8
  have hb : ∀ m ∈ mixL x l, 1 ≤ maskV m ∧ maskV m ≤ 255 := fun m hm => by
    obtain ⟨⟨a0, a1⟩, ⟨b0, b1⟩, _⟩ := mix_bd h0 hm
    exact bit_set ⟨⟨a0, by omega⟩, b0, by omega⟩
  rw [sets_mem fun m hm => by have := hb m hm; omega] at hs
  obtain ⟨m, hm, rfl⟩ := List.mem_map.1 hs
  exact hb m hm
def withP (x : Tbl) (l : List Int) : List Int × List Int × Int :=
  if ¬ readE x l = 0 then ([], [], readE x l) else if (setsOf (mixL x l)).length = 0 then ([], [], 9) else (whereK (mustAt (setsOf (mixL x l))) x.kinds.length, whereK (mayAt (setsOf (mixL x l))) x.kinds.length, 0)
def s28 : List D → Option D := sp2 (cAgg rTbl) (cList rInt) (cTup3 (cList rInt) (cList rInt) cInt) fun x l => if namesOk x then some (withP x l) else none
set_option maxHeartbeats 4000000 in
theorem ok28 : ∀ ds d, s28 ds = some d → PureC Tryz.prog 28 ds d := ok_sp2 fun x l r hr => by
  split at hr
  · rename_i hnm
    cases hr
    refine pure_of_dec (cTup3 (cList rInt) (cList rInt) cInt) (withP x l) (mkCx_ok dg25 65 kp28 []) Tryz.func28 rfl rfl (Nat.le_of_ble_eq_true rfl) (by kernel_rfl) ?_
    rw [Tryz.results28]
    unfold withP
    by_cases h1 : readE x l = 0
    · have hO := open_zero h1
      have hR : okR x l := h1
      have hk8 := (fine_of (okR_of hR).1).k8
      have hmem := setsOf_bd hR
      have hlen := sets_len (mixL x l)
      simp [kp28, rTbl_enc, rTbl_dec, g25, s62, s66, smp_dec, hnm, hO, h1, hR]
      generalize setsOf (mixL x l) = L at *
      obtain ⟨nb, hnb, hnb2, hnb3⟩ := may_law (l := L) fun s hs => by have := hmem s hs; omega
      (generalize hLoopQ : Cx.loop _ _ _ = rLoopQ; apply loop_then hLoopQ (fun k => ⟨[(2, .loc 2 0), (4, .sl 1 [] (.tok 4)), (5, .sl 1 [] (.tok 5)), (8, .d (DI (andF (L.take k)))), (9, .d (DI (orF (L.take k)))), (23, .d (.sl 1 (L.map rInt.enc))), (24, .d (DI L.length)), (25, .d (DI k))], [(2, [.d (.sl 2 (x.props.map rPrp.enc)), .d (.sl 2 (x.kinds.map rKnd.enc)), .d (DI x.purity)])], [5, 4], []⟩) L.length (by first | (simp; done) | (simp; rfl) | (simp; simp [*])); rotate_left; (show _ < 281474976710656; omega); rfl; rotate_left; all_goals clear hLoopQ)
      · intro j hj
        have w1 := wrap_small ((j : Int) + 1) (by omega) (by omega)
        have hjl : (j : Int) < L.length := by omega
        have e1 : andF (L.take (j + 1)) = bits BinOp.and IntKind.i64 (andF (L.take j)) L[j] := fold_next _ _ hj
        have e2 : orF (L.take (j + 1)) = bits BinOp.or IntKind.i64 (orF (L.take j)) L[j] := fold_next _ _ hj
        rw [e1, e2]
        simp [kp28, hj, hjl, w1]
      · rw [List.take_length, hnb]
        by_cases hL : L = []
        · subst hL
          have hz : nb = 0 := by
            have : orF [] = 0 := rfl
            rw [this] at hnb; omega
          subst hz
          simp [kp28]
          done
        · have hnz : nb ≠ 0 := fun e => by
            subst e
            obtain ⟨s, hs⟩ := List.exists_mem_of_ne_nil L hL
            obtain ⟨s0, s1⟩ := hmem s hs
            obtain ⟨i, hi⟩ := Nat.exists_testBit_of_ne_zero (show s.toNat ≠ 0 by omega)
            have hi8 : i < 8 := by
              rcases Nat.lt_or_ge i 8 with h | h
              · exact h
              · have : s.toNat < 2 ^ i := Nat.lt_of_lt_of_le (show s.toNat < 2 ^ 8 by omega) (Nat.pow_le_pow_right (by omega) h)
                rw [Nat.testBit_lt_two_pow this] at hi; cases hi
            have := hnb3 i (by omega)
            rw [Nat.zero_testBit] at this
            have h2 := has_test (s := s.toNat) (k := i) (by omega)
            rw [show ((s.toNat : Nat) : Int) = s by omega, hi] at h2
            have : mayAt L i = true := List.any_eq_true.2 ⟨s, hs, h2⟩
            simp_all
          obtain ⟨na, hna, hna2, hna3⟩ := must_law hL fun s hs => by have := hmem s hs; omega
          have hnzI : ((nb : Int) == 0) = false := beq_eq_false_iff_ne.2 (by omega)
          rw [hna]
          simp [kp28, hL, hnz, hnzI, rKnd_k]
          (generalize hLoopQ : Cx.loop _ _ _ = rLoopQ; apply loop_then hLoopQ (fun k => ⟨[(4, .sl 1 ((whereK (mustAt L) k).map rInt.enc) (.tok 4)), (5, .sl 1 ((whereK (mayAt L) k).map rInt.enc) (.tok 5)), (8, .d (DI na)), (9, .d (DI nb)), (40, .d (DI x.kinds.length)), (41, .d (DI k))], [], [5, 4], []⟩) x.kinds.length (by first | (simp; done) | (simp; rfl) | (simp; simp [*])); rotate_left; (show _ < 281474976710656; omega); rfl; rotate_left; all_goals clear hLoopQ)
          · intro j hj
            have w1 := wrap_small ((j : Int) + 1) (by omega) (by omega)
            have hjl : (j : Int) < x.kinds.length := by omega
            have l1 := whereK_len (mustAt L) j
            have l2 := whereK_len (mayAt L) j
            have b1 := bit_one (k := j) hna2 (by omega)
            have b2 := bit_one (k := j) hnb2 (by omega)
            rw [hna3 j (by omega)] at b1
            rw [hnb3 j (by omega)] at b2
            simp only [whereK]
            generalize whereK (mustAt L) j = M1 at *
            generalize whereK (mayAt L) j = M2 at *
            have c1 : M1.length + 1 ≤ 140737488355328 := by omega
            have c2 : (M1.length + 1) * 8 ≤ 140737488355328 := by omega
            have c3 : M2.length + 1 ≤ 140737488355328 := by omega
            have c4 : (M2.length + 1) * 8 ≤ 140737488355328 := by omega
            generalize mustAt L j = p1 at *
            generalize mayAt L j = p2 at *
            cases p1 <;> cases p2 <;> simp [kp28, hjl, w1, b1, b2, c1, c2, c3, c4, rInt_enc]
          · simp [kp28]
            done
    · have hO := open_err h1
      have h2 : (readE x l != 0) = true := by simpa using h1
      simp [kp28, rTbl_enc, rTbl_dec, g25, s62, hnm, hO, h1, h2]
  · cases hr
theorem call28 (xs : Array Value) (w : World) : (callFunc 28 xs).run Tryz.prog w = .ok (.enter 28 xs) w := by kernel_rfl
end Go.Proofs.YtkldmnladkcfeaaGreatDoor
