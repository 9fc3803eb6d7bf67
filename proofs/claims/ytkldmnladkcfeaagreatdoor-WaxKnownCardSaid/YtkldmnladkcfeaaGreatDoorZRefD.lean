/-
  Reference functions of the wax chapter: what is read. Conditions: none.
-/
import Derived.Test.YtkldmnladkcfeaaGreatDoorZRefC
import Derived.Test.YtkldmnladkcfeaaGreatDoorZAmF
namespace Go.Proofs.YtkldmnladkcfeaaGreatDoor
open Go.RowKit
set_option linter.unusedSimpArgs false
set_option linter.unusedVariables false
def propsW (W : List ByteArray) : Nat → List Prp
  | 0 => []
  | j + 1 => propsW W j ++ [⟨W.getD (2 * j + 1) ⟨#[]⟩, numV (W.getD (2 * j + 2) ⟨#[]⟩)⟩]
def spansW (W : List ByteArray) : Nat → List Spn
  | 0 => []
  | j + 1 => spansW W j ++ [⟨numV (W.getD (2 * j + 1) ⟨#[]⟩), numV (W.getD (2 * j + 2) ⟨#[]⟩)⟩]
def halfW (W : List ByteArray) : Nat := (W.length - 1) / 2
def parseK (L : List ByteArray) : Nat → Tbl
  | 0 => ⟨[], [], 0⟩
  | i + 1 => ⟨if i = 0 then propsW (splitV (L.getD i ⟨#[]⟩) 32) (halfW (splitV (L.getD i ⟨#[]⟩) 32)) else (parseK L i).props,
      if 1 < i then (parseK L i).kinds ++ [⟨(splitV (L.getD i ⟨#[]⟩) 32).getD 0 ⟨#[]⟩, spansW (splitV (L.getD i ⟨#[]⟩) 32) (halfW (splitV (L.getD i ⟨#[]⟩) 32))⟩] else (parseK L i).kinds,
      if i = 1 ∧ (splitV (L.getD i ⟨#[]⟩) 32).length = 2 then numV ((splitV (L.getD i ⟨#[]⟩) 32).getD 1 ⟨#[]⟩) else (parseK L i).purity⟩
def parsedR (s : ByteArray) : Tbl := parseK (splitV s 10) ((splitV s 10).length - 1)
@[simp] theorem propsW_zero (W : List ByteArray) : propsW W 0 = [] := rfl
@[simp] theorem spansW_zero (W : List ByteArray) : spansW W 0 = [] := rfl
theorem propsW_len (W : List ByteArray) : ∀ k, (propsW W k).length = k
  | 0 => rfl
  | k + 1 => by simp [propsW, propsW_len W k]
theorem spansW_len (W : List ByteArray) : ∀ k, (spansW W k).length = k
  | 0 => rfl
  | k + 1 => by simp [spansW, spansW_len W k]
theorem parseK_kinds (L : List ByteArray) : ∀ k, (parseK L k).kinds.length ≤ k
  | 0 => by simp [parseK]
  | k + 1 => by
    have := parseK_kinds L k
    unfold parseK
    simp only
    split <;> simp <;> omega
theorem splitS_mem (s : ByteArray) (b : Int) : ∀ i, ∀ p ∈ (splitS s b i).1, p.size ≤ s.size
  | 0, p, h => by cases h
  | i + 1, p, h => by
    unfold splitS at h
    split at h
    · simp only [List.mem_append, List.mem_singleton] at h
      rcases h with h | rfl
      · exact splitS_mem s b i p h
      · rw [ByteArray.size_extract]; omega
    · exact splitS_mem s b i p h
theorem splitV_mem (s : ByteArray) (b : Int) : ∀ p ∈ splitV s b, p.size ≤ s.size := by
  intro p h
  simp only [splitV, List.mem_append, List.mem_singleton] at h
  rcases h with h | rfl
  · exact splitS_mem s b _ p h
  · rw [ByteArray.size_extract]; omega
theorem splitV_len (s : ByteArray) (b : Int) : 1 ≤ (splitV s b).length ∧ (splitV s b).length ≤ s.size + 1 := by
  have := (splitS_le s b s.size).2
  simp [splitV]; omega
theorem parseK_props {L : List ByteArray} (h : ∀ k (h : k < L.length), L[k].size ≤ 2000) : ∀ k, k ≤ L.length → (parseK L k).props.length ≤ 1000
  | 0, _ => by simp [parseK]
  | k + 1, hk => by
    have h1 := parseK_props h k (by omega)
    unfold parseK
    simp only
    split
    · rename_i h0
      subst h0
      rw [propsW_len, getD_at _ _ _ (by omega)]
      have h2 := (splitV_len L[0] 32).2
      have h3 := h 0 (by omega)
      unfold halfW; omega
    · exact h1
def kp76 (r : Nat) : List (Nat × Option Nat) := match r with
  | 0 => [(0, none), (2, none)]
  | 1 => [(0, none), (2, none), (3, none)]
  | 2 => [(2, none), (3, none), (4, none)]
  | 3 => [(2, none), (3, none), (4, none), (5, none)]
  | 4 => [(2, none), (3, none), (4, none), (5, none), (15, none)]
  | 5 => [(2, none), (3, none), (4, none), (5, none)]
  | 6 => [(2, none), (3, none), (4, none), (5, none), (6, none)]
  | 7 => [(2, none), (3, none), (4, none), (5, none), (6, none), (7, none)]
  | 8 => [(2, none), (3, none), (4, none), (5, none), (6, none), (7, none), (8, none)]
  | 9 => [(2, none), (3, none), (4, none), (5, none), (6, none), (7, none), (8, none), (27, none)]
  | 10 => [(2, none), (3, none), (4, none), (5, none), (6, none), (7, none), (8, none)]
  | 11 => [(2, none), (3, none), (4, none), (5, none), (6, none), (7, none), (8, none)]
  | 12 => [(2, none), (3, none), (4, none), (5, none), (6, none), (7, none), (8, none)]
  | 13 => [(2, none), (3, none), (4, none), (5, none), (6, none), (7, none), (64, none)]
  | 14 => [(2, none), (3, none), (4, none), (5, none), (6, none), (7, none)]
  | 15 => [(2, none), (3, none), (4, none), (5, none), (6, none), (7, none), (82, none)]
  | 16 => [(2, none), (3, none), (4, none), (5, none), (6, none), (7, none)]
  | 17 => [(2, none), (3, none), (4, none), (5, none), (6, none), (7, none), (89, none)]
  | 18 => [(2, none), (3, none), (4, none), (5, none), (7, none)]
  | 19 => [(2, none), (3, none), (4, none), (5, none)]
  | 20 => [(2, none)]
  | _ => []
def md76 (r : Nat) : Nat := if r = 11 then 1014 else 0
def kb76 : List (Nat × Nat × Nat) := [(3, 0, 1002), (3, 1, 2), (7, 1, 2)]
attribute [local simp] kb76
def g76 : List (Nat × (List D → Option D)) := (98, s98) :: (99, s99) :: []
theorem dg76 : DelOk Tryz.prog (delOf g76) := del_cons (del_cons del_nil call99 ok99) call98 ok98
abbrev cx76 : Cx := mkCxE g76 [] 101 kp76 kb76 (fun _ => []) md76 [] []
theorem cx76_ok : CxOk Tryz.prog cx76 := mkCxE_ok dg76 eff_nil keys_nil (sq := []) (fun _ _ _ h => by cases h) 101 kp76 kb76 (fun _ => []) md76
def s76 : List D → Option D := sp1 cStr (cAgg rTbl) fun s => if s.size ≤ 2000 then some (parsedR s) else none
set_option maxHeartbeats 8000000 in
theorem ok76 : ∀ ds d, s76 ds = some d → PureC Tryz.prog 76 ds d := ok_sp1 fun s r hr => by
  split at hr
  · rename_i hs
    cases hr
    refine pure_handD Tryz.func76 rfl rfl (Nat.le_of_ble_eq_true rfl) fun m w a I ha0 => ?_
    refine am_cut cx76_ok 3 _ rfl (by kernel_rfl) (by kernel_rfl) (fun _ _ => rfl) _ _ _ _ I ?_
    have hlen := splitV_len s 10
    obtain ⟨n, hn⟩ : ∃ n, (splitV s 10).length = n + 1 := ⟨(splitV s 10).length - 1, by omega⟩
    have hn2 : n ≤ 2000 := by omega
    have hP : parsedR s = parseK (splitV s 10) n := by unfold parsedR; rw [hn]; rfl
    rw [hP]
    have hLz : ∀ k (h : k < (splitV s 10).length), (splitV s 10)[k].size ≤ 2000 := fun k h => Nat.le_trans (splitV_mem s 10 _ (List.getElem_mem h)) hs
    simp [cutA, kp76, g76, s98, hs]
    generalize hL : splitV s 10 = L at *
    (generalize hLoopQ : Cx.loop _ _ _ = rLoopQ; apply loop_thenK hLoopQ (fun k => ⟨[(2, .loc 2 0), (3, .loc 3 0), (4, .d (.sl 1 (L.map rStr.enc))), (5, .d (DI k))], [(2, [.d (.sl 0 []), .d (.sl 0 []), .d (DI 0)]), (3, [.sl 2 ((parseK L k).props.map rPrp.enc) (.own 100300), .sl 2 ((parseK L k).kinds.map rKnd.enc) (.tok 100301), .d (DI (parseK L k).purity)])], [100301, 100300], []⟩) n rfl; rotate_left; (show _ < 281474976710656; omega); (exact fun h => h); rotate_left; all_goals clear hLoopQ)
    · intro k hk
      have hkL : k < L.length := by omega
      have hkI : (k : Int) + 1 < L.length := by omega
      have hkI' : (k : Int) < L.length := by omega
      have w1 := wrap_small ((k : Int) + 1) (by omega) (by omega)
      have hlz := hLz k hkL
      simp only [parseK]
      rw [getD_at _ _ _ hkL]
      have hWl := splitV_len L[k] 32
      have hkl := parseK_kinds L k
      have hpl := parseK_props hLz k (by omega)
      generalize hW : splitV L[k] 32 = W at *
      have hhf : halfW W ≤ 1000 := by unfold halfW; omega
      have hz0 : k = 0 → parseK L k = ⟨[], [], 0⟩ := fun h => by rw [h]; rfl
      generalize parseK L k = t0 at *
      obtain ⟨P0, K0, u0⟩ := t0
      simp only at hpl hkl
      simp [kp76, md76, hkL, hkI, hkI', w1, g76, s98, hlz, hW]
      (generalize hLoopQ : Cx.loop _ _ _ = rLoopQ; apply loop_then hLoopQ (fun j => ⟨[(2, .loc 2 0), (3, .loc 3 0), (4, .d (.sl 1 (L.map rStr.enc))), (5, .d (DI k)), (6, .d (.sl 1 (W.map rStr.enc))), (7, .loc 7 0), (8, .d (DI (2 * (j : Int) + 1)))], [(2, [.d (.sl 0 []), .d (.sl 0 []), .d (DI 0)]), (3, [.sl 2 ((P0 ++ propsW W j).map rPrp.enc) (.own 100300), .sl 2 (K0.map rKnd.enc) (.tok 100301), .d (DI u0)]), (7, [.d (DS ByteArray.empty), .sl 2 ((spansW W j).map rSpn.enc) (.tok 100701)])], [100701, 100301, 100300], []⟩) (halfW W) (by first | (simp; done) | (simp; rfl) | (simp; simp [*])); rotate_left; (show _ < 281474976710656; omega); rfl; rotate_left; all_goals clear hLoopQ)
      · intro j hj
        have hj2 : 2 * j + 2 < W.length := by unfold halfW at hj; omega
        have g1 : 2 * j + 1 < W.length := by omega
        have i1 : 2 * (j : Int) + 1 < W.length := by omega
        have i2 : 2 * (j : Int) + 1 + 1 < W.length := by omega
        have e1 : (2 * (j : Int) + 1).toNat = 2 * j + 1 := by omega
        have e2 : (2 * (j : Int) + 1 + 1).toNat = 2 * j + 2 := by omega
        have wa := wrap_small (2 * (j : Int) + 1 + 1) (by omega) (by omega)
        have wb := wrap_small (2 * (j : Int) + 1 + 2) (by omega) (by omega)
        have p0 : 0 ≤ 2 * (j : Int) + 1 := by omega
        have p1 : 0 ≤ 2 * (j : Int) + 1 + 1 := by omega
        have e3 : 2 * ((j : Int) + 1) + 1 = 2 * (j : Int) + 1 + 2 := by omega
        have l1 := propsW_len W j
        have l2 := spansW_len W j
        simp only [propsW, spansW]
        rw [getD_at _ _ _ g1, getD_at _ _ _ hj2]
        generalize propsW W j = PJ at *
        generalize spansW W j = SJ at *
        have c1 : P0.length + PJ.length + 1 ≤ 140737488355328 := by omega
        have c2 : (P0.length + PJ.length + 1) * 24 ≤ 140737488355328 := by omega
        have c3 : SJ.length + 1 ≤ 140737488355328 := by omega
        have c4 : (SJ.length + 1) * 16 ≤ 140737488355328 := by omega
        simp [kp76, md76, g76, s99, rStr_enc, rPrp_enc, rSpn_enc, i1, i2, e1, e2, e3, p0, p1, g1, hj2, wa, wb, c1, c2, c3, c4]
      · have l1 := propsW_len W (halfW W)
        have l2 := spansW_len W (halfW W)
        have hend : ¬ 2 * (halfW W : Int) + 1 + 1 < W.length := by unfold halfW; omega
        have wa := wrap_small (2 * (halfW W : Int) + 1 + 1) (by omega) (by omega)
        generalize propsW W (halfW W) = PJ at *
        generalize spansW W (halfW W) = SJ at *
        have wc : IntKind.i64.wrap ((P0.length : Int) + (PJ.length : Int) - (SJ.length : Int)) = P0.length := by rw [wrap_small _ (by omega) (by omega)]; omega
        have wt : List.take P0.length (P0.map rPrp.enc ++ PJ.map rPrp.enc) = P0.map rPrp.enc := by
          rw [List.take_append_of_le_length (by simp), List.take_of_length_le (by simp)]
        have we : (P0.length : Int) ≤ (P0.length : Int) + (PJ.length : Int) := by omega
        have c1 : K0.length + 1 ≤ 140737488355328 := by omega
        have c2 : (K0.length + 1) * 40 ≤ 140737488355328 := by omega
        have g0 : 0 < W.length := by omega
        have w2 : IntKind.i64.wrap 2 = 2 := by decide
        have i0 : (0 : Int) < W.length := by omega
        by_cases hk0 : k = 0
        · subst hk0
          have hp0 : P0 = [] := by have := hz0 rfl; simpa using congrArg Tbl.props this
          subst hp0
          simp [kp76, md76, hend, wa, w1]
        · have hkpos : (0 : Int) < k := by omega
          have hk0' : 0 < k := by omega
          by_cases hk1 : k = 1
          · subst hk1
            by_cases hw2 : W.length = 2
            · have g1 : 1 < W.length := by omega
              have hend2 : ¬ 2 * (halfW W : Int) + 1 + 1 < 2 := by omega
              simp [kp76, md76, g76, s99, hend, hend2, wa, w2, hw2, wc, wt, we, g1, rStr_enc]
            · have hw3 : ((W.length : Int) == 2) = false := beq_eq_false_iff_ne.2 (by omega)
              simp [kp76, md76, hend, wa, w2, hw2, hw3, wc, wt, we]
          · have hk2 : (1 : Int) < k := by omega
            have hk2' : 1 < k := by omega
            have hk3 : ((k : Int) == 1) = false := beq_eq_false_iff_ne.2 (by omega)
            simp [kp76, md76, hend, wa, w1, hk0, hk0', hk1, hk2, hk2', hk3, hkpos, wc, wt, we, g0, i0, c1, c2, rStr_enc, rKnd_enc, List.getElem?_eq_getElem]
    · have hend : ¬ (n : Int) + 1 < L.length := by omega
      have w1 := wrap_small ((n : Int) + 1) (by omega) (by omega)
      simp [kp76, md76, hend, w1]
      rw [codeK_some]
      intro g3 a3 w3 I3
      obtain ⟨g4, I4⟩ := soften_at cx76_ok (t := 100300) (bx := 3) (off := 0) (tt := 3) rfl rfl rfl (by simp) I3
      refine am_code (mkCx_ok dg76 101 kp76 []) (by kernel_rfl) (by kernel_rfl) I4 (fun _ _ => rfl) ?_
      simp [cutB, kp76, codeK_some]
      intro g' a' w' I'
      refine post_ret (mkCx_ok dg76 101 kp76 []) I' (r := [(cAgg rTbl).enc (parseK L n)]) ?_ rfl
      rw [Tryz.results76]
      simp [rTbl_enc]
  · cases hr
theorem call76 (xs : Array Value) (w : World) : (callFunc 76 xs).run Tryz.prog w = .ok (.enter 76 xs) w := by kernel_rfl
end Go.Proofs.YtkldmnladkcfeaaGreatDoor
namespace Go.Proofs.YtkldmnladkcfeaaGreatDoor
open Go.RowKit
set_option linter.unusedSimpArgs false
set_option linter.unusedVariables false
def noT : Tbl := ⟨[], [], 0⟩
def readR (s : ByteArray) : Tbl × Int := if 2000 < s.size then (noT, 3) else if okT (parsedR s) ∧ (textV (parsedR s)).toList = s.toList then (parsedR s, 0) else (noT, 6)
theorem noT_dec : rTbl.dec [.sl 0 [], .sl 0 [], DI 0] = some noT := rfl
def kp35 (r : Nat) : List (Nat × Option Nat) := match r with
  | 0 => [(0, none), (2, none)]
  | 1 => [(0, none), (2, none), (10, none)]
  | 2 => [(2, none), (3, none)]
  | 3 => [(0, none), (2, none), (4, none)]
  | 4 => [(0, none), (2, none), (4, none), (7, none)]
  | 5 => [(2, none), (4, none), (27, none)]
  | 6 => [(2, none), (3, none)]
  | 7 => [(2, none), (3, none)]
  | _ => []
def g35 : List (Nat × (List D → Option D)) := (17, s17) :: (70, s70) :: (76, s76) :: []
theorem dg35 : DelOk Tryz.prog (delOf g35) := del_cons (del_cons (del_cons del_nil call76 ok76) call70 ok70) call17 ok17
def s35 : List D → Option D := sp1 cStr (cTup2 (cAgg rTbl) cInt) fun s => some (readR s)
theorem ok35 : ∀ ds d, s35 ds = some d → PureC Tryz.prog 35 ds d := ok_sp1 fun s r hr => by
  cases hr
  refine pure_of_dec (cTup2 (cAgg rTbl) cInt) _ (mkCx_ok dg35 30 kp35 []) Tryz.func35 rfl rfl (Nat.le_of_ble_eq_true rfl) (by kernel_rfl) ?_
  rw [Tryz.results35]
  by_cases h2 : 2000 < s.size
  · have h2' : (2000 : Int) < s.size := by omega
    rw [show readR s = (noT, 3) from if_pos h2]
    simp [kp35, h2', noT_dec]
  · have h2' : ¬ (2000 : Int) < s.size := by omega
    have hs : s.size ≤ 2000 := by omega
    by_cases h : okT (parsedR s)
    · have h0 : (chk (parsedR s)).2.2 = 0 := h
      cases h4 : ((textV (parsedR s)).toList == s.toList)
      · have hR : readR s = (noT, 6) := by
          unfold readR
          rw [if_neg h2, if_neg]
          rintro ⟨_, h5⟩
          rw [h5] at h4; simp at h4
        rw [hR]
        simp [kp35, g35, s17, s70, s76, rTbl_enc, rTbl_dec, h2', hs, h, h0, h4, noT_dec]
      · have hR : readR s = (parsedR s, 0) := by
          unfold readR
          rw [if_neg h2, if_pos ⟨h, by simpa using h4⟩]
        rw [hR]
        simp [kp35, g35, s17, s70, s76, rTbl_enc, rTbl_dec, h2', hs, h, h0, h4]
    · have h' : ((chk (parsedR s)).2.2 != 0) = true := by unfold okT at h; simpa using h
      have hR : readR s = (noT, 6) := by
        unfold readR
        rw [if_neg h2, if_neg fun q => h q.1]
      rw [hR]
      simp [kp35, g35, s17, s76, rTbl_enc, rTbl_dec, h2', hs, h', noT_dec]
theorem call35 (xs : Array Value) (w : World) : (callFunc 35 xs).run Tryz.prog w = .ok (.enter 35 xs) w := by kernel_rfl
def eqI {α : Type} (q : α → α → Bool) (d : α) (a b : List α) : Bool := decide (a.length = b.length) && (List.range a.length).all fun i => q (a.getD i d) (b.getD i d)
theorem eqI_iff {α : Type} {q : α → α → Bool} {d : α} {a b : List α} : eqI q d a b = true ↔ a.length = b.length ∧ ∀ i, i < a.length → q (a.getD i d) (b.getD i d) = true := by
  unfold eqI
  rw [Bool.and_eq_true, decide_eq_true_eq, List.all_eq_true]
  exact ⟨fun h => ⟨h.1, fun i hi => h.2 i (List.mem_range.2 hi)⟩, fun h => ⟨h.1, fun i hi => h.2 i (List.mem_range.1 hi)⟩⟩
theorem eqI_bad {α : Type} {q : α → α → Bool} {d : α} {a b : List α} {k : Nat} (hk : k < a.length) (h : q (a.getD k d) (b.getD k d) = false) : eqI q d a b = false := by
  cases e : eqI q d a b with
  | false => rfl
  | true => have := (eqI_iff.1 e).2 k hk; rw [h] at this; cases this
theorem eqI_len {α : Type} {q : α → α → Bool} {d : α} {a b : List α} (h : ¬ a.length = b.length) : eqI q d a b = false := by
  cases e : eqI q d a b with
  | false => rfl
  | true => exact absurd (eqI_iff.1 e).1 h
theorem eqI_same {α : Type} {q : α → α → Bool} {d : α} {a b : List α} (hq : ∀ x y, q x y = true ↔ x = y) : eqI q d a b = true ↔ a = b := by
  rw [eqI_iff]
  constructor
  · rintro ⟨h1, h2⟩
    refine List.ext_getElem h1 fun i hi hi' => ?_
    have := (hq _ _).1 (h2 i hi)
    rwa [getD_at _ _ _ hi, getD_at _ _ _ hi'] at this
  · rintro rfl
    exact ⟨rfl, fun i _ => (hq _ _).2 rfl⟩
def intB (a b : Int) : Bool := a == b
def spnB (a b : Spn) : Bool := [a.lo, a.hi] == [b.lo, b.hi]
theorem spnB_iff {a b : Spn} : spnB a b = true ↔ a = b := by
  obtain ⟨a1, a2⟩ := a
  obtain ⟨b1, b2⟩ := b
  simp [spnB]
def intsB (a b : List Int) : Bool := eqI intB 0 a b
def spansB (a b : List Spn) : Bool := eqI spnB default a b
theorem intsB_iff {a b : List Int} : intsB a b = true ↔ a = b := eqI_same fun x y => by simp [intB]
theorem spansB_iff {a b : List Spn} : spansB a b = true ↔ a = b := eqI_same fun x y => spnB_iff
def kp27 (r : Nat) : List (Nat × Option Nat) := match r with
  | 0 => [(0, none), (1, none)]
  | 1 => [(0, none), (1, none), (10, none)]
  | 2 => [(4, none)]
  | 3 => [(0, none), (1, none), (5, none)]
  | 4 => [(0, none), (1, none), (5, none), (14, none)]
  | 5 => [(0, none), (1, none), (5, none)]
  | 6 => [(0, none), (1, none), (5, none), (25, none)]
  | 7 => [(4, none)]
  | 8 => [(4, none)]
  | _ => []
def kp77 (r : Nat) : List (Nat × Option Nat) := match r with
  | 0 => [(0, none), (1, none)]
  | 1 => [(0, none), (1, none), (10, none)]
  | 2 => [(4, none)]
  | 3 => [(0, none), (1, none), (5, none)]
  | 4 => [(0, none), (1, none), (5, none), (14, none)]
  | 5 => [(0, none), (1, none), (5, none)]
  | 6 => [(0, none), (1, none), (5, none), (25, none)]
  | 7 => [(4, none)]
  | 8 => [(4, none)]
  | _ => []
def kp36 (r : Nat) : List (Nat × Option Nat) := match r with
  | 0 => [(2, none), (3, none)]
  | 1 => [(2, none), (3, none), (29, none)]
  | 2 => [(4, none)]
  | 3 => [(2, none), (3, none), (5, none)]
  | 4 => [(2, none), (3, none), (5, none), (34, none)]
  | 5 => [(2, none), (3, none), (5, none)]
  | 6 => [(2, none), (3, none), (5, none), (47, none)]
  | 7 => [(4, none)]
  | 8 => [(2, none), (3, none), (6, none)]
  | 9 => [(2, none), (3, none), (6, none), (52, none)]
  | 10 => [(2, none), (3, none), (6, none)]
  | 11 => [(2, none), (3, none), (6, none), (83, none)]
  | 12 => [(4, none)]
  | 13 => [(4, none)]
  | _ => []
def s27 : List D → Option D := sp2 (cList rInt) (cList rInt) cBool fun a b => if a.length < 1000000 then some (eqI intB 0 a b) else none
theorem ok27 : ∀ ds d, s27 ds = some d → PureC Tryz.prog 27 ds d := ok_sp2 fun a b r hr => by
  split at hr
  · rename_i hlm
    cases hr
    refine pure_of_call (mkCx_ok del_nil 26 kp27 []) Tryz.func27 rfl rfl (Nat.le_of_ble_eq_true rfl) (by kernel_rfl) ?_
    rw [Tryz.results27]
    by_cases hl : a.length = b.length
    · rcases first_not (fun i => intB (a.getD i 0) (b.getD i 0)) a.length with hall | ⟨k, hk, hbad, hgood⟩
      · rw [eqI_iff.2 ⟨hl, hall⟩]
        simp [kp27, rInt_k, hl]
        (generalize hLoopQ : Cx.loop _ _ _ = rLoopQ; apply loop_then hLoopQ (fun k => ⟨[(0, .d (.sl 1 (a.map rInt.enc))), (1, .d (.sl 1 (b.map rInt.enc))), (5, .d (DI k))], [], [], []⟩) a.length rfl; rotate_left; (show _ < 281474976710656; omega); rfl; rotate_left; all_goals clear hLoopQ)
        · intro j hj
          have w1 := wrap_small ((j : Int) + 1) (by omega) (by omega)
          have hjl : (j : Int) < a.length := by omega
          have hj' : j < b.length := by omega
          have hjl' : (j : Int) < b.length := by omega
          have hx := hall j hj
          rw [getD_at _ _ _ hj, getD_at _ _ _ hj'] at hx
          have hx0 : a[j] = b[j] := by simpa [intB] using hx
          have hx : (a[j] != b[j]) = false := by simp [hx0]
          simp [kp27, rInt_enc, hj, hj', hjl, hjl', hx, w1]
        · simp [kp27, hl]
      · rw [eqI_bad hk hbad]
        simp [kp27, rInt_k, hl]
        (generalize hLoopQ : Cx.loop _ _ _ = rLoopQ; apply loop_then hLoopQ (fun k => ⟨[(0, .d (.sl 1 (a.map rInt.enc))), (1, .d (.sl 1 (b.map rInt.enc))), (5, .d (DI k))], [], [], []⟩) k rfl; rotate_left; (show _ < 281474976710656; omega); rfl; rotate_left; all_goals clear hLoopQ)
        · intro j hj0
          have hj : j < a.length := by omega
          have w1 := wrap_small ((j : Int) + 1) (by omega) (by omega)
          have hjl : (j : Int) < a.length := by omega
          have hj' : j < b.length := by omega
          have hjl' : (j : Int) < b.length := by omega
          have hx := hgood j hj0
          rw [getD_at _ _ _ hj, getD_at _ _ _ hj'] at hx
          have hx0 : a[j] = b[j] := by simpa [intB] using hx
          have hx : (a[j] != b[j]) = false := by simp [hx0]
          simp [kp27, rInt_enc, hj, hj', hjl, hjl', hx, w1]
        · have hjl : (k : Int) < a.length := by omega
          have hk' : k < b.length := by omega
          have hjl' : (k : Int) < b.length := by omega
          have hx := hbad
          rw [getD_at _ _ _ hk, getD_at _ _ _ hk'] at hx
          have hx : (a[k] != b[k]) = true := by simpa [intB] using hx
          simp [kp27, rInt_enc, hk, hk', hjl, hjl', hx]
    · rw [eqI_len hl]
      have hl' : ((a.length : Int) != (b.length : Int)) = true := bne_iff_ne.2 (by omega)
      simp [kp27, rInt_k, hl']
  · cases hr
theorem call27 (xs : Array Value) (w : World) : (callFunc 27 xs).run Tryz.prog w = .ok (.enter 27 xs) w := by kernel_rfl
def s77 : List D → Option D := sp2 (cList rSpn) (cList rSpn) cBool fun a b => if a.length < 1000000 then some (eqI spnB default a b) else none
theorem ok77 : ∀ ds d, s77 ds = some d → PureC Tryz.prog 77 ds d := ok_sp2 fun a b r hr => by
  split at hr
  · rename_i hlm
    cases hr
    refine pure_of_call (mkCx_ok del_nil 26 kp77 []) Tryz.func77 rfl rfl (Nat.le_of_ble_eq_true rfl) (by kernel_rfl) ?_
    rw [Tryz.results77]
    by_cases hl : a.length = b.length
    · rcases first_not (fun i => spnB (a.getD i default) (b.getD i default)) a.length with hall | ⟨k, hk, hbad, hgood⟩
      · rw [eqI_iff.2 ⟨hl, hall⟩]
        simp [kp77, rSpn_k, hl]
        (generalize hLoopQ : Cx.loop _ _ _ = rLoopQ; apply loop_then hLoopQ (fun k => ⟨[(0, .d (.sl 2 (a.map rSpn.enc))), (1, .d (.sl 2 (b.map rSpn.enc))), (5, .d (DI k))], [], [], []⟩) a.length rfl; rotate_left; (show _ < 281474976710656; omega); rfl; rotate_left; all_goals clear hLoopQ)
        · intro j hj
          have w1 := wrap_small ((j : Int) + 1) (by omega) (by omega)
          have hjl : (j : Int) < a.length := by omega
          have hj' : j < b.length := by omega
          have hjl' : (j : Int) < b.length := by omega
          have hx := hall j hj
          rw [getD_at _ _ _ hj, getD_at _ _ _ hj'] at hx
          have hx : ([a[j].lo, a[j].hi] != [b[j].lo, b[j].hi]) = false := by unfold bne; rw [show ([a[j].lo, a[j].hi] == [b[j].lo, b[j].hi]) = true from hx]; rfl
          simp [kp77, rSpn_enc, hj, hj', hjl, hjl', hx, w1]
        · simp [kp77, hl]
      · rw [eqI_bad hk hbad]
        simp [kp77, rSpn_k, hl]
        (generalize hLoopQ : Cx.loop _ _ _ = rLoopQ; apply loop_then hLoopQ (fun k => ⟨[(0, .d (.sl 2 (a.map rSpn.enc))), (1, .d (.sl 2 (b.map rSpn.enc))), (5, .d (DI k))], [], [], []⟩) k rfl; rotate_left; (show _ < 281474976710656; omega); rfl; rotate_left; all_goals clear hLoopQ)
        · intro j hj0
          have hj : j < a.length := by omega
          have w1 := wrap_small ((j : Int) + 1) (by omega) (by omega)
          have hjl : (j : Int) < a.length := by omega
          have hj' : j < b.length := by omega
          have hjl' : (j : Int) < b.length := by omega
          have hx := hgood j hj0
          rw [getD_at _ _ _ hj, getD_at _ _ _ hj'] at hx
          have hx : ([a[j].lo, a[j].hi] != [b[j].lo, b[j].hi]) = false := by unfold bne; rw [show ([a[j].lo, a[j].hi] == [b[j].lo, b[j].hi]) = true from hx]; rfl
          simp [kp77, rSpn_enc, hj, hj', hjl, hjl', hx, w1]
        · have hjl : (k : Int) < a.length := by omega
          have hk' : k < b.length := by omega
          have hjl' : (k : Int) < b.length := by omega
          have hx := hbad
          rw [getD_at _ _ _ hk, getD_at _ _ _ hk'] at hx
          have hx : ([a[k].lo, a[k].hi] != [b[k].lo, b[k].hi]) = true := by unfold bne; rw [show ([a[k].lo, a[k].hi] == [b[k].lo, b[k].hi]) = false from hx]; rfl
          simp [kp77, rSpn_enc, hk, hk', hjl, hjl', hx]
    · rw [eqI_len hl]
      have hl' : ((a.length : Int) != (b.length : Int)) = true := bne_iff_ne.2 (by omega)
      simp [kp77, rSpn_k, hl']
  · cases hr
theorem call77 (xs : Array Value) (w : World) : (callFunc 77 xs).run Tryz.prog w = .ok (.enter 77 xs) w := by kernel_rfl
def prpB (a b : Prp) : Bool := (a.name.toList == b.name.toList) && (a.err == b.err)
def kndB (a b : Knd) : Bool := (a.name.toList == b.name.toList) && spansB a.props b.props
def tblB (x y : Tbl) : Bool := decide (x.purity = y.purity) && eqI prpB default x.props y.props && eqI kndB default x.kinds y.kinds
theorem ba_same {a b : ByteArray} : (a.toList == b.toList) = true ↔ a = b := by
  rw [beq_iff_eq, ByteArray.toList_eq, ByteArray.toList_eq]
  exact ⟨fun h => ByteArray.ext (Array.toList_inj.1 h), fun h => by rw [h]⟩
theorem prpB_iff (a b : Prp) : prpB a b = true ↔ a = b := by
  obtain ⟨a1, a2⟩ := a
  obtain ⟨b1, b2⟩ := b
  unfold prpB
  rw [Bool.and_eq_true, ba_same]
  simp
theorem kndB_iff (a b : Knd) : kndB a b = true ↔ a = b := by
  obtain ⟨a1, a2⟩ := a
  obtain ⟨b1, b2⟩ := b
  unfold kndB
  rw [Bool.and_eq_true, ba_same, spansB_iff]
  simp
theorem tblB_iff {x y : Tbl} : tblB x y = true ↔ x = y := by
  obtain ⟨p, k, u⟩ := x
  obtain ⟨p', k', u'⟩ := y
  unfold tblB
  rw [Bool.and_eq_true, Bool.and_eq_true, eqI_same prpB_iff, eqI_same kndB_iff]
  simp
  constructor
  · rintro ⟨⟨a, b⟩, c⟩; exact ⟨b, c, a⟩
  · rintro ⟨a, b, c⟩; exact ⟨⟨c, a⟩, b⟩
def limT (x : Tbl) : Prop := x.props.length < 1000000 ∧ x.kinds.length < 1000000 ∧ ∀ k ∈ x.kinds, k.props.length < 1000000
instance (x : Tbl) : Decidable (limT x) := inferInstanceAs (Decidable (_ ∧ _ ∧ ∀ k ∈ x.kinds, _))
def g36 : List (Nat × (List D → Option D)) := [(77, s77)]
theorem dg36 : DelOk Tryz.prog (delOf g36) := del_cons del_nil call77 ok77
def s36 : List D → Option D := sp2 (cAgg rTbl) (cAgg rTbl) cBool fun x y => if limT x then some (tblB x y) else none
set_option maxHeartbeats 4000000 in
theorem ok36 : ∀ ds d, s36 ds = some d → PureC Tryz.prog 36 ds d := ok_sp2 fun x y r hr => by
  split at hr
  · rename_i hlim
    cases hr
    obtain ⟨l1, l2, l3⟩ := hlim
    refine pure_of_call (mkCx_ok dg36 84 kp36 []) Tryz.func36 rfl rfl (Nat.le_of_ble_eq_true rfl) (by kernel_rfl) ?_
    rw [Tryz.results36]
    unfold tblB
    by_cases h1 : x.props.length = y.props.length
    · by_cases h2 : x.kinds.length = y.kinds.length
      · by_cases h3 : x.purity = y.purity
        · have hP : ∀ j, j < x.props.length → ∃ (hj : j < x.props.length) (hj' : j < y.props.length), (j : Int) < x.props.length ∧ (j : Int) < y.props.length ∧ prpB (x.props.getD j default) (y.props.getD j default) = ((x.props[j].name.toList == y.props[j].name.toList) && (x.props[j].err == y.props[j].err)) := fun j hj => by
            have hj' : j < y.props.length := by omega
            exact ⟨hj, hj', by omega, by omega, by rw [getD_at _ _ _ hj, getD_at _ _ _ hj']; rfl⟩
          have hK : ∀ j, j < x.kinds.length → ∃ (hj : j < x.kinds.length) (hj' : j < y.kinds.length), (j : Int) < x.kinds.length ∧ (j : Int) < y.kinds.length ∧ kndB (x.kinds.getD j default) (y.kinds.getD j default) = ((x.kinds[j].name.toList == y.kinds[j].name.toList) && eqI spnB default x.kinds[j].props y.kinds[j].props) ∧ x.kinds[j].props.length < 1000000 := fun j hj => by
            have hj' : j < y.kinds.length := by omega
            exact ⟨hj, hj', by omega, by omega, by rw [getD_at _ _ _ hj, getD_at _ _ _ hj']; rfl, l3 _ (List.getElem_mem hj)⟩
          rcases first_not (fun i => prpB (x.props.getD i default) (y.props.getD i default)) x.props.length with hall | ⟨k, hk, hbad, hgood⟩
          · rw [eqI_iff.2 ⟨h1, hall⟩]
            rcases first_not (fun i => kndB (x.kinds.getD i default) (y.kinds.getD i default)) x.kinds.length with hall2 | ⟨k, hk, hbad, hgood⟩
            · rw [eqI_iff.2 ⟨h2, hall2⟩]
              simp [kp36, rTbl_enc, rPrp_k, rKnd_k, h1, h2, h3]
              (generalize hLoopQ : Cx.loop _ _ _ = rLoopQ; apply loop_then hLoopQ (fun k => ⟨[(2, .loc 2 0), (3, .loc 3 0), (5, .d (DI k))], [(2, [.d (.sl 2 (x.props.map rPrp.enc)), .d (.sl 2 (x.kinds.map rKnd.enc)), .d (DI y.purity)]), (3, [.d (.sl 2 (y.props.map rPrp.enc)), .d (.sl 2 (y.kinds.map rKnd.enc)), .d (DI y.purity)])], [], []⟩) x.props.length rfl; rotate_left; (show _ < 281474976710656; omega); rfl; rotate_left; all_goals clear hLoopQ)
              · intro j hj0
                have hjx : j < x.props.length := by omega
                have w1 := wrap_small ((j : Int) + 1) (by omega) (by omega)
                obtain ⟨hj1, hj2, hj3, hj4, hj5⟩ := hP j hjx
                have hx := hall j hjx
                rw [hj5] at hx
                simp [kp36, rPrp_enc, hj1, hj2, hj3, hj4, hx, w1]
              · simp [kp36, h1]
                (generalize hLoopQ : Cx.loop _ _ _ = rLoopQ; apply loop_then hLoopQ (fun k => ⟨[(2, .loc 2 0), (3, .loc 3 0), (6, .d (DI k))], [(2, [.d (.sl 2 (x.props.map rPrp.enc)), .d (.sl 2 (x.kinds.map rKnd.enc)), .d (DI y.purity)]), (3, [.d (.sl 2 (y.props.map rPrp.enc)), .d (.sl 2 (y.kinds.map rKnd.enc)), .d (DI y.purity)])], [], []⟩) x.kinds.length rfl; rotate_left; (show _ < 281474976710656; omega); rfl; rotate_left; all_goals clear hLoopQ)
                · intro j hj0
                  have hjx : j < x.kinds.length := by omega
                  have w1 := wrap_small ((j : Int) + 1) (by omega) (by omega)
                  obtain ⟨hj1, hj2, hj3, hj4, hj5, hj6⟩ := hK j hjx
                  have hx := hall2 j hjx
                  rw [hj5, Bool.and_eq_true] at hx
                  obtain ⟨hx1, hx2⟩ := hx
                  simp [kp36, g36, s77, rKnd_enc, rSpn_decL, hj1, hj2, hj3, hj4, hj6, hx1, hx2, w1]
                · simp [kp36, h2]
            · rw [eqI_bad hk hbad]
              simp [kp36, rTbl_enc, rPrp_k, rKnd_k, h1, h2, h3]
              (generalize hLoopQ : Cx.loop _ _ _ = rLoopQ; apply loop_then hLoopQ (fun k => ⟨[(2, .loc 2 0), (3, .loc 3 0), (5, .d (DI k))], [(2, [.d (.sl 2 (x.props.map rPrp.enc)), .d (.sl 2 (x.kinds.map rKnd.enc)), .d (DI y.purity)]), (3, [.d (.sl 2 (y.props.map rPrp.enc)), .d (.sl 2 (y.kinds.map rKnd.enc)), .d (DI y.purity)])], [], []⟩) x.props.length rfl; rotate_left; (show _ < 281474976710656; omega); rfl; rotate_left; all_goals clear hLoopQ)
              · intro j hj0
                have hjx : j < x.props.length := by omega
                have w1 := wrap_small ((j : Int) + 1) (by omega) (by omega)
                obtain ⟨hj1, hj2, hj3, hj4, hj5⟩ := hP j hjx
                have hx := hall j hjx
                rw [hj5] at hx
                simp [kp36, rPrp_enc, hj1, hj2, hj3, hj4, hx, w1]
              · simp [kp36, h1]
                (generalize hLoopQ : Cx.loop _ _ _ = rLoopQ; apply loop_then hLoopQ (fun k => ⟨[(2, .loc 2 0), (3, .loc 3 0), (6, .d (DI k))], [(2, [.d (.sl 2 (x.props.map rPrp.enc)), .d (.sl 2 (x.kinds.map rKnd.enc)), .d (DI y.purity)]), (3, [.d (.sl 2 (y.props.map rPrp.enc)), .d (.sl 2 (y.kinds.map rKnd.enc)), .d (DI y.purity)])], [], []⟩) k rfl; rotate_left; (show _ < 281474976710656; omega); rfl; rotate_left; all_goals clear hLoopQ)
                · intro j hj0
                  have hjx : j < x.kinds.length := by omega
                  have w1 := wrap_small ((j : Int) + 1) (by omega) (by omega)
                  obtain ⟨hj1, hj2, hj3, hj4, hj5, hj6⟩ := hK j hjx
                  have hx := hgood j hj0
                  rw [hj5, Bool.and_eq_true] at hx
                  obtain ⟨hx1, hx2⟩ := hx
                  simp [kp36, g36, s77, rKnd_enc, rSpn_decL, hj1, hj2, hj3, hj4, hj6, hx1, hx2, w1]
                · obtain ⟨hj1, hj2, hj3, hj4, hj5, hj6⟩ := hK k hk
                  rw [hj5] at hbad
                  rcases Bool.and_eq_false_iff.1 hbad with hx | hx
                  · have hx2 : (!(x.kinds[k].name.toList == y.kinds[k].name.toList)) = true := by rw [hx]; rfl
                    simp [kp36, rKnd_enc, hj1, hj2, hj3, hj4, hx, hx2]
                  · cases hx1 : (x.kinds[k].name.toList == y.kinds[k].name.toList)
                    · simp [kp36, rKnd_enc, hj1, hj2, hj3, hj4, hx1]
                    · simp [kp36, g36, s77, rKnd_enc, rSpn_decL, hj1, hj2, hj3, hj4, hj6, hx, hx1]
          · rw [eqI_bad hk hbad]
            simp [kp36, rTbl_enc, rPrp_k, rKnd_k, h1, h2, h3]
            (generalize hLoopQ : Cx.loop _ _ _ = rLoopQ; apply loop_then hLoopQ (fun k => ⟨[(2, .loc 2 0), (3, .loc 3 0), (5, .d (DI k))], [(2, [.d (.sl 2 (x.props.map rPrp.enc)), .d (.sl 2 (x.kinds.map rKnd.enc)), .d (DI y.purity)]), (3, [.d (.sl 2 (y.props.map rPrp.enc)), .d (.sl 2 (y.kinds.map rKnd.enc)), .d (DI y.purity)])], [], []⟩) k rfl; rotate_left; (show _ < 281474976710656; omega); rfl; rotate_left; all_goals clear hLoopQ)
            · intro j hj0
              have hjx : j < x.props.length := by omega
              have w1 := wrap_small ((j : Int) + 1) (by omega) (by omega)
              obtain ⟨hj1, hj2, hj3, hj4, hj5⟩ := hP j hjx
              have hx := hgood j hj0
              rw [hj5] at hx
              simp [kp36, rPrp_enc, hj1, hj2, hj3, hj4, hx, w1]
            · obtain ⟨hj1, hj2, hj3, hj4, hj5⟩ := hP k hk
              rw [hj5] at hbad
              simp [kp36, rPrp_enc, hj1, hj2, hj3, hj4, hbad]
        · have h3' : (x.purity != y.purity) = true := bne_iff_ne.2 h3
          simp [kp36, rTbl_enc, rPrp_k, rKnd_k, h1, h2, h3, h3']
      · have h2' : ((x.kinds.length : Int) != (y.kinds.length : Int)) = true := bne_iff_ne.2 (by omega)
        rw [eqI_len (q := kndB) h2]
        simp [kp36, rTbl_enc, rPrp_k, rKnd_k, h1, h2']
    · have h1' : ((x.props.length : Int) != (y.props.length : Int)) = true := bne_iff_ne.2 (by omega)
      rw [eqI_len (q := prpB) h1]
      simp [kp36, rTbl_enc, rPrp_k, rKnd_k, h1']
  · cases hr
theorem call36 (xs : Array Value) (w : World) : (callFunc 36 xs).run Tryz.prog w = .ok (.enter 36 xs) w := by kernel_rfl
end Go.Proofs.YtkldmnladkcfeaaGreatDoor
