/-
  Reference functions of the wax chapter: what is read. Conditions: none.
-/
import Derived.Test.YtkldmnladkcfeaaGreatDoorZRefC
import Derived.Test.YtkldmnladkcfeaaGreatDoorZAmF
namespace Go.Proofs.YtkldmnladkcfeaaGreatDoor
open Go.RowKit
set_option linter.unusedSimpArgs false
set_option linter.unusedVariables false
def propsW (W : List ByteArray) : Nat → List Prp
  | 0 => []
  | j + 1 => propsW W j ++ [⟨W.getD (2 * j + 1) ⟨#[]⟩, numV (W.getD (2 * j + 2) ⟨#[]⟩)⟩]
def spansW (W : List ByteArray) : Nat → List Spn
  | 0 => []
  | j + 1 => spansW W j ++ [⟨numV (W.getD (2 * j + 1) ⟨#[]⟩), numV (W.getD (2 * j + 2) ⟨#[]⟩)⟩]
def halfW (W : List ByteArray) : Nat := (W.length - 1) / 2
def parseK (L : List ByteArray) : Nat → Tbl
  | 0 => ⟨[], [], 0⟩
  | i + 1 => ⟨if i = 0 then propsW (splitV (L.getD i ⟨#[]⟩) 32) (halfW (splitV (L.getD i ⟨#[]⟩) 32)) else (parseK L i).props,
      if 1 < i then (parseK L i).kinds ++ [⟨(splitV (L.getD i ⟨#[]⟩) 32).getD 0 ⟨#[]⟩, spansW (splitV (L.getD i ⟨#[]⟩) 32) (halfW (splitV (L.getD i ⟨#[]⟩) 32))⟩] else (parseK L i).kinds,
      if i = 1 ∧ (splitV (L.getD i ⟨#[]⟩) 32).length = 2 then numV ((splitV (L.getD i ⟨#[]⟩) 32).getD 1 ⟨#[]⟩) else (parseK L i).purity⟩
def parsedR (s : ByteArray) : Tbl := parseK (splitV s 10) ((splitV s 10).length - 1)
@[simp] theorem propsW_zero (W : List ByteArray) : propsW W 0 = [] := rfl
@[simp] theorem spansW_zero (W : List ByteArray) : spansW W 0 = [] := rfl
def kb76 : List (Nat × Nat × Nat) := [(3, 0, 1002), (3, 1, 2), (7, 1, 2)]
attribute [local simp] kb76
end Go.Proofs.YtkldmnladkcfeaaGreatDoor
namespace Go.Proofs.YtkldmnladkcfeaaGreatDoor
open Go.RowKit
set_option linter.unusedSimpArgs false
set_option linter.unusedVariables false
def noT : Tbl := ⟨[], [], 0⟩
def readR (s : ByteArray) : Tbl × Int := if 2000 < s.size then (noT, 3) else if okT (parsedR s) ∧ (textV (parsedR s)).toList = s.toList then (parsedR s, 0) else (noT, 6)
theorem noT_dec : rTbl.dec [.sl 0 [], .sl 0 [], DI 0] = some noT := rfl
def s35 : List D → Option D := sp1 cStr (cTup2 (cAgg rTbl) cInt) fun s => some (readR s)
def eqI {α : Type} (q : α → α → Bool) (d : α) (a b : List α) : Bool := decide (a.length = b.length) && (List.range a.length).all fun i => q (a.getD i d) (b.getD i d)
theorem eqI_iff {α : Type} {q : α → α → Bool} {d : α} {a b : List α} : eqI q d a b = true ↔ a.length = b.length ∧ ∀ i, i < a.length → q (a.getD i d) (b.getD i d) = true := by
  unfold eqI
  rw [Bool.and_eq_true, decide_eq_true_eq, List.all_eq_true]
  exact ⟨fun h => ⟨h.1, fun i hi => h.2 i (List.mem_range.2 hi)⟩, fun h => ⟨h.1, fun i hi => h.2 i (List.mem_range.1 hi)⟩⟩
theorem eqI_bad {α : Type} {q : α → α → Bool} {d : α} {a b : List α} {k : Nat} (hk : k < a.length) (h : q (a.getD k d) (b.getD k d) = false) : eqI q d a b = false := by
  cases e : eqI q d a b with
  | false => rfl
  | true => have := (eqI_iff.1 e).2 k hk; rw [h] at this; cases this
theorem eqI_len {α : Type} {q : α → α → Bool} {d : α} {a b : List α} (h : ¬ a.length = b.length) : eqI q d a b = false := by
  cases e : eqI q d a b with
  | false => rfl
  | true => exact absurd (eqI_iff.1 e).1 h
theorem eqI_same {α : Type} {q : α → α → Bool} {d : α} {a b : List α} (hq : ∀ x y, q x y = true ↔ x = y) : eqI q d a b = true ↔ a = b := by
  rw [eqI_iff]
  constructor
  · rintro ⟨h1, h2⟩
    refine List.ext_getElem h1 fun i hi hi' => ?_
    have := (hq _ _).1 (h2 i hi)
    rwa [getD_at _ _ _ hi, getD_at _ _ _ hi'] at this
  · rintro rfl
    exact ⟨rfl, fun i _ => (hq _ _).2 rfl⟩
def intB (a b : Int) : Bool := a == b
def spnB (a b : Spn) : Bool := [a.lo, a.hi] == [b.lo, b.hi]
theorem spnB_iff {a b : Spn} : spnB a b = true ↔ a = b := by
  obtain ⟨a1, a2⟩ := a
  obtain ⟨b1, b2⟩ := b
  simp [spnB]
def spansB (a b : List Spn) : Bool := eqI spnB default a b
theorem spansB_iff {a b : List Spn} : spansB a b = true ↔ a = b := eqI_same fun x y => spnB_iff
def kp27 (r : Nat) : List (Nat × Option Nat) := match r with
  | 0 => [(0, none), (1, none)]
  | 1 => [(0, none), (1, none), (10, none)]
  | 2 => [(4, none)]
  | 3 => [(0, none), (1, none), (5, none)]
  | 4 => [(0, none), (1, none), (5, none), (14, none)]
  | 5 => [(0, none), (1, none), (5, none)]
  | 6 => [(0, none), (1, none), (5, none), (25, none)]
  | 7 => [(4, none)]
  | 8 => [(4, none)]
  | _ => []
def kp77 (r : Nat) : List (Nat × Option Nat) := match r with
  | 0 => [(0, none), (1, none)]
  | 1 => [(0, none), (1, none), (10, none)]
  | 2 => [(4, none)]
  | 3 => [(0, none), (1, none), (5, none)]
  | 4 => [(0, none), (1, none), (5, none), (14, none)]
  | 5 => [(0, none), (1, none), (5, none)]
  | 6 => [(0, none), (1, none), (5, none), (25, none)]
  | 7 => [(4, none)]
  | 8 => [(4, none)]
  | _ => []
def kp36 (r : Nat) : List (Nat × Option Nat) := match r with
  | 0 => [(2, none), (3, none)]
  | 1 => [(2, none), (3, none), (29, none)]
  | 2 => [(4, none)]
  | 3 => [(2, none), (3, none), (5, none)]
  | 4 => [(2, none), (3, none), (5, none), (34, none)]
  | 5 => [(2, none), (3, none), (5, none)]
  | 6 => [(2, none), (3, none), (5, none), (47, none)]
  | 7 => [(4, none)]
  | 8 => [(2, none), (3, none), (6, none)]
  | 9 => [(2, none), (3, none), (6, none), (52, none)]
  | 10 => [(2, none), (3, none), (6, none)]
  | 11 => [(2, none), (3, none), (6, none), (83, none)]
  | 12 => [(4, none)]
  | 13 => [(4, none)]
  | _ => []
def s27 : List D → Option D := sp2 (cList rInt) (cList rInt) cBool fun a b => if a.length < 1000000 then some (eqI intB 0 a b) else none
theorem ok27 : ∀ ds d, s27 ds = some d → PureC Tryz.prog 27 ds d := ok_sp2 fun a b r hr => by
  split at hr
  · rename_i hlm
    cases hr
    refine pure_of_call (mkCx_ok del_nil 26 kp27 []) Tryz.func27 rfl rfl (Nat.le_of_ble_eq_true rfl) (by kernel_rfl) ?_
    rw [Tryz.results27]
    by_cases hl : a.length = b.length
    · rcases first_not (fun i => intB (a.getD i 0) (b.getD i 0)) a.length with hall | ⟨k, hk, hbad, hgood⟩
      · rw [eqI_iff.2 ⟨hl, hall⟩]
        simp [kp27, rInt_k, hl]
        (generalize hLoopQ : Cx.loop _ _ _ = rLoopQ; apply loop_then hLoopQ (fun k => ⟨[(0, .d (.sl 1 (a.map rInt.enc))), (1, .d (.sl 1 (b.map rInt.enc))), (5, .d (DI k))], [], [], []⟩) a.length rfl; rotate_left; (show _ < 281474976710656; omega); rfl; rotate_left; all_goals clear hLoopQ)
        · intro j hj
          have w1 := wrap_small ((j : Int) + 1) (by omega) (by omega)
          have hjl : (j : Int) < a.length := by omega
          have hj' : j < b.length := by omega
          have hjl' : (j : Int) < b.length := by omega
          have hx := hall j hj
          rw [getD_at _ _ _ hj, getD_at _ _ _ hj'] at hx
          have hx0 : a[j] = b[j] := by simpa [intB] using hx
          have hx : (a[j] != b[j]) = false := by simp [hx0]
          simp [kp27, rInt_enc, hj, hj', hjl, hjl', hx, w1]
        · simp [kp27, hl]
      · rw [eqI_bad hk hbad]
        simp [kp27, rInt_k, hl]
        (generalize hLoopQ : Cx.loop _ _ _ = rLoopQ; apply loop_then hLoopQ (fun k => ⟨[(0, .d (.sl 1 (a.map rInt.enc))), (1, .d (.sl 1 (b.map rInt.enc))), (5, .d (DI k))], [], [], []⟩) k rfl; rotate_left; (show _ < 281474976710656; omega); rfl; rotate_left; all_goals clear hLoopQ)
        · intro j hj0
          have hj : j < a.length := by omega
          have w1 := wrap_small ((j : Int) + 1) (by omega) (by omega)
          have hjl : (j : Int) < a.length := by omega
          have hj' : j < b.length := by omega
          have hjl' : (j : Int) < b.length := by omega
          have hx := hgood j hj0
          rw [getD_at _ _ _ hj, getD_at _ _ _ hj'] at hx
          have hx0 : a[j] = b[j] := by simpa [intB] using hx
          have hx : (a[j] != b[j]) = false := by simp [hx0]
          simp [kp27, rInt_enc, hj, hj', hjl, hjl', hx, w1]
        · have hjl : (k : Int) < a.length := by omega
          have hk' : k < b.length := by omega
          have hjl' : (k : Int) < b.length := by omega
          have hx := hbad
          rw [getD_at _ _ _ hk, getD_at _ _ _ hk'] at hx
          have hx : (a[k] != b[k]) = true := by simpa [intB] using hx
          simp [kp27, rInt_enc, hk, hk', hjl, hjl', hx]
    · rw [eqI_len hl]
      have hl' : ((a.length : Int) != (b.length : Int)) = true := bne_iff_ne.2 (by omega)
      simp [kp27, rInt_k, hl']
  · cases hr
theorem call27 (xs : Array Value) (w : World) : (callFunc 27 xs).run Tryz.prog w = .ok (.enter 27 xs) w := by kernel_rfl
def s77 : List D → Option D := sp2 (cList rSpn) (cList rSpn) cBool fun a b => if a.length < 1000000 then some (eqI spnB default a b) else none
theorem ok77 : ∀ ds d, s77 ds = some d → PureC Tryz.prog 77 ds d := ok_sp2 fun a b r hr => by
  split at hr
  · rename_i hlm
    cases hr
    refine pure_of_call (mkCx_ok del_nil 26 kp77 []) Tryz.func77 rfl rfl (Nat.le_of_ble_eq_true rfl) (by kernel_rfl) ?_
    rw [Tryz.results77]
    by_cases hl : a.length = b.length
    · rcases first_not (fun i => spnB (a.getD i default) (b.getD i default)) a.length with hall | ⟨k, hk, hbad, hgood⟩
      · rw [eqI_iff.2 ⟨hl, hall⟩]
        simp [kp77, rSpn_k, hl]
        (generalize hLoopQ : Cx.loop _ _ _ = rLoopQ; apply loop_then hLoopQ (fun k => ⟨[(0, .d (.sl 2 (a.map rSpn.enc))), (1, .d (.sl 2 (b.map rSpn.enc))), (5, .d (DI k))], [], [], []⟩) a.length rfl; rotate_left; (show _ < 281474976710656; omega); rfl; rotate_left; all_goals clear hLoopQ)
        · intro j hj
          have w1 := wrap_small ((j : Int) + 1) (by omega) (by omega)
          have hjl : (j : Int) < a.length := by omega
          have hj' : j < b.length := by omega
          have hjl' : (j : Int) < b.length := by omega
          have hx := hall j hj
          rw [getD_at _ _ _ hj, getD_at _ _ _ hj'] at hx
          have hx : ([a[j].lo, a[j].hi] != [b[j].lo, b[j].hi]) = false := by unfold bne; rw [show ([a[j].lo, a[j].hi] == [b[j].lo, b[j].hi]) = true from hx]; rfl
          simp [kp77, rSpn_enc, hj, hj', hjl, hjl', hx, w1]
        · simp [kp77, hl]
      · rw [eqI_bad hk hbad]
        simp [kp77, rSpn_k, hl]
        (generalize hLoopQ : Cx.loop _ _ _ = rLoopQ; apply loop_then hLoopQ (fun k => ⟨[(0, .d (.sl 2 (a.map rSpn.enc))), (1, .d (.sl 2 (b.map rSpn.enc))), (5, .d (DI k))], [], [], []⟩) k rfl; rotate_left; (show _ < 281474976710656; omega); rfl; rotate_left; all_goals clear hLoopQ)
        · intro j hj0
          have hj : j < a.length := by omega
          have w1 := wrap_small ((j : Int) + 1) (by omega) (by omega)
          have hjl : (j : Int) < a.length := by omega
          have hj' : j < b.length := by omega
          have hjl' : (j : Int) < b.length := by omega
          have hx := hgood j hj0
          rw [getD_at _ _ _ hj, getD_at _ _ _ hj'] at hx
          have hx : ([a[j].lo, a[j].hi] != [b[j].lo, b[j].hi]) = false := by unfold bne; rw [show ([a[j].lo, a[j].hi] == [b[j].lo, b[j].hi]) = true from hx]; rfl
          simp [kp77, rSpn_enc, hj, hj', hjl, hjl', hx, w1]
        · have hjl : (k : Int) < a.length := by omega
          have hk' : k < b.length := by omega
          have hjl' : (k : Int) < b.length := by omega
          have hx := hbad
          rw [getD_at _ _ _ hk, getD_at _ _ _ hk'] at hx
          have hx : ([a[k].lo, a[k].hi] != [b[k].lo, b[k].hi]) = true := by unfold bne; rw [show ([a[k].lo, a[k].hi] == [b[k].lo, b[k].hi]) = false from hx]; rfl
          simp [kp77, rSpn_enc, hk, hk', hjl, hjl', hx]
    · rw [eqI_len hl]
      have hl' : ((a.length : Int) != (b.length : Int)) = true := bne_iff_ne.2 (by omega)
      simp [kp77, rSpn_k, hl']
  · cases hr
theorem call77 (xs : Array Value) (w : World) : (callFunc 77 xs).run Tryz.prog w = .ok (.enter 77 xs) w := by kernel_rfl
def prpB (a b : Prp) : Bool := (a.name.toList == b.name.toList) && (a.err == b.err)
def kndB (a b : Knd) : Bool := (a.name.toList == b.name.toList) && spansB a.props b.props
def tblB (x y : Tbl) : Bool := decide (x.purity = y.purity) && eqI prpB default x.props y.props && eqI kndB default x.kinds y.kinds
theorem ba_same {a b : ByteArray} : (a.toList == b.toList) = true ↔ a = b := by
  rw [beq_iff_eq, ByteArray.toList_eq, ByteArray.toList_eq]
  exact ⟨fun h => ByteArray.ext (Array.toList_inj.1 h), fun h => by rw [h]⟩
theorem prpB_iff (a b : Prp) : prpB a b = true ↔ a = b := by
  obtain ⟨a1, a2⟩ := a
  obtain ⟨b1, b2⟩ := b
  unfold prpB
  rw [Bool.and_eq_true, ba_same]
  simp
theorem kndB_iff (a b : Knd) : kndB a b = true ↔ a = b := by
  obtain ⟨a1, a2⟩ := a
  obtain ⟨b1, b2⟩ := b
  unfold kndB
  rw [Bool.and_eq_true, ba_same, spansB_iff]
  simp
theorem tblB_iff {x y : Tbl} : tblB x y = true ↔ x = y := by
  obtain ⟨p, k, u⟩ := x
  obtain ⟨p', k', u'⟩ := y
  unfold tblB
  rw [Bool.and_eq_true, Bool.and_eq_true, eqI_same prpB_iff, eqI_same kndB_iff]
  simp
  constructor
  · rintro ⟨⟨a, b⟩, c⟩; exact ⟨b, c, a⟩
  · rintro ⟨a, b, c⟩; exact ⟨⟨c, a⟩, b⟩
def limT (x : Tbl) : Prop := x.props.length < 1000000 ∧ x.kinds.length < 1000000 ∧ ∀ k ∈ x.kinds, k.props.length < 1000000
instance (x : Tbl) : Decidable (limT x) := inferInstanceAs (Decidable (_ ∧ _ ∧ ∀ k ∈ x.kinds, _))
def g36 : List (Nat × (List D → Option D)) := [(77, s77)]
theorem dg36 : DelOk Tryz.prog (delOf g36) := del_cons del_nil call77 ok77
def s36 : List D → Option D := sp2 (cAgg rTbl) (cAgg rTbl) cBool fun x y => if limT x then some (tblB x y) else none
set_option maxHeartbeats 4000000 in
theorem ok36 : ∀ ds d, s36 ds = some d → PureC Tryz.prog 36 ds d := ok_sp2 fun x y r hr => by
  split at hr
  · rename_i hlim
    cases hr
    obtain ⟨l1, l2, l3⟩ := hlim
    refine pure_of_call (mkCx_ok dg36 84 kp36 []) Tryz.func36 rfl rfl (Nat.le_of_ble_eq_true rfl) (by kernel_rfl) ?_
    rw [Tryz.results36]
    unfold tblB
    by_cases h1 : x.props.length = y.props.length
    · by_cases h2 : x.kinds.length = y.kinds.length
      · by_cases h3 : x.purity = y.purity
        · have hP : ∀ j, j < x.props.length → ∃ (hj : j < x.props.length) (hj' : j < y.props.length), (j : Int) < x.props.length ∧ (j : Int) < y.props.length ∧ prpB (x.props.getD j default) (y.props.getD j default) = ((x.props[j].name.toList == y.props[j].name.toList) && (x.props[j].err == y.props[j].err)) := fun j hj => by
            have hj' : j < y.props.length := by omega
            exact ⟨hj, hj', by omega, by omega, by rw [getD_at _ _ _ hj, getD_at _ _ _ hj']; rfl⟩
          have hK : ∀ j, j < x.kinds.length → ∃ (hj : j < x.kinds.length) (hj' : j < y.kinds.length), (j : Int) < x.kinds.length ∧ (j : Int) < y.kinds.length ∧ kndB (x.kinds.getD j default) (y.kinds.getD j default) = ((x.kinds[j].name.toList == y.kinds[j].name.toList) && eqI spnB default x.kinds[j].props y.kinds[j].props) ∧ x.kinds[j].props.length < 1000000 := fun j hj => by
            have hj' : j < y.kinds.length := by omega
            exact ⟨hj, hj', by omega, by omega, by rw [getD_at _ _ _ hj, getD_at _ _ _ hj']; rfl, l3 _ (List.getElem_mem hj)⟩
          rcases first_not (fun i => prpB (x.props.getD i default) (y.props.getD i default)) x.props.length with hall | ⟨k, hk, hbad, hgood⟩
          · rw [eqI_iff.2 ⟨h1, hall⟩]
            rcases first_not (fun i => kndB (x.kinds.getD i default) (y.kinds.getD i default)) x.kinds.length with hall2 | ⟨k, hk, hbad, hgood⟩
            · rw [eqI_iff.2 ⟨h2, hall2⟩]
              simp [kp36, rTbl_enc, rPrp_k, rKnd_k, h1, h2, h3]
              (generalize hLoopQ : Cx.loop _ _ _ = rLoopQ; apply loop_then hLoopQ (fun k => ⟨[(2, .loc 2 0), (3, .loc 3 0), (5, .d (DI k))], [(2, [.d (.sl 2 (x.props.map rPrp.enc)), .d (.sl 2 (x.kinds.map rKnd.enc)), .d (DI y.purity)]), (3, [.d (.sl 2 (y.props.map rPrp.enc)), .d (.sl 2 (y.kinds.map rKnd.enc)), .d (DI y.purity)])], [], []⟩) x.props.length rfl; rotate_left; (show _ < 281474976710656; omega); rfl; rotate_left; all_goals clear hLoopQ)
              · intro j hj0
                have hjx : j < x.props.length := by omega
                have w1 := wrap_small ((j : Int) + 1) (by omega) (by omega)
                obtain ⟨hj1, hj2, hj3, hj4, hj5⟩ := hP j hjx
                have hx := hall j hjx
                rw [hj5] at hx
                simp [kp36, rPrp_enc, hj1, hj2, hj3, hj4, hx, w1]
              · simp [kp36, h1]
                (generalize hLoopQ : Cx.loop _ _ _ = rLoopQ; apply loop_then hLoopQ (fun k => ⟨[(2, .loc 2 0), (3, .loc 3 0), (6, .d (DI k))], [(2, [.d (.sl 2 (x.props.map rPrp.enc)), .d (.sl 2 (x.kinds.map rKnd.enc)), .d (DI y.purity)]), (3, [.d (.sl 2 (y.props.map rPrp.enc)), .d (.sl 2 (y.kinds.map rKnd.enc)), .d (DI y.purity)])], [], []⟩) x.kinds.length rfl; rotate_left; (show _ < 281474976710656; omega); rfl; rotate_left; all_goals clear hLoopQ)
                · intro j hj0
                  have hjx : j < x.kinds.length := by omega
                  have w1 := wrap_small ((j : Int) + 1) (by omega) (by omega)
                  obtain ⟨hj1, hj2, hj3, hj4, hj5, hj6⟩ := hK j hjx
                  have hx := hall2 j hjx
                  rw [hj5, Bool.and_eq_true] at hx
                  obtain ⟨hx1, hx2⟩ := hx
                  simp [kp36, g36, s77, rKnd_enc, rSpn_decL, hj1, hj2, hj3, hj4, hj6, hx1, hx2, w1]
                · simp [kp36, h2]
            · rw [eqI_bad hk hbad]
              simp [kp36, rTbl_enc, rPrp_k, rKnd_k, h1, h2, h3]
              (generalize hLoopQ : Cx.loop _ _ _ = rLoopQ; apply loop_then hLoopQ (fun k => ⟨[(2, .loc 2 0), (3, .loc 3 0), (5, .d (DI k))], [(2, [.d (.sl 2 (x.props.map rPrp.enc)), .d (.sl 2 (x.kinds.map rKnd.enc)), .d (DI y.purity)]), (3, [.d (.sl 2 (y.props.map rPrp.enc)), .d (.sl 2 (y.kinds.map rKnd.enc)), .d (DI y.purity)])], [], []⟩) x.props.length rfl; rotate_left; (show _ < 281474976710656; omega); rfl; rotate_left; all_goals clear hLoopQ)
              · intro j hj0
                have hjx : j < x.props.length := by omega
                have w1 := wrap_small ((j : Int) + 1) (by omega) (by omega)
                obtain ⟨hj1, hj2, hj3, hj4, hj5⟩ := hP j hjx
                have hx := hall j hjx
                rw [hj5] at hx
                simp [kp36, rPrp_enc, hj1, hj2, hj3, hj4, hx, w1]
              · simp [kp36, h1]
                (generalize hLoopQ : Cx.loop _ _ _ = rLoopQ; apply loop_then hLoopQ (fun k => ⟨[(2, .loc 2 0), (3, .loc 3 0), (6, .d (DI k))], [(2, [.d (.sl 2 (x.props.map rPrp.enc)), .d (.sl 2 (x.kinds.map rKnd.enc)), .d (DI y.purity)]), (3, [.d (.sl 2 (y.props.map rPrp.enc)), .d (.sl 2 (y.kinds.map rKnd.enc)), .d (DI y.purity)])], [], []⟩) k rfl; rotate_left; (show _ < 281474976710656; omega); rfl; rotate_left; all_goals clear hLoopQ)
                · intro j hj0
                  have hjx : j < x.kinds.length := by omega
                  have w1 := wrap_small ((j : Int) + 1) (by omega) (by omega)
                  obtain ⟨hj1, hj2, hj3, hj4, hj5, hj6⟩ := hK j hjx
                  have hx := hgood j hj0
                  rw [hj5, Bool.and_eq_true] at hx
                  obtain ⟨hx1, hx2⟩ := hx
                  simp [kp36, g36, s77, rKnd_enc, rSpn_decL, hj1, hj2, hj3, hj4, hj6, hx1, hx2, w1]
                · obtain ⟨hj1, hj2, hj3, hj4, hj5, hj6⟩ := hK k hk
                  rw [hj5] at hbad
                  rcases Bool.and_eq_false_iff.1 hbad with hx | hx
                  · have hx2 : (!(x.kinds[k].name.toList == y.kinds[k].name.toList)) = true := by rw [hx]; rfl
                    simp [kp36, rKnd_enc, hj1, hj2, hj3, hj4, hx, hx2]
                  · cases hx1 : (x.kinds[k].name.toList == y.kinds[k].name.toList)
                    · simp [kp36, rKnd_enc, hj1, hj2, hj3, hj4, hx1]
                    · simp [kp36, g36, s77, rKnd_enc, rSpn_decL, hj1, hj2, hj3, hj4, hj6, hx, hx1]
          · rw [eqI_bad hk hbad]
            simp [kp36, rTbl_enc, rPrp_k, rKnd_k, h1, h2, h3]
            (generalize hLoopQ : Cx.loop _ _ _ = rLoopQ; apply loop_then hLoopQ (fun k => ⟨[(2, .loc 2 0), (3, .loc 3 0), (5, .d (DI k))], [(2, [.d (.sl 2 (x.props.map rPrp.enc)), .d (.sl 2 (x.kinds.map rKnd.enc)), .d (DI y.purity)]), (3, [.d (.sl 2 (y.props.map rPrp.enc)), .d (.sl 2 (y.kinds.map rKnd.enc)), .d (DI y.purity)])], [], []⟩) k rfl; rotate_left; (show _ < 281474976710656; omega); rfl; rotate_left; all_goals clear hLoopQ)
            · intro j hj0
              have hjx : j < x.props.length := by omega
              have w1 := wrap_small ((j : Int) + 1) (by omega) (by omega)
              obtain ⟨hj1, hj2, hj3, hj4, hj5⟩ := hP j hjx
              have hx := hgood j hj0
              rw [hj5] at hx
              simp [kp36, rPrp_enc, hj1, hj2, hj3, hj4, hx, w1]
            · obtain ⟨hj1, hj2, hj3, hj4, hj5⟩ := hP k hk
              rw [hj5] at hbad
              simp [kp36, rPrp_enc, hj1, hj2, hj3, hj4, hbad]
        · have h3' : (x.purity != y.purity) = true := bne_iff_ne.2 h3
          simp [kp36, rTbl_enc, rPrp_k, rKnd_k, h1, h2, h3, h3']
      · have h2' : ((x.kinds.length : Int) != (y.kinds.length : Int)) = true := bne_iff_ne.2 (by omega)
        rw [eqI_len (q := kndB) h2]
        simp [kp36, rTbl_enc, rPrp_k, rKnd_k, h1, h2']
    · have h1' : ((x.props.length : Int) != (y.props.length : Int)) = true := bne_iff_ne.2 (by omega)
      rw [eqI_len (q := prpB) h1]
      simp [kp36, rTbl_enc, rPrp_k, rKnd_k, h1']
  · cases hr
theorem call36 (xs : Array Value) (w : World) : (callFunc 36 xs).run Tryz.prog w = .ok (.enter 36 xs) w := by kernel_rfl
end Go.Proofs.YtkldmnladkcfeaaGreatDoor
