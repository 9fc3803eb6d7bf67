/-
  What the tried rinses and the needed rinses of an order show. No program here.
-/
import Derived.Test.YtpkjmnfgpbliaaaZRushLaw
import Derived.Test.YtpkjmnfgpbliaaaZLaw7
namespace Go.Proofs.Ytpkjmnfgpbliaaa
open Go.RowKit
set_option linter.unusedSimpArgs false
set_option linter.unusedVariables false

def rinV (R : List Int) (i : Nat) : Nat := (turnV R i).toNat % 4
def rinL (R : List Int) (k : Nat) : List Int := (List.range k).map fun i => (rinV R i : Int)
theorem rinL_succ (R : List Int) (k : Nat) : rinL R (k + 1) = rinL R k ++ [(rinV R k : Int)] := by simp [rinL, List.range_succ]
theorem rinL_len (R : List Int) (k : Nat) : (rinL R k).length = k := by simp [rinL]
def rinsAt (s : Shp) (st : Int) (P : List Bat) (i : Nat) : Int × Int := rinsesR s (bfAt st P i) (P.getD i default)
def needL (s : Shp) (st : Int) (P : List Bat) (k : Nat) : List Int := (List.range k).map fun i => (rinsAt s st P i).1
theorem needL_succ (s : Shp) (st : Int) (P : List Bat) (k : Nat) : needL s st P (k + 1) = needL s st P k ++ [(rinsAt s st P k).1] := by simp [needL, List.range_succ]
theorem needL_len (s : Shp) (st : Int) (P : List Bat) (k : Nat) : (needL s st P k).length = k := by simp [needL]
def possB (s : Shp) (st : Int) (P : List Bat) : Nat → Bool
  | 0 => true
  | k + 1 => possB s st P k && ((rinsAt s st P k).2 == 0)
def shownAt (s : Shp) (st : Int) (P : List Bat) (R : List Int) (x : Sty) (i : Nat) : Bool := shownV s (bfAt st P i).toNat (P.getD i default) (leftV s (bfAt st P i).toNat x (rinV R i)) (rinV R i)
def someB (s : Shp) (st : Int) (P : List Bat) (R : List Int) (x : Sty) : Nat → Bool
  | 0 => false
  | k + 1 => someB s st P R x k || shownAt s st P R x k
def canI (s : Shp) (st : Int) (P : List Bat) (R : List Int) (i : Nat) : Bool := canShow s (bfAt st P i).toNat (P.getD i default) (rinV R i)
def firstV (s : Shp) (st : Int) (P : List Bat) (R : List Int) : Nat → Int
  | 0 => -1
  | k + 1 => if firstV s st P R k < 0 then (if canI s st P R k = true then (k : Int) else -1) else firstV s st P R k
theorem firstV_cases (s : Shp) (st : Int) (P : List Bat) (R : List Int) : ∀ k, (firstV s st P R k = -1 ∧ ∀ j, j < k → canI s st P R j = false) ∨ ∃ i : Nat, i < k ∧ firstV s st P R k = i ∧ canI s st P R i = true ∧ ∀ j, j < i → canI s st P R j = false := by
  intro k
  induction k with
  | zero => exact .inl ⟨rfl, fun j h => absurd h (by omega)⟩
  | succ k ih =>
    rcases ih with ⟨h1, h2⟩ | ⟨i, h1, h2, h3, h4⟩
    · cases hc : canI s st P R k
      · refine .inl ⟨by simp [firstV, h1, hc], fun j hj => ?_⟩
        by_cases hk : j < k
        · exact h2 j hk
        · obtain rfl : j = k := by omega
          exact hc
      · exact .inr ⟨k, by omega, by simp [firstV, h1, hc], hc, h2⟩
    · refine .inr ⟨i, by omega, ?_, h3, h4⟩
      have : ¬ ((i : Int) < 0) := by omega
      simp [firstV, h2, this]
theorem canAt_rin (s : Shp) (st : Int) (P : List Bat) (R : List Int) (n j : Nat) (h : j < n) : canAt s st P (rinL R n) j = canI s st P R j := by
  unfold canAt canI
  have e : (rinL R n).getD j 0 = (rinV R j : Int) := by rw [getD_at _ _ _ (by rw [rinL_len]; exact h)]; simp [rinL]
  rw [e, Int.toNat_natCast]
theorem shows_tried {s : Shp} {st : Int} {l : List Bat} {o R : List Int} (ha : askE s st l o = 0) (hP : (putL l o).length = l.length) : showsR s st l o (rinL R l.length) = (firstV s st (putL l o) R l.length, 0) := by
  rw [showsR_eq, if_neg (by simpa using ha), if_neg (by simp [rinL_len])]
  have hout : outB 0 3 (rinL R l.length) = false := by
    rw [outB_all]
    intro i hi
    rw [getD_at _ _ _ hi]
    have hm := Nat.mod_lt (turnV R i).toNat (show 0 < 4 by omega)
    simp only [rinL, List.getElem_map, List.getElem_range, rinV]
    omega
  rw [if_neg (by simp [hout])]
  rcases firstV_cases s st (putL l o) R l.length with ⟨h1, h2⟩ | ⟨i, h1, h2, h3, h4⟩
  · rw [h1, showAt_all]
    intro j hj
    rw [canAt_rin _ _ _ _ _ _ (by omega)]
    exact h2 j (by omega)
  · rw [h2, showAt_at s st _ _ i (by omega)]
    · rw [canAt_rin _ _ _ _ _ _ h1]; exact h3
    · intro j hj
      rw [canAt_rin _ _ _ _ _ _ (by omega)]; exact h4 j hj
/-- What holds of a place of an order. -/
def Placed (s : Shp) (st : Int) (P : List Bat) (j : Nat) : Prop := ∃ B : Nat, bfAt st P j = B ∧ B < s.cols.length ∧ batErr s (P.getD j default) = 0
theorem some_first {s : Shp} (hg : Good s) {st : Int} {P : List Bat} {R : List Int} {x : Sty} (hp : ∀ j, j < P.length → Placed s st P j) : ∀ k, k ≤ P.length → (∀ j, j < k → canI s st P R j = false) → someB s st P R x k = false := by
  intro k
  induction k with
  | zero => intro _ _; rfl
  | succ k ih =>
    intro hk h
    rw [someB, ih (by omega) (fun j hj => h j (by omega))]
    obtain ⟨B, e1, e2, _⟩ := hp k (by omega)
    have := h k (by omega)
    unfold canI at this
    unfold shownAt
    rw [e1, Int.toNat_natCast] at this ⊢
    rw [shown_left hg e2 _ x _ this]; rfl
theorem rins_valid {s : Shp} {B : Nat} {b : Bat} (h2 : (chk s).2.2 = 0) (hB : B < s.cols.length) (hb : batErr s b = 0) : openErr s [b] [(B : Int)] = 0 ∧ rinsesR s B b = if needs s B b < 0 then (0, 9) else (needs s B b, 0) := by
  have hop : openErr s [b] [(B : Int)] = 0 := by
    have ho : outB 0 ((s.cols.length : Int) - 1) [(B : Int)] = false := (outB_one _ _ _).2 ⟨by omega, by omega⟩
    rw [openErr_eq]
    unfold colE
    simp [h2, ho, batsE_one, hb]
  refine ⟨hop, ?_⟩
  unfold rinsesR
  rw [if_neg (by simpa using hop), Int.toNat_natCast]
theorem loss_poss {s : Shp} (h2 : (chk s).2.2 = 0) {st : Int} {P : List Bat} (hp : ∀ j, j < P.length → Placed s st P j) : ∀ k, k ≤ P.length → (possB s st P k = false ∧ (P.take k).foldl (stepL s) (some (0, st)) = none) ∨ (possB s st P k = true ∧ ∃ x, 0 ≤ x ∧ (P.take k).foldl (stepL s) (some (0, st)) = some (x, bfAt st P k)) := by
  have hg := good_of_chk h2
  intro k
  induction k with
  | zero => intro _; exact .inr ⟨rfl, 0, by omega, rfl⟩
  | succ k ih =>
    intro hk
    have hk' : k < P.length := by omega
    rw [List.take_succ_eq_append_getElem hk', List.foldl_append]
    obtain ⟨B, e1, e2, e3⟩ := hp k hk'
    rw [getD_at _ _ _ hk'] at e3
    have hr := (rins_valid h2 e2 e3).2
    have hri : rinsAt s st P k = rinsesR s B P[k] := by unfold rinsAt; rw [e1, getD_at _ _ _ hk']
    rcases ih (by omega) with ⟨i1, i2⟩ | ⟨i1, x, i2, i3⟩
    · refine .inl ⟨by rw [possB, i1]; rfl, ?_⟩
      rw [i2]; rfl
    · rw [i3, List.foldl_cons, List.foldl_nil]
      have hb1 : bfAt st P (k + 1) = P[k].c := by simp [bfAt, List.getD, hk']
      have hr0 := hg.r0
      by_cases hn : needs s B P[k] < 0
      · refine .inl ⟨by rw [possB, i1, hri, hr, if_pos hn]; rfl, ?_⟩
        unfold stepL; simp only [e1, Int.toNat_natCast]; rw [if_pos hn]
      · refine .inr ⟨by rw [possB, i1, hri, hr, if_neg hn]; rfl, x + needs s B P[k] * s.rinse, ?_, ?_⟩
        · have := Int.mul_nonneg (show 0 ≤ needs s B P[k] by omega) hr0
          omega
        · unfold stepL; simp only [e1, Int.toNat_natCast]; rw [if_neg hn, hb1]
theorem lost_poss {s : Shp} (h2 : (chk s).2.2 = 0) {st : Int} {l : List Bat} {o : List Int} (ha : askE s st l o = 0) (hp : ∀ j, j < (putL l o).length → Placed s st (putL l o) j) (hP : (putL l o).length = l.length) :
    ((lostR s st l o).2 == 0) = possB s st (putL l o) l.length := by
  rw [lostR_eq, if_neg (by simpa using ha)]
  have h := loss_poss h2 hp (putL l o).length (Nat.le_refl _)
  rw [List.take_length] at h
  rw [← hP]
  rcases h with ⟨i1, i2⟩ | ⟨i1, x, i2, i3⟩
  · have : lossB s st (putL l o) = -1 := by unfold lossB; rw [i2]
    rw [i1, this]; rfl
  · have : lossB s st (putL l o) = x := by unfold lossB; rw [i3]
    rw [i1, this, if_neg (by omega)]; rfl
theorem poss_all {s : Shp} {st : Int} {P : List Bat} : ∀ k, possB s st P k = true → ∀ j, j < k → (rinsAt s st P j).2 = 0 := by
  intro k
  induction k with
  | zero => intro _ j h; exact absurd h (by omega)
  | succ k ih =>
    intro h j hj
    rw [possB, Bool.and_eq_true] at h
    by_cases hk : j < k
    · exact ih h.1 j hk
    · obtain rfl : j = k := by omega
      simpa using h.2
theorem shows_needed {s : Shp} (h2 : (chk s).2.2 = 0) {st : Int} {l : List Bat} {o : List Int} (ha : askE s st l o = 0) (hp : ∀ j, j < (putL l o).length → Placed s st (putL l o) j) (hP : (putL l o).length = l.length) (hpo : possB s st (putL l o) l.length = true) :
    showsR s st l o (needL s st (putL l o) l.length) = (-1, 0) := by
  have key : ∀ j, j < l.length → ∃ k : Nat, k ≤ 3 ∧ (rinsAt s st (putL l o) j).1 = k ∧ canShow s (bfAt st (putL l o) j).toNat ((putL l o).getD j default) k = false := by
    intro j hj
    have h0 := poss_all _ hpo j hj
    obtain ⟨B, e1, e2, e3⟩ := hp j (by omega)
    have hr := (rins_valid h2 e2 e3).2
    have hri : rinsAt s st (putL l o) j = rinsesR s B ((putL l o).getD j default) := by unfold rinsAt; rw [e1]
    rw [e1, Int.toNat_natCast]
    rcases needs_cases s B ((putL l o).getD j default) with ⟨n1, n2⟩ | ⟨k, n0, n1, n2, n3⟩
    · rw [hri, hr, if_pos (by omega)] at h0; cases h0
    · exact ⟨k, n0, by rw [hri, hr, if_neg (by omega)]; exact n1, n2⟩
  rw [showsR_eq, if_neg (by simpa using ha), if_neg (by simp [needL_len])]
  have hat : ∀ j, j < l.length → (needL s st (putL l o) l.length).getD j 0 = (rinsAt s st (putL l o) j).1 := fun j hj => by
    rw [getD_at _ _ _ (by rw [needL_len]; exact hj)]; simp [needL]
  have hout : outB 0 3 (needL s st (putL l o) l.length) = false := by
    rw [outB_all]
    intro i hi
    rw [needL_len] at hi
    obtain ⟨k, k1, k2, _⟩ := key i hi
    rw [hat i hi, k2]; omega
  rw [if_neg (by simp [hout]), showAt_all]
  intro j hj
  obtain ⟨k, k1, k2, k3⟩ := key j (by omega)
  unfold canAt
  rw [hat j (by omega), k2, Int.toNat_natCast]
  exact k3
end Go.Proofs.Ytpkjmnfgpbliaaa
