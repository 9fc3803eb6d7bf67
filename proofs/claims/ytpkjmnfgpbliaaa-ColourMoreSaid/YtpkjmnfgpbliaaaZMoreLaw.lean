/-
  With less that stays, and more that shows, no more rinses are needed. No program here.
-/
import Derived.Test.YtpkjmnfgpbliaaaZNeverLaw
namespace Go.Proofs.Ytpkjmnfgpbliaaa
open Go.RowKit
set_option linter.unusedSimpArgs false
set_option linter.unusedVariables false

def fineSpn (p : Spn) (x : Int) : Spn := ⟨if p.lo < amongV ⟨0, p.hi⟩ x then p.lo else amongV ⟨0, p.hi⟩ x, amongV ⟨0, p.hi⟩ x⟩
theorem fineSpn_bd {p : Spn} (x : Int) (h0 : 0 ≤ p.lo) (h1 : p.lo ≤ p.hi) : 0 ≤ (fineSpn p x).lo ∧ (fineSpn p x).lo ≤ (fineSpn p x).hi ∧ 0 ≤ (fineSpn p x).hi ∧ (fineSpn p x).hi ≤ p.hi := by
  have h : 0 ≤ amongV ⟨0, p.hi⟩ x ∧ amongV ⟨0, p.hi⟩ x ≤ p.hi := among_bd (s := ⟨0, p.hi⟩) (show (0 : Int) ≤ p.hi by omega)
  unfold fineSpn
  dsimp only
  split <;> omega
def fineShow (y v : Int) : Int := if v + y < 1000 then v + y else 1000
def fineCol (x y : Int) (c : Col) : Col := ⟨c.name, fineSpn c.stay x, c.shows.map (fineShow y)⟩
def fineShp (s : Shp) (x1 x2 x3 : Int) : Shp := ⟨s.cols.map (fineCol x2 x3), fineSpn s.keep x1, s.rinse⟩
def heavyB (b : Bat) (x : Int) : Bat := ⟨b.c, if b.g + x < 100000 then b.g + x else 100000⟩
theorem chkGo_all (s : Shp) : ∀ (l : List Col) (i : Nat), (∀ j (hj : j < l.length), colErr s (i + j) l[j] = 0) → chkGo s i l = (0, 0, 0)
  | [], _, _ => rfl
  | c :: t, i, h => by
    have h0 := h 0 (by simp)
    rw [chkGo, if_pos (by simpa using h0)]
    exact chkGo_all s t (i + 1) fun j hj => by have := h (j + 1) (by simpa using hj); simpa [Nat.add_assoc, Nat.add_comm 1 j] using this
theorem chk_parts {s : Shp} (h : (chk s).2.2 = 0) : outB 1 6 [(s.cols.length : Int)] = false ∧ outB 0 10000 [s.rinse] = false ∧ outB 0 1000 [s.keep.lo, s.keep.hi] = false ∧ ¬ s.keep.hi < s.keep.lo ∧ ∀ j (hj : j < s.cols.length), colErr s (0 + j) s.cols[j] = 0 := by
  unfold chk at h
  by_cases h1 : outB 1 6 [(s.cols.length : Int)] = true
  · rw [if_pos h1] at h; exact absurd h (by simp)
  rw [if_neg h1] at h
  by_cases h2 : outB 0 10000 [s.rinse] = true
  · rw [if_pos h2] at h; exact absurd h (by simp)
  rw [if_neg h2] at h
  by_cases h3 : outB 0 1000 [s.keep.lo, s.keep.hi] = true
  · rw [if_pos h3] at h; exact absurd h (by simp)
  rw [if_neg h3] at h
  by_cases h4 : s.keep.hi < s.keep.lo
  · rw [if_pos h4] at h; exact absurd h (by simp)
  rw [if_neg h4] at h
  exact ⟨by simpa using h1, by simpa using h2, by simpa using h3, h4, chkGo_zero s s.cols 0 h⟩
theorem fine_chk {s : Shp} (h : (chk s).2.2 = 0) (x1 x2 : Int) {x3 : Int} (y0 : 0 ≤ x3) : (chk (fineShp s x1 x2 x3)).2.2 = 0 := by
  obtain ⟨h1, h2, h3, h4, h5⟩ := chk_parts h
  have a3 := (outB_two _ _ _ _).1 h3
  have hk := fineSpn_bd (p := s.keep) x1 (by omega) (by omega)
  unfold chk
  have e1 : (fineShp s x1 x2 x3).cols.length = s.cols.length := by simp [fineShp]
  rw [e1, if_neg (by simp [h1]), if_neg (by show ¬ outB 0 10000 [s.rinse] = true; simp [h2])]
  have e3 : outB 0 1000 [(fineSpn s.keep x1).lo, (fineSpn s.keep x1).hi] = false := (outB_two _ _ _ _).2 (by omega)
  rw [if_neg (by show ¬ outB 0 1000 [(fineSpn s.keep x1).lo, (fineSpn s.keep x1).hi] = true; simp [e3]), if_neg (by show ¬ (fineSpn s.keep x1).hi < (fineSpn s.keep x1).lo; omega)]
  rw [chkGo_all]
  intro j hj
  have hj' : j < s.cols.length := by rwa [e1] at hj
  obtain ⟨c1, c2, c3, c4, c5, c6⟩ := colErr_zero (h5 j hj')
  have ec : (fineShp s x1 x2 x3).cols[j] = fineCol x2 x3 s.cols[j] := by simp [fineShp]
  rw [ec]
  have a5 := (outB_two _ _ _ _).1 c5
  have hs := fineSpn_bd (p := s.cols[j].stay) x2 (by omega) (by omega)
  unfold colErr
  have d1 : ((fineShp s x1 x2 x3).cols.take (0 + j)).any (sameName (fineCol x2 x3 s.cols[j]).name) = false := by
    show ((s.cols.map (fineCol x2 x3)).take (0 + j)).any (sameName s.cols[j].name) = false
    rw [← List.map_take, List.any_map]
    exact c2
  have d2 : (fineCol x2 x3 s.cols[j]).shows.length = (fineShp s x1 x2 x3).cols.length := by rw [e1]; simp [fineCol, c3]
  have d3 : outB 0 1000 (fineCol x2 x3 s.cols[j]).shows = false := by
    rw [outB_all]
    intro i hi
    have hi' : i < s.cols[j].shows.length := by simpa [fineCol] using hi
    have := (outB_all _ _ _).1 c4 i hi'
    rw [getD_at _ _ _ hi'] at this
    rw [getD_at _ _ _ hi]
    simp only [fineCol, List.getElem_map, fineShow]
    split <;> omega
  have d4 : outB 0 1000 [(fineCol x2 x3 s.cols[j]).stay.lo, (fineCol x2 x3 s.cols[j]).stay.hi] = false := (outB_two _ _ _ _).2 (by show (0 ≤ (fineSpn s.cols[j].stay x2).lo ∧ (fineSpn s.cols[j].stay x2).lo ≤ 1000) ∧ 0 ≤ (fineSpn s.cols[j].stay x2).hi ∧ (fineSpn s.cols[j].stay x2).hi ≤ 1000; omega)
  rw [if_neg (by show ¬ nameB s.cols[j].name = false; simp [c1]), if_neg (by rw [d1]; simp), if_neg (by simpa using d2), if_neg (by simp [d3]), if_neg (by simp [d4]), if_neg (by show ¬ (fineSpn s.cols[j].stay x2).hi < (fineSpn s.cols[j].stay x2).lo; omega)]
theorem pow_le {a b : Int} (h0 : 0 ≤ a) (h : a ≤ b) : ∀ r : Nat, 0 ≤ a ^ r ∧ a ^ r ≤ b ^ r
  | 0 => by simp
  | r + 1 => by
    obtain ⟨i0, i1⟩ := pow_le h0 h r
    rw [Int.pow_succ, Int.pow_succ]
    exact ⟨Int.mul_nonneg i0 h0, Int.mul_le_mul i1 h h0 (by omega)⟩
theorem can_fine {s : Shp} (h2 : (chk s).2.2 = 0) {B : Nat} (hB : B < s.cols.length) {b : Bat} (hb : batErr s b = 0) (x1 x2 : Int) {x3 x4 : Int} (y0 : 0 ≤ x3) (y1 : 0 ≤ x4) (r : Nat) (h : canShow s B b r = false) : canShow (fineShp s x1 x2 x3) B (heavyB b x4) r = false := by
  have hg := good_of_chk h2
  obtain ⟨⟨hk0, hk1⟩, hg0, hg1⟩ := okBat_of hb
  obtain ⟨C, hC⟩ : ∃ C : Nat, b.c = C := ⟨b.c.toNat, by omega⟩
  have hCn : C < s.cols.length := by omega
  have hst := hg.st B hB
  have hsv := hg.sv B C hB hCn
  have hsh := hg.sh B hB
  have e : (fineShp s x1 x2 x3).cols.getD B default = fineCol x2 x3 s.cols[B] := by rw [getD_at _ _ _ (by simpa [fineShp] using hB)]; simp [fineShp]
  unfold canShow at h ⊢
  rw [e]
  rw [getD_at _ _ _ hB] at h hst hsv hsh
  have hCl : C < s.cols[B].shows.length := by omega
  have e2 : (fineCol x2 x3 s.cols[B]).shows.getD C 0 = fineShow x3 s.cols[B].shows[C] := by rw [getD_at _ _ _ (by simpa [fineCol] using hCl)]; simp [fineCol]
  have e0 : (heavyB b x4).c = b.c := rfl
  rw [e0]
  cases hne : decide ((B : Int) = b.c)
  · rw [hne] at h
    rw [hC, Int.toNat_natCast] at h ⊢
    rw [e2]
    rw [getD_at _ _ _ hCl] at h hsv
    simp only [Bool.not_false, Bool.true_and, decide_eq_false_iff_not, Int.not_lt] at h ⊢
    have hk := fineSpn_bd (p := s.keep) x1 hg.k0 hg.k1
    have hs := fineSpn_bd (p := s.cols[B].stay) x2 (by omega) (by omega)
    have hp := pow_le hk.2.2.1 hk.2.2.2 r
    have hq := pow_le (show (0 : Int) ≤ 1000 by omega) (Int.le_refl 1000) r
    have f1 : s.cols[B].shows[C] ≤ fineShow x3 s.cols[B].shows[C] := by unfold fineShow; split <;> omega
    have f2 : b.g ≤ (heavyB b x4).g := by unfold heavyB; dsimp only; split <;> omega
    have g1 : b.g * s.cols[B].shows[C] ≤ (heavyB b x4).g * fineShow x3 s.cols[B].shows[C] := Int.mul_le_mul f2 f1 hsv.1 (by omega)
    have g2 : b.g * s.cols[B].shows[C] * 1000 ^ r ≤ (heavyB b x4).g * fineShow x3 s.cols[B].shows[C] * 1000 ^ r := Int.mul_le_mul_of_nonneg_right g1 hq.1
    have g3 : 1000 * (fineSpn s.cols[B].stay x2).hi ≤ 1000 * s.cols[B].stay.hi := by omega
    have g4 : 1000 * (fineSpn s.cols[B].stay x2).hi * (fineSpn s.keep x1).hi ^ r ≤ 1000 * s.cols[B].stay.hi * s.keep.hi ^ r := Int.mul_le_mul g3 hp.2 hp.1 (by omega)
    show 1000 * (fineSpn s.cols[B].stay x2).hi * (fineSpn s.keep x1).hi ^ r ≤ (heavyB b x4).g * fineShow x3 s.cols[B].shows[C] * 1000 ^ r
    omega
  · simp
/-- What is known of a finer shop and a heavier batch. -/
def MoreLaw (s : Shp) (B : Nat) (b : Bat) (r q : Int × Int) : Prop :=
  rinsesR s b.c b = (0, 0) ∧ ((r.2 = 9 ∧ (q.2 = 0 ∨ q.2 = 9)) ∨ (r.2 = 0 ∧ q.2 = 0 ∧ q.1 ≤ r.1))
theorem more_law {s : Shp} (h2 : (chk s).2.2 = 0) {B : Nat} (hB : B < s.cols.length) {b : Bat} (hb : batErr s b = 0) (x1 x2 : Int) {x3 x4 : Int} (y0 : 0 ≤ x3) (y1 : 0 ≤ x4) :
    MoreLaw s B b (rinsesR s B b) (rinsesR (fineShp s x1 x2 x3) B (heavyB b x4)) := by
  obtain ⟨⟨hk0, hk1⟩, hg0, hg1⟩ := okBat_of hb
  obtain ⟨C, hC⟩ : ∃ C : Nat, b.c = C := ⟨b.c.toNat, by omega⟩
  have hf := fine_chk h2 x1 x2 y0
  have hfl : (fineShp s x1 x2 x3).cols.length = s.cols.length := by simp [fineShp]
  have hbf : batErr (fineShp s x1 x2 x3) (heavyB b x4) = 0 := batErr_of _ _ ⟨⟨hk0, by rw [hfl]; exact hk1⟩, by unfold heavyB; dsimp only; split <;> omega, by unfold heavyB; dsimp only; split <;> omega⟩
  have r1 := (rins_valid h2 hB hb).2
  have r2 := (rins_valid hf (by rw [hfl]; exact hB) hbf).2
  have r3 := (rins_valid h2 (show C < s.cols.length by omega) hb).2
  have hn : needs s C b = 0 := by
    unfold needs
    rw [if_pos (by unfold canShow; simp [hC])]
  refine ⟨by rw [hC, r3, hn]; rfl, ?_⟩
  have m := fun r => can_fine h2 hB hb x1 x2 y0 y1 r
  rw [r1, r2]
  rcases needs_cases s B b with ⟨n1, n2⟩ | ⟨k, n0, n1, n2, n3⟩
  · refine .inl ⟨by rw [if_pos (by omega)], ?_⟩
    split
    · exact .inr rfl
    · exact .inl rfl
  · refine .inr ⟨by rw [if_neg (by omega)], ?_⟩
    have hmk := m k n2
    rw [if_neg (show ¬ needs s B b < 0 by omega), n1]
    have key : 0 ≤ needs (fineShp s x1 x2 x3) B (heavyB b x4) ∧ needs (fineShp s x1 x2 x3) B (heavyB b x4) ≤ k := by
      unfold needs
      have : k = 0 ∨ k = 1 ∨ k = 2 ∨ k = 3 := by omega
      rcases this with rfl | rfl | rfl | rfl
      all_goals (repeat' split)
      all_goals first | omega | exact absurd hmk (by assumption)
    rw [if_neg (by omega)]
    exact ⟨rfl, key.2⟩
end Go.Proofs.Ytpkjmnfgpbliaaa
