/-
  The best order is possible and loses least; another order of the batches loses as much. No program here.
-/
import Derived.Test.YtpkjmnfgpbliaaaZSame
namespace Go.Proofs.Ytpkjmnfgpbliaaa
open Go.RowKit
set_option linter.unusedSimpArgs false
set_option linter.unusedVariables false

/-- The numbers from 0 on. -/
def nums (n : Nat) : List Int := (List.range n).map fun k : Nat => (k : Int)
theorem nums_len (n : Nat) : (nums n).length = n := by simp [nums]
theorem nums_mem {n : Nat} {x : Int} : x ∈ nums n ↔ 0 ≤ x ∧ x < n := by
  simp only [nums, List.mem_map, List.mem_range]
  constructor
  · rintro ⟨k, hk, rfl⟩; omega
  · rintro ⟨h0, h1⟩; exact ⟨x.toNat, by omega, by omega⟩
theorem nums_nodup (n : Nat) : (nums n).Nodup := by
  refine List.Pairwise.map (S := (· ≠ ·)) (fun i : Nat => (i : Int)) (fun a b h => ?_) List.nodup_range
  have h' : ¬ a = b := h
  show ¬ (a : Int) = (b : Int)
  omega
theorem partL_nums (n : Nat) : partL 0 n false = nums n := by
  unfold partL nums
  rw [List.filter_eq_self.2 (fun a _ => by simp)]
theorem perm_out {n : Nat} {o : List Int} (h : o.Perm (nums n)) : outB 0 ((n : Int) - 1) o = false := by
  rw [outB_all]
  intro i hi
  rw [getD_at _ _ _ hi]
  have := nums_mem.1 (h.mem_iff.1 (List.getElem_mem hi))
  omega
theorem perm_len {n : Nat} {o : List Int} (h : o.Perm (nums n)) : o.length = n := by rw [h.length_eq, nums_len]
theorem perm_nodup {n : Nat} {o : List Int} (h : o.Perm (nums n)) : o.Nodup := h.nodup_iff.2 (nums_nodup n)
theorem perm_strange {n : Nat} {o : List Int} (h : o.Perm (nums n)) : strangeE n o = 0 := by
  unfold strangeE
  rw [if_neg (by simpa using perm_len h), if_neg (by rw [perm_out h]; simp), if_neg (by simpa using perm_nodup h)]
theorem perm_order {n : Nat} {o : List Int} (h : o.Perm (nums n)) : orderE n o = 0 := by
  unfold orderE
  rw [if_neg (by have := perm_len h; simp; omega), if_neg (by rw [perm_out h]; simp), if_neg (by simpa using perm_nodup h)]
theorem open_ok {s : Shp} {st : Int} {l : List Bat} (hc : (chk s).2.2 = 0) (hb : batsErr s l = 0) (h0 : 0 ≤ st) (h1 : st < s.cols.length) (h7 : l.length ≤ 7) : openErr s l [st] = 0 := by
  unfold openErr
  rw [if_neg (by simpa using hc), if_neg (by rw [(outB_one _ _ _).2 ⟨by omega, by omega⟩]; simp), if_neg (by omega)]
  exact hb
/-- What is known of the best order. -/
def BestLaw (s : Shp) (st : Int) (l : List Bat) : Prop :=
  (refBest s st l = ([], 0, 9) ∧ ∀ o : List Int, o.Perm (nums l.length) → lossB s st (putL l o) = -1) ∨
  ∃ (p : List Int) (m : Int), refBest s st l = (p, m, 0) ∧ p.Perm (nums l.length) ∧ lossB s st (putL l p) = m ∧ 0 ≤ m ∧ m ≤ 210000 ∧ ∀ o : List Int, o.Perm (nums l.length) → lossB s st (putL l o) = -1 ∨ m ≤ lossB s st (putL l o)
theorem best_law {s : Shp} {st : Int} {l : List Bat} (hc : (chk s).2.2 = 0) (hb : batsErr s l = 0) (h0 : 0 ≤ st) (h1 : st < s.cols.length) (h7 : l.length ≤ 7) : BestLaw s st l := by
  have hop := open_ok hc hb h0 h1 h7
  have hP : ∀ o : List Int, o ∈ permsL (nums l.length) ↔ o.Perm (nums l.length) := fun o => permsF_mem _ _ _ rfl (nums_nodup _)
  unfold BestLaw refBest
  have hne : ¬ ¬ openErr s l [st] = 0 := by simpa using hop
  rw [if_neg hne, partL_nums]
  cases hf : fm (ordO s l st) (permsL (nums l.length)) with
  | none =>
    refine .inl ⟨rfl, fun o ho => ?_⟩
    rw [lossB_eq]
    cases hl : lossO s st (putL l o) with
    | none => rfl
    | some m =>
      obtain ⟨p, hp, _⟩ := fm_le (ordO s l st) _ o ((hP o).2 ho) m hl
      rw [hf] at hp; cases hp
  | some p =>
    obtain ⟨hm, hv⟩ := fm_mem _ _ _ hf
    have hbd := ordO_bd hc hb h0 h1 h7 (nums l.length) (nums_nodup _) (by rw [nums_len]; exact h7) (perm_out (List.Perm.refl _)) hf
    refine .inr ⟨p.1, p.2, rfl, (hP _).1 hm, ?_, hbd.1, hbd.2, fun o ho => ?_⟩
    · rw [lossB_eq]
      have : lossO s st (putL l p.1) = some p.2 := hv
      rw [this]; rfl
    · rw [lossB_eq]
      cases hl : lossO s st (putL l o) with
      | none => exact .inl rfl
      | some m =>
        obtain ⟨q, hq, hle⟩ := fm_le (ordO s l st) _ o ((hP o).2 ho) m hl
        rw [hf] at hq; cases hq
        exact .inr hle
/-- An order of batches that were put in order is an order of the batches. -/
def thenO (o q : List Int) : List Int := q.map fun i => o.getD i.toNat 0
theorem putL_then {l : List Bat} {o q : List Int} (ho : o.Perm (nums l.length)) (hq : q.Perm (nums l.length)) : putL (putL l o) q = putL l (thenO o q) := by
  unfold putL thenO
  rw [List.map_map]
  apply List.map_congr_left
  intro i hi
  have := nums_mem.1 (hq.mem_iff.1 hi)
  have hl := perm_len ho
  have hlt : i.toNat < o.length := by omega
  simp only [Function.comp_apply]
  rw [getD_at _ _ _ (by simpa using hlt), getD_at _ _ _ hlt]
  simp
theorem then_nums {n : Nat} {o : List Int} (h : o.length = n) : thenO o (nums n) = o := by
  apply List.ext_getElem
  · simp [thenO, nums_len, h]
  · intro i h1 h2
    simp [thenO, nums, h2]
theorem then_perm {n : Nat} {o q : List Int} (ho : o.Perm (nums n)) (hq : q.Perm (nums n)) : (thenO o q).Perm (nums n) := by
  have h1 : (thenO o q).Perm (thenO o (nums n)) := hq.map _
  rw [then_nums (perm_len ho)] at h1
  exact h1.trans ho
/-- The places of the numbers. -/
def backO (o p : List Int) : List Int := p.map fun v => ((o.idxOf v : Nat) : Int)
theorem then_back {n : Nat} {o p : List Int} (ho : o.Perm (nums n)) (hp : p.Perm (nums n)) : thenO o (backO o p) = p := by
  unfold thenO backO
  rw [List.map_map]
  have : ∀ v ∈ p, ((fun i : Int => o.getD i.toNat 0) ∘ fun v => ((o.idxOf v : Nat) : Int)) v = v := by
    intro v hv
    have hm : v ∈ o := ho.mem_iff.2 (hp.mem_iff.1 hv)
    have hlt := List.idxOf_lt_length_of_mem hm
    simp only [Function.comp_apply, Int.toNat_natCast]
    rw [getD_at _ _ _ hlt]
    exact List.getElem_idxOf hlt
  rw [List.map_congr_left this, List.map_id']
theorem back_perm {n : Nat} {o p : List Int} (ho : o.Perm (nums n)) (hp : p.Perm (nums n)) : (backO o p).Perm (nums n) := by
  have h1 : (backO o p).Perm (backO o o) := (hp.trans ho.symm).map _
  have h2 : backO o o = nums n := by
    apply List.ext_getElem
    · simp [backO, nums_len, perm_len ho]
    · intro i h1 h2
      have hi : i < o.length := by simpa [backO] using h1
      simp only [backO, nums, List.getElem_map, List.getElem_range]
      congr 1
      exact (perm_nodup ho).idxOf_getElem i hi
  rw [h2] at h1; exact h1
theorem turned_law {s : Shp} {st : Int} {l : List Bat} (hc : (chk s).2.2 = 0) (hb : batsErr s l = 0) (h0 : 0 ≤ st) (h1 : st < s.cols.length) (h7 : l.length ≤ 7) {o : List Int} (ho : o.Perm (nums l.length)) :
    (refBest s st (putL l o)).2 = (refBest s st l).2 ∧ ((refBest s st (putL l o)).2.2 = 0 → (refBest s st (putL l o)).1.Perm (nums l.length)) := by
  have hlen : (putL l o).length = l.length := by rw [putL_len]; exact perm_len ho
  have hb' := putL_okR (perm_out ho) hb
  have k1 := best_law hc hb h0 h1 h7
  have k2 := best_law hc hb' h0 h1 (by omega)
  unfold BestLaw at k1 k2
  rw [hlen] at k2
  rcases k1 with ⟨a1, a2⟩ | ⟨p, m, a1, a2, a3, a4, a5, a6⟩
  · rcases k2 with ⟨c1, c2⟩ | ⟨p', m', c1, c2, c3, c4, c5, c6⟩
    · rw [a1, c1]; exact ⟨rfl, fun h => by cases h⟩
    · have := a2 _ (then_perm ho c2)
      rw [← putL_then ho c2, c3] at this
      omega
  · rcases k2 with ⟨c1, c2⟩ | ⟨p', m', c1, c2, c3, c4, c5, c6⟩
    · have := c2 _ (back_perm ho a2)
      rw [putL_then ho (back_perm ho a2), then_back ho a2, a3] at this
      omega
    · have e1 := a6 _ (then_perm ho c2)
      rw [← putL_then ho c2, c3] at e1
      have e2 := c6 _ (back_perm ho a2)
      rw [putL_then ho (back_perm ho a2), then_back ho a2, a3] at e2
      have : m' = m := by omega
      rw [a1, c1, this]
      exact ⟨rfl, fun _ => c2⟩
end Go.Proofs.Ytpkjmnfgpbliaaa
