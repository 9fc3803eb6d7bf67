/-
  No sharing of the batches loses less than Two says. No program here.
-/
import Derived.Test.YtpkjmnfgpbliaaaZLeast
namespace Go.Proofs.Ytpkjmnfgpbliaaa
open Go.RowKit
set_option linter.unusedSimpArgs false
set_option linter.unusedVariables false

theorem twoK_le (s : Shp) (a b : Int) (l : List Bat) : ∀ K set, set < K → ∀ q, twoX s a b l set = some q → ∃ p, twoK s a b l K = some p ∧ p.2 ≤ q.2 := by
  intro K
  induction K with
  | zero => intro set h; omega
  | succ K ih =>
    intro set h q hq
    rw [twoK_succ]
    by_cases hs : set < K
    · obtain ⟨p, hp, hle⟩ := ih set hs q hq
      rw [hp]
      cases hx : twoX s a b l K with
      | none => exact ⟨p, by simp [better_none], hle⟩
      | some r =>
        by_cases hlt : r.2 < p.2
        · exact ⟨r, by simp [better, hlt], by omega⟩
        · exact ⟨p, by simp [better, hlt], hle⟩
    · obtain rfl : set = K := by omega
      rw [hq]
      cases hx : twoK s a b l set with
      | none => exact ⟨q, by simp [better], by omega⟩
      | some r =>
        by_cases hlt : q.2 < r.2
        · exact ⟨q, by simp [better, hlt], by omega⟩
        · exact ⟨r, by simp [better, hlt], by omega⟩
theorem twoK_mem (s : Shp) (a b : Int) (l : List Bat) : ∀ K p, twoK s a b l K = some p → ∃ set, set < K ∧ twoX s a b l set = some p := by
  intro K
  induction K with
  | zero => intro p h; cases h
  | succ K ih =>
    intro p h
    rw [twoK_succ] at h
    cases hx : twoX s a b l K with
    | none =>
      rw [hx, better_none] at h
      obtain ⟨set, h1, h2⟩ := ih p h
      exact ⟨set, by omega, h2⟩
    | some r =>
      cases hZ : twoK s a b l K with
      | none => rw [hx, hZ] at h; simp [better] at h; subst h; exact ⟨K, by omega, hx⟩
      | some z =>
        rw [hx, hZ] at h
        by_cases hlt : r.2 < z.2
        · simp [better, hlt] at h; subst h; exact ⟨K, by omega, hx⟩
        · simp [better, hlt] at h; subst h
          obtain ⟨set, h1, h2⟩ := ih z hZ
          exact ⟨set, by omega, h2⟩
/-- What is known of the best order of some of the batches. -/
theorem part_law {s : Shp} {st : Int} {l : List Bat} (hc : (chk s).2.2 = 0) (hb : batsErr s l = 0) (h0 : 0 ≤ st) (h1 : st < s.cols.length) (h7 : l.length ≤ 7) (set : Nat) (is : Bool) :
    (fm (ordO s l st) (permsL (partL set l.length is)) = none ∧ ∀ o : List Int, o.Perm (partL set l.length is) → lossB s st (putL l o) = -1) ∨
    ∃ (p : List Int) (m : Int), fm (ordO s l st) (permsL (partL set l.length is)) = some (p, m) ∧ p.Perm (partL set l.length is) ∧ lossB s st (putL l p) = m ∧ 0 ≤ m ∧ m ≤ 210000 ∧ ∀ o : List Int, o.Perm (partL set l.length is) → lossB s st (putL l o) = -1 ∨ m ≤ lossB s st (putL l o) := by
  have hnd := partL_nodup set l.length is
  have hP : ∀ o : List Int, o ∈ permsL (partL set l.length is) ↔ o.Perm (partL set l.length is) := fun o => permsF_mem _ _ _ rfl hnd
  cases hf : fm (ordO s l st) (permsL (partL set l.length is)) with
  | none =>
    refine .inl ⟨rfl, fun o ho => ?_⟩
    rw [lossB_eq]
    cases hl : lossO s st (putL l o) with
    | none => rfl
    | some m =>
      obtain ⟨p, hp, _⟩ := fm_le (ordO s l st) _ o ((hP o).2 ho) m hl
      rw [hf] at hp; cases hp
  | some p =>
    obtain ⟨hm, hv⟩ := fm_mem _ _ _ hf
    have hbd := ordO_bd hc hb h0 h1 h7 (partL set l.length is) hnd (Nat.le_trans (partL_len _ _ _) h7) (partL_out _ _ _) hf
    refine .inr ⟨p.1, p.2, rfl, (hP _).1 hm, ?_, hbd.1, hbd.2, fun o ho => ?_⟩
    · rw [lossB_eq]
      have : lossO s st (putL l p.1) = some p.2 := hv
      rw [this]; rfl
    · rw [lossB_eq]
      cases hl : lossO s st (putL l o) with
      | none => exact .inl rfl
      | some m =>
        obtain ⟨q, hq, hle⟩ := fm_le (ordO s l st) _ o ((hP o).2 ho) m hl
        rw [hf] at hq; cases hq
        exact .inr hle
/-- The batches of an order that are on a machine, by bits. -/
def sideL (f : Nat) (is : Bool) (o : List Int) : List Int := o.filter fun i => f.testBit i.toNat == is
theorem partL_mod (f n : Nat) (is : Bool) : partL (f % 2 ^ n) n is = partL f n is := by
  unfold partL
  congr 1
  apply List.filter_congr
  intro i hi
  have := List.mem_range.1 hi
  rw [Nat.testBit_mod_two_pow]
  simp [this]
theorem side_perm {f n : Nat} {is : Bool} {o : List Int} (h : o.Perm (nums n)) : (sideL f is o).Perm (partL f n is) := by
  have h1 : (sideL f is o).Perm (sideL f is (nums n)) := h.filter _
  have h2 : sideL f is (nums n) = partL f n is := by
    unfold sideL nums partL
    rw [List.filter_map]
    congr 1
  rw [h2] at h1; exact h1
theorem parts_perm (f n : Nat) : (partL f n true ++ partL f n false).Perm (nums n) := by
  unfold partL nums
  rw [← List.map_append]
  apply List.Perm.map
  have := List.filter_append_perm (fun i : Nat => f.testBit i) (List.range n)
  refine (List.Perm.of_eq ?_).trans this
  congr 1
  · apply List.filter_congr; intro i _; simp
  · apply List.filter_congr; intro i _; simp
theorem perm_outP {set n : Nat} {is : Bool} {o : List Int} (h : o.Perm (partL set n is)) : outB 0 ((n : Int) - 1) o = false := by
  rw [outB_all]
  intro i hi
  rw [getD_at _ _ _ hi]
  obtain ⟨j, hj, e⟩ := List.getElem_of_mem (h.mem_iff.1 (List.getElem_mem hi))
  have := (outB_all _ _ _).1 (partL_out set n is) j hj
  rw [getD_at _ _ _ hj, e] at this
  exact this
theorem perm_lenP {set n : Nat} {is : Bool} {o : List Int} (h : o.Perm (partL set n is)) : o.length ≤ n := by rw [h.length_eq]; exact partL_len _ _ _
theorem partL_full (n : Nat) : partL (2 ^ n - 1) n true = nums n ∧ partL (2 ^ n - 1) n false = [] := by
  have hb : ∀ i, i < n → (2 ^ n - 1).testBit i = true := fun i h => by rw [Nat.testBit_two_pow_sub_one]; simpa using h
  constructor
  · unfold partL nums
    rw [List.filter_eq_self.2 (fun a ha => by simp [hb a (List.mem_range.1 ha)])]
  · unfold partL
    rw [List.filter_eq_nil_iff.2 (fun a ha => by simp [hb a (List.mem_range.1 ha)])]
    rfl
theorem open_ok2 {s : Shp} {a b : Int} {l : List Bat} (hc : (chk s).2.2 = 0) (hb : batsErr s l = 0) (h0 : 0 ≤ a) (h1 : a < s.cols.length) (g0 : 0 ≤ b) (g1 : b < s.cols.length) (h7 : l.length ≤ 7) : openErr s l [a, b] = 0 := by
  unfold openErr
  rw [if_neg (by simpa using hc), if_neg (by rw [(outB_two _ _ _ _).2 ⟨⟨by omega, by omega⟩, by omega, by omega⟩]; simp), if_neg (by omega)]
  exact hb
/-- What is known of two machines. -/
def TwoLaw (s : Shp) (a b : Int) (l : List Bat) (x y : Int) : Prop :=
  (refTwo s (a, b) l = (([], []), 0, 9) ∧ (x < 0 ∨ y < 0)) ∨
  ∃ (p q : List Int) (m n : Int), refTwo s (a, b) l = ((p, q), m + n, 0) ∧ (p ++ q).Perm (nums l.length) ∧ (outB 0 ((l.length : Int) - 1) p = false ∧ outB 0 ((l.length : Int) - 1) q = false) ∧ (p.length ≤ l.length ∧ q.length ≤ l.length) ∧ lossB s a (putL l p) = m ∧ lossB s b (putL l q) = n ∧ (0 ≤ m ∧ m ≤ 210000) ∧ (0 ≤ n ∧ n ≤ 210000) ∧ (x < 0 ∨ y < 0 ∨ m + n ≤ x + y) ∧ (a = b → (refBest s a l).2.2 = 0 → m + n ≤ (refBest s a l).2.1)
theorem two_law {s : Shp} {a b : Int} {l : List Bat} (hc : (chk s).2.2 = 0) (hb : batsErr s l = 0) (h0 : 0 ≤ a) (h1 : a < s.cols.length) (g0 : 0 ≤ b) (g1 : b < s.cols.length) (h7 : l.length ≤ 7) {o : List Int} (ho : o.Perm (nums l.length)) (f : Nat) :
    TwoLaw s a b l (lossB s a (putL l (sideL f true o))) (lossB s b (putL l (sideL f false o))) := by
  have hop := open_ok2 hc hb h0 h1 g0 g1 h7
  have s1 : (sideL f true o).Perm (partL (f % 2 ^ l.length) l.length true) := by rw [partL_mod]; exact side_perm ho
  have s2 : (sideL f false o).Perm (partL (f % 2 ^ l.length) l.length false) := by rw [partL_mod]; exact side_perm ho
  have hset : f % 2 ^ l.length < 2 ^ l.length := Nat.mod_lt _ (Nat.two_pow_pos _)
  have key : ∀ x y, lossB s a (putL l (sideL f true o)) = x → lossB s b (putL l (sideL f false o)) = y → 0 ≤ x → 0 ≤ y → ∃ q, twoX s a b l (f % 2 ^ l.length) = some q ∧ q.2 ≤ x + y := by
    intro x y hx hy x0 y0
    rcases part_law hc hb h0 h1 h7 (f % 2 ^ l.length) true with ⟨k1, k2⟩ | ⟨p, m, k1, k2, k3, k4, k5, k6⟩
    · have := k2 _ s1; omega
    · rcases part_law hc hb g0 g1 h7 (f % 2 ^ l.length) false with ⟨j1, j2⟩ | ⟨q, n, j1, j2, j3, j4, j5, j6⟩
      · have := j2 _ s2; omega
      · refine ⟨((p, q), m + n), ?_, ?_⟩
        · unfold twoX; rw [k1, j1]
        · rcases k6 _ s1 with e | e
          · omega
          · rcases j6 _ s2 with e' | e'
            · omega
            · show m + n ≤ x + y; omega
  have hne : ¬ ¬ openErr s l [a, b] = 0 := by simpa using hop
  cases hT : twoK s a b l (2 ^ l.length) with
  | none =>
    refine .inl ⟨by unfold refTwo; dsimp only; rw [if_neg hne, hT], ?_⟩
    by_cases hx : lossB s a (putL l (sideL f true o)) < 0
    · exact .inl hx
    · by_cases hy : lossB s b (putL l (sideL f false o)) < 0
      · exact .inr hy
      · obtain ⟨q, hq, _⟩ := key _ _ rfl rfl (by omega) (by omega)
        obtain ⟨p, hp, _⟩ := twoK_le s a b l _ _ hset q hq
        rw [hT] at hp; cases hp
  | some r =>
    obtain ⟨set, hs, hX⟩ := twoK_mem s a b l _ r hT
    rcases part_law hc hb h0 h1 h7 set true with ⟨k1, k2⟩ | ⟨p, m, k1, k2, k3, k4, k5, k6⟩
    · unfold twoX at hX; rw [k1] at hX; cases hX
    · rcases part_law hc hb g0 g1 h7 set false with ⟨j1, j2⟩ | ⟨q, n, j1, j2, j3, j4, j5, j6⟩
      · unfold twoX at hX; rw [k1, j1] at hX; cases hX
      · unfold twoX at hX; rw [k1, j1] at hX
        simp only [Option.some.injEq] at hX
        subst hX
        refine .inr ⟨p, q, m, n, by unfold refTwo; dsimp only; rw [if_neg hne, hT], (k2.append j2).trans (parts_perm set _), ⟨perm_outP k2, perm_outP j2⟩, ⟨perm_lenP k2, perm_lenP j2⟩, k3, j3, ⟨k4, k5⟩, ⟨j4, j5⟩, ?_, ?_⟩
        · by_cases hx : lossB s a (putL l (sideL f true o)) < 0
          · exact .inl hx
          · by_cases hy : lossB s b (putL l (sideL f false o)) < 0
            · exact .inr (.inl hy)
            · obtain ⟨z, hz, hle⟩ := key _ _ rfl rfl (by omega) (by omega)
              obtain ⟨w, hw, hle'⟩ := twoK_le s a b l _ _ hset z hz
              rw [hT] at hw; cases hw
              exact .inr (.inr (by show m + n ≤ _; exact Int.le_trans hle' hle))
        · intro hab hbe
          subst hab
          rcases best_law hc hb h0 h1 h7 with ⟨e1, _⟩ | ⟨p', m', e1, e2, e3, e4, e5, e6⟩
          · rw [e1] at hbe; cases hbe
          · rw [e1]
            show m + n ≤ m'
            obtain ⟨f1, f2⟩ := partL_full l.length
            have hfull : 2 ^ l.length - 1 < 2 ^ l.length := by have := Nat.two_pow_pos l.length; omega
            have hnil : lossB s a (putL l []) = 0 := rfl
            rcases part_law hc hb h0 h1 h7 (2 ^ l.length - 1) true with ⟨t1, t2⟩ | ⟨p2, m2, t1, t2, t3, t4, t5, t6⟩
            · have := t2 p' (by rw [f1]; exact e2); omega
            · rcases part_law hc hb h0 h1 h7 (2 ^ l.length - 1) false with ⟨u1, u2⟩ | ⟨q2, n2, u1, u2, u3, u4, u5, u6⟩
              · have := u2 [] (by rw [f2]); omega
              · have hz : twoX s a a l (2 ^ l.length - 1) = some ((p2, q2), m2 + n2) := by unfold twoX; rw [t1, u1]
                obtain ⟨w, hw, hle'⟩ := twoK_le s a a l _ _ hfull _ hz
                rw [hT] at hw; cases hw
                have hle'' : m + n ≤ m2 + n2 := hle'
                have a1 := t6 p' (by rw [f1]; exact e2)
                have a2 := u6 [] (by rw [f2])
                omega
end Go.Proofs.Ytpkjmnfgpbliaaa
