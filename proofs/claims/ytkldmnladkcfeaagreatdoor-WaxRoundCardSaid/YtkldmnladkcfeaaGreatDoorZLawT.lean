/-
  Plain laws of the rows that do not compare: mixtures, sets, parts. No walk here. Conditions: none.
-/
import Derived.Test.YtkldmnladkcfeaaGreatDoorZAwake
namespace Go.Proofs.YtkldmnladkcfeaaGreatDoor
open Go.RowKit
set_option linter.unusedSimpArgs false
set_option linter.unusedVariables false
theorem has_pair (a b k : Nat) : hasB (pairM a b) k = (decide (a = k) || decide (b = k)) := by
  have h : hasB (pairM a b) k = Nat.testBit (2 ^ a ||| 2 ^ b) k := by
    unfold hasB pairM
    rw [bitV_nat, Nat.testBit_eq_decide_div_mod_eq]
    have e : ((2 ^ a ||| 2 ^ b : Nat) : Int) / ((2 ^ k : Nat) : Int) % 2 = (((2 ^ a ||| 2 ^ b) / 2 ^ k % 2 : Nat) : Int) := by
      rw [Int.natCast_emod, Int.natCast_ediv]; rfl
    rw [e]
    rcases Nat.mod_two_eq_zero_or_one ((2 ^ a ||| 2 ^ b) / 2 ^ k) with q | q
    · rw [q]; rfl
    · rw [q]; rfl
  rw [h, Nat.testBit_or, Nat.testBit_two_pow, Nat.testBit_two_pow]
theorem all_iff {x : Tbl} {l : List Int} (h8 : x.kinds.length ≤ 8) (s : Int) : s ∈ allR x l ↔ ∃ a b, a < x.kinds.length ∧ b ≤ a ∧ okP x l a b ∧ s = pairM a b := by
  rw [← all_eq h8, sets_iff h8]
theorem all_pair {x : Tbl} {l : List Int} (h8 : x.kinds.length ≤ 8) : (allR x l).Pairwise (· < ·) := by
  rw [← all_eq h8]; exact sets_pair _
structure MixOk (x : Tbl) (l : List Int) (a b : Nat) (n : Int) : Prop where
  ha : a < x.kinds.length
  hb : b < x.kinds.length
  n1 : 1 ≤ n
  n2 : n ≤ 1000
  he : a = b → n = 1000
  ex : explB x l a b n = true
def setV (a b : Nat) (n : Int) : Int := if n < 1000 then bitV a + bitV b else bitV a
theorem mix_set {x : Tbl} {l : List Int} {a b : Nat} {n : Int} (h8 : x.kinds.length ≤ 8) (m : MixOk x l a b n) : setV a b n ∈ allR x l ∧ ∀ k, hasB (setV a b n) k = true ↔ (k = a ∨ (n < 1000 ∧ k = b)) := by
  obtain ⟨ha, hb, n1, n2, he, ex⟩ := m
  have key : ∃ c d, c < x.kinds.length ∧ d ≤ c ∧ okP x l c d ∧ setV a b n = pairM c d ∧ ∀ k, (c = k ∨ d = k) ↔ (k = a ∨ (n < 1000 ∧ k = b)) := by
    by_cases hn : n < 1000
    · unfold setV
      rw [if_pos hn]
      rcases Nat.lt_trichotomy a b with q | q | q
      · refine ⟨b, a, hb, by omega, okP_iff.2 ⟨1000 - n, ?_, by rw [expl_swap]; exact ex⟩, by rw [Int.add_comm]; exact pairM_lt (by omega) q, fun k => by omega⟩
        unfold loV hiV
        rw [if_neg (by omega), if_neg (by omega)]; omega
      · have := he q; omega
      · refine ⟨a, b, ha, by omega, okP_iff.2 ⟨n, ?_, ex⟩, pairM_lt (by omega) q, fun k => by omega⟩
        unfold loV hiV
        rw [if_neg (by omega), if_neg (by omega)]; omega
    · unfold setV
      rw [if_neg hn]
      obtain rfl : n = 1000 := by omega
      refine ⟨a, a, ha, by omega, okP_iff.2 ⟨1000, ?_, by rw [← expl_pure (b := b)]; exact ex⟩, pairM_one a, fun k => by omega⟩
      unfold loV hiV
      rw [if_pos rfl, if_pos rfl]; omega
  obtain ⟨c, d, hc, hd, hok, e, hk⟩ := key
  refine ⟨(all_iff h8 _).2 ⟨c, d, hc, hd, hok, e⟩, fun k => ?_⟩
  rw [e, has_pair, Bool.or_eq_true, decide_eq_true_eq, decide_eq_true_eq]
  exact hk k
theorem two_zero {x : Tbl} {e : Int} {a b : Nat} (h0 : e = 0) (ha : a < x.kinds.length) (hb : b < x.kinds.length) (hab : a ≠ b) : twoE x e a b = 0 := by
  unfold twoE
  rw [if_neg (by omega), inR_iff.2 (by omega), inR_iff.2 (by omega), if_neg (by simp), if_neg (by omega)]
theorem one_zero {x : Tbl} {e : Int} {a : Nat} (h0 : e = 0) (ha : a < x.kinds.length) : oneE x e a = 0 := by
  unfold oneE
  rw [if_neg (by omega), inR_iff.2 (by omega), if_neg (by simp)]
theorem mix_cases {x : Tbl} {l : List Int} (hR : okR x l) {a b : Nat} (ha : a < x.kinds.length) (hb : b < x.kinds.length) (hab : a ≠ b) : (mixR x l a b = (⟨0, 0⟩, 9) ∧ ∀ n, 0 ≤ n → n ≤ 1000 → ¬ explB x l a b n = true) ∨ ∃ s : Spn, mixR x l a b = (s, 0) ∧ (0 ≤ s.lo ∧ s.lo ≤ s.hi ∧ s.hi ≤ 1000) ∧ ∀ n, (s.lo ≤ n ∧ n ≤ s.hi) ↔ (0 ≤ n ∧ n ≤ 1000) ∧ explB x l a b n = true := by
  have h0 := two_zero hR ha hb hab
  have hm : mixR x l a b = if (partsR x l a b 0 1000).2 then ((partsR x l a b 0 1000).1, 0) else (⟨0, 0⟩, 9) := by
    unfold mixR
    rw [if_neg (by simp [h0])]
    simp only [Int.toNat_natCast]
  rw [hm]
  rcases parts_eq x l a b 0 1000 with ⟨h1, h2, h3⟩ | ⟨h1, h2⟩
  · refine .inr ⟨ptsV x l a b 0 1000, by rw [h1, if_pos rfl, h2], ?_, fun n => ptsV_iff⟩
    have q1 := (ptsV_iff (x := x) (l := l) (a := a) (b := b) (lo := 0) (hi := 1000)).1 ⟨Int.le_refl _, h3⟩
    have q2 := (ptsV_iff (x := x) (l := l) (a := a) (b := b) (lo := 0) (hi := 1000)).1 ⟨h3, Int.le_refl _⟩
    omega
  · refine .inl ⟨by rw [h1]; rfl, fun n n0 n1 q => ?_⟩
    have := ptsV_iff.2 ⟨⟨n0, n1⟩, q⟩
    unfold inS at this
    omega
theorem mix_mixed {x : Tbl} {l : List Int} {a b : Nat} {n : Int} (hR : okR x l) (m : MixOk x l a b n) (hab : a ≠ b) : ∃ s : Spn, mixR x l a b = (s, 0) ∧ s.lo ≤ n ∧ n ≤ s.hi := by
  have n1 := m.n1
  have n2 := m.n2
  rcases mix_cases hR m.ha m.hb hab with ⟨h1, h2⟩ | ⟨s, h1, _, h3⟩
  · exact absurd m.ex (h2 n (by omega) n2)
  · exact ⟨s, h1, (h3 n).2 ⟨⟨by omega, n2⟩, m.ex⟩⟩
theorem sold_hull (x : Tbl) (l : List Int) (kind : Int) : HullOf (SP x l kind) (soldA x l kind x.kinds.length) := hull_iff (soldA_hull x l kind x.kinds.length) fun v => (same_parts x l kind v).symm
theorem part_bd {x : Tbl} {l : List Int} {kind v : Int} (h : SP x l kind v) : 0 ≤ v ∧ v ≤ 1000 := by
  obtain ⟨a, b, n, _, _, hn, _, rfl⟩ := h
  obtain ⟨q1, q2, q3, q4⟩ := lohi_bd a b
  unfold partOf
  split
  · omega
  · split <;> omega
theorem sold_cases {x : Tbl} {l : List Int} (hR : okR x l) {k : Nat} (hk : k < x.kinds.length) : (soldR x l k = (⟨0, 0⟩, 0, 9) ∧ ∀ v, ¬ SP x l k v) ∨ ∃ (s : Spn) (v : Int), soldR x l k = (s, v, 0) ∧ (0 ≤ s.lo ∧ s.lo ≤ s.hi ∧ s.hi ≤ 1000) ∧ SP x l k s.lo ∧ SP x l k s.hi ∧ (∀ v, SP x l k v → s.lo ≤ v ∧ v ≤ s.hi) ∧ (v = 1 ∧ x.purity ≤ s.lo ∨ v = 0 ∧ s.hi < x.purity ∨ v = 2) := by
  have h0 := one_zero hR hk
  have hm : soldR x l k = verdV x (soldA x l k x.kinds.length) := by
    unfold soldR
    rw [if_neg (by simp [h0])]
  rw [hm]
  obtain ⟨h1, h2⟩ := sold_hull x l k
  generalize soldA x l k x.kinds.length = o at *
  rcases h2 with ⟨rfl, h3⟩ | ⟨h3, h4⟩
  · exact .inl ⟨rfl, h3⟩
  · have b1 := part_bd h3
    have b2 := part_bd h4
    have b3 := h1 _ h4
    right
    unfold verdV
    rw [if_neg (by omega)]
    split
    · exact ⟨o, 1, rfl, by omega, h3, h4, h1, .inl ⟨rfl, by assumption⟩⟩
    · split
      · exact ⟨o, 0, rfl, by omega, h3, h4, h1, .inr (.inl ⟨rfl, by assumption⟩)⟩
      · exact ⟨o, 2, rfl, by omega, h3, h4, h1, .inr (.inr rfl)⟩
theorem mix_part {x : Tbl} {l : List Int} {a b : Nat} {n : Int} (m : MixOk x l a b n) (k : Nat) : SP x l k (partOf k a b n) := by
  obtain ⟨ha, hb, n1, n2, he, ex⟩ := m
  by_cases hn : n < 1000
  · rcases Nat.lt_trichotomy a b with q | q | q
    · refine ⟨b, a, 1000 - n, hb, by omega, ?_, by rw [expl_swap]; exact ex, ?_⟩
      · unfold loV hiV
        rw [if_neg (by omega), if_neg (by omega)]; omega
      · unfold partOf
        by_cases c : (k : Int) = a
        · rw [if_pos c, if_neg (by omega), if_pos c]; omega
        · rw [if_neg c, if_neg c]
    · have := he q; omega
    · refine ⟨a, b, n, ha, by omega, ?_, ex, rfl⟩
      unfold loV hiV
      rw [if_neg (by omega), if_neg (by omega)]; omega
  · obtain rfl : n = 1000 := by omega
    refine ⟨a, a, 1000, ha, by omega, ?_, by rw [← expl_pure (b := b)]; exact ex, ?_⟩
    · unfold loV hiV
      rw [if_pos rfl, if_pos rfl]; omega
    · unfold partOf
      by_cases c : (k : Int) = a
      · rw [if_pos c, if_pos c]
      · rw [if_neg c, if_neg c, if_neg c]; split <;> rfl
theorem mix_sold {x : Tbl} {l : List Int} {a b : Nat} {n : Int} (hR : okR x l) (m : MixOk x l a b n) {k : Nat} (hk : k < x.kinds.length) : ∃ (s : Spn) (v : Int), soldR x l k = (s, v, 0) ∧ (s.lo ≤ partOf k a b n ∧ partOf k a b n ≤ s.hi) ∧ (partOf k a b n < x.purity → ¬ v = 1) ∧ (x.purity ≤ partOf k a b n → ¬ v = 0) := by
  have hp := mix_part m k
  rcases sold_cases hR hk with ⟨_, h⟩ | ⟨s, v, h1, _, _, _, h2, h3⟩
  · exact absurd hp (h _)
  · have := h2 _ hp
    exact ⟨s, v, h1, this, by omega, by omega⟩
theorem where_mem {q : Nat → Bool} {n : Int} : ∀ {k : Nat}, n ∈ whereK q k ↔ ∃ i : Nat, i < k ∧ q i = true ∧ n = i
  | 0 => by simp
  | k + 1 => by
    rw [whereK, List.mem_append, where_mem (k := k)]
    constructor
    · rintro (⟨i, h1, h2, rfl⟩ | h)
      · exact ⟨i, by omega, h2, rfl⟩
      · split at h
        · rename_i hq
          rw [List.mem_singleton] at h
          exact ⟨k, by omega, hq, h⟩
        · cases h
    · rintro ⟨i, h1, h2, rfl⟩
      by_cases e : i = k
      · subst e; rw [if_pos h2]; exact .inr (by simp)
      · exact .inl ⟨i, by omega, h2, rfl⟩
theorem inB_iff {l : List Int} {n : Int} : inB l n = true ↔ n ∈ l := by
  unfold inB
  rw [List.any_eq_true]
  constructor
  · rintro ⟨a, h1, h2⟩
    obtain rfl : a = n := by simpa using h2
    exact h1
  · exact fun h => ⟨n, h, by simp⟩
theorem mix_within {x : Tbl} {l : List Int} {a b : Nat} {n : Int} (hR : okR x l) (m : MixOk x l a b n) : ∃ must may : List Int, withR x l = (must, may, 0) ∧ inB may a = true ∧ (n < 1000 → inB may b = true) ∧ ∀ i, i ∈ must → (i = a ∨ (n < 1000 ∧ i = b)) ∧ inB may i = true := by
  have h8 := (fine_of (okR_of hR).1).k8
  obtain ⟨h1, h2⟩ := mix_set h8 m
  have hR0 : readE x l = 0 := hR
  have hne : ¬ (allR x l).length = 0 := fun q => by rw [List.length_eq_zero_iff.1 q] at h1; cases h1
  have may : ∀ k : Nat, k < x.kinds.length → hasB (setV a b n) k = true → (k : Int) ∈ whereK (mayAt (allR x l)) x.kinds.length := fun k hk h => where_mem.2 ⟨k, hk, List.any_eq_true.2 ⟨_, h1, h⟩, rfl⟩
  refine ⟨_, _, by unfold withR; rw [if_neg (by simp [hR0]), if_neg hne], inB_iff.2 (may a m.ha ((h2 a).2 (.inl rfl))), fun h => inB_iff.2 (may b m.hb ((h2 b).2 (.inr ⟨h, rfl⟩))), fun i hi => ?_⟩
  obtain ⟨k, hk, hq, rfl⟩ := where_mem.1 hi
  have hs : hasB (setV a b n) k = true := List.all_eq_true.1 hq _ h1
  refine ⟨?_, inB_iff.2 (may k hk hs)⟩
  rcases (h2 k).1 hs with rfl | ⟨h, rfl⟩
  · exact .inl rfl
  · exact .inr ⟨h, rfl⟩
def aloneAt (x : Tbl) (l : List Int) (k p : Nat) : Bool := l.getD p 0 == -1 || (decide ((rngV x k p).lo - errV x p ≤ l.getD p 0) && decide (l.getD p 0 ≤ (rngV x k p).hi + errV x p))
theorem alone_at (x : Tbl) (l : List Int) (k p : Nat) : explAt x k k 1000 p (l.getD p 0) = aloneAt x l k p := by
  have e1 : (valV x p k k 1000).lo = 1000 * (rngV x k p).lo := by unfold valV; simp
  have e2 : (valV x p k k 1000).hi = 1000 * (rngV x k p).hi := by unfold valV; simp
  rw [Bool.eq_iff_iff, expl_at, e1, e2]
  unfold aloneAt
  simp only [Bool.or_eq_true, Bool.and_eq_true, beq_iff_eq, decide_eq_true_eq]
  omega
def aloneB (x : Tbl) (l : List Int) (k : Nat) : Bool := (List.range l.length).all fun p => aloneAt x l k p
theorem alone_in {x : Tbl} {l : List Int} (hR : okR x l) {k : Nat} (hk : k < x.kinds.length) : inB (allR x l) (bitV k) = aloneB x l k := by
  have h8 := (fine_of (okR_of hR).1).k8
  have e : aloneB x l k = explB x l k k 1000 := by
    unfold aloneB explB
    congr 1
    funext p
    exact (alone_at x l k p).symm
  rw [e, Bool.eq_iff_iff, inB_iff, all_iff h8, okP_one]
  constructor
  · rintro ⟨a, b, ha, hb, hok, q⟩
    rw [pairM_one] at q
    obtain ⟨rfl, rfl⟩ := pairM_inj (Nat.le_refl k) hb q
    exact hok
  · exact fun h => ⟨k, k, hk, Nat.le_refl _, h, pairM_one k⟩
theorem det_cases {x : Tbl} (hT : okT x) {a b : Nat} (ha : a < x.kinds.length) (hb : b < x.kinds.length) (hab : a ≠ b) : (detR x a b = (0, 9) ∧ ∀ n : Int, 1 ≤ n → n ≤ 1000 → toldB x a b n = false) ∨ ∃ d : Int, detR x a b = (d, 0) ∧ (1 ≤ d ∧ d ≤ 1000) ∧ ∀ n : Int, 1 ≤ n → n ≤ 1000 → (toldB x a b n = decide (d ≤ n)) := by
  have f := fine_of hT
  have h0 := two_zero (e := (chk x).2.2) hT ha hb hab
  have key : ∀ n : Int, 0 ≤ n → n ≤ 1000 → (detK x a b x.props.length ≤ n ↔ toldB x a b n = true) := fun n h0 h1 => by
    rw [det_iff f ha h0 _ (Nat.le_refl _)]
    unfold toldB
    rw [List.any_eq_true]
    constructor
    · rintro (h | ⟨p, hp, h⟩)
      · omega
      · exact ⟨p, List.mem_range.2 hp, h⟩
    · rintro ⟨p, hp, h⟩
      exact .inr ⟨p, List.mem_range.1 hp, h⟩
  rcases firstN_spec (toldB x a b) 1000 with ⟨e1, e2⟩ | ⟨i, hi, e1, e2, e3⟩
  · refine .inl ⟨by unfold detR; rw [if_neg (by simp [h0])]; simp only [Int.toNat_natCast]; rw [e1], fun n n0 n1 => ?_⟩
    have := e2 (n - 1).toNat (by omega)
    rwa [show (((n - 1).toNat : Nat) : Int) + 1 = n by omega] at this
  · refine .inr ⟨(i : Int) + 1, by unfold detR; rw [if_neg (by simp [h0])]; simp only [Int.toNat_natCast]; rw [e1], by omega, fun n n0 n1 => ?_⟩
    have k1 := (key ((i : Int) + 1) (by omega) (by omega)).2 e2
    by_cases h : (i : Int) + 1 ≤ n
    · rw [decide_eq_true h]
      exact (key n (by omega) n1).1 (by omega)
    · rw [decide_eq_false h]
      have := e3 (n - 1).toNat (by omega)
      rwa [show (((n - 1).toNat : Nat) : Int) + 1 = n by omega] at this
def commAt (x : Tbl) (pu ot : Nat) (n : Int) (p : Nat) : Bool :=
  decide (max ((valV x p ot pu n).lo - 1000 * errV x p) (1000 * (rngV x pu p).lo - 1000 * errV x p) ≤ min ((valV x p ot pu n).hi + 1000 * errV x p) (1000 * (rngV x pu p).hi + 1000 * errV x p))
theorem comm_at {x : Tbl} (f : Fine x) {pu ot p : Nat} {n : Int} (hu : pu < x.kinds.length) (ho : ot < x.kinds.length) (hp : p < x.props.length) (hn : ptOk n) : commAt x pu ot n p = !toldAt x pu ot n p := by
  obtain ⟨_, _, a1, a2, a3⟩ := f.rng hu hp
  obtain ⟨_, _, b1, b2, b3⟩ := f.rng ho hp
  have he := f.errv hp
  have hv : (valV x p ot pu n).lo ≤ (valV x p ot pu n).hi := by
    have q1 : n * (rngV x ot p).lo ≤ n * (rngV x ot p).hi := Int.mul_le_mul_of_nonneg_left b2 hn.1
    have q2 : (1000 - n) * (rngV x pu p).lo ≤ (1000 - n) * (rngV x pu p).hi := Int.mul_le_mul_of_nonneg_left a2 (by have := hn.2; omega)
    unfold valV
    simp only
    omega
  unfold commAt toldAt
  generalize valV x p ot pu n = v at *
  rw [Bool.eq_iff_iff]
  simp only [Bool.not_eq_true', Bool.or_eq_false_iff, decide_eq_true_eq, decide_eq_false_iff_not]
  omega
def commB (x : Tbl) (pu ot : Nat) (n : Int) : Bool := (List.range x.props.length).all fun p => commAt x pu ot n p
theorem comm_eq {x : Tbl} (f : Fine x) {pu ot : Nat} {n : Int} (hu : pu < x.kinds.length) (ho : ot < x.kinds.length) (hn : ptOk n) : commB x pu ot n = !toldB x pu ot n := by
  unfold commB toldB
  rw [List.not_any_eq_all_not]
  rw [Bool.eq_iff_iff, List.all_eq_true, List.all_eq_true]
  constructor
  · intro h p hp
    rw [← comm_at f hu ho (List.mem_range.1 hp) hn]; exact h p hp
  · intro h p hp
    rw [comm_at f hu ho (List.mem_range.1 hp) hn]; exact h p hp
theorem text_le {x : Tbl} (h : okT x) : (textV x).size ≤ 2000 := by
  have f := fine_of h
  have h1 := textK_size f x.kinds.length (Nat.le_refl _)
  have h2 := f.k8
  unfold textV
  omega
theorem read_text {x : Tbl} (h : okT x) : readR (textV x) = (x, 0) := by
  unfold readR
  rw [if_neg (by have := text_le h; omega), parse_R h, if_pos ⟨h, rfl⟩]
theorem read_cases (s : ByteArray) : ((readR s).1 = noT ∧ ¬ (readR s).2 = 0) ∨ ((readR s).2 = 0 ∧ writeR (readR s).1 = (s, 0)) := by
  unfold readR
  split
  · exact .inl ⟨rfl, by simp⟩
  · split
    · rename_i h
      refine .inr ⟨rfl, ?_⟩
      have : textV (parsedR s) = s := by
        have := h.2
        rw [ByteArray.toList_eq, ByteArray.toList_eq] at this
        exact ba_ext this
      unfold writeR
      rw [if_pos h.1, this]
    · exact .inl ⟨rfl, by simp⟩
end Go.Proofs.YtkldmnladkcfeaaGreatDoor
namespace Go.Proofs.YtkldmnladkcfeaaGreatDoor
open Go.RowKit
set_option linter.unusedSimpArgs false
set_option linter.unusedVariables false
structure Mlt where
  a : Int
  b : Int
  parts : Int
  numbers : List Int
  errors : List Int
  read : Int
def byteOk (n : Int) : Prop := 0 ≤ n ∧ n ≤ 255
instance (n : Int) : Decidable (byteOk n) := inferInstanceAs (Decidable (_ ∧ _))
def mltOk (m : Mlt) : Prop := byteOk m.a ∧ byteOk m.b ∧ (0 ≤ m.parts ∧ m.parts ≤ 65535) ∧ wordOk m.numbers ∧ wordOk m.errors ∧ byteOk m.read
instance (m : Mlt) : Decidable (mltOk m) := inferInstanceAs (Decidable (_ ∧ _))
def mltA (x : Tbl) (m : Mlt) : Nat := m.a.toNat % x.kinds.length
def mltB (x : Tbl) (m : Mlt) : Nat := m.b.toNat % x.kinds.length
def mltN (x : Tbl) (m : Mlt) : Int := if mltA x m = mltB x m then 1000 else 1 + m.parts % 1000
def mltV (x : Tbl) (m : Mlt) (p : Nat) : Int := mltN x m * amongV (rngV x (mltA x m) p) (turnV m.numbers (2 * p)) + (1000 - mltN x m) * amongV (rngV x (mltB x m) p) (turnV m.numbers (2 * p + 1))
def lowV (v e : Int) : Int := if v < 1000 * e then 0 else (v - 1000 * e + 999) / 1000
def highV (v e : Int) : Int := min 100000 ((v + 1000 * e) / 1000)
def gotV (v e t : Int) : Int := if e = 0 then (if 0 < v % 1000 then -1 else v / 1000) else amongV ⟨lowV v e, highV v e⟩ t
def bitAt (n : Int) (p : Nat) : Int := n / 2 ^ p % 2
def mltR (x : Tbl) (m : Mlt) (p : Nat) : Int := if bitAt m.read p = 1 then -1 else gotV (mltV x m p) (errV x p) (turnV m.errors p)
def mltK (x : Tbl) (m : Mlt) (k : Nat) : List Int := (List.range k).map (mltR x m)
theorem mltK_len (x : Tbl) (m : Mlt) (k : Nat) : (mltK x m k).length = k := by simp [mltK]
@[simp] theorem mltK_zero (x : Tbl) (m : Mlt) : mltK x m 0 = [] := rfl
theorem mltK_succ (x : Tbl) (m : Mlt) (k : Nat) : mltK x m (k + 1) = mltK x m k ++ [mltR x m k] := by simp [mltK, List.range_succ]
theorem low_high {v e : Int} (v0 : 0 ≤ v) (v1 : v ≤ 100000000) (e0 : 1 ≤ e) (e1 : e ≤ 10000) : 0 ≤ lowV v e ∧ lowV v e ≤ highV v e ∧ highV v e ≤ 100000 ∧ v ≤ 1000 * (lowV v e + e) ∧ 1000 * (highV v e - e) ≤ v := by
  unfold lowV highV
  split <;> omega
theorem got_ok {v e t : Int} (v0 : 0 ≤ v) (v1 : v ≤ 100000000) (e0 : 0 ≤ e) (e1 : e ≤ 10000) : gotV v e t = -1 ∨ ((0 ≤ gotV v e t ∧ gotV v e t ≤ 100000) ∧ v ≤ 1000 * (gotV v e t + e) ∧ 1000 * (gotV v e t - e) ≤ v) := by
  unfold gotV
  by_cases h : e = 0
  · rw [if_pos h]
    split
    · exact .inl rfl
    · right; omega
  · rw [if_neg h]
    obtain ⟨h1, h2, h3, h4, h5⟩ := low_high v0 v1 (show 1 ≤ e by omega) e1
    have := among_bd (s := ⟨lowV v e, highV v e⟩) (n := t) h2
    simp only at this
    right; omega
theorem mlt_a {x : Tbl} (f : Fine x) (m : Mlt) : mltA x m < x.kinds.length := Nat.mod_lt _ f.k1
theorem mlt_b {x : Tbl} (f : Fine x) (m : Mlt) : mltB x m < x.kinds.length := Nat.mod_lt _ f.k1
theorem mlt_n (x : Tbl) {m : Mlt} (h : mltOk m) : 1 ≤ mltN x m ∧ mltN x m ≤ 1000 := by
  obtain ⟨_, _, h1, _⟩ := h
  unfold mltN
  split <;> omega
theorem mlt_v {x : Tbl} (f : Fine x) {m : Mlt} (h : mltOk m) {p : Nat} (hp : p < x.props.length) : ((valV x p (mltA x m) (mltB x m) (mltN x m)).lo ≤ mltV x m p ∧ mltV x m p ≤ (valV x p (mltA x m) (mltB x m) (mltN x m)).hi) ∧ 0 ≤ mltV x m p ∧ mltV x m p ≤ 100000000 := by
  have ha := mlt_a f m
  have hb := mlt_b f m
  obtain ⟨n1, n2⟩ := mlt_n x h
  obtain ⟨_, _, a1, a2, a3⟩ := f.rng ha hp
  obtain ⟨_, _, b1, b2, b3⟩ := f.rng hb hp
  have qa := among_bd (n := turnV m.numbers (2 * p)) a2
  have qb := among_bd (n := turnV m.numbers (2 * p + 1)) b2
  unfold mltV valV
  simp only
  generalize amongV (rngV x (mltA x m) p) (turnV m.numbers (2 * p)) = u at *
  generalize amongV (rngV x (mltB x m) p) (turnV m.numbers (2 * p + 1)) = w at *
  generalize mltN x m = n at *
  have l1 := Int.mul_le_mul_of_nonneg_left qa.1 (show 0 ≤ n by omega)
  have l2 := Int.mul_le_mul_of_nonneg_left qa.2 (show 0 ≤ n by omega)
  have l3 := Int.mul_le_mul_of_nonneg_left qb.1 (show 0 ≤ 1000 - n by omega)
  have l4 := Int.mul_le_mul_of_nonneg_left qb.2 (show 0 ≤ 1000 - n by omega)
  have l5 := Int.mul_nonneg (show 0 ≤ n by omega) (show 0 ≤ u by omega)
  have l6 := Int.mul_nonneg (show 0 ≤ 1000 - n by omega) (show 0 ≤ w by omega)
  have l7 := Int.mul_le_mul_of_nonneg_left (show u ≤ 100000 by omega) (show 0 ≤ n by omega)
  have l8 := Int.mul_le_mul_of_nonneg_left (show w ≤ 100000 by omega) (show 0 ≤ 1000 - n by omega)
  omega
theorem mltR_ok {x : Tbl} (f : Fine x) {m : Mlt} (h : mltOk m) {p : Nat} (hp : p < x.props.length) : (mltR x m p = -1 ∨ (0 ≤ mltR x m p ∧ mltR x m p ≤ 100000)) ∧ explAt x (mltA x m) (mltB x m) (mltN x m) p (mltR x m p) = true := by
  obtain ⟨⟨h1, h2⟩, h3, h4⟩ := mlt_v f h hp
  have he := f.errv hp
  rw [expl_at]
  unfold mltR
  split
  · exact ⟨.inl rfl, .inl rfl⟩
  · rcases got_ok (t := turnV m.errors p) h3 h4 he.1 he.2 with q | ⟨q1, q2, q3⟩
    · rw [q]; exact ⟨.inl rfl, .inl rfl⟩
    · exact ⟨.inr q1, .inr (by omega)⟩
theorem mlt_ok {x : Tbl} (hT : okT x) {m : Mlt} (h : mltOk m) : okR x (mltK x m x.props.length) ∧ MixOk x (mltK x m x.props.length) (mltA x m) (mltB x m) (mltN x m) := by
  have f := fine_of hT
  have hl := mltK_len x m x.props.length
  have hg : ∀ p (hp : p < (mltK x m x.props.length).length), (mltK x m x.props.length)[p] = mltR x m p := fun p hp => by simp [mltK]
  refine ⟨okR_mk hT hl fun p hp => ?_, mlt_a f m, mlt_b f m, (mlt_n x h).1, (mlt_n x h).2, fun e => ?_, explB_iff.2 fun p hp => ?_⟩
  · rw [hg]; exact (mltR_ok f h (by omega)).1
  · unfold mltN; rw [if_pos e]
  · rw [getD_at _ _ _ hp, hg]; exact (mltR_ok f h (by omega)).2
end Go.Proofs.YtkldmnladkcfeaaGreatDoor
namespace Go.Proofs.YtkldmnladkcfeaaGreatDoor
open Go.RowKit
set_option linter.unusedSimpArgs false
set_option linter.unusedVariables false
theorem all_mix {x : Tbl} {l : List Int} (h8 : x.kinds.length ≤ 8) (s : Int) : s ∈ allR x l ↔ ∃ a b n, MixOk x l a b n ∧ s = setV a b n := by
  constructor
  · intro h
    obtain ⟨a, b, ha, hb, hok, rfl⟩ := (all_iff h8 s).1 h
    obtain ⟨n, hn, hx⟩ := okP_iff.1 hok
    unfold loV hiV at hn
    by_cases e : a = b
    · subst e
      rw [if_pos rfl, if_pos rfl] at hn
      obtain rfl : n = 1000 := by omega
      exact ⟨a, a, 1000, ⟨ha, ha, by omega, by omega, fun _ => rfl, hx⟩, by unfold setV; rw [if_neg (by omega), pairM_one]⟩
    · rw [if_neg e, if_neg e] at hn
      exact ⟨a, b, n, ⟨ha, by omega, by omega, by omega, fun q => absurd q e, hx⟩, by unfold setV; rw [if_pos (by omega), pairM_lt (by omega) (by omega)]⟩
  · rintro ⟨a, b, n, m, rfl⟩
    exact (mix_set h8 m).1
theorem set_ext {x : Tbl} {l : List Int} {y : Tbl} {r : List Int} (h8 : x.kinds.length ≤ 8) (g8 : y.kinds.length ≤ 8) {s t : Int} (hs : s ∈ allR x l) (ht : t ∈ allR y r) (h : ∀ k, hasB s k = hasB t k) : s = t := by
  obtain ⟨a, b, _, _, _, rfl⟩ := (all_iff h8 s).1 hs
  obtain ⟨c, d, _, _, _, rfl⟩ := (all_iff g8 t).1 ht
  have : (2 ^ a ||| 2 ^ b : Nat) = 2 ^ c ||| 2 ^ d := by
    apply Nat.eq_of_testBit_eq
    intro k
    have := h k
    rw [has_pair, has_pair] at this
    rw [Nat.testBit_or, Nat.testBit_or, Nat.testBit_two_pow, Nat.testBit_two_pow, Nat.testBit_two_pow, Nat.testBit_two_pow]
    exact this
  unfold pairM; rw [this]
structure Finer (x : Tbl) (l : List Int) (y : Tbl) (r : List Int) : Prop where
  k : y.kinds.length = x.kinds.length
  u : y.purity = x.purity
  ex : ∀ (a b : Nat) (n : Int), a < x.kinds.length → b < x.kinds.length → 0 ≤ n → n ≤ 1000 → explB y r a b n = true → explB x l a b n = true
theorem finer_sets {x : Tbl} {l : List Int} {y : Tbl} {r : List Int} (h8 : x.kinds.length ≤ 8) (f : Finer x l y r) {s : Int} (h : s ∈ allR y r) : s ∈ allR x l := by
  obtain ⟨a, b, n, ⟨ha, hb, n1, n2, he, ex⟩, rfl⟩ := (all_mix (by rw [f.k]; exact h8) s).1 h
  rw [f.k] at ha hb
  exact (all_mix h8 _).2 ⟨a, b, n, ⟨ha, hb, n1, n2, he, f.ex a b n ha hb (by omega) n2 ex⟩, rfl⟩
theorem finer_part {x : Tbl} {l : List Int} {y : Tbl} {r : List Int} (f : Finer x l y r) {k v : Int} (h : SP y r k v) : SP x l k v := by
  obtain ⟨a, b, n, ha, hb, hn, ex, rfl⟩ := h
  rw [f.k] at ha
  obtain ⟨q1, q2, q3, q4⟩ := lohi_bd a b
  exact ⟨a, b, n, ha, hb, hn, f.ex a b n ha (by omega) (by omega) (by omega) ex, rfl⟩
theorem finer_sold {x : Tbl} {l : List Int} {y : Tbl} {r : List Int} (hR : okR x l) (gR : okR y r) (f : Finer x l y r) {k : Nat} (hk : k < x.kinds.length) : (soldR y r k).2.2 = 9 ∨ ((soldR y r k).2.2 = 0 ∧ (soldR x l k).2.2 = 0 ∧ (soldR x l k).1.lo ≤ (soldR y r k).1.lo ∧ (soldR y r k).1.hi ≤ (soldR x l k).1.hi) := by
  rcases sold_cases gR (k := k) (by rw [f.k]; exact hk) with ⟨e, _⟩ | ⟨s, v, e, _, h1, h2, _, _⟩
  · exact .inl (by rw [e])
  · right
    rcases sold_cases hR hk with ⟨_, g⟩ | ⟨t, u, e', _, _, _, g, _⟩
    · exact absurd (finer_part f h1) (g _)
    · rw [e, e']
      exact ⟨rfl, rfl, (g _ (finer_part f h1)).1, (g _ (finer_part f h2)).2⟩
theorem sold_err {x : Tbl} {l : List Int} (hR : okR x l) {k : Nat} (hk : k < x.kinds.length) : (soldR x l k).2.2 = 0 ∨ (soldR x l k).2.2 = 9 := by
  rcases sold_cases hR hk with ⟨e, _⟩ | ⟨s, v, e, _⟩
  · rw [e]; exact .inr rfl
  · rw [e]; exact .inl rfl
def moreL (l : List Int) (p : Nat) (v : Int) : List Int := if l.getD p 0 = -1 then l.set p v else l
theorem moreL_len (l : List Int) (p : Nat) (v : Int) : (moreL l p v).length = l.length := by
  unfold moreL; split <;> simp
theorem moreL_at (l : List Int) (p : Nat) (v : Int) (i : Nat) (hi : i < l.length) : (moreL l p v).getD i 0 = l.getD i 0 ∨ (i = p ∧ l.getD i 0 = -1 ∧ (moreL l p v).getD i 0 = v) := by
  unfold moreL
  split
  · rename_i h
    by_cases e : i = p
    · subst e
      refine .inr ⟨rfl, h, ?_⟩
      rw [getD_at _ _ _ (by simpa using hi)]; simp
    · refine .inl ?_
      rw [getD_at _ _ _ (by simpa using hi), getD_at _ _ _ hi, List.getElem_set_ne (by omega)]
  · exact .inl rfl
theorem more_ok {x : Tbl} {l : List Int} (hR : okR x l) {p : Nat} {v : Int} (v0 : 0 ≤ v) (v1 : v ≤ 100000) : okR x (moreL l p v) := by
  obtain ⟨hT, hl, hv⟩ := okR_of hR
  refine okR_mk hT (by rw [moreL_len]; exact hl) fun i hi => ?_
  have hi' : i < l.length := by rw [moreL_len] at hi; exact hi
  rw [← getD_at _ _ 0 hi]
  rcases moreL_at l p v i hi' with h | ⟨_, _, h⟩
  · rw [h, getD_at _ _ _ hi']; exact hv i hi'
  · rw [h]; exact .inr ⟨v0, v1⟩
theorem more_expl {x : Tbl} {l : List Int} {p : Nat} {v : Int} {a b : Nat} {n : Int} (h : explB x (moreL l p v) a b n = true) : explB x l a b n = true := by
  rw [explB_iff] at h ⊢
  intro i hi
  have := h i (by rw [moreL_len]; exact hi)
  rcases moreL_at l p v i hi with q | ⟨_, q, _⟩
  · rwa [q] at this
  · rw [q]; unfold explAt; simp
theorem more_finer (x : Tbl) (l : List Int) (p : Nat) (v : Int) : Finer x l x (moreL l p v) := ⟨rfl, rfl, fun _ _ _ _ _ _ _ h => more_expl h⟩
def finErr (x : Tbl) (w : List Int) (i : Nat) : Int := errV x i - turnV w i % (errV x i + 1)
def finLo (x : Tbl) (w : List Int) (k i : Nat) : Int := amongV (rngV x k i) (turnV w (k + i) / 3)
def finHi (x : Tbl) (w : List Int) (k i : Nat) : Int := amongV ⟨finLo x w k i, (rngV x k i).hi⟩ (turnV w (k + i) / 5)
def finPs (x : Tbl) (w : List Int) (j : Nat) : List Prp := (List.range j).map fun i => ⟨(x.props.getD i default).name, finErr x w i⟩
def finSs (x : Tbl) (w : List Int) (k j : Nat) : List Spn := (List.range j).map fun i => ⟨finLo x w k i, finHi x w k i⟩
def finKs (x : Tbl) (w : List Int) (j : Nat) : List Knd := (List.range j).map fun k => ⟨(x.kinds.getD k default).name, finSs x w k x.props.length⟩
def finT (x : Tbl) (w : List Int) : Tbl := ⟨finPs x w x.props.length, finKs x w x.kinds.length, x.purity⟩
theorem finPs_len (x : Tbl) (w : List Int) (j : Nat) : (finPs x w j).length = j := by simp [finPs]
theorem finKs_len (x : Tbl) (w : List Int) (j : Nat) : (finKs x w j).length = j := by simp [finKs]
theorem finSs_len (x : Tbl) (w : List Int) (k j : Nat) : (finSs x w k j).length = j := by simp [finSs]
theorem finPs_succ (x : Tbl) (w : List Int) (j : Nat) : finPs x w (j + 1) = finPs x w j ++ [⟨(x.props.getD j default).name, finErr x w j⟩] := by simp [finPs, List.range_succ]
theorem finKs_succ (x : Tbl) (w : List Int) (j : Nat) : finKs x w (j + 1) = finKs x w j ++ [⟨(x.kinds.getD j default).name, finSs x w j x.props.length⟩] := by simp [finKs, List.range_succ]
theorem finSs_succ (x : Tbl) (w : List Int) (k j : Nat) : finSs x w k (j + 1) = finSs x w k j ++ [⟨finLo x w k j, finHi x w k j⟩] := by simp [finSs, List.range_succ]
theorem fin_names (x : Tbl) (w : List Int) (i : Nat) : ((finT x w).props.take i).map (·.name) = (x.props.take i).map (·.name) := by
  apply List.ext_getElem
  · simp [finT, finPs]
  · intro j h1 h2
    have : j < x.props.length := by simp at h2; omega
    simp [finT, finPs, List.getD, this]
theorem fin_knames (x : Tbl) (w : List Int) (i : Nat) : ((finT x w).kinds.take i).map (·.name) = (x.kinds.take i).map (·.name) := by
  apply List.ext_getElem
  · simp [finT, finKs]
  · intro j h1 h2
    have : j < x.kinds.length := by simp at h2; omega
    simp [finT, finKs, List.getD, this]
theorem fin_err {x : Tbl} (f : Fine x) {w : List Int} (hw : wordOk w) {i : Nat} (hi : i < x.props.length) : 0 ≤ finErr x w i ∧ finErr x w i ≤ errV x i := by
  have he := f.errv hi
  have ht := turn_bd hw i
  have q1 := Int.emod_nonneg (turnV w i) (show errV x i + 1 ≠ 0 by omega)
  have q2 := Int.emod_lt_of_pos (turnV w i) (show 0 < errV x i + 1 by omega)
  unfold finErr
  omega
theorem fin_rng {x : Tbl} (f : Fine x) (w : List Int) {k i : Nat} (hk : k < x.kinds.length) (hi : i < x.props.length) : (rngV x k i).lo ≤ finLo x w k i ∧ finLo x w k i ≤ finHi x w k i ∧ finHi x w k i ≤ (rngV x k i).hi := by
  obtain ⟨_, _, a1, a2, a3⟩ := f.rng hk hi
  have q1 := among_bd (n := turnV w (k + i) / 3) a2
  have q2 := among_bd (s := ⟨finLo x w k i, (rngV x k i).hi⟩) (n := turnV w (k + i) / 5) q1.2
  exact ⟨q1.1, q2.1, q2.2⟩
theorem okT_mk {y : Tbl} (p1 : 1 ≤ y.props.length) (p5 : y.props.length ≤ 5) (k1 : 1 ≤ y.kinds.length) (k8 : y.kinds.length ≤ 8) (u1 : 1 ≤ y.purity) (u2 : y.purity ≤ 1000) (pr : ∀ p (h : p < y.props.length), prpE y p y.props[p] = 0) (kn : ∀ k (h : k < y.kinds.length), kndE y k y.kinds[k] = 0) : okT y := by
  unfold okT chk
  rw [inR_iff.2 (by omega), inR_iff.2 (by omega), inR_iff.2 ⟨u1, u2⟩, if_neg (by simp), if_neg (by simp)]
  have e1 : (findI (prpE y) 0 y.props).2 = 0 := by
    rcases findI_cases (prpE y) y.props with ⟨e, _⟩ | ⟨k, hk, e, hbad, _⟩
    · rw [e]
    · exact absurd (pr k hk) hbad
  have e2 : (findI (kndE y) 0 y.kinds).2 = 0 := by
    rcases findI_cases (kndE y) y.kinds with ⟨e, _⟩ | ⟨k, hk, e, hbad, _⟩
    · rw [e]
    · exact absurd (kn k hk) hbad
  rw [if_neg (by simp [e1]), if_neg (by simp [e2])]
theorem prpE_mk {y : Tbl} {i : Nat} {p : Prp} (h1 : namedE p.name ((y.props.take i).map (·.name)) = 0) (h2 : 0 ≤ p.err ∧ p.err ≤ 10000) : prpE y i p = 0 := by
  unfold prpE
  rw [if_pos h1, inR_iff.2 h2]; rfl
theorem ranges_mk {l : List Spn} {n : Nat} (h1 : l.length = n) (h2 : ∀ s ∈ l, 0 ≤ s.lo ∧ s.lo ≤ s.hi ∧ s.hi ≤ 100000) : rangesE l n = 0 := by
  have hv : ∀ s ∈ l, vSpan s = 0 := fun s hs => by
    have := h2 s hs
    unfold vSpan spanE
    rw [inR_iff.2 (by omega), inR_iff.2 (by omega), if_neg (by simp), if_neg (by omega)]
  have h7 : l.any (fun s => vSpan s == 7) = false := by
    rw [List.any_eq_false]
    intro s hs; rw [hv s hs]; decide
  have h2 : l.any (fun s => vSpan s == 2) = false := by
    rw [List.any_eq_false]
    intro s hs; rw [hv s hs]; decide
  unfold rangesE
  rw [if_neg (by omega), h7, h2]; rfl
theorem kndE_mk {y : Tbl} {i : Nat} {k : Knd} (h1 : namedE k.name ((y.kinds.take i).map (·.name)) = 0) (h2 : k.props.length = y.props.length) (h3 : ∀ s ∈ k.props, 0 ≤ s.lo ∧ s.lo ≤ s.hi ∧ s.hi ≤ 100000) : kndE y i k = 0 := by
  unfold kndE
  rw [if_pos h1]; exact ranges_mk h2 h3
theorem fin_ok {x : Tbl} (hT : okT x) {w : List Int} (hw : wordOk w) : okT (finT x w) := by
  have f := fine_of hT
  have lp : (finT x w).props.length = x.props.length := finPs_len _ _ _
  have lk : (finT x w).kinds.length = x.kinds.length := finKs_len _ _ _
  have p1 := f.p1
  have p5 := f.p5
  have k1 := f.k1
  have k8 := f.k8
  refine okT_mk (by omega) (by omega) (by omega) (by omega) f.u1 f.u2 (fun p hp => ?_) fun k hk => ?_
  · have hp' : p < x.props.length := by omega
    have e : (finT x w).props[p] = ⟨x.props[p].name, finErr x w p⟩ := by simp [finT, finPs, List.getD, hp']
    rw [e]
    refine prpE_mk (by rw [fin_names]; exact (prpE_zero (f.pr p hp')).1) ?_
    have := fin_err f hw hp'
    have := f.errv hp'
    simp only; omega
  · have hk' : k < x.kinds.length := by omega
    have e : (finT x w).kinds[k] = ⟨x.kinds[k].name, finSs x w k x.props.length⟩ := by simp [finT, finKs, List.getD, hk']
    rw [e]
    refine kndE_mk (by rw [fin_knames]; exact (kndE_zero (f.kn k hk')).1) (by rw [finSs_len, lp]) fun s hs => ?_
    simp only at hs
    obtain ⟨i, hi, rfl⟩ := List.mem_map.1 hs
    have hi := List.mem_range.1 hi
    obtain ⟨_, _, a1, a2, a3⟩ := f.rng hk' hi
    have := fin_rng f w hk' hi
    simp only; omega
theorem fin_errV {x : Tbl} {w : List Int} {i : Nat} (hi : i < x.props.length) : errV (finT x w) i = finErr x w i := by
  unfold errV finT finPs
  simp [List.getD, hi]
theorem fin_rngV {x : Tbl} {w : List Int} {k i : Nat} (hk : k < x.kinds.length) (hi : i < x.props.length) : rngV (finT x w) k i = ⟨finLo x w k i, finHi x w k i⟩ := by
  unfold rngV finT finKs finSs
  simp [List.getD, hi, hk]
theorem fin_expl {x : Tbl} (f : Fine x) {w : List Int} (hw : wordOk w) {l : List Int} (hl : l.length = x.props.length) {a b : Nat} {n : Int} (ha : a < x.kinds.length) (hb : b < x.kinds.length) (n0 : 0 ≤ n) (n1 : n ≤ 1000) (h : explB (finT x w) l a b n = true) : explB x l a b n = true := by
  rw [explB_iff] at h ⊢
  intro p hp
  have hp' : p < x.props.length := by omega
  have h := h p hp
  rw [expl_at] at h ⊢
  refine h.imp id fun ⟨h1, h2⟩ => ?_
  have he := fin_err f hw hp'
  have qa := fin_rng f w ha hp'
  have qb := fin_rng f w hb hp'
  rw [fin_errV hp'] at h1 h2
  have v1 : (valV x p a b n).lo ≤ (valV (finT x w) p a b n).lo ∧ (valV (finT x w) p a b n).hi ≤ (valV x p a b n).hi := by
    unfold valV
    rw [fin_rngV ha hp', fin_rngV hb hp']
    simp only
    have l1 := Int.mul_le_mul_of_nonneg_left qa.1 n0
    have l2 := Int.mul_le_mul_of_nonneg_left qa.2.2 n0
    have l3 := Int.mul_le_mul_of_nonneg_left qb.1 (show 0 ≤ 1000 - n by omega)
    have l4 := Int.mul_le_mul_of_nonneg_left qb.2.2 (show 0 ≤ 1000 - n by omega)
    omega
  omega
theorem fin_okR {x : Tbl} {l : List Int} (hR : okR x l) {w : List Int} (hw : wordOk w) : okR (finT x w) l := by
  obtain ⟨hT, hl, hv⟩ := okR_of hR
  exact okR_mk (fin_ok hT hw) (by rw [hl]; exact (finPs_len _ _ _).symm) hv
theorem fin_finer {x : Tbl} {l : List Int} (hR : okR x l) {w : List Int} (hw : wordOk w) {p : Nat} {v : Int} (v0 : 0 ≤ v) (v1 : v ≤ 100000) : Finer x l (finT x w) (moreL l p v) := by
  obtain ⟨hT, hl, hv⟩ := okR_of hR
  have f := fine_of hT
  exact ⟨finKs_len _ _ _, rfl, fun a b n ha hb n0 n1 h => more_expl (fin_expl f hw (by rw [moreL_len]; exact hl) ha hb n0 n1 h)⟩
def rotI (x : Tbl) (d k : Nat) : Nat := (k + d) % x.kinds.length
def rotK (x : Tbl) (d j : Nat) : List Knd := (List.range j).map fun k => x.kinds.getD (rotI x d k) default
def rotT (x : Tbl) (d : Nat) : Tbl := ⟨x.props, rotK x d x.kinds.length, x.purity⟩
theorem rotK_len (x : Tbl) (d j : Nat) : (rotK x d j).length = j := by simp [rotK]
theorem rotK_succ (x : Tbl) (d j : Nat) : rotK x d (j + 1) = rotK x d j ++ [x.kinds.getD (rotI x d j) default] := by simp [rotK, List.range_succ]
theorem rot_lt {x : Tbl} (f : Fine x) (d k : Nat) : rotI x d k < x.kinds.length := Nat.mod_lt _ f.k1
theorem rot_inj {x : Tbl} {d i j : Nat} (hi : i < x.kinds.length) (hj : j < x.kinds.length) (h : rotI x d i = rotI x d j) : i = j := by
  unfold rotI at h
  have h1 := Nat.div_add_mod (i + d) x.kinds.length
  have h2 := Nat.div_add_mod (j + d) x.kinds.length
  rw [h] at h1
  generalize x.kinds.length = K at *
  generalize (i + d) / K = u at *
  generalize (j + d) / K = v at *
  generalize (j + d) % K = r at *
  rcases Nat.lt_trichotomy u v with q | q | q
  · have : K * (u + 1) ≤ K * v := Nat.mul_le_mul_left K q
    rw [Nat.mul_add] at this
    omega
  · subst q; omega
  · have : K * (v + 1) ≤ K * u := Nat.mul_le_mul_left K q
    rw [Nat.mul_add] at this
    omega
theorem rot_onto {x : Tbl} {d : Nat} (hd : d < x.kinds.length) {i : Nat} (hi : i < x.kinds.length) : ∃ k, k < x.kinds.length ∧ rotI x d k = i := by
  unfold rotI
  by_cases h : d ≤ i
  · exact ⟨i - d, by omega, by rw [show i - d + d = i by omega, Nat.mod_eq_of_lt hi]⟩
  · exact ⟨i + x.kinds.length - d, by omega, by rw [show i + x.kinds.length - d + d = i + x.kinds.length by omega, Nat.add_mod_right, Nat.mod_eq_of_lt hi]⟩
theorem rot_at {x : Tbl} (f : Fine x) (d : Nat) {k : Nat} (hk : k < (rotT x d).kinds.length) : (rotT x d).kinds[k] = x.kinds[rotI x d k]'(rot_lt f d k) := by
  have := rot_lt f d k
  simp [rotT, rotK, List.getD, this]
theorem named_iff {s : ByteArray} {l : List ByteArray} : namedE s l = 0 ↔ refName s = true ∧ ∀ t ∈ l, ¬ t = s := by
  unfold namedE
  constructor
  · intro h
    split at h
    · cases h
    rename_i h1
    split at h
    · cases h
    rename_i h2
    refine ⟨by simpa using h1, fun t ht e => h2 (List.any_eq_true.2 ⟨t, ht, ba_same.2 e⟩)⟩
  · rintro ⟨h1, h2⟩
    rw [if_neg (by simp [h1]), if_neg]
    rw [List.any_eq_true]
    rintro ⟨t, ht, h⟩
    exact h2 t ht (ba_same.1 h)
theorem kind_names {x : Tbl} (f : Fine x) {i j : Nat} (hi : i < x.kinds.length) (hj : j < x.kinds.length) (h : x.kinds[i].name = x.kinds[j].name) : i = j := by
  have key : ∀ i j (hi : i < x.kinds.length) (hj : j < x.kinds.length), i < j → ¬ x.kinds[i].name = x.kinds[j].name := fun i j hi hj hij e => by
    have := (named_iff.1 (kndE_zero (f.kn j hj)).1).2 x.kinds[i].name (by
      unfold nmK
      refine List.mem_map.2 ⟨x.kinds[i], List.mem_iff_getElem.2 ⟨i, by simp; omega, by simp⟩, rfl⟩)
    exact this e
  rcases Nat.lt_trichotomy i j with q | q | q
  · exact absurd h (key i j hi hj q)
  · exact q
  · exact absurd h.symm (key j i hj hi q)
theorem rot_ok {x : Tbl} (hT : okT x) (d : Nat) : okT (rotT x d) := by
  have f := fine_of hT
  have lk : (rotT x d).kinds.length = x.kinds.length := rotK_len _ _ _
  have p1 := f.p1
  have p5 := f.p5
  have k1 := f.k1
  have k8 := f.k8
  refine okT_mk p1 p5 (by omega) (by omega) f.u1 f.u2 (fun p hp => f.pr p hp) fun k hk => ?_
  have hr := rot_lt f d k
  rw [rot_at f d hk]
  have h1 := named_iff.1 (kndE_zero (f.kn _ hr)).1
  obtain ⟨s1, s2⟩ := f.span _ hr
  refine kndE_mk (named_iff.2 ⟨h1.1, fun t ht e => ?_⟩) s1 s2
  obtain ⟨c, hc, rfl⟩ := List.mem_map.1 ht
  obtain ⟨j, hj, rfl⟩ := List.mem_iff_getElem.1 hc
  have hj' : j < k ∧ j < (rotT x d).kinds.length := Nat.lt_min.1 (by simpa using hj)
  rw [List.getElem_take, rot_at f d hj'.2] at e
  have := kind_names f (rot_lt f d j) hr e
  have := rot_inj (by omega) (by omega) this
  omega
theorem rot_rngV {x : Tbl} {d k p : Nat} (hk : k < x.kinds.length) : rngV (rotT x d) k p = rngV x (rotI x d k) p := by
  unfold rngV rotT rotK
  simp [List.getD, hk]
theorem rot_expl {x : Tbl} {d : Nat} {l : List Int} {a b : Nat} {n : Int} (ha : a < x.kinds.length) (hb : b < x.kinds.length) : explB (rotT x d) l a b n = explB x l (rotI x d a) (rotI x d b) n := by
  unfold explB explAt valV
  rw [Bool.eq_iff_iff, List.all_eq_true, List.all_eq_true]
  have : ∀ p, errV (rotT x d) p = errV x p := fun p => rfl
  simp only [rot_rngV ha, rot_rngV hb, this]
theorem rot_okR {x : Tbl} {l : List Int} (hR : okR x l) (d : Nat) : okR (rotT x d) l := by
  obtain ⟨hT, hl, hv⟩ := okR_of hR
  exact okR_mk (rot_ok hT d) hl hv
theorem rot_mix {x : Tbl} (f : Fine x) {l : List Int} {d a b : Nat} {n : Int} (m : MixOk (rotT x d) l a b n) : MixOk x l (rotI x d a) (rotI x d b) n := by
  have lk : (rotT x d).kinds.length = x.kinds.length := rotK_len _ _ _
  obtain ⟨ha, hb, n1, n2, he, ex⟩ := m
  rw [lk] at ha hb
  exact ⟨rot_lt f d a, rot_lt f d b, n1, n2, fun e => he (rot_inj ha hb e), by rw [← rot_expl ha hb]; exact ex⟩
theorem rot_mix' {x : Tbl} {l : List Int} {d a b : Nat} {n : Int} (ha : a < x.kinds.length) (hb : b < x.kinds.length) (m : MixOk x l (rotI x d a) (rotI x d b) n) : MixOk (rotT x d) l a b n := by
  have lk : (rotT x d).kinds.length = x.kinds.length := rotK_len _ _ _
  obtain ⟨_, _, n1, n2, he, ex⟩ := m
  exact ⟨by rw [lk]; exact ha, by rw [lk]; exact hb, n1, n2, fun e => he (by rw [e]), by rw [rot_expl ha hb]; exact ex⟩
def rotS (x : Tbl) (d : Nat) (s : Int) : Nat → Int
  | 0 => 0
  | k + 1 => if hasB s k = true then rotS x d s k + bitV (rotI x d k) else rotS x d s k
theorem rotS_set {x : Tbl} {l : List Int} {d a b : Nat} {n : Int} (h8 : x.kinds.length ≤ 8) (m : MixOk (rotT x d) l a b n) : ∀ k, rotS x d (setV a b n) k = (if a < k then bitV (rotI x d a) else 0) + (if n < 1000 ∧ b < k then bitV (rotI x d b) else 0)
  | 0 => by simp [rotS]
  | k + 1 => by
    have lk : (rotT x d).kinds.length = x.kinds.length := rotK_len _ _ _
    have ih := rotS_set h8 m k
    have hh := (mix_set (by rw [lk]; exact h8) m).2 k
    have he := m.he
    rw [rotS, ih]
    by_cases c : hasB (setV a b n) k = true
    · rw [if_pos c]
      rcases hh.1 c with rfl | ⟨hn, rfl⟩
      · rw [if_neg (show ¬ k < k by omega), if_pos (show k < k + 1 by omega)]
        by_cases e : n < 1000 ∧ b < k
        · rw [if_pos e, if_pos (by omega)]; omega
        · rw [if_neg e, if_neg (by rintro ⟨q1, q2⟩; exact e ⟨q1, by rcases Nat.lt_or_ge b k with q | q; · exact q
                                                                    · have := he (by omega); omega⟩)]; omega
      · rw [if_neg (show ¬ (n < 1000 ∧ k < k) by omega), if_pos (show n < 1000 ∧ k < k + 1 by omega)]
        by_cases e : a < k
        · rw [if_pos e, if_pos (by omega)]; omega
        · rw [if_neg e, if_neg (fun q => by have := he (by omega); omega)]; omega
    · rw [if_neg c]
      have h1 : ¬ k = a := fun q => c (hh.2 (.inl q))
      have h2 : ¬ (n < 1000 ∧ k = b) := fun q => c (hh.2 (.inr q))
      congr 1
      · by_cases e : a < k
        · rw [if_pos e, if_pos (by omega)]
        · rw [if_neg e, if_neg (by omega)]
      · by_cases e : n < 1000 ∧ b < k
        · rw [if_pos e, if_pos (by omega)]
        · rw [if_neg e, if_neg (by omega)]
theorem rotS_all {x : Tbl} {l : List Int} {d a b : Nat} {n : Int} (h8 : x.kinds.length ≤ 8) (m : MixOk (rotT x d) l a b n) : rotS x d (setV a b n) x.kinds.length = setV (rotI x d a) (rotI x d b) n := by
  have lk : (rotT x d).kinds.length = x.kinds.length := rotK_len _ _ _
  have ha := m.ha
  have hb := m.hb
  rw [lk] at ha hb
  rw [rotS_set h8 m, if_pos ha]
  unfold setV
  by_cases e : n < 1000
  · rw [if_pos ⟨e, hb⟩, if_pos e]
  · rw [if_neg (fun q => e q.1), if_neg e]; omega
theorem rot_in {x : Tbl} {l : List Int} (hR : okR x l) {d : Nat} {s : Int} (h : s ∈ allR (rotT x d) l) : rotS x d s x.kinds.length ∈ allR x l := by
  have f := fine_of (okR_of hR).1
  have lk : (rotT x d).kinds.length = x.kinds.length := rotK_len _ _ _
  obtain ⟨a, b, n, m, rfl⟩ := (all_mix (by rw [lk]; exact f.k8) s).1 h
  rw [rotS_all f.k8 m]
  exact (all_mix f.k8 _).2 ⟨_, _, _, rot_mix f m, rfl⟩
theorem rot_same {x : Tbl} {l : List Int} (hR : okR x l) {d : Nat} {s t : Int} (hs : s ∈ allR (rotT x d) l) (ht : t ∈ allR (rotT x d) l) (h : rotS x d s x.kinds.length = rotS x d t x.kinds.length) : s = t := by
  have f := fine_of (okR_of hR).1
  have lk : (rotT x d).kinds.length = x.kinds.length := rotK_len _ _ _
  have h8 : (rotT x d).kinds.length ≤ 8 := by rw [lk]; exact f.k8
  refine set_ext h8 h8 hs ht fun k => ?_
  obtain ⟨a, b, n, m, rfl⟩ := (all_mix h8 s).1 hs
  obtain ⟨a', b', n', m', rfl⟩ := (all_mix h8 t).1 ht
  rw [rotS_all f.k8 m, rotS_all f.k8 m'] at h
  have g1 := (mix_set f.k8 (rot_mix f m)).2
  have g2 := (mix_set f.k8 (rot_mix f m')).2
  have g3 := (mix_set h8 m).2
  have g4 := (mix_set h8 m').2
  have ha := m.ha
  have hb := m.hb
  have ha' := m'.ha
  have hb' := m'.hb
  rw [lk] at ha hb ha' hb'
  rw [Bool.eq_iff_iff, g3, g4]
  have key : ∀ j, (j = rotI x d a ∨ n < 1000 ∧ j = rotI x d b) ↔ (j = rotI x d a' ∨ n' < 1000 ∧ j = rotI x d b') := fun j => by
    rw [← g1, ← g2, h]
  constructor
  · rintro (rfl | ⟨hn, rfl⟩)
    · rcases (key _).1 (.inl rfl) with q | ⟨q1, q⟩
      · exact .inl (rot_inj ha ha' q)
      · exact .inr ⟨q1, rot_inj ha hb' q⟩
    · rcases (key _).1 (.inr ⟨hn, rfl⟩) with q | ⟨q1, q⟩
      · exact .inl (rot_inj hb ha' q)
      · exact .inr ⟨q1, rot_inj hb hb' q⟩
  · rintro (rfl | ⟨hn, rfl⟩)
    · rcases (key _).2 (.inl rfl) with q | ⟨q1, q⟩
      · exact .inl (rot_inj ha' ha q)
      · exact .inr ⟨q1, rot_inj ha' hb q⟩
    · rcases (key _).2 (.inr ⟨hn, rfl⟩) with q | ⟨q1, q⟩
      · exact .inl (rot_inj hb' ha q)
      · exact .inr ⟨q1, rot_inj hb' hb q⟩
theorem rot_len {x : Tbl} {l : List Int} (hR : okR x l) {d : Nat} (hd : d < x.kinds.length) : (allR (rotT x d) l).length = (allR x l).length := by
  have f := fine_of (okR_of hR).1
  have lk : (rotT x d).kinds.length = x.kinds.length := rotK_len _ _ _
  have h8 : (rotT x d).kinds.length ≤ 8 := by rw [lk]; exact f.k8
  have p1 := all_pair (l := l) h8
  have p2 := all_pair (x := x) (l := l) f.k8
  have nd : ((allR (rotT x d) l).map fun s => rotS x d s x.kinds.length).Nodup := by
    refine List.pairwise_map.2 (p1.imp_of_mem fun {s t} hs ht hlt e => ?_)
    have := rot_same hR hs ht e
    omega
  have hp := (List.perm_ext_iff_of_nodup nd (p2.imp fun h e => by omega)).2 fun s => ?_
  · have := hp.length_eq
    rwa [List.length_map] at this
  · rw [List.mem_map]
    constructor
    · rintro ⟨t, ht, rfl⟩; exact rot_in hR ht
    · intro h
      obtain ⟨a, b, n, m, rfl⟩ := (all_mix f.k8 s).1 h
      obtain ⟨a', ha', ea⟩ := rot_onto hd m.ha
      obtain ⟨b', hb', eb⟩ := rot_onto hd m.hb
      rw [← ea, ← eb] at m
      have m' := rot_mix' ha' hb' m
      refine ⟨setV a' b' n, (all_mix h8 _).2 ⟨a', b', n, m', rfl⟩, ?_⟩
      rw [rotS_all f.k8 m', ea, eb]
theorem mix_turn {x : Tbl} {l : List Int} (hR : okR x l) {a b : Nat} (ha : a < x.kinds.length) (hb : b < x.kinds.length) (hab : a ≠ b) : (mixR x l a b = (⟨0, 0⟩, 9) ∧ mixR x l b a = (⟨0, 0⟩, 9)) ∨ ∃ s : Spn, mixR x l a b = (s, 0) ∧ mixR x l b a = (⟨1000 - s.hi, 1000 - s.lo⟩, 0) ∧ 0 ≤ s.lo ∧ s.lo ≤ s.hi ∧ s.hi ≤ 1000 := by
  rcases mix_cases hR ha hb hab with ⟨h1, h2⟩ | ⟨s, h1, h2, h3⟩
  · rcases mix_cases hR hb ha (Ne.symm hab) with ⟨g1, g2⟩ | ⟨r, g1, g2, g3⟩
    · exact .inl ⟨h1, g1⟩
    · obtain ⟨⟨q1, q2⟩, q3⟩ := (g3 r.lo).1 ⟨Int.le_refl _, by omega⟩
      have := h2 (1000 - r.lo) (by omega) (by omega)
      rw [expl_swap] at this
      exact absurd q3 this
  · rcases mix_cases hR hb ha (Ne.symm hab) with ⟨g1, g2⟩ | ⟨r, g1, g2, g3⟩
    · obtain ⟨⟨q1, q2⟩, q3⟩ := (h3 s.lo).1 ⟨Int.le_refl _, by omega⟩
      have := g2 (1000 - s.lo) (by omega) (by omega)
      rw [expl_swap] at this
      exact absurd q3 this
    · refine .inr ⟨s, h1, ?_, h2⟩
      rw [g1]
      have key : ∀ n, (r.lo ≤ n ∧ n ≤ r.hi) ↔ (s.lo ≤ 1000 - n ∧ 1000 - n ≤ s.hi) := fun n => by
        rw [g3, h3, expl_swap]
        constructor
        · rintro ⟨q1, q2⟩; exact ⟨by omega, q2⟩
        · rintro ⟨q1, q2⟩; exact ⟨by omega, q2⟩
      have k1 := (key r.lo).1 (by omega)
      have k2 := (key r.hi).1 (by omega)
      have k3 := (key (1000 - s.lo)).2 (by omega)
      have k4 := (key (1000 - s.hi)).2 (by omega)
      obtain ⟨rl, rh⟩ := r
      simp only at *
      rw [show rl = 1000 - s.hi by omega, show rh = 1000 - s.lo by omega]
def endM (x : Tbl) (l : List Int) (a : Nat) (v : Int) (k : Nat) (o : Bool) : Nat → Bool
  | 0 => o
  | m + 1 => endM x l a v k o m || ((partsR x l k m 0 1000).2 && !decide (k = a) && !decide (m = a)) && decide (v = 0)
def endK (x : Tbl) (l : List Int) (a : Nat) (v : Int) : Nat → Bool
  | 0 => false
  | k + 1 => endM x l a v k (endK x l a v k || (!decide (k = a) || decide (v = 1000)) && explB x l a k v) x.kinds.length
theorem endM_iff {x : Tbl} {l : List Int} {a : Nat} {v : Int} {k : Nat} {o : Bool} : ∀ {m}, endM x l a v k o m = true ↔ o = true ∨ ∃ j, j < m ∧ ((partsR x l k j 0 1000).2 = true ∧ ¬ k = a ∧ ¬ j = a) ∧ v = 0
  | 0 => by simp [endM]
  | m + 1 => by
    rw [endM, Bool.or_eq_true, endM_iff (m := m)]
    simp only [Bool.and_eq_true, Bool.not_eq_true', decide_eq_true_eq, decide_eq_false_iff_not]
    constructor
    · rintro ((h | ⟨j, hj, h⟩) | ⟨⟨⟨h1, h2⟩, h3⟩, h4⟩)
      · exact .inl h
      · exact .inr ⟨j, by omega, h⟩
      · exact .inr ⟨m, by omega, ⟨h1, h2, h3⟩, h4⟩
    · rintro (h | ⟨j, hj, ⟨h1, h2, h3⟩, h4⟩)
      · exact .inl (.inl h)
      · by_cases e : j = m
        · subst e; exact .inr ⟨⟨⟨h1, h2⟩, h3⟩, h4⟩
        · exact .inl (.inr ⟨j, by omega, ⟨h1, h2, h3⟩, h4⟩)
theorem endK_iff {x : Tbl} {l : List Int} {a : Nat} {v : Int} : ∀ {k}, endK x l a v k = true ↔ ∃ i, i < k ∧ (((¬ i = a ∨ v = 1000) ∧ explB x l a i v = true) ∨ ∃ j, j < x.kinds.length ∧ ((partsR x l i j 0 1000).2 = true ∧ ¬ i = a ∧ ¬ j = a) ∧ v = 0)
  | 0 => by simp [endK]
  | k + 1 => by
    rw [endK, endM_iff, Bool.or_eq_true, endK_iff (k := k)]
    simp only [Bool.and_eq_true, Bool.or_eq_true, Bool.not_eq_true', decide_eq_true_eq, decide_eq_false_iff_not]
    constructor
    · rintro ((⟨i, hi, h⟩ | h) | h)
      · exact ⟨i, by omega, h⟩
      · exact ⟨k, by omega, .inl h⟩
      · exact ⟨k, by omega, .inr h⟩
    · rintro ⟨i, hi, h⟩
      by_cases e : i = k
      · subst e
        rcases h with h | h
        · exact .inl (.inr h)
        · exact .inr h
      · exact .inl (.inl ⟨i, by omega, h⟩)
theorem end_ok {x : Tbl} {l : List Int} {a : Nat} {v : Int} (h : SP x l a v) : endK x l a v x.kinds.length = true := by
  obtain ⟨c, d, n, hc, hd, hn, ex, rfl⟩ := h
  obtain ⟨q1, q2, q3, q4⟩ := lohi_bd c d
  rw [endK_iff]
  unfold partOf
  by_cases e1 : (a : Int) = c
  · obtain rfl : a = c := by omega
    rw [if_pos rfl]
    refine ⟨d, by omega, .inl ⟨?_, ex⟩⟩
    by_cases e2 : d = a
    · subst e2
      unfold loV hiV at hn
      rw [if_pos rfl, if_pos rfl] at hn
      exact .inr (by omega)
    · exact .inl e2
  · rw [if_neg e1]
    by_cases e2 : (a : Int) = d
    · obtain rfl : a = d := by omega
      rw [if_pos rfl]
      exact ⟨c, hc, .inl ⟨.inl (by omega), by rw [expl_swap]; exact ex⟩⟩
    · rw [if_neg e2]
      refine ⟨c, hc, .inr ⟨d, by omega, ⟨?_, by omega, by omega⟩, rfl⟩⟩
      rcases parts_spec x l c d 0 1000 with ⟨_, h2⟩ | ⟨u, v, _, _, _, h, _⟩
      · rw [h2 n (by omega) (by omega)] at ex; cases ex
      · rw [h]
end Go.Proofs.YtkldmnladkcfeaaGreatDoor
namespace Go.Proofs.YtkldmnladkcfeaaGreatDoor
open Go.RowKit
set_option linter.unusedSimpArgs false
set_option linter.unusedVariables false
theorem rW_decL (l : List Int) : (cList (rK .u16)).dec (.sl 1 (l.map (rK .u16).enc)) = some l := cList_dec (rK .u16) l 1 rfl
def rMlt : Row Mlt := ⟨6, fun x => [.v (.int .u8 x.a), .v (.int .u8 x.b), .v (.int .u16 x.parts), .sl 1 (x.numbers.map (rK .u16).enc), .sl 1 (x.errors.map (rK .u16).enc), .v (.int .u8 x.read)], fun d => match d with
  | [.v (.int .u8 a), .v (.int .u8 b), .v (.int .u16 c), n, e, .v (.int .u8 r)] => ((cList (rK .u16)).dec n).bind fun n => ((cList (rK .u16)).dec e).map fun e => ⟨a, b, c, n, e, r⟩
  | _ => none, fun x => by simp [rW_decL], fun d x h => by
  split at h
  · simp only [Option.bind_eq_some_iff, Option.map_eq_some_iff] at h
    obtain ⟨p, hp, w, hw, rfl⟩ := h
    exact limp_cons (DImp.refl _) (limp_cons (DImp.refl _) (limp_cons (DImp.refl _) (limp_cons ((cList (rK .u16)).ed _ _ hp) (limp_cons ((cList (rK .u16)).ed _ _ hw) (LImp.refl _)))))
  · cases h⟩
theorem rMlt_enc (x : Mlt) : rMlt.enc x = [.v (.int .u8 x.a), .v (.int .u8 x.b), .v (.int .u16 x.parts), .sl 1 (x.numbers.map (rK .u16).enc), .sl 1 (x.errors.map (rK .u16).enc), .v (.int .u8 x.read)] := rfl
theorem rMlt_dec (x : Mlt) : rMlt.dec [.v (.int .u8 x.a), .v (.int .u8 x.b), .v (.int .u16 x.parts), .sl 1 (x.numbers.map (rK .u16).enc), .sl 1 (x.errors.map (rK .u16).enc), .v (.int .u8 x.read)] = some x := rMlt.de x
structure Mor where
  a : Int
  prop : Int
  reading : Int
  by_ : List Int
def morOk (m : Mor) : Prop := byteOk m.a ∧ byteOk m.prop ∧ (0 ≤ m.reading ∧ m.reading ≤ 4294967295) ∧ wordOk m.by_
instance (m : Mor) : Decidable (morOk m) := inferInstanceAs (Decidable (_ ∧ _))
def rMor : Row Mor := ⟨4, fun x => [.v (.int .u8 x.a), .v (.int .u8 x.prop), .v (.int .u32 x.reading), .sl 1 (x.by_.map (rK .u16).enc)], fun d => match d with
  | [.v (.int .u8 a), .v (.int .u8 b), .v (.int .u32 c), n] => ((cList (rK .u16)).dec n).map fun n => ⟨a, b, c, n⟩
  | _ => none, fun x => by simp [rW_decL], fun d x h => by
  split at h
  · simp only [Option.map_eq_some_iff] at h
    obtain ⟨p, hp, rfl⟩ := h
    exact limp_cons (DImp.refl _) (limp_cons (DImp.refl _) (limp_cons (DImp.refl _) (limp_cons ((cList (rK .u16)).ed _ _ hp) (LImp.refl _))))
  · cases h⟩
theorem rMor_enc (x : Mor) : rMor.enc x = [.v (.int .u8 x.a), .v (.int .u8 x.prop), .v (.int .u32 x.reading), .sl 1 (x.by_.map (rK .u16).enc)] := rfl
structure Thr where
  a : Int
  b : Int
  c : Int
def rThr (k : IntKind) : Row Thr := ⟨3, fun x => [.v (.int k x.a), .v (.int k x.b), .v (.int k x.c)], fun d => match d with
  | [.v (.int k1 a), .v (.int k2 b), .v (.int k3 c)] => if k1 = k ∧ k2 = k ∧ k3 = k then some ⟨a, b, c⟩ else none
  | _ => none, fun x => by simp, fun d x h => by
  split at h
  · split at h
    · rename_i e; obtain ⟨rfl, rfl, rfl⟩ := e; cases h; exact LImp.refl _
    · cases h
  · cases h⟩
theorem rThr_enc (k : IntKind) (x : Thr) : (rThr k).enc x = [.v (.int k x.a), .v (.int k x.b), .v (.int k x.c)] := rfl
def thrOk (n : Int) (x : Thr) : Prop := (0 ≤ x.a ∧ x.a ≤ n) ∧ (0 ≤ x.b ∧ x.b ≤ n) ∧ (0 ≤ x.c ∧ x.c ≤ n)
instance (n : Int) (x : Thr) : Decidable (thrOk n x) := inferInstanceAs (Decidable (_ ∧ _))
end Go.Proofs.YtkldmnladkcfeaaGreatDoor
namespace Go.Proofs.YtkldmnladkcfeaaGreatDoor
open Go.RowKit
set_option linter.unusedSimpArgs false
set_option linter.unusedVariables false
theorem mod_nat {n : Int} {k : Nat} (h : 0 ≤ n) : n.tmod k = ((n.toNat % k : Nat) : Int) := by
  rw [Int.tmod_eq_emod_of_nonneg h, Int.natCast_emod, Int.toNat_of_nonneg h]
theorem not_valid {x : Tbl} (h : ¬ okT x) (l : List Int) : readE x l = (chk x).2.2 ∧ ¬ (chk x).2.2 = 0 := by
  have h' : ¬ (chk x).2.2 = 0 := h
  unfold readE
  rw [if_pos h']
  exact ⟨rfl, h'⟩
theorem ints0 : (cList rInt).dec (.sl 0 []) = some [] := rfl
theorem rK_decE (k : IntKind) (n : Int) : (cK k).dec ((cK k).enc n) = some n := by simp [cK]
theorem text_names {x : Tbl} (h : okT x) : namesOk x := by
  have f := fine_of h
  refine ⟨fun p hp => ?_, fun k hk => ?_⟩
  · obtain ⟨i, hi, rfl⟩ := List.getElem_of_mem hp
    have := f.pname hi
    unfold strOk; omega
  · obtain ⟨i, hi, rfl⟩ := List.getElem_of_mem hk
    have := f.kname hi
    unfold strOk; omega
end Go.Proofs.YtkldmnladkcfeaaGreatDoor
