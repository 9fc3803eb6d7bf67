/-
  What the program of the wax chapter comes to is what the reference comes to: parts, Mixed, Detect, Sets, Within, Sold. Plain. Conditions: none.
-/
import Derived.Test.YtkldmnladkcfeaaGreatDoorZPrI
namespace Go.Proofs.YtkldmnladkcfeaaGreatDoor
open Go.RowKit
set_option linter.unusedSimpArgs false
set_option linter.unusedVariables false
def inS (s : Spn) (n : Int) : Prop := s.lo ≤ n ∧ n ≤ s.hi
theorem tight_iff (s : Spn) (b : Int × Int) (n : Int) : inS (tightV s b) n ↔ inS s n ∧ n * b.1 + b.2 ≤ 0 := by
  unfold tightV inS
  split
  · rename_i h
    have := Int.le_ediv_iff_mul_le (a := n) (b := -b.2) h
    simp only
    omega
  · split
    · rename_i h1 h
      have hp : 0 < -b.1 := by omega
      have := Int.le_ediv_iff_mul_le (a := -n) (b := -b.2) hp
      rw [Int.neg_mul_neg] at this
      simp only
      omega
    · rename_i h1 h2
      have h0 : b.1 = 0 := by omega
      rw [h0, Int.mul_zero]
      split
      · simp only; omega
      · omega
theorem bds_iff (x : Tbl) (a b p : Nat) (s : Spn) (v n : Int) : inS (bdsRes ⟨s, rngV x a p, rngV x b p, v, errV x p⟩) n ↔ inS s n ∧ ¬ (1000 * (v + errV x p) < (valV x p a b n).lo) ∧ ¬ ((valV x p a b n).hi < 1000 * (v - errV x p)) := by
  unfold bdsRes
  rw [tight_iff, tight_iff]
  unfold Bds.least Bds.most valV
  simp only
  generalize (rngV x a p).lo = al
  generalize (rngV x a p).hi = ah
  generalize (rngV x b p).lo = bl
  generalize (rngV x b p).hi = bh
  generalize errV x p = e
  have e1 : n * (al - bl) = n * al - n * bl := Int.mul_sub _ _ _
  have e2 : n * (bh - ah) = n * bh - n * ah := Int.mul_sub _ _ _
  have e3 : (1000 - n) * bl = 1000 * bl - n * bl := Int.sub_mul _ _ _
  have e4 : (1000 - n) * bh = 1000 * bh - n * bh := Int.sub_mul _ _ _
  rw [e1, e2, e3, e4]
  constructor
  · rintro ⟨⟨h1, h2⟩, h3⟩; exact ⟨h1, by omega, by omega⟩
  · rintro ⟨h1, h2, h3⟩; exact ⟨⟨h1, by omega⟩, by omega⟩
theorem expl_at {x : Tbl} {a b p : Nat} {n v : Int} : explAt x a b n p v = true ↔ v = -1 ∨ (¬ (1000 * (v + errV x p) < (valV x p a b n).lo) ∧ ¬ ((valV x p a b n).hi < 1000 * (v - errV x p))) := by
  unfold explAt
  simp
theorem pts_iff (x : Tbl) (l : List Int) (a b : Nat) (s : Spn) (n : Int) : ∀ k, inS (ptsK x l a b s k) n ↔ inS s n ∧ ∀ p, p < k → explAt x a b n p (l.getD p 0) = true
  | 0 => ⟨fun h => ⟨h, fun p hp => by omega⟩, fun h => h.1⟩
  | k + 1 => by
    have ih := pts_iff x l a b s n k
    rw [ptsK]
    have step : (∀ p, p < k + 1 → explAt x a b n p (l.getD p 0) = true) ↔ (∀ p, p < k → explAt x a b n p (l.getD p 0) = true) ∧ explAt x a b n k (l.getD k 0) = true :=
      ⟨fun h => ⟨fun p hp => h p (by omega), h k (by omega)⟩, fun h p hp => by
        by_cases e : p = k
        · subst e; exact h.2
        · exact h.1 p (by omega)⟩
    rw [step]
    split
    · rename_i h
      rw [ih, h]
      have : explAt x a b n k (-1) = true := expl_at.2 (.inl rfl)
      simp [this]
    · rename_i h
      rw [bds_iff, ih, expl_at]
      constructor
      · rintro ⟨⟨h1, h2⟩, h3⟩; exact ⟨h1, h2, .inr h3⟩
      · rintro ⟨h1, h2, h3⟩; exact ⟨⟨h1, h2⟩, h3.resolve_left h⟩
theorem ptsV_iff {x : Tbl} {l : List Int} {a b : Nat} {lo hi n : Int} : inS (ptsV x l a b lo hi) n ↔ (lo ≤ n ∧ n ≤ hi) ∧ explB x l a b n = true := by
  unfold ptsV
  rw [pts_iff, explB_iff]; exact Iff.rfl
theorem parts_eq (x : Tbl) (l : List Int) (a b : Nat) (lo hi : Int) : ((partsR x l a b lo hi).2 = true ∧ partsR x l a b lo hi = (ptsV x l a b lo hi, true) ∧ (ptsV x l a b lo hi).lo ≤ (ptsV x l a b lo hi).hi) ∨ ((partsR x l a b lo hi).2 = false ∧ (ptsV x l a b lo hi).hi < (ptsV x l a b lo hi).lo) := by
  have key : ∀ n, inS (ptsV x l a b lo hi) n ↔ _ := fun n => ptsV_iff
  generalize ptsV x l a b lo hi = s at *
  obtain ⟨sl, sh⟩ := s
  unfold inS at key
  simp only at key ⊢
  rcases parts_spec x l a b lo hi with ⟨h1, h2⟩ | ⟨u, v, q1, q2, q3, q4, q5, q6, q7, q8⟩
  · refine .inr ⟨h1, ?_⟩
    by_cases h : sl ≤ sh
    · obtain ⟨⟨k1, k2⟩, k3⟩ := (key sl).1 ⟨Int.le_refl _, h⟩
      rw [h2 sl k1 k2] at k3; cases k3
    · omega
  · have hu := (key u).2 ⟨⟨q1, by omega⟩, q5⟩
    have hv := (key v).2 ⟨⟨by omega, q3⟩, q6⟩
    obtain ⟨⟨k1, k2⟩, k3⟩ := (key sl).1 ⟨Int.le_refl _, by omega⟩
    obtain ⟨⟨k4, k5⟩, k6⟩ := (key sh).1 ⟨by omega, Int.le_refl _⟩
    have e1 : sl = u := by
      by_cases h : sl < u
      · rw [q7 sl k1 h] at k3; cases k3
      · omega
    have e2 : sh = v := by
      by_cases h : v < sh
      · rw [q8 sh h k5] at k6; cases k6
      · omega
    subst e1; subst e2
    exact .inl ⟨by rw [q4], q4, q2⟩
theorem mix_eq (x : Tbl) (l : List Int) (a b : Int) : mixP x l a b = mixR x l a b := by
  unfold mixP mixR
  split
  · rfl
  · rcases parts_eq x l a.toNat b.toNat 0 1000 with ⟨h1, h2, h3⟩ | ⟨h1, h2⟩
    · rw [if_neg (by omega), if_pos h1, h2]
    · rw [if_pos h2, if_neg (by simp [h1])]
theorem least_iff {m q w n : Int} (hq : 0 ≤ q) (hn : 0 ≤ n) : leastV m q w ≤ n ↔ m ≤ n ∨ q < n * w := by
  unfold leastV
  split
  · rename_i h
    have h1 : q / w < n ↔ q < n * w := Int.ediv_lt_iff_lt_mul h
    omega
  · rename_i h
    have : n * w ≤ 0 := Int.mul_nonpos_of_nonneg_of_nonpos hn (by omega)
    omega
theorem told_iff {x : Tbl} {a b p : Nat} {n : Int} : toldAt x a b n p = true ↔ wdV x a p < n * ((rngV x b p).lo - (rngV x a p).lo) ∨ wdV x a p < n * ((rngV x a p).hi - (rngV x b p).hi) := by
  unfold toldAt valV wdV
  simp only [Bool.or_eq_true, decide_eq_true_eq]
  generalize (rngV x a p).lo = al
  generalize (rngV x a p).hi = ah
  generalize (rngV x b p).lo = bl
  generalize (rngV x b p).hi = bh
  generalize errV x p = e
  have e1 : n * (bl - al) = n * bl - n * al := Int.mul_sub _ _ _
  have e2 : n * (ah - bh) = n * ah - n * bh := Int.mul_sub _ _ _
  have e3 : (1000 - n) * al = 1000 * al - n * al := Int.sub_mul _ _ _
  have e4 : (1000 - n) * ah = 1000 * ah - n * ah := Int.sub_mul _ _ _
  rw [e1, e2, e3, e4]
  omega
theorem det_iff {x : Tbl} (f : Fine x) {a b : Nat} (ha : a < x.kinds.length) {n : Int} (hn : 0 ≤ n) : ∀ k, k ≤ x.props.length → (detK x a b k ≤ n ↔ 1001 ≤ n ∨ ∃ p, p < k ∧ toldAt x a b n p = true)
  | 0, _ => by simp [detK]
  | k + 1, hk => by
    have ih := det_iff f (b := b) ha hn k (by omega)
    have hw := (wd_bd f ha (show k < x.props.length by omega)).1
    rw [detK, least_iff hw hn, least_iff hw hn, ih, or_assoc (a := (1001 ≤ n ∨ _)), ← told_iff]
    constructor
    · rintro ((h | ⟨p, hp, h⟩) | h)
      · exact .inl h
      · exact .inr ⟨p, by omega, h⟩
      · exact .inr ⟨k, by omega, h⟩
    · rintro (h | ⟨p, hp, h⟩)
      · exact .inl (.inl h)
      · by_cases e : p = k
        · subst e; exact .inr h
        · exact .inl (.inr ⟨p, by omega, h⟩)
theorem det_eq (x : Tbl) (a b : Int) : detP x a b = detR x a b := by
  unfold detP detR
  split
  · rfl
  · rename_i h
    have h : twoE x (chk x).2.2 a b = 0 := by omega
    unfold twoE at h
    split at h
    · rename_i h1; exact absurd h h1
    rename_i h1
    have f := fine_of (show okT x by unfold okT; omega)
    split at h
    · simp at h
    rename_i h2
    have hka : kdOk x a := kd_in (by cases q : inR a 0 ((x.kinds.length : Int) - 1) with | true => rfl | false => exact absurd (.inl q) h2)
    obtain ⟨a0, a1⟩ := hka
    have ha : a.toNat < x.kinds.length := by omega
    have key : ∀ n : Int, 0 ≤ n → n ≤ 1000 → (detK x a.toNat b.toNat x.props.length ≤ n ↔ toldB x a.toNat b.toNat n = true) := fun n h0 h1 => by
      rw [det_iff f ha h0 _ (Nat.le_refl _)]
      unfold toldB
      rw [List.any_eq_true]
      constructor
      · rintro (h | ⟨p, hp, h⟩)
        · omega
        · exact ⟨p, List.mem_range.2 hp, h⟩
      · rintro ⟨p, hp, h⟩
        exact .inr ⟨p, List.mem_range.1 hp, h⟩
    have hz : toldB x a.toNat b.toNat 0 = false := by
      unfold toldB
      rw [List.any_eq_false]
      intro p hp h
      rw [told_iff, Int.zero_mul, Int.zero_mul] at h
      have := (wd_bd f ha (List.mem_range.1 hp)).1
      omega
    have hpos : 1 ≤ detK x a.toNat b.toNat x.props.length := by
      have := key 0 (by omega) (by omega)
      rw [hz] at this
      simp at this
      omega
    generalize detK x a.toNat b.toNat x.props.length = d at *
    rcases firstN_spec (toldB x a.toNat b.toNat) 1000 with ⟨e1, e2⟩ | ⟨i, hi, e1, e2, e3⟩
    · rw [e1]
      have : 1000 < d := by
        by_cases hd : d ≤ 1000
        · have := (key 1000 (by omega) (by omega)).1 hd
          have h9 := e2 999 (by omega)
          rw [show ((999 : Nat) : Int) + 1 = 1000 by omega, this] at h9; cases h9
        · omega
      rw [if_pos this]
    · rw [e1]
      have h3 := (key ((i : Int) + 1) (by omega) (by omega)).2 e2
      have h4 : ¬ d ≤ i := fun h => by
        have h5 := (key (i : Int) (by omega) (by omega)).1 h
        by_cases hi0 : i = 0
        · subst hi0; rw [show ((0 : Nat) : Int) = 0 from rfl, hz] at h5; cases h5
        · have h6 := e3 (i - 1) (by omega)
          rw [show ((i - 1 : Nat) : Int) + 1 = i by omega, h5] at h6; cases h6
      rw [if_neg (by omega)]
      have : d = (i : Int) + 1 := by omega
      rw [this]
theorem mix_ok {x : Tbl} {l : List Int} {a b : Nat} : (∃ m, m ∈ mixAt x l a b) ↔ (ptsV x l a b (loV a b) (hiV a b)).lo ≤ (ptsV x l a b (loV a b) (hiV a b)).hi := by
  unfold mixAt
  split
  · rename_i h; exact ⟨fun _ => h, fun _ => ⟨_, List.mem_singleton.2 rfl⟩⟩
  · rename_i h; exact ⟨fun ⟨m, hm⟩ => (by cases hm), fun h' => absurd h' h⟩
def okP (x : Tbl) (l : List Int) (a b : Nat) : Prop := (ptsV x l a b (loV a b) (hiV a b)).lo ≤ (ptsV x l a b (loV a b) (hiV a b)).hi
theorem okP_iff {x : Tbl} {l : List Int} {a b : Nat} : okP x l a b ↔ ∃ n, (loV a b ≤ n ∧ n ≤ hiV a b) ∧ explB x l a b n = true := by
  unfold okP
  constructor
  · intro h
    exact ⟨_, ptsV_iff.1 ⟨Int.le_refl _, h⟩⟩
  · rintro ⟨n, h⟩
    have := ptsV_iff.2 h
    exact Int.le_trans this.1 this.2
theorem okP_pair {x : Tbl} {l : List Int} {a b : Nat} (h : b < a) : (partsR x l a b 1 999).2 = true ↔ okP x l a b := by
  have e1 : loV a b = 1 := if_neg (by omega)
  have e2 : hiV a b = 999 := if_neg (by omega)
  unfold okP
  rw [e1, e2]
  rcases parts_eq x l a b 1 999 with ⟨h1, _, h3⟩ | ⟨h1, h2⟩
  · rw [h1]; simpa using h3
  · rw [h1]; simp; omega
theorem okP_one {x : Tbl} {l : List Int} {a : Nat} : explB x l a a 1000 = true ↔ okP x l a a := by
  rw [okP_iff, show loV a a = 1000 from if_pos rfl, show hiV a a = 1000 from if_pos rfl]
  constructor
  · intro h; exact ⟨1000, ⟨by omega, by omega⟩, h⟩
  · rintro ⟨n, ⟨h1, h2⟩, h⟩
    obtain rfl : n = 1000 := by omega
    exact h
def pairM (a b : Nat) : Int := ((2 ^ a ||| 2 ^ b : Nat) : Int)
theorem pairM_add : ∀ a : Nat, a < 8 → ∀ b : Nat, b < a → (2 ^ a + 2 ^ b : Nat) = (2 ^ a ||| 2 ^ b) := by decide
theorem pairM_lt {a b : Nat} (ha : a < 8) (h : b < a) : bitV a + bitV b = pairM a b := by
  unfold pairM
  rw [bitV_nat, bitV_nat, ← pairM_add a ha b h]; omega
theorem pairM_one (a : Nat) : bitV a = pairM a a := by
  unfold pairM; rw [bitV_nat, Nat.or_self]
theorem pairM_inj {a b c d : Nat} (h1 : b ≤ a) (h2 : d ≤ c) (h : pairM a b = pairM c d) : a = c ∧ b = d := by
  have h : (2 ^ a ||| 2 ^ b) = (2 ^ c ||| 2 ^ d) := by unfold pairM at h; omega
  have t : ∀ k, (decide (a = k) || decide (b = k)) = (decide (c = k) || decide (d = k)) := fun k => by
    have := congrArg (fun n => Nat.testBit n k) h
    simpa only [Nat.testBit_or, Nat.testBit_two_pow] using this
  have ta := t a
  have tb := t b
  have tc := t c
  have td := t d
  simp at ta tb tc td
  omega
theorem pairK_form {x : Tbl} {l : List Int} {s : Int} {a : Nat} (ha : a < 8) : ∀ k, k ≤ a → (pairK x l s a k = [] ∧ ∀ b, b < k → ¬ (okP x l a b ∧ s = pairM a b)) ∨ (pairK x l s a k = [s] ∧ ∃ b, b < k ∧ okP x l a b ∧ s = pairM a b)
  | 0, _ => .inl ⟨rfl, fun b hb => by omega⟩
  | k + 1, hk => by
    have hlt : k < a := by omega
    rw [pairK]
    have hc : ((partsR x l a k 1 999).2 = true ∧ s = bitV a + bitV k) ↔ (okP x l a k ∧ s = pairM a k) := by rw [okP_pair hlt, pairM_lt ha hlt]
    rcases pairK_form (x := x) (l := l) (s := s) ha k (by omega) with ⟨h1, h2⟩ | ⟨h1, b, hb, h2, h3⟩
    · by_cases h : okP x l a k ∧ s = pairM a k
      · exact .inr ⟨by rw [h1, if_pos (hc.2 h)]; rfl, k, by omega, h⟩
      · refine .inl ⟨by rw [h1, if_neg (mt hc.1 h)]; rfl, fun b hb => ?_⟩
        by_cases e : b = k
        · subst e; exact h
        · exact h2 b (by omega)
    · refine .inr ⟨?_, b, by omega, h2, h3⟩
      rw [h1, if_neg (mt hc.1 ?_)]
      · rfl
      · rintro ⟨_, h⟩
        have := pairM_inj (by omega) (by omega) (h3.symm.trans h)
        omega
theorem kindK_form {x : Tbl} {l : List Int} {s : Int} : ∀ k, k ≤ 8 → (kindK x l s k = [] ∧ ∀ a b, a < k → b ≤ a → ¬ (okP x l a b ∧ s = pairM a b)) ∨ (kindK x l s k = [s] ∧ ∃ a b, a < k ∧ b ≤ a ∧ okP x l a b ∧ s = pairM a b)
  | 0, _ => .inl ⟨rfl, fun a b ha => by omega⟩
  | k + 1, hk => by
    rw [kindK]
    have hc : (s = bitV k ∧ explB x l k k 1000 = true) ↔ (s = pairM k k ∧ okP x l k k) := by rw [okP_one, pairM_one]
    have hp := pairK_form (x := x) (l := l) (s := s) (a := k) (by omega) k (Nat.le_refl _)
    rcases kindK_form (x := x) (l := l) (s := s) k (by omega) with ⟨h1, h2⟩ | ⟨h1, a, b, ha, hb, h2, h3⟩
    · rcases hp with ⟨p1, p2⟩ | ⟨p1, b, hb, p2, p3⟩
      · by_cases h : s = pairM k k ∧ okP x l k k
        · exact .inr ⟨by rw [h1, p1, if_pos (hc.2 h)]; rfl, k, k, by omega, by omega, h.2, h.1⟩
        · refine .inl ⟨by rw [h1, p1, if_neg (mt hc.1 h)]; rfl, fun a b ha hb => ?_⟩
          by_cases e : a = k
          · subst e
            by_cases e2 : b = a
            · subst e2; exact fun q => h ⟨q.2, q.1⟩
            · exact p2 b (by omega)
          · exact h2 a b (by omega) hb
      · refine .inr ⟨?_, k, b, by omega, by omega, p2, p3⟩
        rw [h1, p1, if_neg (mt hc.1 ?_)]
        · rfl
        · rintro ⟨h, _⟩
          have := pairM_inj (by omega) (by omega) (p3.symm.trans h)
          omega
    · have e1 : pairK x l s k k = [] := by
        rcases hp with ⟨p1, _⟩ | ⟨_, b', hb', _, p3⟩
        · exact p1
        · have := pairM_inj hb (by omega) (h3.symm.trans p3); omega
      refine .inr ⟨?_, a, b, by omega, hb, h2, h3⟩
      rw [h1, e1, if_neg (mt hc.1 ?_)]
      · rfl
      · rintro ⟨h, _⟩
        have := pairM_inj hb (by omega) (h3.symm.trans h)
        omega
theorem setK_law {x : Tbl} {l : List Int} (h8 : x.kinds.length ≤ 8) : ∀ k, (setK x l k).Pairwise (· < ·) ∧ ∀ s, s ∈ setK x l k ↔ (1 ≤ s ∧ s ≤ k) ∧ ∃ a b, a < x.kinds.length ∧ b ≤ a ∧ okP x l a b ∧ s = pairM a b
  | 0 => ⟨List.Pairwise.nil, fun s => by simp; omega⟩
  | k + 1 => by
    obtain ⟨h1, h2⟩ := setK_law h8 k
    rw [setK]
    rcases kindK_form (x := x) (l := l) (s := (k : Int) + 1) x.kinds.length h8 with ⟨p1, p2⟩ | ⟨p1, p2⟩
    · rw [p1, List.append_nil]
      refine ⟨h1, fun s => ?_⟩
      rw [h2]
      constructor
      · rintro ⟨⟨q0, q1⟩, q⟩; exact ⟨⟨q0, by omega⟩, q⟩
      · rintro ⟨⟨q0, q1⟩, a, b, ha, hb, q, e⟩
        refine ⟨⟨q0, ?_⟩, a, b, ha, hb, q, e⟩
        by_cases e2 : s = (k : Int) + 1
        · subst e2; exact absurd ⟨q, e⟩ (p2 a b ha hb)
        · omega
    · rw [p1]
      refine ⟨List.pairwise_append.2 ⟨h1, List.pairwise_singleton _ _, fun a ha b hb => ?_⟩, fun s => ?_⟩
      · have := (setK_mem a ha).2
        rw [List.mem_singleton] at hb; omega
      · rw [List.mem_append, h2, List.mem_singleton]
        constructor
        · rintro (⟨⟨q0, q1⟩, q⟩ | rfl)
          · exact ⟨⟨q0, by omega⟩, q⟩
          · exact ⟨⟨by omega, by omega⟩, p2⟩
        · rintro ⟨⟨q0, q1⟩, q⟩
          by_cases e2 : s = (k : Int) + 1
          · exact .inr e2
          · exact .inl ⟨⟨q0, by omega⟩, q⟩
theorem sets_iff {x : Tbl} {l : List Int} (h8 : x.kinds.length ≤ 8) (s : Int) : s ∈ setsOf (mixL x l) ↔ ∃ a b, a < x.kinds.length ∧ b ≤ a ∧ okP x l a b ∧ s = pairM a b := by
  have hmask : ∀ m ∈ mixL x l, ∃ a b : Nat, a < x.kinds.length ∧ b ≤ a ∧ okP x l a b ∧ maskV m = pairM a b := fun m hm => by
    obtain ⟨a, b, ha, hb, h⟩ := mix_mem.1 hm
    refine ⟨a, b, ha, hb, mix_ok.1 ⟨m, h⟩, ?_⟩
    obtain ⟨rfl, _⟩ := mix_at h
    rfl
  rw [sets_mem fun m hm => by
    obtain ⟨a, b, ha, hb, _, e⟩ := hmask m hm
    have := (or_lt a (by omega) b (by omega)).2
    rw [e]; unfold pairM; omega]
  rw [List.mem_map]
  constructor
  · rintro ⟨m, hm, rfl⟩
    exact hmask m hm
  · rintro ⟨a, b, ha, hb, h, rfl⟩
    obtain ⟨m, hm⟩ := mix_ok.2 h
    refine ⟨m, mix_mem.2 ⟨a, b, ha, hb, hm⟩, ?_⟩
    obtain ⟨rfl, _⟩ := mix_at hm
    rfl
theorem pairM_bd {n a b : Nat} (hn : n ≤ 8) (ha : a < n) (hb : b ≤ a) : 1 ≤ pairM a b ∧ pairM a b ≤ ((2 ^ n - 1 : Nat) : Int) := by
  have h1 : 2 ^ a < 2 ^ n := Nat.pow_lt_pow_right (by omega) ha
  have h2 : 2 ^ b < 2 ^ n := Nat.pow_lt_pow_right (by omega) (show b < n by omega)
  have h3 := Nat.or_lt_two_pow (n := n) h1 h2
  have h4 : 2 ^ a ≤ (2 ^ a ||| 2 ^ b) := Nat.left_le_or
  have h5 : 1 ≤ 2 ^ a := Nat.one_le_two_pow
  unfold pairM; omega
theorem all_eq {x : Tbl} {l : List Int} (h8 : x.kinds.length ≤ 8) : setsOf (mixL x l) = allR x l := by
  obtain ⟨h1, h2⟩ := setK_law (x := x) (l := l) h8 (2 ^ x.kinds.length - 1)
  have hp := sets_pair (mixL x l)
  have hperm : (setsOf (mixL x l)).Perm (allR x l) := (List.perm_ext_iff_of_nodup (hp.imp fun h e => by omega) (h1.imp fun h e => by omega)).2 fun s => by
    rw [sets_iff h8]
    rw [h2]
    constructor
    · rintro ⟨a, b, ha, hb, h, rfl⟩
      exact ⟨pairM_bd h8 ha hb, a, b, ha, hb, h, rfl⟩
    · exact fun h => h.2
  exact List.Perm.eq_of_pairwise (le := fun a b : Int => a < b) (fun a b _ _ h1 h2 => by omega) hp h1 hperm
theorem sets_eq (x : Tbl) (l : List Int) : setsP x l = setsR x l := by
  unfold setsP setsR
  split
  · rfl
  · rename_i h
    rw [all_eq (fine_of (okR_of (show okR x l by unfold okR; omega)).1).k8]
theorem with_eq (x : Tbl) (l : List Int) : withP x l = withR x l := by
  unfold withP withR
  split
  · rfl
  · rename_i h
    rw [all_eq (fine_of (okR_of (show okR x l by unfold okR; omega)).1).k8]
end Go.Proofs.YtkldmnladkcfeaaGreatDoor
namespace Go.Proofs.YtkldmnladkcfeaaGreatDoor
open Go.RowKit
set_option linter.unusedSimpArgs false
set_option linter.unusedVariables false
def HullOf (S : Int → Prop) (o : Spn) : Prop := (∀ v, S v → o.lo ≤ v ∧ v ≤ o.hi) ∧ ((o = ⟨1001, -1⟩ ∧ ∀ v, ¬ S v) ∨ (S o.lo ∧ S o.hi))
theorem hull_nil : HullOf (fun _ => False) ⟨1001, -1⟩ := ⟨fun _ h => h.elim, .inl ⟨rfl, fun _ h => h⟩⟩
theorem hull_uniq {S : Int → Prop} {o o' : Spn} (h : HullOf S o) (h' : HullOf S o') : o = o' := by
  obtain ⟨a, b⟩ := o
  obtain ⟨a', b'⟩ := o'
  obtain ⟨h1, h2⟩ := h
  obtain ⟨h3, h4⟩ := h'
  rcases h2 with ⟨e, h2⟩ | ⟨h2, h5⟩
  · rcases h4 with ⟨e', _⟩ | ⟨h4, _⟩
    · rw [e, e']
    · exact absurd h4 (h2 _)
  · rcases h4 with ⟨_, h4⟩ | ⟨h4, h6⟩
    · exact absurd h2 (h4 _)
    · have q1 := h1 _ h4
      have q2 := h1 _ h6
      have q3 := h3 _ h2
      have q4 := h3 _ h5
      simp only at q1 q2 q3 q4
      rw [show a = a' by omega, show b = b' by omega]
theorem hull_iff {S T : Int → Prop} {o : Spn} (h : HullOf S o) (e : ∀ v, S v ↔ T v) : HullOf T o := by
  have : S = T := funext fun v => propext (e v)
  rw [← this]; exact h
def joinS (o t : Spn) : Spn := ⟨min o.lo t.lo, max o.hi t.hi⟩
theorem hull_join {S T : Int → Prop} {o t : Spn} (h : HullOf S o) (hl : T t.lo) (hh : T t.hi) (hT : ∀ v, T v → t.lo ≤ v ∧ v ≤ t.hi) (b0 : 0 ≤ t.lo) (b1 : t.hi ≤ 1000) : HullOf (fun v => S v ∨ T v) (joinS o t) := by
  obtain ⟨a, b⟩ := o
  obtain ⟨c, d⟩ := t
  obtain ⟨h1, h2⟩ := h
  have hcd := hT _ hl
  simp only at hcd hl hh b0 b1 h2
  refine ⟨fun v hv => ?_, .inr ⟨?_, ?_⟩⟩
  · unfold joinS
    simp only
    rcases hv with hv | hv
    · have := h1 v hv; simp only at this; omega
    · have := hT v hv; simp only at this; omega
  · unfold joinS
    simp only
    rcases h2 with ⟨e, _⟩ | ⟨h2, _⟩
    · simp only [Spn.mk.injEq] at e
      exact .inr (by rw [show min a c = c by omega]; exact hl)
    · rcases Int.le_total a c with q | q
      · exact .inl (by rw [show min a c = a by omega]; exact h2)
      · exact .inr (by rw [show min a c = c by omega]; exact hl)
  · unfold joinS
    simp only
    rcases h2 with ⟨e, _⟩ | ⟨_, h2⟩
    · simp only [Spn.mk.injEq] at e
      exact .inr (by rw [show max b d = d by omega]; exact hh)
    · rcases Int.le_total d b with q | q
      · exact .inl (by rw [show max b d = b by omega]; exact h2)
      · exact .inr (by rw [show max b d = d by omega]; exact hh)
theorem hull_eq (o s : Spn) : hullV o s = joinS o s := by
  unfold hullV joinS
  congr 1
  · split <;> omega
  · split <;> omega
def partOf (kind : Int) (a b : Nat) (n : Int) : Int := if kind = a then n else if kind = b then 1000 - n else 0
def SP (x : Tbl) (l : List Int) (kind : Int) (v : Int) : Prop := ∃ a b : Nat, ∃ n : Int, a < x.kinds.length ∧ b ≤ a ∧ (loV a b ≤ n ∧ n ≤ hiV a b) ∧ explB x l a b n = true ∧ v = partOf kind a b n
def mixT (x : Tbl) (l : List Int) (kind : Int) (m : Mix) (v : Int) : Prop := ∃ a b : Nat, ∃ n : Int, m.a = a ∧ m.b = b ∧ (loV a b ≤ n ∧ n ≤ hiV a b) ∧ explB x l a b n = true ∧ v = partOf kind a b n
theorem side_at (kind : Int) (a b : Nat) (s : Spn) : sideV kind ⟨a, b, s⟩ = if kind = a then s else if kind = b then ⟨1000 - s.hi, 1000 - s.lo⟩ else ⟨0, 0⟩ := rfl
theorem mixT_side {x : Tbl} {l : List Int} (kind : Int) {m : Mix} (h : m ∈ mixL x l) : (mixT x l kind m (sideV kind m).lo ∧ mixT x l kind m (sideV kind m).hi ∧ ∀ v, mixT x l kind m v → (sideV kind m).lo ≤ v ∧ v ≤ (sideV kind m).hi) ∧ 0 ≤ (sideV kind m).lo ∧ (sideV kind m).hi ≤ 1000 := by
  obtain ⟨a, b, ha, hb, h⟩ := mix_mem.1 h
  obtain ⟨rfl, hle⟩ := mix_at h
  have key : ∀ n, inS (ptsV x l a b (loV a b) (hiV a b)) n ↔ _ := fun n => ptsV_iff
  obtain ⟨q1, q2, q3, q4⟩ := lohi_bd a b
  simp only at hle
  rw [side_at]
  generalize hs : ptsV x l a b (loV a b) (hiV a b) = s at *
  obtain ⟨sl, sh⟩ := s
  unfold inS at key
  simp only at key hle ⊢
  obtain ⟨⟨k1, k2⟩, k3⟩ := (key sl).1 ⟨Int.le_refl _, hle⟩
  obtain ⟨⟨k4, k5⟩, k6⟩ := (key sh).1 ⟨hle, Int.le_refl _⟩
  have hb : ∀ v, mixT x l kind ⟨a, b, ⟨sl, sh⟩⟩ v → ∃ n, (sl ≤ n ∧ n ≤ sh) ∧ v = partOf kind a b n := by
    rintro v ⟨a', b', n, e1, e2, hn, he, rfl⟩
    simp only [Int.natCast_inj] at e1 e2
    subst e1; subst e2
    exact ⟨n, (key n).2 ⟨hn, he⟩, rfl⟩
  have hlo : mixT x l kind ⟨a, b, ⟨sl, sh⟩⟩ (partOf kind a b sl) := ⟨a, b, sl, rfl, rfl, ⟨k1, k2⟩, k3, rfl⟩
  have hhi : mixT x l kind ⟨a, b, ⟨sl, sh⟩⟩ (partOf kind a b sh) := ⟨a, b, sh, rfl, rfl, ⟨k4, k5⟩, k6, rfl⟩
  by_cases c1 : kind = a
  · have e : ∀ n, partOf kind a b n = n := fun n => if_pos c1
    rw [e] at hlo hhi
    rw [if_pos c1]
    refine ⟨⟨hlo, hhi, fun v hv => ?_⟩, by simp only; omega, by simp only; omega⟩
    obtain ⟨n, hn, rfl⟩ := hb v hv
    rw [e]; exact hn
  · by_cases c2 : kind = b
    · have e : ∀ n, partOf kind a b n = 1000 - n := fun n => by unfold partOf; rw [if_neg c1, if_pos c2]
      rw [e] at hlo hhi
      rw [if_neg c1, if_pos c2]
      refine ⟨⟨hhi, hlo, fun v hv => ?_⟩, by simp only; omega, by simp only; omega⟩
      obtain ⟨n, hn, rfl⟩ := hb v hv
      rw [e]; simp only; omega
    · have e : ∀ n, partOf kind a b n = 0 := fun n => by unfold partOf; rw [if_neg c1, if_neg c2]
      rw [e] at hlo hhi
      rw [if_neg c1, if_neg c2]
      refine ⟨⟨hlo, hlo, fun v hv => ?_⟩, by simp only; omega, by simp only; omega⟩
      obtain ⟨n, hn, rfl⟩ := hb v hv
      rw [e]; simp
theorem fold_hull {x : Tbl} {l : List Int} (kind : Int) : ∀ (L : List Mix), (∀ m ∈ L, m ∈ mixL x l) → ∀ (S : Int → Prop) (o : Spn), HullOf S o → HullOf (fun v => S v ∨ ∃ m, m ∈ L ∧ mixT x l kind m v) (L.foldl (soldF kind) o)
  | [], _, S, o, h => hull_iff h fun v => by simp
  | m :: t, hL, S, o, h => by
    obtain ⟨⟨p1, p2, p3⟩, p4, p5⟩ := mixT_side kind (hL m (by simp))
    have h1 : HullOf (fun v => S v ∨ mixT x l kind m v) (soldF kind o m) := hull_join h p1 p2 p3 p4 p5
    have h2 := fold_hull kind t (fun m hm => hL m (by simp [hm])) _ _ h1
    refine hull_iff h2 fun v => ?_
    constructor
    · rintro ((q | q) | ⟨m', q1, q2⟩)
      · exact .inl q
      · exact .inr ⟨m, by simp, q⟩
      · exact .inr ⟨m', by simp [q1], q2⟩
    · rintro (q | ⟨m', q1, q2⟩)
      · exact .inl (.inl q)
      · rcases List.mem_cons.1 q1 with rfl | q1
        · exact .inl (.inr q2)
        · exact .inr ⟨m', q1, q2⟩
theorem sold_prog (x : Tbl) (l : List Int) (kind : Int) : HullOf (SP x l kind) (soldL kind (mixL x l)) := by
  refine hull_iff (fold_hull (x := x) (l := l) kind (mixL x l) (fun m h => h) _ _ hull_nil) fun v => ?_
  constructor
  · rintro (q | ⟨m, hm, a, b, n, e1, e2, hn, he, rfl⟩)
    · exact q.elim
    · obtain ⟨a', b', ha, hb, h⟩ := mix_mem.1 hm
      obtain ⟨rfl, _⟩ := mix_at h
      simp only [Int.natCast_inj] at e1 e2
      subst e1; subst e2
      exact ⟨a', b', n, ha, hb, hn, he, rfl⟩
  · rintro ⟨a, b, n, ha, hb, hn, he, rfl⟩
    obtain ⟨m, hm⟩ := mix_ok.2 (okP_iff.2 ⟨n, hn, he⟩)
    refine .inr ⟨m, mix_mem.2 ⟨a, b, ha, hb, hm⟩, a, b, n, ?_, ?_, hn, he, rfl⟩
    · obtain ⟨rfl, _⟩ := mix_at hm; rfl
    · obtain ⟨rfl, _⟩ := mix_at hm; rfl
def adjN (kind : Int) (a b : Nat) (n : Int) : Int := if ¬ (a : Int) = kind ∧ (¬ (b : Int) = kind ∨ a = b) then 0 else if ¬ (a : Int) = kind then 1000 - n else if (b : Int) = kind then 1000 else n
def pairT (x : Tbl) (l : List Int) (kind : Int) (a b : Nat) (v : Int) : Prop := ∃ n : Int, (1 ≤ n ∧ n ≤ 1000) ∧ explB x l a b n = true ∧ v = adjN kind a b n
theorem pairT_adj {x : Tbl} {l : List Int} (kind : Int) {a b : Nat} (h : (partsR x l a b 1 1000).2 = true) : (pairT x l kind a b (adjV kind a b (partsR x l a b 1 1000).1).lo ∧ pairT x l kind a b (adjV kind a b (partsR x l a b 1 1000).1).hi ∧ ∀ v, pairT x l kind a b v → (adjV kind a b (partsR x l a b 1 1000).1).lo ≤ v ∧ v ≤ (adjV kind a b (partsR x l a b 1 1000).1).hi) ∧ 0 ≤ (adjV kind a b (partsR x l a b 1 1000).1).lo ∧ (adjV kind a b (partsR x l a b 1 1000).1).hi ≤ 1000 := by
  rcases parts_eq x l a b 1 1000 with ⟨_, h2, h3⟩ | ⟨h1, _⟩
  · rw [h2]
    have key : ∀ n, inS (ptsV x l a b 1 1000) n ↔ _ := fun n => ptsV_iff
    generalize ptsV x l a b 1 1000 = s at *
    obtain ⟨sl, sh⟩ := s
    unfold inS at key
    simp only at key h3 ⊢
    obtain ⟨⟨k1, k2⟩, k3⟩ := (key sl).1 ⟨Int.le_refl _, h3⟩
    obtain ⟨⟨k4, k5⟩, k6⟩ := (key sh).1 ⟨h3, Int.le_refl _⟩
    have hb : ∀ v, pairT x l kind a b v → ∃ n, (sl ≤ n ∧ n ≤ sh) ∧ v = adjN kind a b n := by
      rintro v ⟨n, hn, he, rfl⟩
      exact ⟨n, (key n).2 ⟨hn, he⟩, rfl⟩
    have hlo : pairT x l kind a b (adjN kind a b sl) := ⟨sl, ⟨k1, k2⟩, k3, rfl⟩
    have hhi : pairT x l kind a b (adjN kind a b sh) := ⟨sh, ⟨k4, k5⟩, k6, rfl⟩
    unfold adjV
    unfold adjN at hb hlo hhi
    split
    · rename_i c
      rw [if_pos c] at hlo hhi
      refine ⟨⟨hlo, hlo, fun v hv => ?_⟩, by simp only; omega, by simp only; omega⟩
      obtain ⟨n, hn, e⟩ := hb v hv
      rw [if_pos c] at e
      simp only; omega
    · rename_i c
      rw [if_neg c] at hlo hhi
      split
      · rename_i c2
        rw [if_pos c2] at hlo hhi
        refine ⟨⟨hhi, hlo, fun v hv => ?_⟩, by simp only; omega, by simp only; omega⟩
        obtain ⟨n, hn, e⟩ := hb v hv
        rw [if_neg c, if_pos c2] at e
        simp only; omega
      · rename_i c2
        rw [if_neg c2] at hlo hhi
        split
        · rename_i c3
          rw [if_pos c3] at hlo hhi
          refine ⟨⟨hlo, hlo, fun v hv => ?_⟩, by simp only; omega, by simp only; omega⟩
          obtain ⟨n, hn, e⟩ := hb v hv
          rw [if_neg c, if_neg c2, if_pos c3] at e
          simp only; omega
        · rename_i c3
          rw [if_neg c3] at hlo hhi
          refine ⟨⟨hlo, hhi, fun v hv => ?_⟩, by simp only; omega, by simp only; omega⟩
          obtain ⟨n, hn, e⟩ := hb v hv
          rw [if_neg c, if_neg c2, if_neg c3] at e
          simp only; omega
  · rw [h1] at h; cases h
theorem pairT_none {x : Tbl} {l : List Int} (kind : Int) {a b : Nat} (h : ¬ (partsR x l a b 1 1000).2 = true) (v : Int) : ¬ pairT x l kind a b v := by
  rintro ⟨n, hn, he, _⟩
  rcases parts_eq x l a b 1 1000 with ⟨h1, _⟩ | ⟨h1, h2⟩
  · exact h h1
  · have := ptsV_iff.2 ⟨hn, he⟩
    unfold inS at this
    omega
theorem soldB_hull {x : Tbl} {l : List Int} (kind : Int) (a : Nat) {S : Int → Prop} {o : Spn} (h : HullOf S o) : ∀ k, HullOf (fun v => S v ∨ ∃ b, b < k ∧ pairT x l kind a b v) (soldB x l kind a o k)
  | 0 => hull_iff h fun v => by simp
  | k + 1 => by
    have ih := soldB_hull (x := x) (l := l) kind a h k
    rw [soldB]
    have hiff : ∀ v, ((S v ∨ ∃ b, b < k ∧ pairT x l kind a b v) ∨ pairT x l kind a k v) ↔ (S v ∨ ∃ b, b < k + 1 ∧ pairT x l kind a b v) := fun v => by
      constructor
      · rintro ((q | ⟨b, hb, q⟩) | q)
        · exact .inl q
        · exact .inr ⟨b, by omega, q⟩
        · exact .inr ⟨k, by omega, q⟩
      · rintro (q | ⟨b, hb, q⟩)
        · exact .inl (.inl q)
        · by_cases e : b = k
          · subst e; exact .inr q
          · exact .inl (.inr ⟨b, by omega, q⟩)
    split
    · rename_i hp
      obtain ⟨⟨p1, p2, p3⟩, p4, p5⟩ := pairT_adj kind hp
      rw [hull_eq]
      exact hull_iff (hull_join ih p1 p2 p3 p4 p5) hiff
    · rename_i hp
      refine hull_iff ih fun v => ?_
      rw [← hiff v]
      exact ⟨.inl, fun q => q.resolve_right (pairT_none kind hp v)⟩
theorem soldA_hull (x : Tbl) (l : List Int) (kind : Int) : ∀ k, HullOf (fun v => ∃ a b, a < k ∧ b < x.kinds.length ∧ pairT x l kind a b v) (soldA x l kind k)
  | 0 => hull_iff hull_nil fun v => by simp
  | k + 1 => by
    rw [soldA]
    refine hull_iff (soldB_hull (x := x) (l := l) kind k (soldA_hull x l kind k) x.kinds.length) fun v => ?_
    constructor
    · rintro (⟨a, b, ha, hb, q⟩ | ⟨b, hb, q⟩)
      · exact ⟨a, b, by omega, hb, q⟩
      · exact ⟨k, b, by omega, hb, q⟩
    · rintro ⟨a, b, ha, hb, q⟩
      by_cases e : a = k
      · subst e; exact .inr ⟨b, hb, q⟩
      · exact .inl ⟨a, b, by omega, hb, q⟩
theorem val_swap (x : Tbl) (p a b : Nat) (n : Int) : valV x p b a (1000 - n) = valV x p a b n := by
  unfold valV
  rw [show (1000 : Int) - (1000 - n) = n by omega]
  rw [Int.add_comm (n * (rngV x a p).lo), Int.add_comm (n * (rngV x a p).hi)]
theorem expl_swap {x : Tbl} {l : List Int} {a b : Nat} {n : Int} : explB x l b a (1000 - n) = explB x l a b n := by
  unfold explB explAt
  simp only [val_swap]
theorem val_pure (x : Tbl) (p a b : Nat) : valV x p a b 1000 = valV x p a a 1000 := by
  unfold valV; simp
theorem expl_pure {x : Tbl} {l : List Int} {a b : Nat} : explB x l a b 1000 = explB x l a a 1000 := by
  unfold explB explAt
  simp only [val_pure x _ a b]
theorem val_self (x : Tbl) (p a : Nat) (n : Int) : valV x p a a n = valV x p a a 1000 := by
  unfold valV
  have : ∀ c : Int, n * c + (1000 - n) * c = 1000 * c + (1000 - 1000) * c := fun c => by rw [← Int.add_mul, ← Int.add_mul]; congr 1; omega
  rw [this, this]
theorem expl_self {x : Tbl} {l : List Int} {a : Nat} {n : Int} : explB x l a a n = explB x l a a 1000 := by
  unfold explB explAt
  simp only [val_self x _ a n]
theorem same_parts (x : Tbl) (l : List Int) (kind : Int) (v : Int) : SP x l kind v ↔ ∃ a b, a < x.kinds.length ∧ b < x.kinds.length ∧ pairT x l kind a b v := by
  constructor
  · rintro ⟨a, b, n, ha, hb, hn, he, rfl⟩
    refine ⟨a, b, ha, by omega, n, ?_, he, ?_⟩
    · unfold loV hiV at hn; split at hn <;> omega
    · unfold partOf adjN
      unfold loV hiV at hn
      split at hn
      · rename_i e; subst e
        by_cases c : kind = a
        · subst c; simp; omega
        · have c' : ¬ (a : Int) = kind := fun e => c e.symm
          rw [if_neg c, if_neg c, if_pos ⟨c', .inr rfl⟩]
      · rename_i e
        by_cases c : kind = a
        · subst c
          have c2 : ¬ (b : Int) = (a : Int) := fun e2 => e (by omega)
          rw [if_pos rfl, if_neg (fun q => q.1 rfl), if_neg (fun q => q rfl), if_neg c2]
        · have c' : ¬ (a : Int) = kind := fun e => c e.symm
          by_cases c2 : kind = b
          · subst c2
            rw [if_neg c, if_pos rfl, if_neg (fun q => q.2.elim (fun h => h rfl) e), if_pos c']
          · have c2' : ¬ (b : Int) = kind := fun e => c2 e.symm
            rw [if_neg c, if_neg c2, if_pos ⟨c', .inl c2'⟩]
  · rintro ⟨a, b, ha, hb, n, hn, he, rfl⟩
    by_cases e : a = b
    · subst e
      rw [expl_self] at he
      refine ⟨a, a, 1000, ha, Nat.le_refl _, by simp [loV, hiV], he, ?_⟩
      unfold adjN partOf
      by_cases c : kind = a
      · subst c; simp
      · have c' : ¬ (a : Int) = kind := fun e => c e.symm
        rw [if_neg c, if_neg c, if_pos ⟨c', .inr rfl⟩]
    · have hadj : adjN kind a b n = if kind = a then n else if kind = b then 1000 - n else 0 := by
        unfold adjN
        by_cases c : kind = a
        · subst c
          have c2 : ¬ (b : Int) = (a : Int) := fun e2 => e (by omega)
          rw [if_neg (fun q => q.1 rfl), if_neg (fun q => q rfl), if_neg c2, if_pos rfl]
        · have c' : ¬ (a : Int) = kind := fun e => c e.symm
          by_cases c2 : kind = b
          · subst c2
            rw [if_neg (fun q => q.2.elim (fun h => h rfl) e), if_pos c', if_neg c, if_pos rfl]
          · have c2' : ¬ (b : Int) = kind := fun e => c2 e.symm
            rw [if_pos ⟨c', .inl c2'⟩, if_neg c, if_neg c2]
      rw [hadj]
      by_cases hn1 : n = 1000
      · subst hn1
        rw [expl_pure] at he
        refine ⟨a, a, 1000, ha, Nat.le_refl _, by simp [loV, hiV], he, ?_⟩
        unfold partOf
        split
        · rfl
        · split
          · rfl
          · rfl
      · by_cases hba : b < a
        · exact ⟨a, b, n, ha, by omega, ⟨by unfold loV; rw [if_neg e]; omega, by unfold hiV; rw [if_neg e]; omega⟩, he, rfl⟩
        · have e' : ¬ b = a := fun q => e q.symm
          rw [← expl_swap] at he
          refine ⟨b, a, 1000 - n, hb, by omega, ⟨by unfold loV; rw [if_neg e']; omega, by unfold hiV; rw [if_neg e']; omega⟩, he, ?_⟩
          unfold partOf
          by_cases c : kind = a
          · subst c
            have c2 : ¬ (a : Int) = (b : Int) := fun e2 => e (by omega)
            rw [if_pos rfl, if_neg c2, if_pos rfl]; omega
          · by_cases c2 : kind = b
            · subst c2; simp [c]
            · rw [if_neg c, if_neg c2, if_neg c2, if_neg c]
theorem sold_eq (x : Tbl) (l : List Int) (kind : Int) : soldP x l kind = soldR x l kind := by
  unfold soldP soldR
  have h := hull_uniq (sold_prog x l kind) (hull_iff (soldA_hull x l kind x.kinds.length) fun v => (same_parts x l kind v).symm)
  rw [h]
end Go.Proofs.YtkldmnladkcfeaaGreatDoor
