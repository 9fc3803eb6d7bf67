/-
  How the program searches for the fewest dips, plainly: what was tried in vain is kept in a map. No program here. Conditions: none.
-/
import Derived.Test.YtcgacojnfkklaaaGreatDoorZFewB
namespace Go.Proofs.YtcgacojnfkklaaaGreatDoor
open Go.RowKit
set_option linter.unusedSimpArgs false
set_option linter.unusedVariables false
def encM (M : List (Value × Int)) : List (Value × Value) := M.map fun e => (e.1, .int .i64 e.2)
def lookI : List (Value × Int) → Value → Int
  | [], _ => 0
  | (k, n) :: t, x => if eqK k x then n else lookI t x
theorem look_enc : ∀ (M : List (Value × Int)) (k : Value), (lookM (encM M) k).getD (.int .i64 0) = .int .i64 (lookI M k)
  | [], k => rfl
  | (a, n) :: t, k => by
    simp only [encM, List.map_cons, lookM, lookI]
    split
    · rfl
    · exact look_enc t k
theorem encM_inj {M M' : List (Value × Int)} (h : encM M = encM M') : M = M' := by
  refine (List.map_inj_right fun a b hab => ?_).1 h
  obtain ⟨k, n⟩ := a
  obtain ⟨k', n'⟩ := b
  simp only [Prod.mk.injEq, Value.int.injEq, true_and] at hab
  rw [hab.1, hab.2]
def cntP (p : List Nat) : Cnt := ⟨(p.count 0 : Nat), (p.count 1 : Nat), (p.count 2 : Nat), (p.count 3 : Nat), (p.count 4 : Nat)⟩
def cntV (p : List Nat) : List Value := [.int .i64 (p.count 0 : Nat), .int .i64 (p.count 1 : Nat), .int .i64 (p.count 2 : Nat), .int .i64 (p.count 3 : Nat), .int .i64 (p.count 4 : Nat)]
def keyN (p : List Nat) (n : Nat) : Value := .agg (cntV p ++ [Value.int .i64 (n : Nat)]).toArray
theorem with_cnt {p : List Nat} {j : Nat} (hj : j < 5) : withV (cntP p) j = [.int .i64 j, .agg (cntV (p ++ [j])).toArray] := by
  rcases (by omega : j = 0 ∨ j = 1 ∨ j = 2 ∨ j = 3 ∨ j = 4) with rfl | rfl | rfl | rfl | rfl <;> simp [withV, cntP, cntV, Cnt.l]
theorem keyN_inj {p q : List Nat} {n m : Nat} (h : keyN p n = keyN q m) : n = m ∧ ∀ k, k < 5 → p.count k = q.count k := by
  simp only [keyN, cntV, List.cons_append, List.nil_append, Value.agg.injEq, Array.mk.injEq, List.cons.injEq, Value.int.injEq, true_and, and_true] at h
  obtain ⟨h0, h1, h2, h3, h4, h5⟩ := h
  refine ⟨by omega, fun k hk => ?_⟩
  rcases (by omega : k = 0 ∨ k = 1 ∨ k = 2 ∨ k = 3 ∨ k = 4) with rfl | rfl | rfl | rfl | rfl <;> omega
theorem count_perm {p q : List Nat} (h1 : ∀ k ∈ p, k < 5) (h2 : ∀ k ∈ q, k < 5) (h : ∀ k, k < 5 → p.count k = q.count k) : p.Perm q := by
  rw [List.perm_iff_count]
  intro k
  by_cases hk : k < 5
  · exact h k hk
  · rw [List.count_eq_zero.2 fun hm => hk (h1 k hm), List.count_eq_zero.2 fun hm => hk (h2 k hm)]
def loopM {α S : Type} (f : Nat → S → Option α × S) : Nat → Nat → S → Option α × S
  | _, 0, v => (none, v)
  | k, n + 1, v => match f k v with
    | (some a, v') => (some a, v')
    | (none, v') => loopM f (k + 1) n v'
def restM {α S : Type} (f : Nat → S → Option α × S) (v : S) : Nat → S
  | 0 => v
  | j + 1 => (f j (restM f v j)).2
theorem loopM_from {α S : Type} (f : Nat → S → Option α × S) (v : S) : ∀ (n k : Nat), ((∀ j, k ≤ j → j < k + n → (f j (restM f v j)).1 = none) ∧ loopM f k n (restM f v k) = (none, restM f v (k + n))) ∨ ∃ j a, (k ≤ j ∧ j < k + n) ∧ (∀ i, k ≤ i → i < j → (f i (restM f v i)).1 = none) ∧ (f j (restM f v j)).1 = some a ∧ loopM f k n (restM f v k) = (some a, restM f v (j + 1))
  | 0, k => .inl ⟨fun j h1 h2 => by omega, rfl⟩
  | n + 1, k => by
    cases hf : f k (restM f v k) with
    | mk r s =>
      have hs : restM f v (k + 1) = s := by simp only [restM, hf]
      cases r with
      | some a => exact .inr ⟨k, a, ⟨Nat.le_refl _, by omega⟩, fun i h1 h2 => by omega, by rw [hf], by rw [hs]; simp only [loopM, hf]⟩
      | none =>
        have hl : loopM f k (n + 1) (restM f v k) = loopM f (k + 1) n (restM f v (k + 1)) := by rw [hs]; simp only [loopM, hf]
        rw [hl]
        rcases loopM_from f v n (k + 1) with ⟨h1, h2⟩ | ⟨j, a, h1, h2, h3, h4⟩
        · refine .inl ⟨fun j q1 q2 => ?_, by rw [h2, show k + 1 + n = k + (n + 1) by omega]⟩
          by_cases e : j = k
          · subst e; rw [hf]
          · exact h1 j (by omega) (by omega)
        · refine .inr ⟨j, a, by omega, fun i q1 q2 => ?_, h3, h4⟩
          by_cases e : i = k
          · subst e; rw [hf]
          · exact h2 i (by omega) q2
theorem loopM_cases {α S : Type} (f : Nat → S → Option α × S) (v : S) (n : Nat) : ((∀ j, j < n → (f j (restM f v j)).1 = none) ∧ loopM f 0 n v = (none, restM f v n)) ∨ ∃ j a, j < n ∧ (∀ i, i < j → (f i (restM f v i)).1 = none) ∧ (f j (restM f v j)).1 = some a ∧ loopM f 0 n v = (some a, restM f v (j + 1)) := by
  rcases loopM_from f v n 0 with ⟨h1, h2⟩ | ⟨j, a, h1, h2, h3, h4⟩
  · exact .inl ⟨fun j hj => h1 j (Nat.zero_le _) (by omega), by rw [Nat.zero_add] at h2; exact h2⟩
  · exact .inr ⟨j, a, by omega, fun i hi => h2 i (Nat.zero_le _) hi, h3, h4⟩
theorem loopM_eq {α S : Type} {f : Nat → S → Option α × S} {g : Nat → Option α} {I : S → Prop} : ∀ (n k : Nat) (v : S), I v → (∀ j v, k ≤ j → j < k + n → I v → (f j v).1 = g j ∧ I (f j v).2) → (loopM f k n v).1 = firstK g k n ∧ I (loopM f k n v).2
  | 0, k, v, hv, h => ⟨rfl, hv⟩
  | n + 1, k, v, hv, h => by
    unfold loopM firstK
    obtain ⟨h1, h2⟩ := h k v (Nat.le_refl _) (by omega) hv
    cases hf : f k v with
    | mk a v' =>
      rw [hf] at h1 h2
      simp only at h1 h2
      rw [← h1]
      cases a with
      | some a => exact ⟨rfl, h2⟩
      | none => exact loopM_eq n (k + 1) v' h2 fun j v q1 q2 q3 => h j v (by omega) (by omega) q3
structure Few where
  x : Dsh
  t : Tap
  kinds : List Dip
  want : Spn
  bound : Int
def tryM (E : Few) : Nat → List Nat → List (Value × Int) → Option (List Nat) × List (Value × Int)
  | 0, p, M => if 0 < lookI M (keyN p 0) then (none, M) else if deadP E.x E.t E.kinds p = true then (none, M) else if makesB (rP E.x E.t E.kinds p) E.want E.bound = true then (some p, M) else (none, M)
  | n + 1, p, M => if 0 < lookI M (keyN p (n + 1)) then (none, M) else if deadP E.x E.t E.kinds p = true then (none, M) else
    match loopM (fun k M => tryM E n (p ++ [k]) M) 0 E.kinds.length M with
    | (some a, M') => (some a, M')
    | (none, M') => (none, (keyN p (n + 1), IntKind.i64.wrap (lookI M' (keyN p (n + 1)) + 1)) :: M')
def MOk (E : Few) (M : List (Value × Int)) : Prop := ∀ (p : List Nat) (n : Nat), (∀ k ∈ p, k < E.kinds.length) → 0 < lookI M (keyN p n) → tryP E.x E.t E.kinds E.want E.bound n p = none
theorem mok_nil (E : Few) : MOk E [] := fun p n _ h => by simp [lookI] at h
theorem mok_cons {E : Few} (hk : E.kinds.length ≤ 5) {M : List (Value × Int)} (h : MOk E M) {p : List Nat} {n : Nat} (hp : ∀ k ∈ p, k < E.kinds.length) (ht : tryP E.x E.t E.kinds E.want E.bound n p = none) (v : Int) : MOk E ((keyN p n, v) :: M) := by
  intro q m hq hv
  simp only [lookI] at hv
  split at hv
  · rename_i e
    obtain ⟨rfl, hc⟩ := keyN_inj (eqK_eq e)
    exact tryP_perm E.x E.t E.kinds E.want E.bound n (count_perm (fun k h => by have := hp k h; omega) (fun k h => by have := hq k h; omega) hc) ht
  · exact h q m hq hv
theorem tryM_eq (E : Few) (hk : E.kinds.length ≤ 5) : ∀ (n : Nat) (p : List Nat) (M : List (Value × Int)), (∀ k ∈ p, k < E.kinds.length) → MOk E M → (tryM E n p M).1 = tryP E.x E.t E.kinds E.want E.bound n p ∧ MOk E (tryM E n p M).2
  | 0, p, M, hp, hM => by
    unfold tryM
    split
    · rename_i h; exact ⟨(hM p 0 hp h).symm, hM⟩
    · unfold tryP
      split
      · exact ⟨rfl, hM⟩
      · split <;> exact ⟨rfl, hM⟩
  | n + 1, p, M, hp, hM => by
    unfold tryM
    split
    · rename_i h; exact ⟨(hM p (n + 1) hp h).symm, hM⟩
    · rename_i h0
      split
      · rename_i h; exact ⟨(tryP_dead E.x E.t E.kinds E.want E.bound (n + 1) h).symm, hM⟩
      · rename_i h
        obtain ⟨h1, h2⟩ := loopM_eq (f := fun k M => tryM E n (p ++ [k]) M) (g := fun k => tryP E.x E.t E.kinds E.want E.bound n (p ++ [k])) (I := MOk E) E.kinds.length 0 M hM fun j v q1 q2 q3 => tryM_eq E hk n (p ++ [j]) v (fun k hk => by
          rcases List.mem_append.1 hk with hk | hk
          · exact hp k hk
          · simp at hk; omega) q3
        have ht : tryP E.x E.t E.kinds E.want E.bound (n + 1) p = firstK (fun k => tryP E.x E.t E.kinds E.want E.bound n (p ++ [k])) 0 E.kinds.length := by
          conv => lhs; unfold tryP
          rw [if_neg h]
        rw [ht]
        cases hL : loopM (fun k M => tryM E n (p ++ [k]) M) 0 E.kinds.length M with
        | mk a v' =>
          rw [hL] at h1 h2
          simp only at h1 h2
          cases a with
          | some a => exact ⟨h1, h2⟩
          | none => exact ⟨h1, mok_cons hk h2 hp (by rw [ht]; exact h1.symm) _⟩
def FewOk (E : Few) : Prop := okL E.x E.kinds ∧ tapE E.t = 0 ∧ E.kinds.length ≤ 5 ∧ boundOk E.bound
theorem coat_mono {x : Dsh} {a b n : Int} (hx : Nums x) (hab : a ≤ b) : coatV x b n ≤ coatV x a n := by
  unfold coatV
  have h1 : x.thin * (a - x.melt) ≤ x.thin * (b - x.melt) := Int.mul_le_mul_of_nonneg_left (by omega) hx.t0
  have h2 : x.back * (a - x.melt) ≤ x.back * (b - x.melt) := Int.mul_le_mul_of_nonneg_left (by omega) hx.b0
  have h3 : x.back * (a - x.melt) * max 0 (n - x.hold) ≤ x.back * (b - x.melt) * max 0 (n - x.hold) := Int.mul_le_mul_of_nonneg_right h2 (by omega)
  omega
theorem grown_mono {x : Dsh} {d : Dip} {a b : Int} (hx : Nums x) (hab : a ≤ b) : (grownV x d b).1 ≤ (grownV x d a).1 ∧ (grownV x d b).2 ≤ (grownV x d a).2 := by
  have h1 := coat_mono (n := d.secs) hx hab
  have h2 := coat_mono (n := d.secs - x.draw) hx hab
  unfold grownV
  dsimp only
  split <;> constructor <;> dsimp only <;> omega
def rngLe (r : Rng) : Prop := r.top.lo ≤ r.top.hi ∧ r.foot.lo ≤ r.foot.hi ∧ r.skew.lo ≤ r.skew.hi
def rngBd (r : Rng) (k : Nat) : Prop := ((-25000000 * k ≤ r.top.lo ∧ r.top.lo ≤ 100000 + 25000000 * k) ∧ -25000000 * k ≤ r.top.hi ∧ r.top.hi ≤ 100000 + 25000000 * k) ∧ ((-25000000 * k ≤ r.foot.lo ∧ r.foot.lo ≤ 100000 + 25000000 * k) ∧ -25000000 * k ≤ r.foot.hi ∧ r.foot.hi ≤ 100000 + 25000000 * k) ∧
  (-100000 - 50000000 * k ≤ r.skew.lo ∧ r.skew.lo ≤ 100000 + 50000000 * k) ∧ -100000 - 50000000 * k ≤ r.skew.hi ∧ r.skew.hi ≤ 100000 + 50000000 * k
theorem next_bd {x : Dsh} {r : Rng} {d : Dip} {k : Nat} (hd : okD x d) (h : rngBd r k) (hl : rngLe r) : rngBd (nextR x r d) (k + 1) ∧ rngLe (nextR x r d) := by
  obtain ⟨B, e1, hB, e2, _, g1, g2, g3, _⟩ := okD_bath hd
  obtain ⟨b1, b2, b3, b4⟩ := least_bd hd
  have hm := grown_mono (d := d) (nums_of g1.1.1) g3
  have hs : skewG (leastG x d).1 ≤ skewG (mostG x d).1 := by
    unfold leastG mostG
    split <;> split <;> dsimp only <;> omega
  unfold grwOk at b1 b2 b3 b4
  unfold rngBd at h ⊢
  unfold rngLe at hl ⊢
  have e1 : (coldG x d).top = (grownV x d (warmV x d).lo).1 := rfl
  have e2 : (hotG x d).top = (grownV x d (warmV x d).hi).1 := rfl
  have e3 : (coldG x d).foot = (grownV x d (warmV x d).lo).2 := rfl
  have e4 : (hotG x d).foot = (grownV x d (warmV x d).hi).2 := rfl
  have e5 : skewG (leastG x d).1 = (leastG x d).1.foot - (leastG x d).1.top := rfl
  have e6 : skewG (mostG x d).1 = (mostG x d).1.foot - (mostG x d).1.top := rfl
  simp only [nextR]
  refine ⟨⟨⟨⟨?_, ?_⟩, ?_, ?_⟩, ⟨⟨?_, ?_⟩, ?_, ?_⟩, ⟨?_, ?_⟩, ?_, ?_⟩, ?_, ?_, ?_⟩ <;> omega
theorem rP_bd {E : Few} (hE : FewOk E) : ∀ (n : Nat) (p : List Nat), p.length = n → (∀ k ∈ p, k < E.kinds.length) → rngBd (rP E.x E.t E.kinds p) p.length ∧ rngLe (rP E.x E.t E.kinds p) := by
  intro n
  induction n with
  | zero =>
    intro p hn hp
    have := List.length_eq_zero_iff.1 hn
    subst this
    have := tapE_bd hE.2.1
    simp only [rP, List.foldl_nil, beginV, rngBd, rngLe, List.length_nil]
    refine ⟨⟨⟨⟨?_, ?_⟩, ?_, ?_⟩, ⟨⟨?_, ?_⟩, ?_, ?_⟩, ⟨?_, ?_⟩, ?_, ?_⟩, ?_, ?_, ?_⟩ <;> omega
  | succ n ih =>
    intro p hn hp
    rcases List.eq_nil_or_concat p with rfl | ⟨q, k, rfl⟩
    · simp at hn
    · rw [List.concat_eq_append] at hn hp ⊢
      rw [rP_app]
      obtain ⟨h1, h2⟩ := ih q (by simpa using hn) fun j hj => hp j (by simp [hj])
      have hk := hp k (by simp)
      have hd := okL_at hE.1 k hk
      rw [show kindAt E.kinds k = E.kinds[k] from getD_at _ _ _ hk]
      rw [List.length_append]
      exact next_bd hd h1 h2
theorem rP_ok {E : Few} (hE : FewOk E) {p : List Nat} (hp : ∀ k ∈ p, k < E.kinds.length) (hl : p.length ≤ 10) : rngOk (rP E.x E.t E.kinds p) := by
  have h := (rP_bd hE _ p rfl hp).1
  unfold rngBd at h
  unfold rngOk
  refine ⟨⟨?_, ?_⟩, ⟨?_, ?_⟩, ⟨?_, ?_⟩, ⟨?_, ?_⟩, ⟨?_, ?_⟩, ?_, ?_⟩ <;> omega
theorem makes_out {r : Rng} (h : rngLe r) (s : Spn) (b : Int) : (!outB s.lo s.hi [r.top.lo, r.top.hi, r.foot.lo, r.foot.hi] && !outB (-b) b [r.skew.lo, r.skew.hi]) = makesB r s b := by
  obtain ⟨h1, h2, h3⟩ := h
  rw [Bool.eq_iff_iff]
  simp only [outB, makesB, inR, List.any_cons, List.any_nil, Bool.or_false, Bool.not_or, Bool.not_not, Bool.and_eq_true, decide_eq_true_eq]
  constructor
  · rintro ⟨⟨a, b, c, d⟩, e, f⟩; omega
  · rintro ⟨a, b, c, d, e, f⟩; omega
end Go.Proofs.YtcgacojnfkklaaaGreatDoor
