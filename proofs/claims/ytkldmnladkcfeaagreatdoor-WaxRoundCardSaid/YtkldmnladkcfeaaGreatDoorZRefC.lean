/-
  Reference functions of the wax chapter: Sold, Detect. Conditions: none.
-/
import Derived.Test.YtkldmnladkcfeaaGreatDoorZRefB
import Derived.Lib.ItoaNum
namespace Go.Proofs.YtkldmnladkcfeaaGreatDoor
open Go.RowKit
set_option linter.unusedSimpArgs false
set_option linter.unusedVariables false
theorem partK_spec (q : Int → Bool) (lo : Int) : ∀ k, ((partK q lo k).2 = false ∧ ∀ j : Nat, j < k → q (lo + j) = false) ∨ ∃ i j : Nat, i ≤ j ∧ j < k ∧ partK q lo k = (⟨lo + i, lo + j⟩, true) ∧ q (lo + i) = true ∧ q (lo + j) = true ∧ (∀ n : Nat, n < i → q (lo + n) = false) ∧ ∀ n : Nat, j < n → n < k → q (lo + n) = false
  | 0 => .inl ⟨rfl, fun j h => absurd h (by omega)⟩
  | k + 1 => by
    cases hq : q (lo + k) with
    | false =>
      have e : partK q lo (k + 1) = partK q lo k := by rw [partK, hq]; rfl
      rw [e]
      rcases partK_spec q lo k with ⟨h1, h2⟩ | ⟨i, j, h1, h2, h3, h4, h5, h6, h7⟩
      · refine .inl ⟨h1, fun j hj => ?_⟩
        by_cases hjk : j = k
        · subst hjk; exact hq
        · exact h2 j (by omega)
      · refine .inr ⟨i, j, h1, by omega, h3, h4, h5, h6, fun n hn1 hn2 => ?_⟩
        by_cases hnk : n = k
        · subst hnk; exact hq
        · exact h7 n hn1 (by omega)
    | true =>
      have e : partK q lo (k + 1) = (⟨if (partK q lo k).2 then (partK q lo k).1.lo else lo + k, lo + k⟩, true) := by rw [partK, hq]; rfl
      rcases partK_spec q lo k with ⟨h1, h2⟩ | ⟨i, j, h1, h2, h3, h4, h5, h6, h7⟩
      · refine .inr ⟨k, k, Nat.le_refl _, by omega, by rw [e, h1]; rfl, hq, hq, fun n hn => h2 n hn, fun n h1 h2 => by omega⟩
      · refine .inr ⟨i, k, by omega, by omega, by rw [e, h3]; rfl, h4, hq, h6, fun n h1 h2 => by omega⟩
theorem parts_spec (x : Tbl) (l : List Int) (a b : Nat) (lo hi : Int) : ((partsR x l a b lo hi).2 = false ∧ ∀ n : Int, lo ≤ n → n ≤ hi → explB x l a b n = false) ∨ ∃ u v : Int, lo ≤ u ∧ u ≤ v ∧ v ≤ hi ∧ partsR x l a b lo hi = (⟨u, v⟩, true) ∧ explB x l a b u = true ∧ explB x l a b v = true ∧ (∀ n : Int, lo ≤ n → n < u → explB x l a b n = false) ∧ ∀ n : Int, v < n → n ≤ hi → explB x l a b n = false := by
  unfold partsR
  rcases partK_spec (explB x l a b) lo (hi + 1 - lo).toNat with ⟨h1, h2⟩ | ⟨i, j, h1, h2, h3, h4, h5, h6, h7⟩
  · refine .inl ⟨h1, fun n hn1 hn2 => ?_⟩
    have := h2 (n - lo).toNat (by omega)
    rwa [show lo + ((n - lo).toNat : Int) = n by omega] at this
  · refine .inr ⟨lo + i, lo + j, by omega, by omega, by omega, h3, h4, h5, fun n hn1 hn2 => ?_, fun n hn1 hn2 => ?_⟩
    · have := h6 (n - lo).toNat (by omega)
      rwa [show lo + ((n - lo).toNat : Int) = n by omega] at this
    · have := h7 (n - lo).toNat (by omega) (by omega)
      rwa [show lo + ((n - lo).toNat : Int) = n by omega] at this
def adjV (kind : Int) (a b : Nat) (s : Spn) : Spn :=
  if ¬ (a : Int) = kind ∧ (¬ (b : Int) = kind ∨ a = b) then ⟨0, 0⟩ else if ¬ (a : Int) = kind then ⟨1000 - s.hi, 1000 - s.lo⟩ else if (b : Int) = kind then ⟨1000, 1000⟩ else s
def hullV (o s : Spn) : Spn := ⟨if s.lo < o.lo then s.lo else o.lo, if o.hi < s.hi then s.hi else o.hi⟩
def soldB (x : Tbl) (l : List Int) (kind : Int) (a : Nat) (o : Spn) : Nat → Spn
  | 0 => o
  | b + 1 => if (partsR x l a b 1 1000).2 = true then hullV (soldB x l kind a o b) (adjV kind a b (partsR x l a b 1 1000).1) else soldB x l kind a o b
def soldA (x : Tbl) (l : List Int) (kind : Int) : Nat → Spn
  | 0 => ⟨1001, -1⟩
  | a + 1 => soldB x l kind a (soldA x l kind a) x.kinds.length
@[simp] theorem soldB_zero (x : Tbl) (l : List Int) (kind : Int) (a : Nat) (o : Spn) : soldB x l kind a o 0 = o := rfl
@[simp] theorem soldA_zero (x : Tbl) (l : List Int) (kind : Int) : soldA x l kind 0 = ⟨1001, -1⟩ := rfl
def verdV (x : Tbl) (o : Spn) : Spn × Int × Int := if o.hi < 0 then (⟨0, 0⟩, 0, 9) else if x.purity ≤ o.lo then (o, 1, 0) else if o.hi < x.purity then (o, 0, 0) else (o, 2, 0)
def oneE (x : Tbl) (e kind : Int) : Int := if ¬ e = 0 then e else if inR kind 0 ((x.kinds.length : Int) - 1) = false then 4 else 0
def soldR (x : Tbl) (l : List Int) (kind : Int) : Spn × Int × Int :=
  if ¬ oneE x (readE x l) kind = 0 then (⟨0, 0⟩, 0, oneE x (readE x l) kind) else verdV x (soldA x l kind x.kinds.length)
def s31 : List D → Option D := sp3 (cAgg rTbl) (cList rInt) cInt (cTup3 (cAgg rSpn) cInt cInt) fun x l kind => some (soldR x l kind)
def toldAt (x : Tbl) (pu ot : Nat) (n : Int) (p : Nat) : Bool :=
  decide (1000 * ((rngV x pu p).hi + errV x p) < (valV x p ot pu n).lo - 1000 * errV x p) || decide ((valV x p ot pu n).hi + 1000 * errV x p < 1000 * ((rngV x pu p).lo - errV x p))
def toldB (x : Tbl) (pu ot : Nat) (n : Int) : Bool := (List.range x.props.length).any fun p => toldAt x pu ot n p
def firstN (q : Int → Bool) : Nat → Option Int
  | 0 => none
  | k + 1 => match firstN q k with
    | some n => some n
    | none => if q ((k : Int) + 1) = true then some ((k : Int) + 1) else none
theorem firstN_spec (q : Int → Bool) : ∀ k, (firstN q k = none ∧ ∀ j : Nat, j < k → q ((j : Int) + 1) = false) ∨ ∃ i : Nat, i < k ∧ firstN q k = some ((i : Int) + 1) ∧ q ((i : Int) + 1) = true ∧ ∀ j : Nat, j < i → q ((j : Int) + 1) = false
  | 0 => .inl ⟨rfl, fun j h => by omega⟩
  | k + 1 => by
    rcases firstN_spec q k with ⟨h1, h2⟩ | ⟨i, h1, h2, h3, h4⟩
    · cases hq : q ((k : Int) + 1) with
      | false => exact .inl ⟨by unfold firstN; rw [h1, hq]; rfl, fun j hj => by
          by_cases e : j = k
          · subst e; exact hq
          · exact h2 j (by omega)⟩
      | true => exact .inr ⟨k, by omega, by unfold firstN; rw [h1, hq]; rfl, hq, h2⟩
    · exact .inr ⟨i, by omega, by unfold firstN; rw [h2], h3, h4⟩
def detR (x : Tbl) (a b : Int) : Int × Int :=
  if ¬ twoE x (chk x).2.2 a b = 0 then (0, twoE x (chk x).2.2 a b) else match firstN (toldB x a.toNat b.toNat) 1000 with
  | some n => (n, 0)
  | none => (0, 9)
def s24 : List D → Option D := sp3 (cAgg rTbl) cInt cInt (cTup2 cInt cInt) fun x a b => some (detR x a b)
end Go.Proofs.YtkldmnladkcfeaaGreatDoor
namespace Go.Proofs.YtkldmnladkcfeaaGreatDoor
open Go.RowKit
set_option linter.unusedSimpArgs false
set_option linter.unusedVariables false
def digV (n : Nat) : ByteArray := ⟨(Lib.decDigits n).toArray⟩
theorem nDigits_le : ∀ (k u : Nat), 1 ≤ k → u < 10 ^ k → Lib.nDigits u ≤ k
  | 0, u, h, _ => by omega
  | k + 1, u, _, h => by
    rw [Lib.nDigits]
    split
    · omega
    · rename_i h10
      have hk : 1 ≤ k := by
        cases k with
        | zero => simp at h; omega
        | succ k => omega
      have := nDigits_le k (u / 10) hk (by rw [Nat.pow_succ] at h; omega)
      omega
theorem digV_size {n k : Nat} (hk : 1 ≤ k) (h : n < 10 ^ k) : (digV n).size ≤ k := by
  have := nDigits_le k n hk h
  unfold digV
  simp only [ByteArray.size, List.size_toArray, Lib.decDigits_length]
  exact this
def natLt (n : Int) (k : Nat) : Prop := 0 ≤ n ∧ n.toNat < 10 ^ k
instance (n : Int) (k : Nat) : Decidable (natLt n k) := inferInstanceAs (Decidable (_ ∧ _))
def spB : ByteArray := ⟨#[32]⟩
def nlB : ByteArray := ⟨#[10]⟩
def tsB : ByteArray := ⟨#[116, 101, 115, 116, 115]⟩
def puB : ByteArray := ⟨#[10, 112, 117, 114, 101, 32]⟩
theorem z_sp : spB.size = 1 := rfl
theorem z_nl : nlB.size = 1 := rfl
theorem z_ts : tsB.size = 5 := rfl
theorem z_pu : puB.size = 6 := rfl
def textP (x : Tbl) : Nat → ByteArray
  | 0 => tsB
  | p + 1 => textP x p ++ spB ++ (x.props.getD p default).name ++ spB ++ digV (errV x p).toNat
def textQ (x : Tbl) (k : Nat) (o : ByteArray) : Nat → ByteArray
  | 0 => o
  | p + 1 => textQ x k o p ++ spB ++ digV (rngV x k p).lo.toNat ++ spB ++ digV (rngV x k p).hi.toNat
def textK (x : Tbl) : Nat → ByteArray
  | 0 => textP x x.props.length ++ puB ++ digV x.purity.toNat ++ nlB
  | k + 1 => textQ x k (textK x k ++ (x.kinds.getD k default).name) x.props.length ++ nlB
def textV (x : Tbl) : ByteArray := textK x x.kinds.length
@[simp] theorem textP_zero (x : Tbl) : textP x 0 = tsB := rfl
@[simp] theorem textQ_zero (x : Tbl) (k : Nat) (o : ByteArray) : textQ x k o 0 = o := rfl
theorem name_le {s : ByteArray} (h : refName s = true) : s.size ≤ 20 := by
  unfold refName at h
  simp only [Bool.and_eq_true, inR_iff] at h
  omega
theorem named_ok {s : ByteArray} {l : List ByteArray} (h : namedE s l = 0) : refName s = true := by
  unfold namedE at h
  cases q : refName s with
  | true => rfl
  | false => rw [q] at h; simp at h
theorem Fine.pname {x : Tbl} (f : Fine x) {p : Nat} (h : p < x.props.length) : x.props[p].name.size ≤ 20 := name_le (named_ok (prpE_zero (f.pr p h)).1)
theorem Fine.kname {x : Tbl} (f : Fine x) {k : Nat} (h : k < x.kinds.length) : x.kinds[k].name.size ≤ 20 := name_le (named_ok (kndE_zero (f.kn k h)).1)
theorem dig6 {n : Int} (h : n ≤ 100000) : (digV n.toNat).size ≤ 6 := digV_size (by omega) (by omega)
theorem errV_at {x : Tbl} {p : Nat} (h : p < x.props.length) : x.props[p].err = errV x p := by unfold errV; rw [getD_at _ _ _ h]
theorem Fine.errv {x : Tbl} (f : Fine x) {p : Nat} (h : p < x.props.length) : 0 ≤ errV x p ∧ errV x p ≤ 10000 := by rw [← errV_at h]; exact f.err p h
theorem textP_size {x : Tbl} (f : Fine x) : ∀ k, k ≤ x.props.length → (textP x k).size ≤ 5 + 28 * k
  | 0, _ => by simp [z_ts]
  | k + 1, hk => by
    have h1 := textP_size f k (by omega)
    have h2 := f.pname (p := k) (by omega)
    have h3 := dig6 (n := errV x k) (by have := f.errv (p := k) (by omega); omega)
    rw [textP, getD_at _ _ _ (by omega)]
    simp only [ByteArray.size_append, z_sp]
    omega
theorem textQ_size {x : Tbl} (f : Fine x) {k : Nat} (hk : k < x.kinds.length) (o : ByteArray) : ∀ p, p ≤ x.props.length → (textQ x k o p).size ≤ o.size + 14 * p
  | 0, _ => by simp
  | p + 1, hp => by
    have h1 := textQ_size f hk o p (by omega)
    obtain ⟨_, _, r1, r2, r3⟩ := f.rng hk (p := p) (by omega)
    have h2 := dig6 (n := (rngV x k p).lo) (by omega)
    have h3 := dig6 (n := (rngV x k p).hi) (by omega)
    rw [textQ]
    simp only [ByteArray.size_append, z_sp]
    omega
theorem textK_size {x : Tbl} (f : Fine x) : ∀ k, k ≤ x.kinds.length → (textK x k).size ≤ 200 + 100 * k
  | 0, _ => by
    have h1 := textP_size f x.props.length (Nat.le_refl _)
    have h2 := f.p5
    have h3 := dig6 (n := x.purity) (by have := f.u2; omega)
    simp only [textK, ByteArray.size_append, z_pu, z_nl]
    omega
  | k + 1, hk => by
    have h1 := textK_size f k (by omega)
    have h2 := f.kname (k := k) (by omega)
    have h3 := textQ_size f (k := k) (by omega) (textK x k ++ x.kinds[k].name) x.props.length (Nat.le_refl _)
    have h4 := f.p5
    rw [textK, getD_at _ _ _ (by omega)]
    simp only [ByteArray.size_append, z_nl] at h3 ⊢
    omega
def writeR (x : Tbl) : ByteArray × Int := if okT x then (textV x, 0) else (⟨#[]⟩, (chk x).2.2)
def s33 : List D → Option D := sp1 (cAgg rTbl) (cTup2 cStr cInt) fun x => some (writeR x)
def splitS (s : ByteArray) (b : Int) : Nat → List ByteArray × Nat
  | 0 => ([], 0)
  | i + 1 => if byteAt s i = b then ((splitS s b i).1 ++ [s.extract (splitS s b i).2 i], i + 1) else splitS s b i
def splitV (s : ByteArray) (b : Int) : List ByteArray := (splitS s b s.size).1 ++ [s.extract (splitS s b s.size).2 s.size]
theorem splitS_le (s : ByteArray) (b : Int) : ∀ i, (splitS s b i).2 ≤ i ∧ (splitS s b i).1.length ≤ i
  | 0 => ⟨Nat.le_refl _, Nat.le_refl _⟩
  | i + 1 => by
    have := splitS_le s b i
    unfold splitS
    split
    · simp; omega
    · omega
def digB (s : ByteArray) (i : Nat) : Bool := inR (byteAt s i) 48 57
def numS (s : ByteArray) : Nat → Int
  | 0 => 0
  | i + 1 => 10 * numS s i + (byteAt s i - 48)
def numV (s : ByteArray) : Int := if inR s.size 1 6 = false then -1 else if (List.range s.size).all (digB s) = true then numS s s.size else -1
end Go.Proofs.YtkldmnladkcfeaaGreatDoor
