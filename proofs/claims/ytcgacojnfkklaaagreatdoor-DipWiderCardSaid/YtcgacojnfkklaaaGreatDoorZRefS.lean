/-
  Reference functions of the dip chapter: what is written. Conditions: none.
-/
import Derived.Test.YtcgacojnfkklaaaGreatDoorZRefB
import Derived.Lib.ItoaNum
namespace Go.Proofs.YtcgacojnfkklaaaGreatDoor
open Go.RowKit
set_option linter.unusedSimpArgs false
set_option linter.unusedVariables false
def digV (n : Nat) : ByteArray := ⟨(Lib.decDigits n).toArray⟩
theorem nDigits_le : ∀ (k u : Nat), 1 ≤ k → u < 10 ^ k → Lib.nDigits u ≤ k
  | 0, u, h, _ => by omega
  | k + 1, u, _, h => by
    rw [Lib.nDigits]
    split
    · omega
    · rename_i h10
      have hk : 1 ≤ k := by
        cases k with
        | zero => simp at h; omega
        | succ k => omega
      have := nDigits_le k (u / 10) hk (by rw [Nat.pow_succ] at h; omega)
      omega
theorem digV_size {n k : Nat} (hk : 1 ≤ k) (h : n < 10 ^ k) : (digV n).size ≤ k := by
  have := nDigits_le k n hk h
  unfold digV
  simp only [ByteArray.size, List.size_toArray, Lib.decDigits_length]
  exact this
def natLt (n : Int) (k : Nat) : Prop := 0 ≤ n ∧ n.toNat < 10 ^ k
instance (n : Int) (k : Nat) : Decidable (natLt n k) := inferInstanceAs (Decidable (_ ∧ _))
def spB : ByteArray := ⟨#[32]⟩
def nlB : ByteArray := ⟨#[10]⟩
def trB : ByteArray := ⟨#[32, 116, 117, 114, 110, 101, 100]⟩
def lineT (x : Dsh) (o : ByteArray) (d : Dip) : ByteArray :=
  (if d.turned then o ++ (x.baths.getD d.bath.toNat default).name ++ spB ++ digV d.secs.toNat ++ spB ++ digV d.pause.toNat ++ trB else o ++ (x.baths.getD d.bath.toNat default).name ++ spB ++ digV d.secs.toNat ++ spB ++ digV d.pause.toNat) ++ nlB
def textL (x : Dsh) (l : List Dip) : Nat → ByteArray
  | 0 => ByteArray.empty
  | k + 1 => lineT x (textL x l k) (l.getD k default)
def textV (x : Dsh) (l : List Dip) : ByteArray := textL x l l.length
theorem okD_all {x : Dsh} {d : Dip} (h : okD x d) : ∃ B : Nat, d.bath = B ∧ ∃ hB : B < x.baths.length, x.baths.length ≤ 6 ∧ x.baths[B].name.size ≤ 20 ∧ (∃ S : Nat, d.secs = S ∧ S ≤ 600) ∧ ∃ Q : Nat, d.pause = Q ∧ Q ≤ 600 := by
  obtain ⟨B, e1, hB, e2, h6, g1, _, _, _⟩ := okD_bath h
  obtain ⟨hw, ⟨s0, s1⟩, p0, p1⟩ := g1
  have hb := (baths_of h.1).2.2.2 B hB
  have hn := (bathE_zero hb).1
  unfold refName at hn
  simp only [Bool.and_eq_true, inR_iff] at hn
  exact ⟨B, e1, hB, h6, by omega, ⟨d.secs.toNat, by omega, by omega⟩, ⟨d.pause.toNat, by omega, by omega⟩⟩
theorem lineT_size {x : Dsh} {d : Dip} (h : okD x d) (o : ByteArray) : (lineT x o d).size ≤ o.size + 36 := by
  obtain ⟨B, e1, hB, h6, hn, ⟨S, e2, hS⟩, Q, e3, hQ⟩ := okD_all h
  have h1 := digV_size (n := S) (k := 3) (by omega) (by omega)
  have h2 := digV_size (n := Q) (k := 3) (by omega) (by omega)
  have c1 : spB.size = 1 := rfl
  have c2 : nlB.size = 1 := rfl
  have c3 : trB.size = 7 := rfl
  unfold lineT
  rw [e1, e2, e3, Int.toNat_natCast, Int.toNat_natCast, Int.toNat_natCast, getD_at _ _ _ hB]
  split <;> simp only [ByteArray.size_append] <;> omega
theorem textL_size {x : Dsh} {l : List Dip} (h : okL x l) : ∀ k, k ≤ l.length → (textL x l k).size ≤ 36 * k
  | 0, _ => by simp [textL]
  | k + 1, hk => by
    have h1 := textL_size h k (by omega)
    have h2 := lineT_size (okL_at h k (by omega)) (textL x l k)
    rw [textL, getD_at _ _ _ (by omega)]
    omega
def writeR (x : Dsh) (l : List Dip) : ByteArray × Int := if askedE x ⟨0, 0, 0⟩ l = 0 then (textV x l, 0) else (⟨#[]⟩, askedE x ⟨0, 0, 0⟩ l)
def splitS (s : ByteArray) (b : Int) : Nat → List ByteArray × Nat
  | 0 => ([], 0)
  | i + 1 => if byteAt s i = b then ((splitS s b i).1 ++ [s.extract (splitS s b i).2 i], i + 1) else splitS s b i
def splitV (s : ByteArray) (b : Int) : List ByteArray := (splitS s b s.size).1 ++ [s.extract (splitS s b s.size).2 s.size]
theorem splitS_le (s : ByteArray) (b : Int) : ∀ i, (splitS s b i).2 ≤ i ∧ (splitS s b i).1.length ≤ i
  | 0 => ⟨Nat.le_refl _, Nat.le_refl _⟩
  | i + 1 => by
    have := splitS_le s b i
    unfold splitS
    split
    · simp; omega
    · omega
def digB (s : ByteArray) (i : Nat) : Bool := inR (byteAt s i) 48 57
def numS (s : ByteArray) : Nat → Int
  | 0 => 0
  | i + 1 => 10 * numS s i + (byteAt s i - 48)
def numV (s : ByteArray) : Int := if inR s.size 1 3 = false then -1 else if (List.range s.size).all (digB s) = true then numS s s.size else -1
end Go.Proofs.YtcgacojnfkklaaaGreatDoor
