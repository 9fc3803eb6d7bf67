/-
  Plain data of the colour chapter, and what it means that a value in memory reads as such data. Conditions: none.
-/
import Derived.Test.YtpkjmnfgpbliaaaProg
import Derived.WalkKit
import Derived.WalkSpells
import Derived.WalkLawsBesides
import Derived.Handy
import Derived.Lib.Hide
import Derived.BigQuiet
namespace Go.Proofs.Ytpkjmnfgpbliaaa
open Go.RowKit
set_option linter.unusedSimpArgs false
set_option linter.unusedVariables false

/-- A slice value that reads in w as the list l; each element n cells, related to its datum by R. -/
def IsList {α : Type} (n : Nat) (R : World → List Value → α → Prop) (w : World) (v : Value) (l : List α) : Prop :=
  l.length ≤ 17592186044416 ∧ ∃ a c, l.length ≤ c ∧ v = .slice a l.length c ∧ (l = [] ∨ ∃ b off, a = some ⟨b, off, none⟩ ∧ b < w.heap.size ∧
    ∀ j (hj : j < l.length), ∃ cs : List Value, cs.length = n ∧ R w cs l[j] ∧ ∀ i (hi : i < cs.length), w.cell? ⟨b, off + (j * n + i), none⟩ = some cs[i])

def Mono {α : Type} (R : World → List Value → α → Prop) : Prop := ∀ w w' cs x, Below w.heap.size w w' → R w cs x → R w' cs x

theorem IsList.below {α : Type} {n : Nat} {R : World → List Value → α → Prop} (hR : Mono R) {w w' : World} {v : Value} {l : List α}
    (h : IsList n R w v l) (hb : Below w.heap.size w w') : IsList n R w' v l := by
  obtain ⟨hl, a, c, hlc, hv, hc⟩ := h
  refine ⟨hl, a, c, hlc, hv, hc.imp id ?_⟩
  rintro ⟨b, off, ha, hlt, hcs⟩
  refine ⟨b, off, ha, Nat.lt_of_lt_of_le hlt hb.size, fun j hj => ?_⟩
  obtain ⟨cs, h1, h2, h3⟩ := hcs j hj
  exact ⟨cs, h1, hR _ _ _ _ hb h2, fun i hi => (hb.cell (p := ⟨b, off + (j * n + i), none⟩) hlt).trans (h3 i hi)⟩

structure Spn where
  lo : Int
  hi : Int
structure Col where
  name : ByteArray
  stay : Spn
  shows : List Int
structure Shp where
  cols : List Col
  keep : Spn
  rinse : Int
structure Bat where
  c : Int
  g : Int

def RInt (_ : World) (cs : List Value) (x : Int) : Prop := cs = [.int .i64 x]
def RStr (_ : World) (cs : List Value) (s : ByteArray) : Prop := cs = [.string s] ∧ s.size ≤ 140737488355328
def RBat (_ : World) (cs : List Value) (x : Bat) : Prop := cs = [.int .i64 x.c, .int .i64 x.g]
def IsInts := IsList 1 RInt
def RCol (w : World) (cs : List Value) (x : Col) : Prop := ∃ sv, cs = [.string x.name, .int .i64 x.stay.lo, .int .i64 x.stay.hi, sv] ∧ IsInts w sv x.shows ∧ x.name.size ≤ 140737488355328
def IsCols := IsList 4 RCol
def IsBats := IsList 2 RBat
def IsStrs := IsList 1 RStr

theorem mono_RInt : Mono RInt := fun _ _ _ _ _ h => h
theorem mono_RStr : Mono RStr := fun _ _ _ _ _ h => h
theorem mono_RBat : Mono RBat := fun _ _ _ _ _ h => h
theorem IsInts.below {w w' : World} {v : Value} {l : List Int} (h : IsInts w v l) (hb : Below w.heap.size w w') : IsInts w' v l := IsList.below mono_RInt h hb
theorem mono_RCol : Mono RCol := fun _ _ _ _ hb ⟨sv, h1, h2, h3⟩ => ⟨sv, h1, h2.below hb, h3⟩
theorem IsCols.below {w w' : World} {v : Value} {l : List Col} (h : IsCols w v l) (hb : Below w.heap.size w w') : IsCols w' v l := IsList.below mono_RCol h hb
theorem IsBats.below {w w' : World} {v : Value} {l : List Bat} (h : IsBats w v l) (hb : Below w.heap.size w w') : IsBats w' v l := IsList.below mono_RBat h hb
theorem IsStrs.below {w w' : World} {v : Value} {l : List ByteArray} (h : IsStrs w v l) (hb : Below w.heap.size w w') : IsStrs w' v l := IsList.below mono_RStr h hb

/-- The value of a shop by value. -/
def IsShop (w : World) (v : Value) (s : Shp) : Prop := ∃ sl, v = .agg #[sl, .int .i64 s.keep.lo, .int .i64 s.keep.hi, .int .i64 s.rinse] ∧ IsCols w sl s.cols
theorem IsShop.below {w w' : World} {v : Value} {s : Shp} (h : IsShop w v s) (hb : Below w.heap.size w w') : IsShop w' v s :=
  let ⟨sl, h1, h2⟩ := h; ⟨sl, h1, h2.below hb⟩

theorem IsList.len {α : Type} {n : Nat} {R : World → List Value → α → Prop} {w : World} {v : Value} {l : List α} (h : IsList n R w v l) : l.length ≤ 17592186044416 := h.1

/-- The shape of a slice value that reads as a list. -/
theorem IsList.form {α : Type} {n : Nat} {R : World → List Value → α → Prop} {w : World} {v : Value} {l : List α} (h : IsList n R w v l) :
    ∃ a c, v = .slice a l.length c ∧ l.length ≤ c := let ⟨_, a, c, hlc, hv, _⟩ := h; ⟨a, c, hv, hlc⟩

theorem IsList.at {α : Type} {n : Nat} {R : World → List Value → α → Prop} {w : World} {a : Option Addr} {m c : Nat} {l : List α} (h : IsList n R w (.slice a m c) l) (j : Nat) (hj : j < l.length) :
    ∃ b off, a = some ⟨b, off, none⟩ ∧ b < w.heap.size ∧ ∃ cs : List Value, cs.length = n ∧ R w cs l[j] ∧ ∀ i (hi : i < cs.length), w.cell? ⟨b, off + (j * n + i), none⟩ = some cs[i] := by
  obtain ⟨_, a', c', _, hv, h⟩ := h
  cases hv
  rcases h with rfl | ⟨b, off, ha, hb, hc⟩
  · exact absurd hj (by simp)
  · exact ⟨b, off, ha, hb, hc j hj⟩

/-- An element of a list of ints. -/
theorem IsInts.at {w : World} {a : Option Addr} {m c : Nat} {l : List Int} (h : IsInts w (.slice a m c) l) (j : Nat) (hj : j < l.length) :
    ∃ b off, a = some ⟨b, off, none⟩ ∧ b < w.heap.size ∧ w.cell? ⟨b, off + j, none⟩ = some (.int .i64 l[j]) := by
  obtain ⟨b, off, ha, hb, cs, _, hR, hc⟩ := IsList.at h j hj
  obtain rfl : cs = _ := hR
  exact ⟨b, off, ha, hb, by simpa using hc 0 (by simp)⟩

theorem IsBats.at {w : World} {a : Option Addr} {m c : Nat} {l : List Bat} (h : IsBats w (.slice a m c) l) (j : Nat) (hj : j < l.length) :
    ∃ b off, a = some ⟨b, off, none⟩ ∧ b < w.heap.size ∧ w.cell? ⟨b, off + j * 2, none⟩ = some (.int .i64 l[j].c) ∧ w.cell? ⟨b, off + j * 2 + 1, none⟩ = some (.int .i64 l[j].g) := by
  obtain ⟨b, off, ha, hb, cs, _, hR, hc⟩ := IsList.at h j hj
  obtain rfl : cs = _ := hR
  exact ⟨b, off, ha, hb, by simpa using hc 0 (by simp), by simpa [Nat.add_assoc] using hc 1 (by simp)⟩

theorem IsCols.at {w : World} {a : Option Addr} {m c : Nat} {l : List Col} (h : IsCols w (.slice a m c) l) (j : Nat) (hj : j < l.length) :
    ∃ b off sv, a = some ⟨b, off, none⟩ ∧ b < w.heap.size ∧ IsInts w sv l[j].shows ∧ l[j].name.size ≤ 140737488355328 ∧ w.cell? ⟨b, off + j * 4, none⟩ = some (.string l[j].name) ∧
      w.cell? ⟨b, off + j * 4 + 1, none⟩ = some (.int .i64 l[j].stay.lo) ∧ w.cell? ⟨b, off + j * 4 + 2, none⟩ = some (.int .i64 l[j].stay.hi) ∧ w.cell? ⟨b, off + j * 4 + 3, none⟩ = some sv := by
  obtain ⟨b, off, ha, hb, cs, _, hR, hc⟩ := IsList.at h j hj
  obtain ⟨sv, rfl, h2, h3⟩ := hR
  exact ⟨b, off, sv, ha, hb, h2, h3, by simpa using hc 0 (by simp), by simpa [Nat.add_assoc] using hc 1 (by simp), by simpa [Nat.add_assoc] using hc 2 (by simp), by simpa [Nat.add_assoc] using hc 3 (by simp)⟩

theorem IsStrs.at {w : World} {a : Option Addr} {m c : Nat} {l : List ByteArray} (h : IsStrs w (.slice a m c) l) (j : Nat) (hj : j < l.length) :
    ∃ b off, a = some ⟨b, off, none⟩ ∧ b < w.heap.size ∧ w.cell? ⟨b, off + j, none⟩ = some (.string l[j]) ∧ l[j].size ≤ 140737488355328 := by
  obtain ⟨b, off, ha, hb, cs, _, ⟨rfl, hs⟩, hc⟩ := IsList.at h j hj
  exact ⟨b, off, ha, hb, by simpa using hc 0 (by simp), hs⟩

/-- The first part of a list, by the same memory: 's[:k]'. -/
theorem IsList.take {α : Type} {n : Nat} {R : World → List Value → α → Prop} {w : World} {a : Option Addr} {m c : Nat} {l : List α} (h : IsList n R w (.slice a m c) l) (k : Nat) (hk : k ≤ l.length) (c' : Nat) (hc' : k ≤ c') :
    IsList n R w (.slice a k c') (l.take k) := by
  obtain ⟨hl, a', c'', _, hv, h⟩ := h
  cases hv
  refine ⟨by simp; omega, a, c', by simp; omega, by simp; omega, ?_⟩
  rcases h with rfl | ⟨b, off, ha, hb, hc⟩
  · exact .inl (by simp)
  · refine .inr ⟨b, off, ha, hb, fun j hj => ?_⟩
    obtain ⟨cs, h1, h2, h3⟩ := hc j (by simp at hj; omega)
    exact ⟨cs, h1, by simpa using h2, h3⟩

theorem bcell {W w1 : World} (hb : Below W.heap.size W w1) : (∀ b o, b < W.heap.size → w1.cell? ⟨b, o, none⟩ = W.cell? ⟨b, o, none⟩) ∧ (∀ b o, b < W.heap.size → w1.frozen? ⟨b, o, none⟩ = W.frozen? ⟨b, o, none⟩) :=
  ⟨fun b o h => hb.cell (p := ⟨b, o, none⟩) h, fun b o h => hb.frozen (p := ⟨b, o, none⟩) h⟩

theorem lt_of_cell {W : World} {b o : Nat} {v : Value} (h : W.cell? ⟨b, o, none⟩ = some v) : b < W.heap.size := by
  rcases Nat.lt_or_ge b W.heap.size with h1 | h1
  · exact h1
  · simp [World.cell?, Array.getElem?_eq_none h1] at h
theorem setO {W : World} {p q o o' : Nat} {v u : Value} (h : ¬ p = q) (hc : W.cell? ⟨q, o, none⟩ = some u) : (W.setCell ⟨p, o', none⟩ v).cell? ⟨q, o, none⟩ = some u := by
  rw [World.cell?_setCell_other _ _ _ _ (by simp [h])]; exact hc
theorem setS {W : World} {p o : Nat} {v u : Value} (hc : W.cell? ⟨p, o, none⟩ = some u) : (W.setCell ⟨p, o, none⟩ v).cell? ⟨p, o, none⟩ = some v :=
  World.cell?_setCell_same _ _ _ hc
theorem allocO {W : World} {b o : Nat} {v : Value} (hc : W.cell? ⟨b, o, none⟩ = some v) (x : Obj) : (W.alloc x).cell? ⟨b, o, none⟩ = some v := by
  rw [World.cell?_alloc_lt _ _ _ (lt_of_cell hc)]; exact hc
theorem allocF {W : World} {b o : Nat} (hb : b < W.heap.size) (hf : W.frozen? ⟨b, o, none⟩ = false) (x : Obj) : (W.alloc x).frozen? ⟨b, o, none⟩ = false := by
  rw [World.frozen?_alloc_old _ _ _ (by simp; omega)]; exact hf
theorem ret_int {k : IntKind} {a b : Int} (h : a = b) : Ending.returned (.int k a) = .returned (.int k b) := by rw [h]
theorem ret_bool {a b : Bool} (h : a = b) : Ending.returned (.bool a) = .returned (.bool b) := by rw [h]
theorem below_new {w w' : World} {o : Obj} (h : Below (w.alloc o).heap.size (w.alloc o) w') : Below w.heap.size w w' :=
  ((Below.refl _ w).alloc (Nat.le_refl _) o).trans (h.mono (by simp))

theorem pref_step {α} (p : α → Bool) (l : List α) (k : Nat) (h : k < l.length) (h0 : ∀ j (hj : j < l.length), j < k → p l[j] = false) (h1 : p l[k] = false) : ∀ j (hj : j < l.length), j < k + 1 → p l[j] = false := by
  intro j hj hk
  by_cases e : j = k
  · subst e; exact h1
  · exact h0 j hj (by omega)
theorem any_of_pref {α} (p : α → Bool) (l : List α) (h0 : ∀ j (hj : j < l.length), j < l.length → p l[j] = false) : l.any p = false := by
  rw [List.any_eq_false]; intro x hx
  obtain ⟨j, hj, rfl⟩ := List.getElem_of_mem hx
  simp [h0 j hj hj]
theorem any_of_at {α} (p : α → Bool) (l : List α) (k : Nat) (h : k < l.length) (h1 : p l[k] = true) : l.any p = true := by
  simp; exact ⟨_, List.getElem_mem h, h1⟩
end Go.Proofs.Ytpkjmnfgpbliaaa
