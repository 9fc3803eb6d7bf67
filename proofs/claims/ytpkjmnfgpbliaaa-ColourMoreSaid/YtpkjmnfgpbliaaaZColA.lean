/-
  Plain data of the colour chapter, and what it means that a value in memory reads as such data. Conditions: none.
-/
import Derived.Test.YtpkjmnfgpbliaaaProg
import Derived.WalkKit
import Derived.WalkSpells
import Derived.WalkLawsBesides
import Derived.Handy
import Derived.Lib.Hide
import Derived.BigQuiet
namespace Go.Proofs.Ytpkjmnfgpbliaaa
open Go.RowKit
set_option linter.unusedSimpArgs false
set_option linter.unusedVariables false

/-- A slice value that reads in w as the list l; each element n cells, related to its datum by R. -/
def IsList {α : Type} (n : Nat) (R : World → List Value → α → Prop) (w : World) (v : Value) (l : List α) : Prop :=
  l.length ≤ 140737488355328 ∧ ∃ a c, l.length ≤ c ∧ v = .slice a l.length c ∧ (l = [] ∨ ∃ b off, a = some ⟨b, off, none⟩ ∧ b < w.heap.size ∧
    ∀ j (hj : j < l.length), ∃ cs : List Value, cs.length = n ∧ R w cs l[j] ∧ ∀ i (hi : i < cs.length), w.cell? ⟨b, off + (j * n + i), none⟩ = some cs[i])

def Mono {α : Type} (R : World → List Value → α → Prop) : Prop := ∀ w w' cs x, Below w.heap.size w w' → R w cs x → R w' cs x

theorem IsList.below {α : Type} {n : Nat} {R : World → List Value → α → Prop} (hR : Mono R) {w w' : World} {v : Value} {l : List α}
    (h : IsList n R w v l) (hb : Below w.heap.size w w') : IsList n R w' v l := by
  obtain ⟨hl, a, c, hlc, hv, hc⟩ := h
  refine ⟨hl, a, c, hlc, hv, hc.imp id ?_⟩
  rintro ⟨b, off, ha, hlt, hcs⟩
  refine ⟨b, off, ha, Nat.lt_of_lt_of_le hlt hb.size, fun j hj => ?_⟩
  obtain ⟨cs, h1, h2, h3⟩ := hcs j hj
  exact ⟨cs, h1, hR _ _ _ _ hb h2, fun i hi => (hb.cell (p := ⟨b, off + (j * n + i), none⟩) hlt).trans (h3 i hi)⟩

structure Spn where
  lo : Int
  hi : Int
structure Col where
  name : ByteArray
  stay : Spn
  shows : List Int
structure Shp where
  cols : List Col
  keep : Spn
  rinse : Int
structure Bat where
  c : Int
  g : Int

def RInt (_ : World) (cs : List Value) (x : Int) : Prop := cs = [.int .i64 x]
def RStr (_ : World) (cs : List Value) (s : ByteArray) : Prop := cs = [.string s] ∧ s.size ≤ 140737488355328
def RBat (_ : World) (cs : List Value) (x : Bat) : Prop := cs = [.int .i64 x.c, .int .i64 x.g]
def IsInts := IsList 1 RInt
def RCol (w : World) (cs : List Value) (x : Col) : Prop := ∃ sv, cs = [.string x.name, .int .i64 x.stay.lo, .int .i64 x.stay.hi, sv] ∧ IsInts w sv x.shows ∧ x.name.size ≤ 140737488355328
def IsCols := IsList 4 RCol
def IsBats := IsList 2 RBat
def IsStrs := IsList 1 RStr

theorem mono_RInt : Mono RInt := fun _ _ _ _ _ h => h
theorem mono_RStr : Mono RStr := fun _ _ _ _ _ h => h
theorem mono_RBat : Mono RBat := fun _ _ _ _ _ h => h
theorem IsInts.below {w w' : World} {v : Value} {l : List Int} (h : IsInts w v l) (hb : Below w.heap.size w w') : IsInts w' v l := IsList.below mono_RInt h hb
theorem mono_RCol : Mono RCol := fun _ _ _ _ hb ⟨sv, h1, h2, h3⟩ => ⟨sv, h1, h2.below hb, h3⟩
theorem IsCols.below {w w' : World} {v : Value} {l : List Col} (h : IsCols w v l) (hb : Below w.heap.size w w') : IsCols w' v l := IsList.below mono_RCol h hb
theorem IsBats.below {w w' : World} {v : Value} {l : List Bat} (h : IsBats w v l) (hb : Below w.heap.size w w') : IsBats w' v l := IsList.below mono_RBat h hb
theorem IsStrs.below {w w' : World} {v : Value} {l : List ByteArray} (h : IsStrs w v l) (hb : Below w.heap.size w w') : IsStrs w' v l := IsList.below mono_RStr h hb

/-- The value of a shop by value. -/
def IsShop (w : World) (v : Value) (s : Shp) : Prop := ∃ sl, v = .agg #[sl, .int .i64 s.keep.lo, .int .i64 s.keep.hi, .int .i64 s.rinse] ∧ IsCols w sl s.cols
theorem IsShop.below {w w' : World} {v : Value} {s : Shp} (h : IsShop w v s) (hb : Below w.heap.size w w') : IsShop w' v s :=
  let ⟨sl, h1, h2⟩ := h; ⟨sl, h1, h2.below hb⟩

theorem IsList.len {α : Type} {n : Nat} {R : World → List Value → α → Prop} {w : World} {v : Value} {l : List α} (h : IsList n R w v l) : l.length ≤ 140737488355328 := h.1

/-- The shape of a slice value that reads as a list. -/
theorem IsList.form {α : Type} {n : Nat} {R : World → List Value → α → Prop} {w : World} {v : Value} {l : List α} (h : IsList n R w v l) :
    ∃ a c, v = .slice a l.length c ∧ l.length ≤ c := let ⟨_, a, c, hlc, hv, _⟩ := h; ⟨a, c, hv, hlc⟩

theorem IsList.at {α : Type} {n : Nat} {R : World → List Value → α → Prop} {w : World} {a : Option Addr} {m c : Nat} {l : List α} (h : IsList n R w (.slice a m c) l) (j : Nat) (hj : j < l.length) :
    ∃ b off, a = some ⟨b, off, none⟩ ∧ b < w.heap.size ∧ ∃ cs : List Value, cs.length = n ∧ R w cs l[j] ∧ ∀ i (hi : i < cs.length), w.cell? ⟨b, off + (j * n + i), none⟩ = some cs[i] := by
  obtain ⟨_, a', c', _, hv, h⟩ := h
  cases hv
  rcases h with rfl | ⟨b, off, ha, hb, hc⟩
  · exact absurd hj (by simp)
  · exact ⟨b, off, ha, hb, hc j hj⟩

/-- An element of a list of ints. -/
theorem IsInts.at {w : World} {a : Option Addr} {m c : Nat} {l : List Int} (h : IsInts w (.slice a m c) l) (j : Nat) (hj : j < l.length) :
    ∃ b off, a = some ⟨b, off, none⟩ ∧ b < w.heap.size ∧ w.cell? ⟨b, off + j, none⟩ = some (.int .i64 l[j]) := by
  obtain ⟨b, off, ha, hb, cs, _, hR, hc⟩ := IsList.at h j hj
  obtain rfl : cs = _ := hR
  exact ⟨b, off, ha, hb, by simpa using hc 0 (by simp)⟩

theorem IsBats.at {w : World} {a : Option Addr} {m c : Nat} {l : List Bat} (h : IsBats w (.slice a m c) l) (j : Nat) (hj : j < l.length) :
    ∃ b off, a = some ⟨b, off, none⟩ ∧ b < w.heap.size ∧ w.cell? ⟨b, off + j * 2, none⟩ = some (.int .i64 l[j].c) ∧ w.cell? ⟨b, off + j * 2 + 1, none⟩ = some (.int .i64 l[j].g) := by
  obtain ⟨b, off, ha, hb, cs, _, hR, hc⟩ := IsList.at h j hj
  obtain rfl : cs = _ := hR
  exact ⟨b, off, ha, hb, by simpa using hc 0 (by simp), by simpa [Nat.add_assoc] using hc 1 (by simp)⟩

theorem IsCols.at {w : World} {a : Option Addr} {m c : Nat} {l : List Col} (h : IsCols w (.slice a m c) l) (j : Nat) (hj : j < l.length) :
    ∃ b off sv, a = some ⟨b, off, none⟩ ∧ b < w.heap.size ∧ IsInts w sv l[j].shows ∧ l[j].name.size ≤ 140737488355328 ∧ w.cell? ⟨b, off + j * 4, none⟩ = some (.string l[j].name) ∧
      w.cell? ⟨b, off + j * 4 + 1, none⟩ = some (.int .i64 l[j].stay.lo) ∧ w.cell? ⟨b, off + j * 4 + 2, none⟩ = some (.int .i64 l[j].stay.hi) ∧ w.cell? ⟨b, off + j * 4 + 3, none⟩ = some sv := by
  obtain ⟨b, off, ha, hb, cs, _, hR, hc⟩ := IsList.at h j hj
  obtain ⟨sv, rfl, h2, h3⟩ := hR
  exact ⟨b, off, sv, ha, hb, h2, h3, by simpa using hc 0 (by simp), by simpa [Nat.add_assoc] using hc 1 (by simp), by simpa [Nat.add_assoc] using hc 2 (by simp), by simpa [Nat.add_assoc] using hc 3 (by simp)⟩

theorem IsStrs.at {w : World} {a : Option Addr} {m c : Nat} {l : List ByteArray} (h : IsStrs w (.slice a m c) l) (j : Nat) (hj : j < l.length) :
    ∃ b off, a = some ⟨b, off, none⟩ ∧ b < w.heap.size ∧ w.cell? ⟨b, off + j, none⟩ = some (.string l[j]) ∧ l[j].size ≤ 140737488355328 := by
  obtain ⟨b, off, ha, hb, cs, _, ⟨rfl, hs⟩, hc⟩ := IsList.at h j hj
  exact ⟨b, off, ha, hb, by simpa using hc 0 (by simp), hs⟩

/-- The first part of a list, by the same memory: 's[:k]'. -/
theorem IsList.take {α : Type} {n : Nat} {R : World → List Value → α → Prop} {w : World} {a : Option Addr} {m c : Nat} {l : List α} (h : IsList n R w (.slice a m c) l) (k : Nat) (hk : k ≤ l.length) (c' : Nat) (hc' : k ≤ c') :
    IsList n R w (.slice a k c') (l.take k) := by
  obtain ⟨hl, a', c'', _, hv, h⟩ := h
  cases hv
  refine ⟨by simp; omega, a, c', by simp; omega, by simp; omega, ?_⟩
  rcases h with rfl | ⟨b, off, ha, hb, hc⟩
  · exact .inl (by simp)
  · refine .inr ⟨b, off, ha, hb, fun j hj => ?_⟩
    obtain ⟨cs, h1, h2, h3⟩ := hc j (by simp at hj; omega)
    exact ⟨cs, h1, by simpa using h2, h3⟩

theorem bcell {W w1 : World} (hb : Below W.heap.size W w1) : (∀ b o, b < W.heap.size → w1.cell? ⟨b, o, none⟩ = W.cell? ⟨b, o, none⟩) ∧ (∀ b o, b < W.heap.size → w1.frozen? ⟨b, o, none⟩ = W.frozen? ⟨b, o, none⟩) :=
  ⟨fun b o h => hb.cell (p := ⟨b, o, none⟩) h, fun b o h => hb.frozen (p := ⟨b, o, none⟩) h⟩

theorem lt_of_cell {W : World} {b o : Nat} {v : Value} (h : W.cell? ⟨b, o, none⟩ = some v) : b < W.heap.size := by
  rcases Nat.lt_or_ge b W.heap.size with h1 | h1
  · exact h1
  · simp [World.cell?, Array.getElem?_eq_none h1] at h
theorem setO {W : World} {p q o o' : Nat} {v u : Value} (h : ¬ p = q) (hc : W.cell? ⟨q, o, none⟩ = some u) : (W.setCell ⟨p, o', none⟩ v).cell? ⟨q, o, none⟩ = some u := by
  rw [World.cell?_setCell_other _ _ _ _ (by simp [h])]; exact hc
theorem setS {W : World} {p o : Nat} {v u : Value} (hc : W.cell? ⟨p, o, none⟩ = some u) : (W.setCell ⟨p, o, none⟩ v).cell? ⟨p, o, none⟩ = some v :=
  World.cell?_setCell_same _ _ _ hc
theorem allocO {W : World} {b o : Nat} {v : Value} (hc : W.cell? ⟨b, o, none⟩ = some v) (x : Obj) : (W.alloc x).cell? ⟨b, o, none⟩ = some v := by
  rw [World.cell?_alloc_lt _ _ _ (lt_of_cell hc)]; exact hc
theorem allocF {W : World} {b o : Nat} (hb : b < W.heap.size) (hf : W.frozen? ⟨b, o, none⟩ = false) (x : Obj) : (W.alloc x).frozen? ⟨b, o, none⟩ = false := by
  rw [World.frozen?_alloc_old _ _ _ (by simp; omega)]; exact hf
theorem ret_int {k : IntKind} {a b : Int} (h : a = b) : Ending.returned (.int k a) = .returned (.int k b) := by rw [h]
theorem ret_bool {a b : Bool} (h : a = b) : Ending.returned (.bool a) = .returned (.bool b) := by rw [h]
theorem below_new {w w' : World} {o : Obj} (h : Below (w.alloc o).heap.size (w.alloc o) w') : Below w.heap.size w w' :=
  ((Below.refl _ w).alloc (Nat.le_refl _) o).trans (h.mono (by simp))

theorem pref_step {α} (p : α → Bool) (l : List α) (k : Nat) (h : k < l.length) (h0 : ∀ j (hj : j < l.length), j < k → p l[j] = false) (h1 : p l[k] = false) : ∀ j (hj : j < l.length), j < k + 1 → p l[j] = false := by
  intro j hj hk
  by_cases e : j = k
  · subst e; exact h1
  · exact h0 j hj (by omega)
theorem any_of_pref {α} (p : α → Bool) (l : List α) (h0 : ∀ j (hj : j < l.length), j < l.length → p l[j] = false) : l.any p = false := by
  rw [List.any_eq_false]; intro x hx
  obtain ⟨j, hj, rfl⟩ := List.getElem_of_mem hx
  simp [h0 j hj hj]
theorem any_of_at {α} (p : α → Bool) (l : List α) (k : Nat) (h : k < l.length) (h1 : p l[k] = true) : l.any p = true := by
  simp; exact ⟨_, List.getElem_mem h, h1⟩
end Go.Proofs.Ytpkjmnfgpbliaaa
namespace Go.Proofs.Ytpkjmnfgpbliaaa
open Go.RowKit
set_option linter.unusedSimpArgs false
set_option linter.unusedVariables false

/-- slices.IndexFunc at ints, by any closure that is a predicate and keeps old memory -/
theorem indexInt_any (F : FuncId) (cap : Array Value) (p : Int → Bool) (v : Value) (l : List Int) (w : World) (h : IsInts w v l)
    (hF : ∀ xs w', (callFunc F xs).run Try.prog w' = .ok (.enter F xs) w')
    (hp : ∀ x w', Below w.heap.size w w' → Calls Try.prog F (#[.int .i64 x] ++ cap) w' fun e w'' => e = .returned (.bool (p x)) ∧ Below w'.heap.size w' w'') :
    Calls Try.prog 98 #[v, .func (.func F) #[] cap] w fun e w' => (∃ n : Int, e = .returned (.int .i64 n) ∧ decide (0 ≤ n) = l.any p) ∧ Below w.heap.size w w' := by
  have hl := h.len
  obtain ⟨a, c, rfl, _⟩ := h.form
  have HP := Lib.hid hp; clear hp
  go_enter Try.func98, Try.ntmps98
  go_wp2
  go_loopw [8] (fun i wr => ∃ k : Nat, k ≤ l.length ∧ i = .int .i64 k ∧ (∀ j (hj : j < l.length), j < k → p l[j] = false) ∧ Below w.heap.size w wr) (fun i _ => l.length - (intOf i).toNat)
  case atStart => exact ⟨0, by omega, rfl, fun j _ h => by omega, Below.refl _ _⟩
  case round =>
    obtain ⟨k, hk, rfl, hno, hbw⟩ := hrel
    by_cases hlt : k < l.length
    · obtain ⟨b, off, rfl, hb1, hcell0⟩ := h.at k hlt
      have hcell : wr.cell? ⟨b, off + k, none⟩ = some (.int .i64 (l[k])) := (hbw.cell (p := ⟨b, off + k, none⟩) hb1).trans hcell0
      clear hcell0
      have H_hno := Lib.hid hno; clear hno; have H_hbw := Lib.hid hbw; clear hbw
      go_wp2_with fail
      refine (HP.out _ _ H_hbw.out).mono ?_
      rintro e w1 ⟨rfl, hb1⟩
      by_cases hpk : p l[k] = true
      · go_wp2
        go_ret
        exact ⟨⟨k, rfl, by rw [any_of_at p l k hlt hpk]; simp⟩, H_hbw.out.trans (hb1.mono H_hbw.out.size)⟩
      · have hpk : p l[k] = false := by simpa using hpk
        go_wp2
        go_roundw
        case rel => exact ⟨k + 1, by omega, by go_num, pref_step p l k hlt H_hno.out hpk, H_hbw.out.trans (hb1.mono H_hbw.out.size)⟩
        case measure => simp [intOf]; omega
    · have H_hno := Lib.hid hno; clear hno; have H_hbw := Lib.hid hbw; clear hbw
      go_wp2
      go_ret
      obtain rfl : k = l.length := by omega
      exact ⟨⟨-1, rfl, by rw [any_of_pref p l H_hno.out]; rfl⟩, H_hbw.out⟩

theorem containsInt_any (F : FuncId) (cap : Array Value) (p : Int → Bool) (v : Value) (l : List Int) (w : World) (h : IsInts w v l)
    (hF : ∀ xs w', (callFunc F xs).run Try.prog w' = .ok (.enter F xs) w')
    (hp : ∀ x w', Below w.heap.size w w' → Calls Try.prog F (#[.int .i64 x] ++ cap) w' fun e w'' => e = .returned (.bool (p x)) ∧ Below w'.heap.size w' w'') :
    Calls Try.prog 77 #[v, .func (.func F) #[] cap] w fun e w' => e = .returned (.bool (l.any p)) ∧ Below w.heap.size w w' := by
  have H_hp := Lib.hid hp; clear hp
  go_enter Try.func77, Try.ntmps77
  go_wp2_with fail
  refine (indexInt_any F cap p v l w h hF H_hp.out).mono ?_
  rintro e w1 ⟨⟨n, rfl, hn⟩, hb1⟩
  have H_hn := Lib.hid hn; clear hn
  go_wp2
  go_ret
  exact ⟨ret_bool H_hn.out, hb1⟩

theorem out1_any (x lo hi : Int) (a b : Addr) (w : World) (ha : w.cell? a = some (.int .i64 lo)) (hb : w.cell? b = some (.int .i64 hi)) :
    Calls Try.prog 78 #[.int .i64 x, .pointer (some a), .pointer (some b)] w fun e w' => e = .returned (.bool (decide (x < lo) || decide (hi < x))) ∧ w = w' := by
  by_cases h1 : x < lo
  · go_enter Try.func78, Try.ntmps78
    go_wp2
    go_ret
    exact ⟨by simp [h1], rfl⟩
  · by_cases h2 : hi < x
    · go_enter Try.func78, Try.ntmps78
      go_wp2
      go_ret
      exact ⟨by simp [h2], rfl⟩
    · go_enter Try.func78, Try.ntmps78
      go_wp2
      go_ret
      exact ⟨by simp [h1, h2], rfl⟩

theorem call_out1 (xs : Array Value) (w : World) : (callFunc 78 xs).run Try.prog w = .ok (.enter 78 xs) w := by kernel_rfl

/-- One of the numbers is not from lo to hi. -/
def outB (lo hi : Int) (l : List Int) : Bool := l.any fun x => decide (x < lo) || decide (hi < x)

theorem out_any (lo hi : Int) (v : Value) (l : List Int) (w : World) (h : IsInts w v l) :
    Calls Try.prog 47 #[.int .i64 lo, .int .i64 hi, v] w fun e w' => e = .returned (.bool (outB lo hi l)) ∧ Below w.heap.size w w' := by
  go_enter Try.func47, Try.ntmps47
  go_wp2_with fail
  have hb0 : Below w.heap.size w ((w.alloc (.cells #[.int .i64 lo] 3)).alloc (.cells #[.int .i64 hi] 3)) := ((Below.refl _ w).alloc (Nat.le_refl _) _).alloc (by simp) _
  refine (containsInt_any 78 _ (fun x => decide (x < lo) || decide (hi < x)) v l _ (h.below hb0) call_out1 (fun x w' hb => ?_)).mono ?_
  · refine (out1_any x lo hi _ _ w' ?_ ?_).mono ?_
    · rw [hb.cell (by simp <;> omega)]; simp
    · rw [hb.cell (by simp <;> omega)]; simp
    · rintro e w'' ⟨rfl, rfl⟩
      exact ⟨rfl, Below.refl _ _⟩
  · rintro e w1 ⟨rfl, hb1⟩
    go_wp2
    go_ret
    exact ⟨rfl, hb0.trans (hb1.mono hb0.size)⟩
end Go.Proofs.Ytpkjmnfgpbliaaa
namespace Go.Proofs.Ytpkjmnfgpbliaaa
open Go.RowKit
set_option linter.unusedSimpArgs false
set_option linter.unusedVariables false

def sameName (s : ByteArray) (c : Col) : Bool := c.name.toList == s.toList

theorem check1_any (c : Col) (sv : Value) (s : ByteArray) (b : Nat) (w : World) (hs : w.cell? ⟨b, 0, none⟩ = some (.string s)) (hb : b < w.heap.size) :
    Calls Try.prog 50 #[.agg #[.string c.name, .int .i64 c.stay.lo, .int .i64 c.stay.hi, sv], .pointer (some ⟨b, 0, none⟩)] w fun e w' => e = .returned (.bool (sameName s c)) ∧ Below w.heap.size w w' := by
  go_enter Try.func50, Try.ntmps50
  go_wp2
  go_ret
  exact ⟨rfl, (Below.refl _ _).alloc (Nat.le_refl _) _⟩

theorem call_check1 (xs : Array Value) (w : World) : (callFunc 50 xs).run Try.prog w = .ok (.enter 50 xs) w := by kernel_rfl

theorem indexCol_any (s : ByteArray) (b0 : Nat) (v : Value) (l : List Col) (w : World) (h : IsCols w v l) (hs : w.cell? ⟨b0, 0, none⟩ = some (.string s)) (hb0 : b0 < w.heap.size) :
    Calls Try.prog 79 #[v, .func (.func 50) #[] #[.pointer (some ⟨b0, 0, none⟩)]] w fun e w' => (∃ n : Int, e = .returned (.int .i64 n) ∧ decide (0 ≤ n) = l.any (sameName s)) ∧ Below w.heap.size w w' := by
  have hl := h.len
  obtain ⟨a, c, rfl, _⟩ := h.form
  have hF := call_check1
  go_enter Try.func79, Try.ntmps79
  go_wp2
  go_loopw [8] (fun i wr => ∃ k : Nat, k ≤ l.length ∧ i = .int .i64 k ∧ (∀ j (hj : j < l.length), j < k → sameName s l[j] = false) ∧ Below w.heap.size w wr) (fun i _ => l.length - (intOf i).toNat)
  case atStart => exact ⟨0, by omega, rfl, fun j _ h => by omega, Below.refl _ _⟩
  case round =>
    obtain ⟨k, hk, rfl, hno, hbw⟩ := hrel
    by_cases hlt : k < l.length
    · obtain ⟨b, off, sv, rfl, hb1, hsv, hnm, d0, d1, d2, d3⟩ := h.at k hlt
      have c0 := (hbw.cell (p := ⟨b, off + k * 4, none⟩) hb1).trans d0
      have c1 := (hbw.cell (p := ⟨b, off + k * 4 + 1, none⟩) hb1).trans d1
      have c2 := (hbw.cell (p := ⟨b, off + k * 4 + 2, none⟩) hb1).trans d2
      have c3 := (hbw.cell (p := ⟨b, off + k * 4 + 3, none⟩) hb1).trans d3
      have hs' := (hbw.cell (p := ⟨b0, 0, none⟩) hb0).trans hs
      clear d0 d1 d2 d3
      have H_hno := Lib.hid hno; clear hno; have H_hbw := Lib.hid hbw; clear hbw; have H_hs' := Lib.hid hs'; clear hs'
      go_wp2_with fail
      refine (check1_any l[k] sv s b0 wr H_hs'.out (Nat.lt_of_lt_of_le hb0 H_hbw.out.size)).mono ?_
      rintro e w1 ⟨rfl, hb1⟩
      by_cases hpk : sameName s l[k] = true
      · go_wp2
        go_ret
        exact ⟨⟨k, rfl, by rw [any_of_at _ l k hlt hpk]; simp⟩, H_hbw.out.trans (hb1.mono H_hbw.out.size)⟩
      · have hpk : sameName s l[k] = false := by simpa using hpk
        go_wp2
        go_roundw
        case rel => exact ⟨k + 1, by omega, by go_num, pref_step (sameName s) l k hlt H_hno.out hpk, H_hbw.out.trans (hb1.mono H_hbw.out.size)⟩
        case measure => simp [intOf]; omega
    · have H_hno := Lib.hid hno; clear hno; have H_hbw := Lib.hid hbw; clear hbw
      go_wp2
      go_ret
      obtain rfl : k = l.length := by omega
      exact ⟨⟨-1, rfl, by rw [any_of_pref (sameName s) l H_hno.out]; rfl⟩, H_hbw.out⟩

theorem containsCol_any (s : ByteArray) (b0 : Nat) (v : Value) (l : List Col) (w : World) (h : IsCols w v l) (hs : w.cell? ⟨b0, 0, none⟩ = some (.string s)) (hb0 : b0 < w.heap.size) :
    Calls Try.prog 49 #[v, .func (.func 50) #[] #[.pointer (some ⟨b0, 0, none⟩)]] w fun e w' => e = .returned (.bool (l.any (sameName s))) ∧ Below w.heap.size w w' := by
  go_enter Try.func49, Try.ntmps49
  go_wp2_with fail
  refine (indexCol_any s b0 v l w h hs hb0).mono ?_
  rintro e w1 ⟨⟨n, rfl, hn⟩, hb1⟩
  have H_hn := Lib.hid hn; clear hn
  go_wp2
  go_ret
  exact ⟨ret_bool H_hn.out, hb1⟩
end Go.Proofs.Ytpkjmnfgpbliaaa
namespace Go.Proofs.Ytpkjmnfgpbliaaa
open Go.RowKit
set_option linter.unusedSimpArgs false
set_option linter.unusedVariables false

/-- The bytes are small letters, and hyphens none of which stands behind a hyphen, the last thing seen being 'last'; nor is the end one. -/
def nameGo : List UInt8 → Int → Bool
  | [], last => !(last == 45)
  | x :: t, last => if (x.toNat : Int) = 45 then (if last = 45 then false else nameGo t 45)
      else if (x.toNat : Int) < 97 ∨ 122 < (x.toNat : Int) then false else nameGo t x.toNat
def nameB (s : ByteArray) : Bool := nameGo s.data.toList 45 && decide (s.size ≤ 20)

theorem nameB_end (s : ByteArray) (last : Int) (hl : ¬ last = 45) (h : nameGo [] last = nameGo s.data.toList 45) : (last != 45 && decide ((s.size : Int) ≤ 20)) = nameB s := by
  have h1 : (last == 45) = false := by simpa using hl
  rw [nameB, ← h]
  simp [nameGo, bne, h1]
  try omega

theorem drop_at (s : ByteArray) (k : Nat) (h : k < s.size) : s.data.toList.drop k = s[k] :: s.data.toList.drop (k + 1) := by
  rw [List.drop_eq_getElem_cons (by simpa using h)]; rfl
theorem drop_end (s : ByteArray) (k : Nat) (h : ¬ k < s.size) : s.data.toList.drop k = [] := by
  apply List.drop_eq_nil_of_le; simp; omega
theorem below_iter (w : World) (s : ByteArray) (k : Nat) : Below w.heap.size w (w.iter s k) := (Below.refl _ w).alloc (Nat.le_refl _) _

theorem next_at {P : Program} (w : World) (s : ByteArray) (k : Nat) (h : k < s.size) :
    ∃ (r : Int) (p : Nat), (∀ ty, (Instr.next (.pointer (some ⟨w.heap.size, 0, none⟩)) true ty).run P (w.iter s k) = .ok (.tuple #[.bool true, .int .i64 k, .int .i32 r]) (w.iter s p)) ∧
      ((r = (s[k].toNat : Int) ∧ p = k + 1) ∨ (128 ≤ r ∧ 128 ≤ (s[k].toNat : Int))) := by
  by_cases ha : s[k].toNat < 128
  · exact ⟨_, _, fun ty => run_next_ascii w s k ty h ha, .inl ⟨rfl, rfl⟩⟩
  · have hd := decode_high s k h (by omega)
    exact ⟨_, _, fun ty => run_next_any w s k ty h, .inr ⟨by omega, by omega⟩⟩

theorem name_any (s : ByteArray) (w : World) (hs : s.size ≤ 140737488355328) :
    Calls Try.prog 48 #[.string s] w fun e w' => e = .returned (.bool (nameB s)) ∧ Below w.heap.size w w' := by
  go_enter Try.func48, Try.ntmps48
  go_wp2
  go_loopw [3] (fun c wr => ∃ (k : Nat) (last : Int), wr = w.iter s k ∧ k ≤ s.size ∧ c = .int .i32 last ∧ nameGo (s.data.toList.drop k) last = nameGo s.data.toList 45) (fun _ wr => s.size - wr.iterPos w.heap.size)
  case atStart => exact ⟨0, 45, rfl, by omega, rfl, rfl⟩
  case round =>
    obtain ⟨k, last, rfl, hk, rfl, hn⟩ := hrel
    by_cases hp : k < s.size
    · obtain ⟨r, p, hnx, hr⟩ := next_at (P := Try.prog) w s k hp
      rw [drop_at s k hp] at hn
      have hfin : (r = 45 ∧ last = 45) ∨ (¬ r = 45 ∧ (r < 97 ∨ 122 < r)) → nameB s = false := by
        intro h
        have : nameGo s.data.toList 45 = false := by
          rw [← hn]
          rcases hr with ⟨rfl, rfl⟩ | ⟨h1, h2⟩
          · rcases h with ⟨h3, h4⟩ | ⟨h3, h4⟩
            · simp only [nameGo]; rw [if_pos h3, if_pos h4]
            · simp only [nameGo]; rw [if_neg h3, if_pos h4]
          · simp only [nameGo]; rw [if_neg (by omega), if_pos (by omega)]
        simp [nameB, this]
      have hgo : ¬ ((r = 45 ∧ last = 45) ∨ (¬ r = 45 ∧ (r < 97 ∨ 122 < r))) → p = k + 1 ∧ nameGo (s.data.toList.drop (k + 1)) r = nameGo s.data.toList 45 := by
        intro h
        rcases hr with ⟨rfl, rfl⟩ | ⟨h1, h2⟩
        · refine ⟨rfl, ?_⟩
          rw [← hn]
          simp only [nameGo]
          by_cases h3 : (s[k].toNat : Int) = 45
          · rw [if_pos h3, if_neg (by omega), h3]
          · rw [if_neg h3, if_neg (by omega)]
        · omega
      have H_hn := Lib.hid hn; clear hn; have H_hfin := Lib.hid hfin; clear hfin; have H_hgo := Lib.hid hgo; clear hgo; have H_hr := Lib.hid hr; clear hr
      by_cases h45 : r = 45
      · subst h45
        by_cases hl : last = 45
        · subst hl
          go_wp2
          go_ret
          exact ⟨ret_bool (H_hfin.out (by simp)).symm, below_iter _ _ _⟩
        · have hl' : (last == 45) = false := by simpa using hl
          go_wp2
          go_roundw
          obtain ⟨rfl, h2⟩ := H_hgo.out (by omega)
          case rel => exact ⟨k + 1, 45, rfl, by omega, rfl, h2⟩
          case measure => obtain ⟨rfl, h2⟩ := H_hgo.out (by omega); simp; omega
      · have h45' : (r == 45) = false := by simpa using h45
        by_cases h97 : r < 97
        · go_wp2
          go_ret
          exact ⟨ret_bool (H_hfin.out (by omega)).symm, below_iter _ _ _⟩
        · by_cases h122 : 122 < r
          · go_wp2
            go_ret
            exact ⟨ret_bool (H_hfin.out (by omega)).symm, below_iter _ _ _⟩
          · go_wp2
            go_roundw
            case rel => obtain ⟨rfl, h2⟩ := H_hgo.out (by omega); exact ⟨k + 1, r, rfl, by omega, rfl, h2⟩
            case measure => obtain ⟨rfl, h2⟩ := H_hgo.out (by omega); simp; omega
    · have hnx : ∀ ty, (Instr.next (.pointer (some ⟨w.heap.size, 0, none⟩)) true ty).run Try.prog (w.iter s k) = _ := fun ty => run_next_end w s k ty hp
      rw [drop_end s k hp] at hn
      have H_hn := Lib.hid hn; clear hn
      by_cases hl : last = 45
      · subst hl
        go_wp2
        go_ret
        exact ⟨ret_bool (by rw [nameB, ← H_hn.out]; rfl), below_iter _ _ _⟩
      · have hl' : (last == 45) = false := by simpa using hl
        go_wp2
        go_ret
        exact ⟨ret_bool (nameB_end s last hl H_hn.out), below_iter _ _ _⟩
end Go.Proofs.Ytpkjmnfgpbliaaa
namespace Go.Proofs.Ytpkjmnfgpbliaaa
open Go.RowKit
set_option linter.unusedSimpArgs false
set_option linter.unusedVariables false

theorem ints1 (w : World) (a : Int) (T : TypeId) {H : Nat} (h : w.heap.size = H) : IsInts (w.alloc (.cells #[.int .i64 a] T)) (.slice (some ⟨H, 0, none⟩) 1 1) [a] := by
  subst h
  refine ⟨by simp, _, 1, by simp, rfl, .inr ⟨w.heap.size, 0, rfl, by simp, fun j hj => ?_⟩⟩
  obtain rfl : j = 0 := by simpa using hj
  refine ⟨[.int .i64 a], rfl, rfl, fun i hi => ?_⟩
  obtain rfl : i = 0 := by simpa using hi
  simp

theorem ints2 (w : World) (a b : Int) (T : TypeId) {H : Nat} (h : w.heap.size = H) : IsInts (w.alloc (.cells #[.int .i64 a, .int .i64 b] T)) (.slice (some ⟨H, 0, none⟩) 2 2) [a, b] := by
  subst h
  refine ⟨by simp, _, 2, by simp, rfl, .inr ⟨w.heap.size, 0, rfl, by simp, fun j hj => ?_⟩⟩
  have hj' : j = 0 ∨ j = 1 := by simp at hj; omega
  rcases hj' with rfl | rfl
  · refine ⟨[.int .i64 a], rfl, rfl, fun i hi => ?_⟩
    obtain rfl : i = 0 := by simpa using hi
    simp
  · refine ⟨[.int .i64 b], rfl, rfl, fun i hi => ?_⟩
    obtain rfl : i = 0 := by simpa using hi
    simp

/-- A struct of four cells in a new block. -/
theorem box4 (w : World) (v0 v1 v2 v3 : Value) (T : TypeId) : ∃ W0, w.alloc (.cells #[v0, v1, v2, v3] T) = W0 ∧ W0.cell? ⟨w.heap.size, 0, none⟩ = some v0 ∧ W0.cell? ⟨w.heap.size, 1, none⟩ = some v1 ∧
    W0.cell? ⟨w.heap.size, 2, none⟩ = some v2 ∧ W0.cell? ⟨w.heap.size, 3, none⟩ = some v3 ∧ Below w.heap.size w W0 ∧ W0.heap.size = w.heap.size + 1 :=
  ⟨_, rfl, by simp, by simp, by simp, by simp, (Below.refl _ _).alloc (Nat.le_refl _) _, by simp⟩

/-- The same cells in a later world. -/
theorem keep4 {W0 w1 : World} {B : Nat} {v0 v1 v2 v3 : Value} (hb : Below W0.heap.size W0 w1) (hB : B < W0.heap.size)
    (h0 : W0.cell? ⟨B, 0, none⟩ = some v0) (h1 : W0.cell? ⟨B, 1, none⟩ = some v1) (h2 : W0.cell? ⟨B, 2, none⟩ = some v2) (h3 : W0.cell? ⟨B, 3, none⟩ = some v3) :
    w1.cell? ⟨B, 0, none⟩ = some v0 ∧ w1.cell? ⟨B, 1, none⟩ = some v1 ∧ w1.cell? ⟨B, 2, none⟩ = some v2 ∧ w1.cell? ⟨B, 3, none⟩ = some v3 ∧ B < w1.heap.size :=
  ⟨(hb.cell hB).trans h0, (hb.cell hB).trans h1, (hb.cell hB).trans h2, (hb.cell hB).trans h3, Nat.lt_of_lt_of_le hB hb.size⟩

theorem outOne (lo hi n : Int) (W : World) {H : Nat} (h : W.heap.size = H) : Calls Try.prog 47 #[.int .i64 lo, .int .i64 hi, .slice (some ⟨H, 0, none⟩) 1 1] (W.alloc (.cells #[.int .i64 n] 3)) fun e w' =>
    e = .returned (.bool (outB lo hi [n])) ∧ Below W.heap.size W w' :=
  (out_any lo hi _ [n] _ (ints1 W n _ h)).mono fun _ _ ⟨h1, h2⟩ => ⟨h1, below_new h2⟩
theorem outTwo (lo hi n m : Int) (W : World) {H : Nat} (h : W.heap.size = H) : Calls Try.prog 47 #[.int .i64 lo, .int .i64 hi, .slice (some ⟨H, 0, none⟩) 2 2] (W.alloc (.cells #[.int .i64 n, .int .i64 m] 3)) fun e w' =>
    e = .returned (.bool (outB lo hi [n, m])) ∧ Below W.heap.size W w' :=
  (out_any lo hi _ [n, m] _ (ints2 W n m _ h)).mono fun _ _ ⟨h1, h2⟩ => ⟨h1, below_new h2⟩

def colErr (s : Shp) (i : Nat) (c : Col) : Int :=
  if nameB c.name = false then 6 else if (s.cols.take i).any (sameName c.name) then 5 else if ¬ c.shows.length = s.cols.length then 3
  else if outB 0 1000 c.shows then 7 else if outB 0 1000 [c.stay.lo, c.stay.hi] then 7 else if c.stay.hi < c.stay.lo then 2 else 0
def chkGo (s : Shp) : Nat → List Col → Int × Int × Int
  | _, [] => (0, 0, 0)
  | i, c :: t => if colErr s i c = 0 then chkGo s (i + 1) t else (2, i, colErr s i c)
/-- What Check returns. -/
def chk (s : Shp) : Int × Int × Int :=
  if outB 1 6 [(s.cols.length : Int)] then (1, 0, 3) else if outB 0 10000 [s.rinse] then (1, 0, 7) else if outB 0 1000 [s.keep.lo, s.keep.hi] then (1, 0, 7)
  else if s.keep.hi < s.keep.lo then (1, 0, 2) else chkGo s 0 s.cols
def tup3 (x : Int × Int × Int) : Value := .tuple #[.int .i64 x.1, .int .i64 x.2.1, .int .i64 x.2.2]

theorem chkGo_bad (s : Shp) (k : Nat) (h : k < s.cols.length) (he : ¬ colErr s k s.cols[k] = 0) (hg : chkGo s k (s.cols.drop k) = chkGo s 0 s.cols) (hc : chk s = chkGo s 0 s.cols) : chk s = (2, (k : Int), colErr s k s.cols[k]) := by
  rw [hc, ← hg, List.drop_eq_getElem_cons h, chkGo, if_neg he]
theorem chkGo_ok (s : Shp) (k : Nat) (h : k < s.cols.length) (he : colErr s k s.cols[k] = 0) (hg : chkGo s k (s.cols.drop k) = chkGo s 0 s.cols) : chkGo s (k + 1) (s.cols.drop (k + 1)) = chkGo s 0 s.cols := by
  rw [← hg, List.drop_eq_getElem_cons h, chkGo, if_pos he]

set_option maxHeartbeats 4000000 in
theorem check_any (v : Value) (s : Shp) (w : World) (h : IsShop w v s) :
    Calls Try.prog 15 #[v] w fun e w' => e = .returned (tup3 (chk s)) ∧ Below w.heap.size w w' := by
  obtain ⟨sl, rfl, hc⟩ := h
  obtain ⟨a, c, rfl, hlc⟩ := hc.form
  have hl := hc.len
  obtain ⟨W0, eW, b0, b1, b2, b3, hbW, hsz⟩ := box4 w (.slice a s.cols.length c) (.int .i64 s.keep.lo) (.int .i64 s.keep.hi) (.int .i64 s.rinse) 26
  have hcW := hc.below hbW
  have hB : w.heap.size < W0.heap.size := by omega
  have H_eW := Lib.hid eW; clear eW; have H_hbW := Lib.hid hbW; clear hbW; have H_hsz := Lib.hid hsz; clear hsz
  go_enter Try.func15, Try.ntmps15
  go_wp2_with fail
  rw [H_eW.out]
  refine (outOne _ _ _ W0 H_hsz.out).mono ?_
  rintro e w1 ⟨rfl, hb1⟩
  have hcB := hb1
  obtain ⟨c0, c1, c2, c3, hB1⟩ := keep4 hb1 hB b0 b1 b2 b3
  by_cases t1 : outB 1 6 [(s.cols.length : Int)] = true
  · go_wp2
    go_ret3
    exact ⟨by simp [chk, t1, tup3], H_hbW.out.trans (hb1.mono H_hbW.out.size)⟩
  · have t1 : outB 1 6 [(s.cols.length : Int)] = false := by simpa using t1
    have H_hb1 := Lib.hid hb1; clear hb1
    go_wp2_with fail
    refine (outOne _ _ _ w1 rfl).mono ?_
    rintro e w2 ⟨rfl, hb2⟩
    obtain ⟨d0, d1, d2, d3, hB2⟩ := keep4 hb2 hB1 c0 c1 c2 c3
    have H_b2 := Lib.hid (H_hb1.out.trans (hb2.mono H_hb1.out.size))
    clear hb2
    by_cases t2 : outB 0 10000 [s.rinse] = true
    · go_wp2
      go_ret3
      exact ⟨by simp [chk, t1, t2, tup3], H_hbW.out.trans (H_b2.out.mono H_hbW.out.size)⟩
    · have t2 : outB 0 10000 [s.rinse] = false := by simpa using t2
      go_wp2_with fail
      refine (outTwo _ _ _ _ w2 rfl).mono ?_
      rintro e w3 ⟨rfl, hb3⟩
      obtain ⟨e0, e1, e2, e3, hB3⟩ := keep4 hb3 hB2 d0 d1 d2 d3
      have H_b3 := Lib.hid (H_b2.out.trans (hb3.mono H_b2.out.size))
      clear hb3
      by_cases t3 : outB 0 1000 [s.keep.lo, s.keep.hi] = true
      · go_wp2
        go_ret3
        exact ⟨by simp [chk, t1, t2, t3, tup3], H_hbW.out.trans (H_b3.out.mono H_hbW.out.size)⟩
      · have t3 : outB 0 1000 [s.keep.lo, s.keep.hi] = false := by simpa using t3
        by_cases t4 : s.keep.hi < s.keep.lo
        · go_wp2
          go_ret3
          exact ⟨by simp [chk, t1, t2, t3, t4, tup3], H_hbW.out.trans (H_b3.out.mono H_hbW.out.size)⟩
        · have hchk : chk s = chkGo s 0 s.cols := by simp [chk, t1, t2, t3, t4]
          have H_hchk := Lib.hid hchk; clear hchk
          go_wp2_with fail
          go_loopw [4, 39] (fun e i wr => ∃ k : Nat, k ≤ s.cols.length ∧ e = .int .i64 0 ∧ i = .int .i64 k ∧ chkGo s k (s.cols.drop k) = chkGo s 0 s.cols ∧ Below W0.heap.size W0 wr) (fun _ i _ => s.cols.length - (intOf i).toNat)
          case atStart => exact ⟨0, by omega, rfl, rfl, rfl, H_b3.out⟩
          case round =>
            obtain ⟨k, hk, rfl, rfl, hgo, hbr⟩ := hrel
            obtain ⟨f0, f1, f2, f3, hBr⟩ := keep4 hbr hB b0 b1 b2 b3
            clear e0 e1 e2 e3 d0 d1 d2 d3 c0 c1 c2 c3 b0 b1 b2 b3
            by_cases hlt : k < s.cols.length
            · obtain ⟨b, off, sv, rfl, hbb, hsv, hnm, d0, d1, d2, d3⟩ := hcW.at k hlt
              obtain ⟨sa, sc, rfl, _⟩ := hsv.form
              have c0 := (hbr.cell (p := ⟨b, off + k * 4, none⟩) hbb).trans d0
              have c1 := (hbr.cell (p := ⟨b, off + k * 4 + 1, none⟩) hbb).trans d1
              have c2 := (hbr.cell (p := ⟨b, off + k * 4 + 2, none⟩) hbb).trans d2
              have c3 := (hbr.cell (p := ⟨b, off + k * 4 + 3, none⟩) hbb).trans d3
              clear d0 d1 d2 d3
              have hsvr := hsv.below hbr
              have H_hgo := Lib.hid hgo; clear hgo; have H_hbr := Lib.hid hbr; clear hbr
              go_wp2_with fail
              obtain ⟨W1, eW1, g0, g1, g2, g3, hbW1, hsz1⟩ := box4 wr (.string s.cols[k].name) (.int .i64 s.cols[k].stay.lo) (.int .i64 s.cols[k].stay.hi) (.slice sa s.cols[k].shows.length sc) 67
              rw [eW1]
              clear eW1
              have hB1 : wr.heap.size < W1.heap.size := by omega
              have hBW1 : w.heap.size < W1.heap.size := by omega
              have H_b1 := Lib.hid (H_hbr.out.trans (hbW1.mono H_hbr.out.size))
              have hsv1 := hsvr.below hbW1
              obtain ⟨f0, f1, f2, f3, _⟩ := keep4 (hbW1.mono (Nat.le_refl _)) hBr f0 f1 f2 f3
              clear hbW1 hsz1 c0 c1 c2 c3
              have hwn : ∀ e : Int, ¬ e = 0 → colErr s k s.cols[k] = e → chk s = (2, (k : Int), e) := fun e he h => h ▸ chkGo_bad s k hlt (by omega) H_hgo.out H_hchk.out
              have H_hwn := Lib.hid hwn; clear hwn
              refine (name_any _ W1 hnm).mono ?_
              rintro e w4 ⟨rfl, hb4⟩
              obtain ⟨f0, f1, f2, f3, hBr4⟩ := keep4 hb4 hBW1 f0 f1 f2 f3
              obtain ⟨g0, g1, g2, g3, hB4⟩ := keep4 hb4 hB1 g0 g1 g2 g3
              have hsv4 := hsv1.below hb4
              have hcW4 := hcW.below (H_b1.out.trans (hb4.mono H_b1.out.size))
              have H_b4 := Lib.hid (H_b1.out.trans (hb4.mono H_b1.out.size))
              clear hb4
              by_cases u1 : nameB s.cols[k].name = true
              · go_wp2_with fail
                refine (containsCol_any s.cols[k].name _ _ (s.cols.take k) w4 (IsList.take hcW4 k (by omega) c (by omega)) g0 hB4).mono ?_
                rintro e w5 ⟨rfl, hb5⟩
                obtain ⟨f0, f1, f2, f3, hBr5⟩ := keep4 hb5 hBr4 f0 f1 f2 f3
                obtain ⟨g0, g1, g2, g3, hB5⟩ := keep4 hb5 hB4 g0 g1 g2 g3
                have hsv5 := hsv4.below hb5
                have H_b5 := Lib.hid (H_b4.out.trans (hb5.mono H_b4.out.size))
                clear hb5
                by_cases u2' : (s.cols.take k).any (sameName s.cols[k].name) = true
                · go_wp2
                  go_ret3
                  exact ⟨by rw [H_hwn.out 5 (by omega) (by simp only [colErr, u1, u2']; simp)]; rfl, H_hbW.out.trans (H_b5.out.mono H_hbW.out.size)⟩
                · have u2' : (s.cols.take k).any (sameName s.cols[k].name) = false := by simpa only [Bool.not_eq_true] using u2'
                  by_cases u3' : s.cols[k].shows.length = s.cols.length
                  · have HU3 := Lib.hid u3'; clear u3'
                    have u3b : ((s.cols[k].shows.length : Int) == (s.cols.length : Int)) = true := by rw [HU3.out]; simp
                    go_wp2_with fail
                    refine (out_any _ _ _ _ w5 hsv5).mono ?_
                    rintro e w6 ⟨rfl, hb6⟩
                    obtain ⟨f0, f1, f2, f3, hBr6⟩ := keep4 hb6 hBr5 f0 f1 f2 f3
                    obtain ⟨g0, g1, g2, g3, hB6⟩ := keep4 hb6 hB5 g0 g1 g2 g3
                    have H_b6 := Lib.hid (H_b5.out.trans (hb6.mono H_b5.out.size))
                    clear hb6
                    by_cases u4' : outB 0 1000 s.cols[k].shows = true
                    · go_wp2
                      go_ret3
                      exact ⟨by rw [H_hwn.out 7 (by omega) (by simp only [colErr, u1, u2', HU3.out, u4']; simp)]; rfl, H_hbW.out.trans (H_b6.out.mono H_hbW.out.size)⟩
                    · have u4' : outB 0 1000 s.cols[k].shows = false := by simpa using u4'
                      go_wp2_with fail
                      refine (outTwo _ _ _ _ w6 rfl).mono ?_
                      rintro e w7 ⟨rfl, hb7⟩
                      obtain ⟨f0, f1, f2, f3, hBr7⟩ := keep4 hb7 hBr6 f0 f1 f2 f3
                      obtain ⟨g0, g1, g2, g3, hB7⟩ := keep4 hb7 hB6 g0 g1 g2 g3
                      have H_b7 := Lib.hid (H_b6.out.trans (hb7.mono H_b6.out.size))
                      clear hb7
                      by_cases u5' : outB 0 1000 [s.cols[k].stay.lo, s.cols[k].stay.hi] = true
                      · go_wp2
                        go_ret3
                        exact ⟨by rw [H_hwn.out 7 (by omega) (by simp only [colErr, u1, u2', HU3.out, u4', u5']; simp)]; rfl, H_hbW.out.trans (H_b7.out.mono H_hbW.out.size)⟩
                      · have u5' : outB 0 1000 [s.cols[k].stay.lo, s.cols[k].stay.hi] = false := by simpa using u5'
                        by_cases u6' : s.cols[k].stay.hi < s.cols[k].stay.lo
                        · go_wp2
                          go_ret3
                          exact ⟨by rw [H_hwn.out 2 (by omega) (by simp only [colErr, u1, u2', HU3.out, u4', u5', u6']; simp)]; rfl, H_hbW.out.trans (H_b7.out.mono H_hbW.out.size)⟩
                        · have hok : colErr s k s.cols[k] = 0 := by simp only [colErr, u1, u2', HU3.out, u4', u5', u6']; simp
                          have H_hok := Lib.hid hok; clear hok
                          go_wp2
                          go_roundw
                          case rel => exact ⟨k + 1, by omega, rfl, by go_num, chkGo_ok s k hlt H_hok.out H_hgo.out, H_b7.out⟩
                          case measure => simp [intOf]; omega
                  · have u3b : ((s.cols[k].shows.length : Int) == (s.cols.length : Int)) = false := by simp; omega
                    go_wp2
                    go_ret3
                    exact ⟨by rw [H_hwn.out 3 (by omega) (by simp only [colErr, u1, u2', u3']; simp)]; rfl, H_hbW.out.trans (H_b5.out.mono H_hbW.out.size)⟩
              · have u1 : nameB s.cols[k].name = false := by simpa using u1
                go_wp2
                go_ret3
                exact ⟨by rw [H_hwn.out 6 (by omega) (by simp [colErr, u1])]; rfl, H_hbW.out.trans (H_b4.out.mono H_hbW.out.size)⟩
            · have H_hgo := Lib.hid hgo; clear hgo; have H_hbr := Lib.hid hbr; clear hbr
              go_wp2
              go_ret3
              obtain rfl : k = s.cols.length := by omega
              exact ⟨by rw [H_hchk.out, ← H_hgo.out]; simp [chkGo, tup3], H_hbW.out.trans (H_hbr.out.mono H_hbW.out.size)⟩
end Go.Proofs.Ytpkjmnfgpbliaaa
