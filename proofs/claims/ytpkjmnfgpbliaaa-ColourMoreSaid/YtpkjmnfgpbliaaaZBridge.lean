/-
  The contracts of the program's functions, as the plain machine takes them. Conditions: none.
-/
import Derived.Test.YtpkjmnfgpbliaaaZRefC
namespace Go.Proofs.Ytpkjmnfgpbliaaa
open Go.RowKit
set_option linter.unusedSimpArgs false
set_option linter.unusedVariables false

theorem list_of_rel {α : Type} (r : Row α) {n : Nat} (hk : r.k = n) (hn : 0 < n) (R : World → List Value → α → Prop) {m : Nat → Nat → Prop} {w : World} (hm : ∀ b o, m b o → b < w.heap.size) {l : List α}
    (H : ∀ x ∈ l, ∀ b o, RelCells m w (r.enc x) b o → (r.enc x).length = n → ∃ cs : List Value, cs.length = n ∧ R w cs x ∧ ∀ i (hi : i < cs.length), w.cell? ⟨b, o + i, none⟩ = some cs[i]) {v : Value} (h : Rel m w ((cList r).enc l) v) : IsList n R w v l := by
  rw [cList_enc] at h
  simp only [Rel, List.length_map] at h
  obtain ⟨h0, a, c, h1, h2, h3⟩ := h
  refine ⟨h0, a, c, h2, h1, ?_⟩
  rcases h3 with h3 | ⟨b, o, ha, hr⟩
  · exact .inl (by simpa using h3)
  · by_cases hl : l = []
    · exact .inl hl
    · refine .inr ⟨b, o, ha, ?_, fun j hj => ?_⟩
      · obtain ⟨x, t, rfl⟩ : ∃ x t, l = x :: t := by
          cases l with
          | nil => exact absurd rfl hl
          | cons x t => exact ⟨x, t, rfl⟩
        obtain ⟨e1, e2⟩ := hr.get 0 (r.enc x) rfl
        obtain ⟨d, hd⟩ : ∃ d, (r.enc x)[0]? = some d := ⟨(r.enc x)[0]'(by omega), List.getElem?_eq_getElem _⟩
        obtain ⟨v', hmb, _⟩ := e2.get 0 d hd
        exact hm _ _ hmb
      · obtain ⟨e1, e2⟩ := hr.get j (r.enc l[j]) (by simp [hj])
        rw [hk] at e1 e2
        obtain ⟨cs, f1, f2, f3⟩ := H _ (List.getElem_mem hj) _ _ e2 e1
        refine ⟨cs, f1, f2, fun i hi => ?_⟩
        rw [← Nat.add_assoc]; exact f3 i hi
theorem ints_of_rel {m : Nat → Nat → Prop} {w : World} (hm : ∀ b o, m b o → b < w.heap.size) {l : List Int} {v : Value} (h : Rel m w ((cList rInt).enc l) v) : IsInts w v l := by
  refine list_of_rel rInt (n := 1) rfl (by decide) RInt hm (fun x _ b o hc _ => ?_) h
  rw [rInt_enc] at hc
  simp only [RelCells, Rel] at hc
  obtain ⟨⟨v, _, h2, _, rfl⟩, _⟩ := hc
  refine ⟨[.int .i64 x], rfl, rfl, fun i hi => ?_⟩
  have : i = 0 := by simpa using hi
  subst this; simpa using h2
theorem bats_of_rel {m : Nat → Nat → Prop} {w : World} (hm : ∀ b o, m b o → b < w.heap.size) {l : List Bat} {v : Value} (h : Rel m w ((cList rBat).enc l) v) : IsBats w v l := by
  refine list_of_rel rBat (n := 2) rfl (by decide) RBat hm (fun x _ b o hc _ => ?_) h
  rw [rBat_enc] at hc
  simp only [RelCells, Rel] at hc
  obtain ⟨⟨v, _, h2, _, rfl⟩, ⟨v', _, h3, _, rfl⟩, _⟩ := hc
  refine ⟨[.int .i64 x.c, .int .i64 x.g], rfl, rfl, fun i hi => ?_⟩
  have : i = 0 ∨ i = 1 := by simp at hi; omega
  rcases this with rfl | rfl
  · simpa using h2
  · simpa using h3
def namesOk (s : Shp) : Prop := ∀ c ∈ s.cols, c.name.size ≤ 140737488355328
instance (s : Shp) : Decidable (namesOk s) := inferInstanceAs (Decidable (∀ c ∈ s.cols, _))
theorem cols_of_rel {m : Nat → Nat → Prop} {w : World} (hm : ∀ b o, m b o → b < w.heap.size) {l : List Col} (hs : ∀ c ∈ l, c.name.size ≤ 140737488355328) {v : Value} (h : Rel m w ((cList rCol).enc l) v) : IsCols w v l := by
  refine list_of_rel rCol (n := 4) rfl (by decide) RCol hm (fun x hx b o hc _ => ?_) h
  rw [rCol_enc] at hc
  simp only [RelCells] at hc
  obtain ⟨⟨v, _, h2, _, e1⟩, ⟨v1, _, h3, _, e2⟩, ⟨v2, _, h4, _, e3⟩, ⟨v3, _, h5, _, e4⟩, _⟩ := hc
  simp only [Rel] at e1 e2 e3
  subst e1 e2 e3
  refine ⟨[.string x.name, .int .i64 x.stay.lo, .int .i64 x.stay.hi, v3], rfl, ⟨v3, rfl, ints_of_rel hm e4, hs x hx⟩, fun i hi => ?_⟩
  have : i = 0 ∨ i = 1 ∨ i = 2 ∨ i = 3 := by simp at hi; omega
  rcases this with rfl | rfl | rfl | rfl
  · simpa using h2
  · simpa using h3
  · simpa using h4
  · simpa using h5
theorem shop_of_rel {m : Nat → Nat → Prop} {w : World} (hm : ∀ b o, m b o → b < w.heap.size) {s : Shp} (hs : namesOk s) {v : Value} (h : Rel m w ((cAgg rShp).enc s) v) : IsShop w v s := by
  rw [cAgg_enc, rShp_enc] at h
  simp only [Rel, RelL] at h
  obtain ⟨vs, rfl, _, v0, t0, rfl, e0, v1, t1, rfl, e1, v2, t2, rfl, e2, v3, t3, rfl, e3, rfl⟩ := h
  subst e1 e2 e3
  exact ⟨v0, rfl, cols_of_rel hm hs (by rw [cList_enc]; simp only [Rel]; exact e0)⟩
theorem bat_of_rel {m : Nat → Nat → Prop} {w : World} {b : Bat} {v : Value} (h : Rel m w ((cAgg rBat).enc b) v) : v = .agg #[.int .i64 b.c, .int .i64 b.g] := by
  rw [cAgg_enc, rBat_enc] at h
  simp only [Rel, RelL] at h
  obtain ⟨vs, rfl, _, v0, t0, rfl, e0, v1, t1, rfl, e1, rfl⟩ := h
  subst e0 e1
  rfl
/-- A function that returns plain words. -/
theorem pure_words {P : Program} {f : Nat} {ds : List D} {d : D} (h : ∀ (m : Nat → Nat → Prop) (w : World) (vs : List Value), (∀ b o, m b o → b < w.heap.size) → RelL m w ds vs → ∃ v, Calls P f vs.toArray w (fun e w' => e = .returned v ∧ Below w.heap.size w w') ∧ ∀ m' w', Rel m' w' d v) : PureC P f ds d := fun m w vs hm hr => by
  obtain ⟨v, h1, h2⟩ := h m w vs hm hr
  exact h1.mono fun e w' ⟨he, hb⟩ => ⟨v, fun _ _ => False, he, hb, fun b o h => h.elim, h2 _ _⟩
def sCheck : List D → Option D := sp1 (cAgg rShp) (cTup3 cInt cInt cInt) fun s => if namesOk s then some (chk s) else none
theorem okCheck : ∀ ds d, sCheck ds = some d → PureC Try.prog 15 ds d := ok_sp1 fun s r hr => by
  split at hr
  · rename_i hs
    cases hr
    refine pure_words fun m w vs hm hr => ?_
    simp only [RelL] at hr
    obtain ⟨v, t, rfl, h1, rfl⟩ := hr
    exact ⟨_, check_any v s w (shop_of_rel hm hs h1), fun m' w' => by simp [cTup3_enc, Rel, RelL, cInt_enc, tup3]⟩
  · cases hr
def sLeft : List D → Option D := sp3 (cAgg rShp) cInt cInt (cTup2 (cAgg rSpn) cInt) fun s c r => if namesOk s then some (leftR s c r) else none
theorem okLeft : ∀ ds d, sLeft ds = some d → PureC Try.prog 17 ds d := ok_sp3 fun s c r res hr => by
  split at hr
  · rename_i hs
    cases hr
    refine pure_words fun m w vs hm hr => ?_
    simp only [RelL, Rel, cInt_enc] at hr
    obtain ⟨v, t, rfl, h1, v1, t1, rfl, rfl, v2, t2, rfl, rfl, rfl⟩ := hr
    refine ⟨_, Left_any v s c r w (shop_of_rel hm hs h1), fun m' w' => ?_⟩
    simp only [cTup2_enc, cAgg_enc, rSpn_enc, cInt_enc, Rel, RelL, tupS]
    exact ⟨_, rfl, _, _, rfl, ⟨[.int .i64 (leftR s c r).1.lo, .int .i64 (leftR s c r).1.hi], rfl, by simp [Value.oneCell'], _, _, rfl, rfl, _, _, rfl, rfl, rfl⟩, _, _, rfl, rfl, rfl⟩
  · cases hr
def sRinses : List D → Option D := sp3 (cAgg rShp) cInt (cAgg rBat) (cTup2 cInt cInt) fun s c b => if namesOk s then some (rinsesR s c b) else none
theorem okRinses : ∀ ds d, sRinses ds = some d → PureC Try.prog 19 ds d := ok_sp3 fun s c b res hr => by
  split at hr
  · rename_i hs
    cases hr
    refine pure_words fun m w vs hm hr => ?_
    simp only [RelL] at hr
    obtain ⟨v, t, rfl, h1, v1, t1, rfl, e1, v2, t2, rfl, h2, rfl⟩ := hr
    simp only [cInt_enc, Rel] at e1
    subst e1
    obtain rfl := bat_of_rel h2
    exact ⟨_, Rinses_any v s c b w (shop_of_rel hm hs h1), fun m' w' => by simp [cTup2_enc, Rel, RelL, cInt_enc, tup2]⟩
  · cases hr
def sLost : List D → Option D := sp4 (cAgg rShp) cInt (cList rBat) (cList rInt) (cTup2 cInt cInt) fun s c l o => if namesOk s then some (lostR s c l o) else none
theorem okLost : ∀ ds d, sLost ds = some d → PureC Try.prog 22 ds d := ok_sp4 fun s c l o res hr => by
  split at hr
  · rename_i hs
    cases hr
    refine pure_words fun m w vs hm hr => ?_
    simp only [RelL] at hr
    obtain ⟨v, t, rfl, h1, v1, t1, rfl, e1, v2, t2, rfl, h2, v3, t3, rfl, h3, rfl⟩ := hr
    simp only [cInt_enc, Rel] at e1
    subst e1
    exact ⟨_, Lost_any v v2 v3 s c l o w (shop_of_rel hm hs h1) (bats_of_rel hm h2) (ints_of_rel hm h3), fun m' w' => by simp [cTup2_enc, Rel, RelL, cInt_enc, tup2]⟩
  · cases hr
def sShows : List D → Option D := sp5 (cAgg rShp) cInt (cList rBat) (cList rInt) (cList rInt) (cTup2 cInt cInt) fun s c l o r => if namesOk s then some (showsR s c l o r) else none
theorem okShows : ∀ ds d, sShows ds = some d → PureC Try.prog 24 ds d := ok_sp5 fun s c l o r res hr => by
  split at hr
  · rename_i hs
    cases hr
    refine pure_words fun m w vs hm hr => ?_
    simp only [RelL] at hr
    obtain ⟨v, t, rfl, h1, v1, t1, rfl, e1, v2, t2, rfl, h2, v3, t3, rfl, h3, v4, t4, rfl, h4, rfl⟩ := hr
    simp only [cInt_enc, Rel] at e1
    subst e1
    exact ⟨_, Shows_any v v2 v3 v4 s c l o r w (shop_of_rel hm hs h1) (bats_of_rel hm h2) (ints_of_rel hm h3) (ints_of_rel hm h4), fun m' w' => by simp [cTup2_enc, Rel, RelL, cInt_enc, tup2]⟩
  · cases hr
end Go.Proofs.Ytpkjmnfgpbliaaa
