/-
  The contracts of Best, Two and Rush, as the plain machine takes them. Conditions: none.
-/
import Derived.Test.YtpkjmnfgpbliaaaZSame
import Derived.Test.YtpkjmnfgpbliaaaZLaw3
namespace Go.Proofs.Ytpkjmnfgpbliaaa
open Go.RowKit
set_option linter.unusedSimpArgs false
set_option linter.unusedVariables false

/-- A row of numbers of the call's own reads as data. -/
theorem ints_rel {w0 w : World} {base : Nat} {v : Value} {l : List Int} (h : w.ownsRow base 3 1 v l.length (l.map (Value.int .i64))) (hl : l.length ≤ 1000000) (m : Nat → Nat → Prop) (hm : ∀ b o, base ≤ b → b < w.heap.size → m b o) : Rel m w ((cList rInt).enc l) v := by
  rw [cList_enc]
  simp only [Rel, List.length_map]
  refine ⟨by omega, ?_⟩
  rcases h.2 with ⟨rfl, h0⟩ | ⟨g, cap, cur, rfl, hb, hg, hnc, hcm, hcs, htk⟩
  · exact ⟨none, 0, by rw [h0], by omega, .inl (by simpa using List.length_eq_zero_iff.1 h0)⟩
  · have hgw : g < w.heap.size := (Array.getElem?_eq_some_iff.1 hg).1
    refine ⟨_, _, rfl, hnc, .inr ⟨g, 0, rfl, RelRows.of fun i r hr => ?_⟩⟩
    rw [List.getElem?_map] at hr
    obtain ⟨x, hx, rfl⟩ := Option.map_eq_some_iff.1 hr
    refine ⟨rfl, ?_⟩
    rw [rInt_enc]
    refine ⟨⟨.int .i64 x, hm _ _ hb hgw, ?_, rfl, by simp [Rel]⟩, trivial⟩
    have := h.cells (g := g) rfl i (.int .i64 x) (by simp [hx])
    rw [Addr.add_lit] at this
    rw [rInt_k]; simpa using this
theorem orderF_len (s : Shp) (l : List Bat) : ∀ (k : Nat) (bf : Int) (lf : Nat), (orderF s l k bf lf).length ≤ k
  | 0, _, _ => Nat.le_refl _
  | k + 1, bf, lf => by
    simp only [orderF]
    split
    · simp
    · have := orderF_len s l k (l.getD (planV s l bf lf).next.toNat default).c (lf - 2 ^ (planV s l bf lf).next.toNat)
      rw [List.length_cons]; omega
theorem orderV_len (s : Shp) (l : List Bat) (bf : Int) (lf : Nat) : (orderV s l bf lf).length ≤ lf := orderF_len s l lf bf lf
theorem bestR_len (s : Shp) (st : Int) (l : List Bat) : (bestR s st l).1.length ≤ 1000000 := by
  unfold bestR
  split
  · simp
  · rename_i he
    split
    · simp
    · have := orderV_len s l st (2 ^ l.length - 1)
      obtain ⟨_, _, hl7, _⟩ := openErr_zero (by simpa using he)
      have := (pow_len hl7).2
      dsimp only; omega
theorem twoR_len (s : Shp) (a b : Int) (l : List Bat) : (twoR s a b l).1.1.length ≤ 1000000 ∧ (twoR s a b l).1.2.length ≤ 1000000 := by
  unfold twoR
  split
  · simp
  · rename_i he
    split
    · simp
    · obtain ⟨_, _, hl7, _⟩ := openErr_zero (by simpa using he)
      have h1 := (pow_len hl7).2
      have h2 := (twoL_lt s l a b (2 ^ l.length)).1
      have h3 := orderV_len s l a (twoL s l a b (2 ^ l.length)).1
      have h4 := orderV_len s l b (2 ^ l.length - 1 - (twoL s l a b (2 ^ l.length)).1)
      dsimp only
      omega
def sBest : List D → Option D := sp3 (cAgg rShp) cInt (cList rBat) (cTup3 (cList rInt) cInt cInt) fun s st l => if namesOk s then some (refBest s st l) else none
theorem okBest : ∀ ds d, sBest ds = some d → PureC Try.prog 28 ds d := ok_sp3 fun s st l res hr => by
  split at hr
  · rename_i hs
    cases hr
    intro m w vs hm hr
    simp only [RelL] at hr
    obtain ⟨v, t, rfl, h1, v1, t1, rfl, e1, v2, t2, rfl, h2, rfl⟩ := hr
    simp only [cInt_enc, Rel] at e1
    subst e1
    refine (Best_any v v2 s st l w (shop_of_rel hm hs h1) (bats_of_rel hm h2)).mono ?_
    rintro e w' ⟨⟨ov, rfl, hown⟩, hb⟩
    refine ⟨_, fun b o => w.heap.size ≤ b ∧ b < w'.heap.size, rfl, hb, fun b o h => h, ?_⟩
    have hrel := ints_rel (w0 := w) hown (bestR_len s st l) (fun b o => m b o ∨ w.heap.size ≤ b ∧ b < w'.heap.size) (fun b o h1 h2 => .inr ⟨h1, h2⟩)
    rw [bestR_eq] at hrel ⊢
    rw [cTup3_enc]
    simp only [Rel, RelL]
    exact ⟨[ov, _, _], rfl, _, _, rfl, hrel, _, _, rfl, by simp [cInt_enc, Rel], _, _, rfl, by simp [cInt_enc, Rel], rfl⟩
  · cases hr
theorem one_of_owns {w : World} {b k n : Nat} {T : TypeId} {v : Value} {xs : List Value} (h : w.ownsRow b T k v n xs) : v.oneCell' = true := by
  obtain ⟨a, c, rfl⟩ := ownsRow_form h; rfl
theorem two_one {a b : Value} (ha : a.oneCell' = true) (hb : b.oneCell' = true) : ∀ v ∈ [a, b], v.oneCell' = true := fun v hv => by
  rcases List.mem_cons.1 hv with rfl | hv
  · exact ha
  · rcases List.mem_cons.1 hv with rfl | hv
    · exact hb
    · cases hv
def sTwo : List D → Option D := sp3 (cAgg rShp) (cAgg rTwo) (cList rBat) (cTup3 (cAgg rPair) cInt cInt) fun s st l => if namesOk s then some (refTwo s st l) else none
theorem okTwo : ∀ ds d, sTwo ds = some d → PureC Try.prog 31 ds d := ok_sp3 fun s st l res hr => by
  split at hr
  · rename_i hs
    cases hr
    intro m w vs hm hr
    simp only [RelL] at hr
    obtain ⟨v, t, rfl, h1, v1, t1, rfl, e1, v2, t2, rfl, h2, rfl⟩ := hr
    rw [cAgg_enc, rTwo_enc] at e1
    simp only [Rel, RelL] at e1
    obtain ⟨vs, rfl, _, v0, t0, rfl, e0, v1, t1, rfl, e1, rfl⟩ := e1
    subst e0 e1
    obtain ⟨a, b⟩ := st
    refine (Two_any v v2 s a b l w (shop_of_rel hm hs h1) (bats_of_rel hm h2)).mono ?_
    rintro e w' ⟨⟨o1, o2, rfl, hown1, hown2⟩, hb⟩
    refine ⟨_, fun b o => w.heap.size ≤ b ∧ b < w'.heap.size, rfl, hb, fun b o h => h, ?_⟩
    have hrel1 := ints_rel (w0 := w) hown1 (twoR_len s a b l).1 (fun b o => m b o ∨ w.heap.size ≤ b ∧ b < w'.heap.size) (fun b o h1 h2 => .inr ⟨h1, h2⟩)
    have hrel2 := ints_rel (w0 := w) hown2 (twoR_len s a b l).2 (fun b o => m b o ∨ w.heap.size ≤ b ∧ b < w'.heap.size) (fun b o h1 h2 => .inr ⟨h1, h2⟩)
    have ho1 := one_of_owns hown1
    have ho2 := one_of_owns hown2
    rw [twoR_eq] at hrel1 hrel2 ⊢
    rw [cTup3_enc, cAgg_enc, rPair_enc]
    simp only [Rel, RelL]
    refine ⟨[.agg #[o1, o2], _, _], rfl, _, _, rfl, ⟨[o1, o2], rfl, two_one ho1 ho2, _, _, rfl, ?_, _, _, rfl, ?_, rfl⟩, _, _, rfl, by simp [cInt_enc, Rel], _, _, rfl, by simp [cInt_enc, Rel], rfl⟩
    · rw [cList_enc, rInt_k] at hrel1; simpa only [Rel] using hrel1
    · rw [cList_enc, rInt_k] at hrel2; simpa only [Rel] using hrel2
  · cases hr
def sRush : List D → Option D := sp5 (cAgg rShp) cInt (cList rBat) (cList rInt) (cAgg rBat) (cTup3 cInt cInt cInt) fun s st l o b => if namesOk s then some (rushR s st l o b) else none
theorem okRush : ∀ ds d, sRush ds = some d → PureC Try.prog 26 ds d := ok_sp5 fun s st l o b res hr => by
  split at hr
  · rename_i hs
    cases hr
    refine pure_words fun m w vs hm hr => ?_
    simp only [RelL] at hr
    obtain ⟨v, t, rfl, h1, v1, t1, rfl, e1, v2, t2, rfl, h2, v3, t3, rfl, h3, v4, t4, rfl, h4, rfl⟩ := hr
    simp only [cInt_enc, Rel] at e1
    subst e1
    obtain rfl := bat_of_rel h4
    rw [← rushP_eq]
    exact ⟨_, Rush_any v v2 v3 s st l o b w (shop_of_rel hm hs h1) (bats_of_rel hm h2) (ints_of_rel hm h3), fun m' w' => by simp [cTup3_enc, Rel, RelL, cInt_enc, tup3]⟩
  · cases hr
end Go.Proofs.Ytpkjmnfgpbliaaa
