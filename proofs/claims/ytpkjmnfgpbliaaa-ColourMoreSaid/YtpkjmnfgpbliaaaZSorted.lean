/-
  slices.Sorted and slices.Compact at ints, and (*shop).strange: what they return. Conditions: the values read as lists; at most a million numbers.
-/
import Derived.Sort.OwnSortedInts
import Derived.Lib.SlicesCompact
import Derived.Test.YtpkjmnfgpbliaaaZCollect
import Derived.Test.YtpkjmnfgpbliaaaZShelf
namespace Go.Proofs.Ytpkjmnfgpbliaaa
open Go.RowKit Go.Shelf Go.Sort
set_option linter.unusedSimpArgs false
set_option linter.unusedVariables false

def sortI (l : List Int) : List Int := l.mergeSort fun x y => decide (x ≤ y)
theorem sortI_len (l : List Int) : (sortI l).length = l.length := by simp [sortI]
theorem sortI_perm (l : List Int) : (sortI l).Perm l := List.mergeSort_perm _ _
theorem sortI_pair (l : List Int) : (sortI l).Pairwise (· ≤ ·) := by
  have := List.pairwise_mergeSort (le := fun x y : Int => decide (x ≤ y)) (by intro a b c h1 h2; simp at *; omega) (by intro a b; simp; omega) l
  exact this.imp (by simp)

/-- Compact cuts a sorted list just if a number stands in it twice. -/
theorem compact_cut (l : List Int) : (Lib.compact (sortI l)).length < (sortI l).length ↔ ¬ l.Nodup := by
  have hn : (sortI l).Nodup ↔ l.Nodup := (sortI_perm l).nodup_iff
  rw [← hn]
  have hs := sortI_pair l
  generalize sortI l = ts at hs ⊢
  constructor
  · intro h hd
    rw [Lib.compact_all ts] at h
    · omega
    · intro j hj
      by_cases h0 : j = 0
      · simp [Lib.keeps, h0]
      · have hp := List.pairwise_iff_getElem.1 hd (j - 1) j (by omega) hj (by omega)
        simp [Lib.keeps, h0, hj, show j - 1 < ts.length by omega]
        exact fun e => hp e.symm
  · intro hd
    have : ∃ j, ∃ hj : j < ts.length, Lib.keeps ts.toArray j = false := by
      apply Classical.byContradiction
      intro hno
      apply hd
      have hk : ∀ j (hj : j < ts.length), 0 < j → ts[j] ≠ ts[j - 1] := by
        intro j hj h0 he
        apply hno
        refine ⟨j, hj, ?_⟩
        simp [Lib.keeps, show ¬ j = 0 by omega, hj, show j - 1 < ts.length by omega, he]
      rw [List.nodup_iff_pairwise_ne, List.pairwise_iff_getElem]
      intro i j hi hj hij he
      have h1 := hk j hj (by omega)
      have h2 : ts[i] ≤ ts[j - 1] := by
        by_cases e : i = j - 1
        · subst e; exact Int.le_refl _
        · exact List.pairwise_iff_getElem.1 hs i (j - 1) hi (by omega) (by omega)
      have h3 : ts[j - 1] ≤ ts[j] := List.pairwise_iff_getElem.1 hs (j - 1) j (by omega) hj (by omega)
      exact h1 (by omega)
    obtain ⟨j, hj, hk⟩ := this
    simp only [Lib.compact, Lib.compactUpTo, List.length_map]
    have h1 : ((List.range ts.length).filter (Lib.keeps ts.toArray)).length < (List.range ts.length).length := by
      apply Nat.lt_of_le_of_ne (List.length_filter_le _ _)
      intro he
      have := List.length_filter_eq_length_iff.1 he j (by simpa using hj)
      rw [hk] at this; cases this
    simpa using h1

theorem sortedInt_any (gf : Nat) (lb : Array Value) (bs : List Int) (D : Nat → Prop) (w : World)
    (hseq : ∀ n, 1 ≤ n → SeqStopsK Fence.wide n Try.prog gf lb encI (KeepB D) (fun ys => ys = bs) (fun pre => pre <+: bs) bs.length w) (hDw : ∀ k, D k → k < w.heap.size)
    (eg : ∀ xs w', (callFunc gf xs).run Try.prog w' = .ok (.enter gf xs) w') (hlen : bs.length ≤ 1000000) :
    Calls Try.prog 86 #[.func (.func gf) #[] lb] w fun e w' => (∃ v, e = .returned v ∧ w'.ownsRow w.heap.size 3 1 v (sortI bs).length ((sortI bs).map (Value.int .i64))) ∧ Below w.heap.size w w' := by
  have H_hseq := Lib.hid hseq; clear hseq; have H_hDw := Lib.hid hDw; clear hDw; have H_eg := Lib.hid eg; clear eg
  go_enter Try.func86, Try.ntmps86
  go_wp2_with fail
  refine (collectInt_any gf lb bs D w H_hseq.out H_hDw.out H_eg.out hlen).mono ?_
  rintro e w1 ⟨⟨v, rfl, ho⟩, hb⟩
  obtain ⟨hol, h⟩ := ho
  rcases h with ⟨rfl, h0⟩ | ⟨g, cap, cur, rfl, hbg, hg, hlc, hcm, hcs, hcur⟩
  · obtain rfl : bs = [] := List.length_eq_zero_iff.1 h0
    have H_hb := Lib.hid hb; clear hb
    go_wp2_with fail
    refine (Try.slices_Sort_int_none none 0 w1).mono ?_
    rintro e w2 ⟨rfl, rfl⟩
    go_wp2
    go_ret
    exact ⟨⟨_, rfl, by simp [sortI, World.ownsRow]⟩, H_hb.out⟩
  · have hH := holds_of_blockI hg (by simpa using hcur)
    have hgl : g < w1.heap.size := (Array.getElem?_eq_some_iff.1 hg).1
    have H_hb := Lib.hid hb; clear hb; have H_hg := Lib.hid hg; clear hg; have H_hcur := Lib.hid hcur; clear hcur; have H_hcs := Lib.hid hcs; clear hcs
    go_wp2_with fail
    refine (Try.slices_Sort_int g 0 cap bs w1 hH hgl (by omega)).mono ?_
    rintro e w2 ⟨rfl, n, os, rfl⟩
    have hrow := ownsRow_sortedI (w := w1) (base := w.heap.size) (g := g) (cap := cap) (n := n) (e := 3) (os := os) (cur := cur) (ss := bs) (ts := sortI bs) (sortI_len bs) hbg H_hg.out hlc hcm (by have := H_hcs.out; omega)
    have hbel : Below w.heap.size w (grow (putRow (Value.int .i64) (Sort.ahead w1 n) g 0 (sortI bs).toArray) os) :=
      H_hb.out.grown (grownBy_sortedI _) H_hb.out.size (fun k e => by cases e; exact hbg)
    simp only [sortI] at hrow hbel
    generalize grow (putRow (Value.int .i64) (Sort.ahead w1 n) g 0 (bs.mergeSort fun x y => decide (x ≤ y)).toArray) os = w3 at hrow hbel ⊢
    have H_hrow := Lib.hid hrow; clear hrow; have H_hbel := Lib.hid hbel; clear hbel
    go_wp2
    go_ret
    exact ⟨⟨_, rfl, by rw [sortI_len]; exact H_hrow.out⟩, H_hbel.out⟩

theorem compactInt_any (v : Value) (base : Nat) (l : List Int) (w : World) (ho : w.ownsRow base 3 1 v l.length (l.map (Value.int .i64))) (hlen : l.length ≤ 1000000) :
    Calls Try.prog 85 #[v] w fun e w' => (∃ a c, e = .returned (.slice a (Lib.compact l).length c)) ∧ Below base w w' := by
  obtain ⟨hol, h⟩ := ho
  rcases h with ⟨rfl, h0⟩ | ⟨g, cap, cur, rfl, hbg, hg, hlc, hcm, hcs, hcur⟩
  · obtain rfl : l = [] := List.length_eq_zero_iff.1 h0
    refine (Try.slices_Compact_int_empty none 0 w).mono ?_
    rintro e w2 ⟨rfl, rfl⟩
    exact ⟨⟨none, 0, rfl⟩, Below.refl _ _⟩
  · have hH := holds_of_blockI hg (by simpa using hcur)
    refine (Try.slices_Compact_int g 0 cap l w hH (by omega) hlc).mono ?_
    rintro e w2 ⟨rfl, q, rfl⟩
    refine ⟨⟨_, _, rfl⟩, ?_⟩
    refine ⟨rfl, rfl, rfl, by simp [putRow, mapBlock, Sort.ahead], fun k hk => ?_⟩
    have : g ≠ k := by omega
    simp [putRow, mapBlock, Sort.ahead, Array.getElem?_modify, this]

/-- What strange returns: an order of another length, a number out of range, one that stands there twice. -/
def strangeE (n : Nat) (ord : List Int) : Int :=
  if ¬ ord.length = n then 3 else if outB 0 ((n : Int) - 1) ord then 4 else if ¬ ord.Nodup then 5 else 0

theorem call_vInt1 (xs : Array Value) (w : World) : (callFunc 101 xs).run Try.prog w = .ok (.enter 101 xs) w := by kernel_rfl

theorem strange_any (P : Nat) (lv ov : Value) (l : List Bat) (ord : List Int) (w : World) (hl : IsBats w lv l) (ho : IsInts w ov ord) (c4 : w.cell? ⟨P, 4, none⟩ = some lv) (hsm : l.length ≤ 8) :
    Calls Try.prog 61 #[.pointer (some ⟨P, 0, none⟩), ov] w fun e w' => e = .returned (.int .i64 (strangeE l.length ord)) ∧ Below w.heap.size w w' := by
  obtain ⟨la, lc, rfl, _⟩ := hl.form
  obtain ⟨oa, oc, hov, _⟩ := ho.form
  have hll := hl.len
  have hol := ho.len
  by_cases h1 : ord.length = l.length
  · have hr : strangeE l.length ord = if outB 0 ((l.length : Int) - 1) ord then 4 else if ¬ ord.Nodup then 5 else 0 := by rw [strangeE, if_neg (by simpa using h1)]
    subst hov
    rw [h1] at ho ⊢
    have H_hl := Lib.hid hl; clear hl; have H_hr := Lib.hid hr; clear hr
    go_enter Try.func61, Try.ntmps61
    go_wp2_with fail
    refine (out_any 0 ((l.length : Int) - 1) (.slice oa l.length oc) ord w ho).mono ?_
    rintro e w1 ⟨rfl, hb1⟩
    have ho1 := ho.below hb1
    by_cases h2 : outB 0 ((l.length : Int) - 1) ord = true
    · rw [if_pos h2] at H_hr
      have H_hb1 := Lib.hid hb1; clear hb1
      go_wp2
      go_ret
      exact ⟨ret_int H_hr.out.symm, H_hb1.out⟩
    · rw [if_neg h2] at H_hr
      have h2 : outB 0 ((l.length : Int) - 1) ord = false := by simpa using h2
      have hsz1 := hb1.size
      have H_hb1 := Lib.hid hb1; clear hb1
      go_wp2_with fail
      refine (valuesInt_any _ ord w1 ho1).mono ?_
      rintro e w2 ⟨rfl, cv, hb2, hs2⟩
      have hseq : ∀ n, 1 ≤ n → SeqStopsK Fence.wide n Try.prog 101 #[.pointer (some ⟨w1.heap.size, 0, none⟩)] encI (KeepB (· < w2.heap.size)) (fun ys => ys = ord) (fun pre => pre <+: ord) ord.length w2 :=
        fun n hn => valuesInt1_stops (· < w2.heap.size) _ ord w1.heap.size w1 w2 hb2 (fun k hk => by omega) (by omega) (by omega) ho1 cv n hn
      have hb02 := H_hb1.out.trans (hb2.mono H_hb1.out.size)
      have H_hb2 := Lib.hid hb2; clear hb2; have H_hb02 := Lib.hid hb02; clear hb02; have H_cv := Lib.hid cv; clear cv
      go_wp2_with fail
      refine (sortedInt_any _ _ ord _ w2 hseq (fun k hk => hk) call_vInt1 (by omega)).mono ?_
      rintro e w3 ⟨⟨v, rfl, hrow⟩, hb3⟩
      have hb03 := H_hb02.out.trans (hb3.mono H_hb02.out.size)
      have hw2 := H_hb02.out.size
      have hcc := compact_cut ord
      rw [sortI_len] at hcc
      have hC := compactInt_any v w2.heap.size (sortI ord) w3 hrow (by rw [sortI_len]; omega)
      have H_hb3 := Lib.hid hb3; clear hb3; have H_hb03 := Lib.hid hb03; clear hb03; have H_hcc := Lib.hid hcc; clear hcc; have H_hrow := Lib.hid hrow; clear hrow
      go_wp2_with fail
      refine hC.mono ?_
      rintro e w4 ⟨⟨a, c, rfl⟩, hb4⟩
      have hb04 := H_hb03.out.trans (hb4.mono hw2)
      have hcc := H_hcc.out
      have hle : (Lib.compact (sortI ord)).length ≤ 140737488355328 := by
        have h : (Lib.compact (sortI ord)).length ≤ (sortI ord).length := by
          simp only [Lib.compact, Lib.compactUpTo, List.length_map]
          exact Nat.le_trans (List.length_filter_le _ _) (by simp)
        rw [sortI_len] at h; omega
      generalize (Lib.compact (sortI ord)).length = m at *
      rw [h1] at hcc
      by_cases h3 : m < l.length
      · rw [if_pos (hcc.1 h3)] at H_hr
        clear hcc H_hcc
        have H_hb4 := Lib.hid hb4; clear hb4; have H_hb04 := Lib.hid hb04; clear hb04
        go_wp2
        go_ret
        exact ⟨ret_int H_hr.out.symm, H_hb04.out⟩
      · rw [if_neg (fun h => h3 (hcc.2 h))] at H_hr
        clear hcc H_hcc
        have H_hb4 := Lib.hid hb4; clear hb4; have H_hb04 := Lib.hid hb04; clear hb04
        go_wp2
        go_ret
        exact ⟨ret_int H_hr.out.symm, H_hb04.out⟩
  · have hr : strangeE l.length ord = 3 := by rw [strangeE, if_pos h1]
    subst hov
    have h1i : ((ord.length : Int) == (l.length : Int)) = false := by simp; omega
    have H_hl := Lib.hid hl; clear hl; have H_hr := Lib.hid hr; clear hr; have H_ho := Lib.hid ho; clear ho
    go_enter Try.func61, Try.ntmps61
    go_wp2
    go_ret
    exact ⟨by rw [H_hr.out]; rfl, Below.refl _ _⟩
end Go.Proofs.Ytpkjmnfgpbliaaa
