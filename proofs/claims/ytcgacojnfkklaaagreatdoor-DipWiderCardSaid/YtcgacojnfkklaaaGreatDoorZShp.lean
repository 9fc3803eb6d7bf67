/-
  Library functions of strings as plain functions: Itoa, Cut, Split, Join. Conditions: none.
-/
import Derived.Test.YtcgacojnfkklaaaGreatDoorZBld
import Derived.Test.YtcgacojnfkklaaaGreatDoorZPrA
import Derived.Test.YtcgacojnfkklaaaGreatDoorZRefS
import Derived.Lib.AppendIntMem
import Derived.Lib.SplitLaws
namespace Go.Proofs.YtcgacojnfkklaaaGreatDoor
open Go.RowKit Go.Lib
set_option linter.unusedSimpArgs false
set_option linter.unusedVariables false
theorem glob_len {m : Nat → Nat → Prop} {w : World} (h : GlobIn m w) : ∃ k, w.cell? ⟨0, 0, none⟩ = some (.int .i64 k) := by
  obtain ⟨_, cs, ty, fr, h1, _, k, rfl⟩ := h _ (List.mem_cons_self ..)
  exact ⟨k, by simp [World.cell?, h1]⟩
theorem glob_tab {m : Nat → Nat → Prop} {w : World} (h : GlobIn m w) : Lib.TabIs Tryz.prog w "internal/strconv.uint64pow10" .u64 Lib.pow10Tab := by
  obtain ⟨_, cs, ty, fr, h1, _, rfl⟩ := h _ (List.mem_cons_of_mem _ (List.mem_cons_self ..))
  unfold Lib.TabIs World.var?
  have e : Tryz.prog.globalNamed "internal/strconv.uint64pow10" = some 1 := by kernel_rfl
  rw [e]
  simp only [Option.bind_some]
  simp only at h1
  rw [h1]
def i64In (n : Int) : Prop := -9223372036854775808 ≤ n ∧ n ≤ 9223372036854775807
instance (n : Int) : Decidable (i64In n) := inferInstanceAs (Decidable (_ ∧ _))
def s74 : List D → Option D := sp1 cInt cStr fun n => if i64In n then some ⟨(Lib.itoa n).toArray⟩ else none
theorem ok74 : ∀ ds d, s74 ds = some d → PureC Tryz.prog 74 ds d := ok_sp1 fun n r hr => by
  split at hr
  · rename_i hc
    cases hr
    refine pure_words fun m w vs hm hG hr => ⟨.string ⟨(Lib.itoa n).toArray⟩, ?_, fun m' w' => by simp [cStr_enc, Rel]⟩
    simp only [cInt_enc, RelL, Rel] at hr
    obtain ⟨v, t, rfl, rfl, rfl⟩ := hr
    refine (Tryz.strconv_Itoa n hc.1 hc.2 w (glob_tab hG)).mono ?_
    rintro e w' ⟨rfl, k, os, rfl⟩
    exact ⟨rfl, below_grow _ w (Nat.le_refl _) k os⟩
  · cases hr
def s80 : List D → Option D := sp2 cStr cStr (cTup3 cStr cStr cBool) fun s sep => if s.size < 100000 then some (⟨(Lib.cut s.data.toList sep.data.toList).1.toArray⟩, ⟨(Lib.cut s.data.toList sep.data.toList).2.1.toArray⟩, (Lib.cut s.data.toList sep.data.toList).2.2) else none
theorem ok80 : ∀ ds d, s80 ds = some d → PureC Tryz.prog 80 ds d := ok_sp2 fun s sep r hr => by
  split at hr
  · rename_i hc
    cases hr
    refine pure_words fun m w vs hm hG hr => ⟨.tuple #[.string ⟨(Lib.cut s.data.toList sep.data.toList).1.toArray⟩, .string ⟨(Lib.cut s.data.toList sep.data.toList).2.1.toArray⟩, .bool (Lib.cut s.data.toList sep.data.toList).2.2], ?_, fun m' w' => by simp [cTup3_enc, cStr_enc, cBool_enc, Rel, RelL]⟩
    simp only [cStr_enc, RelL, Rel] at hr
    obtain ⟨v, t, rfl, rfl, v2, t2, rfl, rfl, rfl⟩ := hr
    obtain ⟨k, hk⟩ := glob_len hG
    refine (Tryz.strings_Cut s sep k w (by omega) hk).mono ?_
    rintro e w' ⟨rfl, n, rfl⟩
    exact ⟨rfl, ⟨rfl, rfl, rfl, Nat.le_refl _, fun _ _ => rfl⟩⟩
  · cases hr
def splitW (s sep : ByteArray) : List ByteArray := splitB sep 0 (countB s sep) s
def s81 : List D → Option D := sp2 cStr cStr (cList rStr) fun s sep => if s.size < 100000 ∧ 1 ≤ sep.size then some (splitW s sep) else none
theorem ok81 : ∀ ds d, s81 ds = some d → PureC Tryz.prog 81 ds d := ok_sp2 fun s sep r hr => by
  split at hr
  · rename_i hc
    cases hr
    obtain ⟨hs, h1⟩ := hc
    have hlen : (splitW s sep).length = countB s sep + 1 := splitB_all sep h1 0 _ s rfl
    have hle := countB_le sep h1 s.size s (Nat.le_refl _)
    intro m w vs hm hG hr
    simp only [cStr_enc, RelL, Rel] at hr
    obtain ⟨v, t, rfl, rfl, v2, t2, rfl, rfl, rfl⟩ := hr
    obtain ⟨k, hk⟩ := glob_len hG
    refine (Tryz.strings_Split s sep k w (by omega) hk h1).mono ?_
    rintro e w' ⟨rfl, rfl⟩
    refine ⟨_, fun b o => b = w.heap.size, rfl, (Below.refl _ w).alloc (Nat.le_refl _) _, fun b o h => by subst h; simp, ?_⟩
    rw [cList_enc]
    simp only [Rel, List.length_map]
    rw [← hlen]
    refine ⟨by show (splitW s sep).length ≤ _; omega, _, _, rfl, Nat.le_refl _, .inr ⟨_, _, rfl, RelRows.of fun i r hi => ?_⟩⟩
    rw [List.getElem?_map] at hi
    cases hp : (splitW s sep)[i]? with
    | none => rw [hp] at hi; cases hi
    | some p =>
      rw [hp] at hi
      simp only [Option.map_some, Option.some.injEq] at hi
      subst hi
      refine ⟨rfl, ?_⟩
      simp only [rStr_enc, RelCells, Rel]
      refine ⟨⟨.string p, .inr trivial, ?_, rfl, rfl⟩, trivial⟩
      have hb := heap_at_new w (.cells ((splitW s sep).map Value.string).toArray 9)
      have e : (0 + i * rStr.k) = i := by rw [rStr_k]; omega
      rw [e]
      have hb' : (w.alloc (.cells ((splitB sep 0 (countB s sep) s).map Value.string).toArray 9)).heap[w.heap.size]? = some (.cells ((splitW s sep).map Value.string).toArray 9 (0, 0)) := hb
      simp only [World.cell?, hb']
      simp [hp]
  · cases hr
theorem call81 (xs : Array Value) (w : World) : (callFunc 81 xs).run Tryz.prog w = .ok (.enter 81 xs) w := by kernel_rfl
theorem call80 (xs : Array Value) (w : World) : (callFunc 80 xs).run Tryz.prog w = .ok (.enter 80 xs) w := by kernel_rfl
theorem call74 (xs : Array Value) (w : World) : (callFunc 74 xs).run Tryz.prog w = .ok (.enter 74 xs) w := by kernel_rfl
theorem call76 (xs : Array Value) (w : World) : (callFunc 76 xs).run Tryz.prog w = .ok (.enter 76 xs) w := by kernel_rfl
def joinV (l : List ByteArray) (sep : ByteArray) : ByteArray := ⟨(Lib.join (l.map (·.data.toList)) sep.data.toList).toArray⟩
def s76 : List D → Option D := sp2 (cList rStr) cStr cStr fun l sep => if 0 < l.length ∧ l.length ≤ 100000 ∧ (joinV l sep).size ≤ 100000 then some (joinV l sep) else none
theorem ok76 : ∀ ds d, s76 ds = some d → PureC Tryz.prog 76 ds d := ok_sp2 fun l sep r hr => by
  split at hr
  · rename_i hc
    cases hr
    obtain ⟨h0, h1, h2⟩ := hc
    refine pure_words fun m w vs hm hG hr => ⟨.string (joinV l sep), ?_, fun m' w' => by simp [cStr_enc, Rel]⟩
    simp only [cList_enc, cStr_enc, RelL, Rel, List.length_map] at hr
    obtain ⟨v, t, rfl, ⟨_, a, c, rfl, hlc, hx⟩, v2, t2, rfl, rfl, rfl⟩ := hr
    have hne : l.map rStr.enc ≠ [] := by
      intro e
      have := congrArg List.length e
      simp at this
      rw [this] at h0
      simp at h0
    obtain ⟨b, o, rfl, hrows⟩ := hx.resolve_left hne
    have hcell : ∀ (j : Nat) x, l[j]? = some x → m b (o + j) ∧ w.cell? ⟨b, o + j, none⟩ = some (.string x) := fun j x hj => by
      obtain ⟨_, hc⟩ := hrows.get j (rStr.enc x) (by rw [List.getElem?_map, hj]; rfl)
      simp only [rStr_enc, RelCells, Rel] at hc
      obtain ⟨⟨v, q1, q2, _, q3⟩, _⟩ := hc
      subst q3
      rw [show o + j * rStr.k = o + j by rw [rStr_k]; omega] at q1 q2
      exact ⟨q1, q2⟩
    have hb : b < w.heap.size := hm _ _ (hcell 0 _ (List.getElem?_eq_getElem h0)).1
    refine (Tryz.strings_Join b o c l sep w (fun j x hj => (hcell j x hj).2) hb (by omega) hlc ?_).mono ?_
    · have : (joinV l sep).size = (Lib.join (l.map (·.data.toList)) sep.data.toList).length := by simp [joinV, ByteArray.size]
      omega
    · rintro e w' ⟨rfl, h⟩
      exact ⟨rfl, h⟩
  · cases hr
end Go.Proofs.YtcgacojnfkklaaaGreatDoor
