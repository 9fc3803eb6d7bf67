/-
  must and number of the dip chapter: what they return, and when they panic. Conditions: none.
-/
import Derived.Test.YtcgacojnfkklaaaGreatDoorZShp
import Derived.Test.YtcgacojnfkklaaaGreatDoorZPrA
import Derived.Test.YtcgacojnfkklaaaGreatDoorZAmF
namespace Go.Proofs.YtcgacojnfkklaaaGreatDoor
open Go.RowKit Go.Lib
set_option linter.unusedSimpArgs false
set_option linter.unusedVariables false
def formV : Value := .iface 31 (.int .i64 6)
def s82 : List D → Option D := fun ds => match ds with | [.v (.bool true)] => some (.tup []) | _ => none
def p82 : List D → Option Value := fun ds => match ds with | [.v (.bool false)] => some formV | _ => none
theorem call82 (xs : Array Value) (w : World) : (callFunc 82 xs).run Tryz.prog w = .ok (.enter 82 xs) w := by kernel_rfl
theorem call108 (xs : Array Value) (w : World) : (callFunc 108 xs).run Tryz.prog w = .ok (.enter 108 xs) w := by kernel_rfl
theorem must_yes (w : World) : Calls Tryz.prog 82 #[.bool true] w fun e w' => e = .returned (.tuple #[]) ∧ w' = w := by
  go_enter Tryz.func82, Tryz.ntmps82
  go_wp2
  go_end0
  exact ⟨rfl, rfl⟩
theorem must_no (w : World) : Calls Tryz.prog 82 #[.bool false] w fun e w' => e = .panicked [{ v := formV, recovered := false }] ∧ w' = w := by
  go_enter Tryz.func82, Tryz.ntmps82
  go_wp2
  exact ⟨rfl, rfl, rfl⟩
theorem ok82 : ∀ ds d, s82 ds = some d → PureC Tryz.prog 82 ds d := by
  intro ds d h
  unfold s82 at h
  split at h
  · cases h
    intro m w vs hm hG hr
    simp only [RelL, Rel] at hr
    obtain ⟨v, t, rfl, rfl, rfl⟩ := hr
    refine (must_yes w).mono ?_
    rintro e w' ⟨rfl, rfl⟩
    exact ⟨_, fun _ _ => False, rfl, Below.refl _ _, fun b o h => h.elim, by simp only [Rel]; exact ⟨[], rfl, by simp [RelL]⟩⟩
  · cases h
theorem po82 : ∀ ds v, p82 ds = some v → PanicC Tryz.prog 82 ds v := by
  intro ds d h
  unfold p82 at h
  split at h
  · cases h
    intro m w vs hm hG hr
    simp only [RelL, Rel] at hr
    obtain ⟨v, t, rfl, rfl, rfl⟩ := hr
    refine (must_no w).mono ?_
    rintro e w' ⟨rfl, rfl⟩
    exact ⟨rfl, Below.refl _ _⟩
  · cases h
def numP (s : ByteArray) : Option Int := match Lib.atoiAll s.data.toList with
  | .ok n => if Lib.itoa n = s.data.toList then some n else none
  | _ => none
theorem glob_err {m : Nat → Nat → Prop} {w : World} (h : GlobIn m w) : (∃ t p, w.cell? ⟨2, 0, none⟩ = some (.iface t p)) ∧ ∃ t p, w.cell? ⟨3, 0, none⟩ = some (.iface t p) := by
  obtain ⟨_, cs, ty, fr, h1, _, t, p, rfl⟩ := h _ (List.mem_cons_of_mem _ (List.mem_cons_of_mem _ (List.mem_cons_self ..)))
  obtain ⟨_, cs', ty', fr', h1', _, t', p', rfl⟩ := h _ (List.mem_cons_of_mem _ (List.mem_cons_of_mem _ (List.mem_cons_of_mem _ (List.mem_cons_self ..))))
  exact ⟨⟨t, p, by simp [World.cell?, h1]⟩, t', p', by simp [World.cell?, h1']⟩
theorem atoi_in {l : List UInt8} {n : Int} (h : Lib.atoiAll l = .ok n) : i64In n := by
  unfold Lib.atoiAll at h
  split at h
  · cases h
  · simp only at h
    split at h
    · cases h
    · cases h
    · split at h
      · cases h
      · rename_i h1
        split at h
        · cases h
        · rename_i h2
          simp only [Lib.NumEnd.ok.injEq] at h
          subst h
          unfold i64In
          split <;> omega
theorem atoi_any (s : ByteArray) (hs : s.size ≤ 100000) {m : Nat → Nat → Prop} (w : World) (hG : GlobIn m w) : Calls Tryz.prog 108 #[.string s] w fun e w' => Below w.heap.size w w' ∧ ((∃ n, Lib.atoiAll s.data.toList = .ok n ∧ e = .returned (.tuple #[.int .i64 n, .nilIface])) ∨ ((∀ n, Lib.atoiAll s.data.toList ≠ .ok n) ∧ ∃ k t p, e = .returned (.tuple #[.int .i64 k, .iface t p]))) := by
  obtain ⟨⟨t2, p2, h2⟩, t3, p3, h3⟩ := glob_err hG
  cases h : Lib.atoiAll s.data.toList
  · rename_i n
    refine (Tryz.strconv_Atoi_ok s (by omega) n h w).mono ?_
    rintro e w' ⟨rfl, hw⟩
    refine ⟨?_, .inl ⟨n, rfl, rfl⟩⟩
    rcases hw with rfl | ⟨t, rfl⟩
    · exact Below.refl _ _
    · exact Lib.bytesWorld_below w 5 t
  · refine (Tryz.strconv_Atoi_syntax s (by omega) h _ w h2 (.inr ⟨_, _, rfl⟩)).mono ?_
    rintro e w' ⟨N, rfl, _, _, hb⟩
    exact ⟨hb, .inr ⟨(fun n e => by cases e), _, _, _, rfl⟩⟩
  · refine (Tryz.strconv_Atoi_range s (by omega) h _ w h3 (.inr ⟨_, _, rfl⟩)).mono ?_
    rintro e w' ⟨N, rfl, _, _, hb⟩
    exact ⟨hb, .inr ⟨(fun n e => by cases e), _, _, _, rfl⟩⟩
theorem ba_of {l : List UInt8} {s : ByteArray} (h : l = s.data.toList) : (⟨l.toArray⟩ : ByteArray) = s := by
  subst h
  cases s
  simp
def numR (s : ByteArray) (e : Ending) : Prop := match numP s with | some n => e = .returned (.int .i64 n) | none => e = .panicked [{ v := formV, recovered := false }]
theorem numR_ok {s : ByteArray} {n : Int} (h1 : Lib.atoiAll s.data.toList = .ok n) (h2 : Lib.itoa n = s.data.toList) : numP s = some n := by unfold numP; rw [h1]; simp only; rw [if_pos h2]
theorem numR_other {s : ByteArray} {n : Int} (h1 : Lib.atoiAll s.data.toList = .ok n) (h2 : ¬ Lib.itoa n = s.data.toList) : numP s = none := by unfold numP; rw [h1]; simp only; rw [if_neg h2]
theorem numR_bad {s : ByteArray} (h1 : ∀ n, Lib.atoiAll s.data.toList ≠ .ok n) : numP s = none := by
  unfold numP
  split
  · rename_i n h; exact absurd h (h1 n)
  · rfl
set_option maxHeartbeats 1000000 in
set_option maxRecDepth 100000 in
theorem num_any (s : ByteArray) (hs : s.size ≤ 100000) {m : Nat → Nat → Prop} (w : World) (hm : ∀ b o, m b o → b < w.heap.size) (hG : GlobIn m w) : Calls Tryz.prog 85 #[.string s] w fun e w' => Below w.heap.size w w' ∧ numR s e := by
  have e108 := call108
  have e74 := call74
  have e82 := call82
  go_enter Tryz.func85, Tryz.ntmps85
  go_wp2_with (go_at_fn 108; refine (atoi_any s hs w hG).mono ?_)
  rintro e w1 ⟨hb1, ⟨n, hn, rfl⟩ | ⟨hn, k, t, p, rfl⟩⟩
  · have hin := atoi_in hn
    have hG1 : GlobIn m w1 := hG.ext ⟨fun _ _ h => h, fun b o h => hb1.cell (p := ⟨b, o, none⟩) (hm b o h)⟩
    have hIt := Tryz.strconv_Itoa n hin.1 hin.2 w1 (glob_tab hG1)
    go_wp2_with (go_at_fn 74; refine hIt.mono ?_)
    rintro e w2 ⟨rfl, k, os, rfl⟩
    obtain ⟨w3, hw3⟩ : ∃ w3, w3 = Sort.grow (w1.drewN k) os := ⟨_, rfl⟩
    have hb2 : Below w.heap.size w (Sort.grow (w1.drewN k) os) := hb1.trans (below_grow w.heap.size w1 hb1.size k os)
    rw [← hw3] at hb2 ⊢
    clear hw3
    by_cases he : (⟨(Lib.itoa n).toArray⟩ : ByteArray) = s
    · have hnum := numR_ok hn (by rw [← he])
      go_wp2_with (go_at_fn 82; refine (must_yes _).mono ?_)
      rintro e w2 ⟨rfl, rfl⟩
      go_wp2
      go_ret
      exact ⟨hb2, by unfold numR; rw [hnum]; rfl⟩
    · have hnum := numR_other hn (fun h => he (ba_of h))
      have he' : (Lib.itoa n == s.toList) = false := by
        rw [ByteArray.toList_eq]
        cases hq : (Lib.itoa n == s.data.toList)
        · rfl
        · exact absurd (ba_of (by simpa using hq)) he
      go_wp2_with (go_at_fn 82; refine (must_no _).mono ?_)
      rintro e w2 ⟨rfl, rfl⟩
      exact ⟨rfl, hb2, by unfold numR; rw [hnum]⟩
  · have hnum := numR_bad hn
    go_wp2_with (go_at_fn 82; refine (must_no _).mono ?_)
    rintro e w2 ⟨rfl, rfl⟩
    exact ⟨rfl, hb1, by unfold numR; rw [hnum]⟩
def s85 : List D → Option D := sp1 cStr cInt fun s => if s.size ≤ 100000 then numP s else none
def p85 : List D → Option Value := fun ds => match ds with | [.v (.string s)] => if s.size ≤ 100000 ∧ numP s = none then some formV else none | _ => none
theorem call85 (xs : Array Value) (w : World) : (callFunc 85 xs).run Tryz.prog w = .ok (.enter 85 xs) w := by kernel_rfl
theorem ok85 : ∀ ds d, s85 ds = some d → PureC Tryz.prog 85 ds d := ok_sp1 fun s n hr => by
  split at hr
  · rename_i hs
    intro m w vs hm hG hr'
    simp only [RelL, Rel, cStr_enc] at hr'
    obtain ⟨v, t, rfl, rfl, rfl⟩ := hr'
    refine (num_any s hs w hm hG).mono ?_
    rintro e w' ⟨hb, h⟩
    unfold numR at h
    rw [hr] at h
    exact ⟨_, fun _ _ => False, h, hb, fun b o h => h.elim, by rw [cInt_enc]; simp only [Rel]⟩
  · cases hr
theorem po85 : ∀ ds v, p85 ds = some v → PanicC Tryz.prog 85 ds v := by
  intro ds d h
  unfold p85 at h
  split at h
  · rename_i s
    split at h
    · rename_i hc
      cases h
      obtain ⟨hs, hn⟩ := hc
      intro m w vs hm hG hr
      simp only [RelL, Rel] at hr
      obtain ⟨v, t, rfl, rfl, rfl⟩ := hr
      refine (num_any s hs w hm hG).mono ?_
      rintro e w' ⟨hb, h⟩
      unfold numR at h
      rw [hn] at h
      exact ⟨h, hb⟩
    · cases h
  · cases h
theorem po2 : PanOk Tryz.prog (panOf [(82, p82), (85, p85)]) := pan_cons (pan_cons pan_nil call85 po85) call82 po82
end Go.Proofs.YtcgacojnfkklaaaGreatDoor
