/-
  must and number of the wax chapter: what they return, and when they panic. Conditions: none.
-/
import Derived.Test.YtkldmnladkcfeaaGreatDoorZShp
import Derived.Test.YtkldmnladkcfeaaGreatDoorZAmF
namespace Go.Proofs.YtkldmnladkcfeaaGreatDoor
open Go.RowKit Go.Lib
set_option linter.unusedSimpArgs false
set_option linter.unusedVariables false
def formV : Value := .iface 26 (.int .i64 6)
def s74 : List D → Option D := fun ds => match ds with | [.v (.bool true)] => some (.tup []) | _ => none
def p74 : List D → Option Value := fun ds => match ds with | [.v (.bool false)] => some formV | _ => none
theorem call74 (xs : Array Value) (w : World) : (callFunc 74 xs).run Tryz.prog w = .ok (.enter 74 xs) w := by kernel_rfl
theorem call97 (xs : Array Value) (w : World) : (callFunc 97 xs).run Tryz.prog w = .ok (.enter 97 xs) w := by kernel_rfl
theorem must_yes (w : World) : Calls Tryz.prog 74 #[.bool true] w fun e w' => e = .returned (.tuple #[]) ∧ w' = w := by
  go_enter Tryz.func74, Tryz.ntmps74
  go_wp2
  go_end0
  exact ⟨rfl, rfl⟩
theorem must_no (w : World) : Calls Tryz.prog 74 #[.bool false] w fun e w' => e = .panicked [{ v := formV, recovered := false }] ∧ w' = w := by
  go_enter Tryz.func74, Tryz.ntmps74
  go_wp2
  exact ⟨rfl, rfl, rfl⟩
theorem ok74 : ∀ ds d, s74 ds = some d → PureC Tryz.prog 74 ds d := by
  intro ds d h
  unfold s74 at h
  split at h
  · cases h
    intro m w vs hm hG hr
    simp only [RelL, Rel] at hr
    obtain ⟨v, t, rfl, rfl, rfl⟩ := hr
    refine (must_yes w).mono ?_
    rintro e w' ⟨rfl, rfl⟩
    exact ⟨_, fun _ _ => False, rfl, Below.refl _ _, fun b o h => h.elim, by simp only [Rel]; exact ⟨[], rfl, by simp [RelL]⟩⟩
  · cases h
theorem po74 : ∀ ds v, p74 ds = some v → PanicC Tryz.prog 74 ds v := by
  intro ds d h
  unfold p74 at h
  split at h
  · cases h
    intro m w vs hm hG hr
    simp only [RelL, Rel] at hr
    obtain ⟨v, t, rfl, rfl, rfl⟩ := hr
    refine (must_no w).mono ?_
    rintro e w' ⟨rfl, rfl⟩
    exact ⟨rfl, Below.refl _ _⟩
  · cases h
def numP (s : ByteArray) : Option Int := match Lib.atoiAll s.data.toList with
  | .ok n => some n
  | _ => none
theorem glob_err {m : Nat → Nat → Prop} {w : World} (h : GlobIn m w) : (∃ t p, w.cell? ⟨1, 0, none⟩ = some (.iface t p)) ∧ ∃ t p, w.cell? ⟨2, 0, none⟩ = some (.iface t p) := by
  obtain ⟨_, cs, ty, fr, h1, _, t, p, rfl⟩ := h _ (List.mem_cons_of_mem _ (List.mem_cons_of_mem _ (List.mem_cons_self ..)))
  obtain ⟨_, cs', ty', fr', h1', _, t', p', rfl⟩ := h _ (List.mem_cons_of_mem _ (List.mem_cons_of_mem _ (List.mem_cons_of_mem _ (List.mem_cons_self ..))))
  exact ⟨⟨t, p, by simp [World.cell?, h1]⟩, t', p', by simp [World.cell?, h1']⟩
theorem atoi_any (s : ByteArray) (hs : s.size ≤ 100000) {m : Nat → Nat → Prop} (w : World) (hG : GlobIn m w) : Calls Tryz.prog 97 #[.string s] w fun e w' => Below w.heap.size w w' ∧ ((∃ n, Lib.atoiAll s.data.toList = .ok n ∧ e = .returned (.tuple #[.int .i64 n, .nilIface])) ∨ ((∀ n, Lib.atoiAll s.data.toList ≠ .ok n) ∧ ∃ k t p, e = .returned (.tuple #[.int .i64 k, .iface t p]))) := by
  obtain ⟨⟨t2, p2, h2⟩, t3, p3, h3⟩ := glob_err hG
  cases h : Lib.atoiAll s.data.toList
  · rename_i n
    refine (Tryz.strconv_Atoi_ok s (by omega) n h w).mono ?_
    rintro e w' ⟨rfl, hw⟩
    refine ⟨?_, .inl ⟨n, rfl, rfl⟩⟩
    rcases hw with rfl | ⟨t, rfl⟩
    · exact Below.refl _ _
    · exact Lib.bytesWorld_below w 5 t
  · refine (Tryz.strconv_Atoi_syntax s (by omega) h _ w h2 (.inr ⟨_, _, rfl⟩)).mono ?_
    rintro e w' ⟨N, rfl, _, _, hb⟩
    exact ⟨hb, .inr ⟨(fun n e => by cases e), _, _, _, rfl⟩⟩
  · refine (Tryz.strconv_Atoi_range s (by omega) h _ w h3 (.inr ⟨_, _, rfl⟩)).mono ?_
    rintro e w' ⟨N, rfl, _, _, hb⟩
    exact ⟨hb, .inr ⟨(fun n e => by cases e), _, _, _, rfl⟩⟩
def numR (s : ByteArray) (e : Ending) : Prop := match numP s with | some n => e = .returned (.int .i64 n) | none => e = .panicked [{ v := formV, recovered := false }]
theorem numR_ok {s : ByteArray} {n : Int} (h1 : Lib.atoiAll s.data.toList = .ok n) : numP s = some n := by unfold numP; rw [h1]
theorem numR_bad {s : ByteArray} (h1 : ∀ n, Lib.atoiAll s.data.toList ≠ .ok n) : numP s = none := by
  unfold numP
  split
  · rename_i n h; exact absurd h (h1 n)
  · rfl
set_option maxHeartbeats 1000000 in
set_option maxRecDepth 100000 in
theorem num_any (s : ByteArray) (hs : s.size ≤ 100000) {m : Nat → Nat → Prop} (w : World) (hm : ∀ b o, m b o → b < w.heap.size) (hG : GlobIn m w) : Calls Tryz.prog 75 #[.string s] w fun e w' => Below w.heap.size w w' ∧ numR s e := by
  have e97 := call97
  have e74 := call74
  go_enter Tryz.func75, Tryz.ntmps75
  go_wp2_with (go_at_fn 97; refine (atoi_any s hs w hG).mono ?_)
  rintro e w1 ⟨hb1, ⟨n, hn, rfl⟩ | ⟨hn, k, t, p, rfl⟩⟩
  · have hnum := numR_ok hn
    go_wp2_with (go_at_fn 74; refine (must_yes _).mono ?_)
    rintro e w2 ⟨rfl, rfl⟩
    go_wp2
    go_ret
    exact ⟨hb1, by unfold numR; rw [hnum]; rfl⟩
  · have hnum := numR_bad hn
    go_wp2_with (go_at_fn 74; refine (must_no _).mono ?_)
    rintro e w2 ⟨rfl, rfl⟩
    exact ⟨rfl, hb1, by unfold numR; rw [hnum]⟩
def s75 : List D → Option D := sp1 cStr cInt fun s => if s.size ≤ 100000 then numP s else none
def p75 : List D → Option Value := fun ds => match ds with | [.v (.string s)] => if s.size ≤ 100000 ∧ numP s = none then some formV else none | _ => none
theorem call75 (xs : Array Value) (w : World) : (callFunc 75 xs).run Tryz.prog w = .ok (.enter 75 xs) w := by kernel_rfl
theorem ok75 : ∀ ds d, s75 ds = some d → PureC Tryz.prog 75 ds d := ok_sp1 fun s n hr => by
  split at hr
  · rename_i hs
    intro m w vs hm hG hr'
    simp only [RelL, Rel, cStr_enc] at hr'
    obtain ⟨v, t, rfl, rfl, rfl⟩ := hr'
    refine (num_any s hs w hm hG).mono ?_
    rintro e w' ⟨hb, h⟩
    unfold numR at h
    rw [hr] at h
    exact ⟨_, fun _ _ => False, h, hb, fun b o h => h.elim, by rw [cInt_enc]; simp only [Rel]⟩
  · cases hr
theorem po75 : ∀ ds v, p75 ds = some v → PanicC Tryz.prog 75 ds v := by
  intro ds d h
  unfold p75 at h
  split at h
  · rename_i s
    split at h
    · rename_i hc
      cases h
      obtain ⟨hs, hn⟩ := hc
      intro m w vs hm hG hr
      simp only [RelL, Rel] at hr
      obtain ⟨v, t, rfl, rfl, rfl⟩ := hr
      refine (num_any s hs w hm hG).mono ?_
      rintro e w' ⟨hb, h⟩
      unfold numR at h
      rw [hn] at h
      exact ⟨h, hb⟩
    · cases h
  · cases h
theorem po2 : PanOk Tryz.prog (panOf [(74, p74), (75, p75)]) := pan_cons (pan_cons pan_nil call75 po75) call74 po74
end Go.Proofs.YtkldmnladkcfeaaGreatDoor
