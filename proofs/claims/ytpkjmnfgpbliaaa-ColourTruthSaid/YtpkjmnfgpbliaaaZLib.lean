/-
  Contracts of slices.IndexFunc, slices.ContainsFunc (at ints and at colours) and of colour.out. Conditions: the values read as the lists that are named.
-/
import Derived.Test.YtpkjmnfgpbliaaaZBase
namespace Go.Proofs.Ytpkjmnfgpbliaaa
open Go.RowKit
set_option linter.unusedSimpArgs false
set_option linter.unusedVariables false

/-- slices.IndexFunc at ints, by any closure that is a predicate and keeps old memory -/
theorem indexInt_any (F : FuncId) (cap : Array Value) (p : Int → Bool) (v : Value) (l : List Int) (w : World) (h : IsInts w v l)
    (hF : ∀ xs w', (callFunc F xs).run Try.prog w' = .ok (.enter F xs) w')
    (hp : ∀ x w', Below w.heap.size w w' → Calls Try.prog F (#[.int .i64 x] ++ cap) w' fun e w'' => e = .returned (.bool (p x)) ∧ Below w'.heap.size w' w'') :
    Calls Try.prog 98 #[v, .func (.func F) #[] cap] w fun e w' => (∃ n : Int, e = .returned (.int .i64 n) ∧ decide (0 ≤ n) = l.any p) ∧ Below w.heap.size w w' := by
  have hl := h.len
  obtain ⟨a, c, rfl, _⟩ := h.form
  have HP := Lib.hid hp; clear hp
  go_enter Try.func98, Try.ntmps98
  go_wp2
  go_loopw [8] (fun i wr => ∃ k : Nat, k ≤ l.length ∧ i = .int .i64 k ∧ (∀ j (hj : j < l.length), j < k → p l[j] = false) ∧ Below w.heap.size w wr) (fun i _ => l.length - (intOf i).toNat)
  case atStart => exact ⟨0, by omega, rfl, fun j _ h => by omega, Below.refl _ _⟩
  case round =>
    obtain ⟨k, hk, rfl, hno, hbw⟩ := hrel
    by_cases hlt : k < l.length
    · obtain ⟨b, off, rfl, hb1, hcell0⟩ := h.at k hlt
      have hcell : wr.cell? ⟨b, off + k, none⟩ = some (.int .i64 (l[k])) := (hbw.cell (p := ⟨b, off + k, none⟩) hb1).trans hcell0
      clear hcell0
      have H_hno := Lib.hid hno; clear hno; have H_hbw := Lib.hid hbw; clear hbw
      go_wp2_with fail
      refine (HP.out _ _ H_hbw.out).mono ?_
      rintro e w1 ⟨rfl, hb1⟩
      by_cases hpk : p l[k] = true
      · go_wp2
        go_ret
        exact ⟨⟨k, rfl, by rw [any_of_at p l k hlt hpk]; simp⟩, H_hbw.out.trans (hb1.mono H_hbw.out.size)⟩
      · have hpk : p l[k] = false := by simpa using hpk
        go_wp2
        go_roundw
        case rel => exact ⟨k + 1, by omega, by go_num, pref_step p l k hlt H_hno.out hpk, H_hbw.out.trans (hb1.mono H_hbw.out.size)⟩
        case measure => simp [intOf]; omega
    · have H_hno := Lib.hid hno; clear hno; have H_hbw := Lib.hid hbw; clear hbw
      go_wp2
      go_ret
      obtain rfl : k = l.length := by omega
      exact ⟨⟨-1, rfl, by rw [any_of_pref p l H_hno.out]; rfl⟩, H_hbw.out⟩

theorem containsInt_any (F : FuncId) (cap : Array Value) (p : Int → Bool) (v : Value) (l : List Int) (w : World) (h : IsInts w v l)
    (hF : ∀ xs w', (callFunc F xs).run Try.prog w' = .ok (.enter F xs) w')
    (hp : ∀ x w', Below w.heap.size w w' → Calls Try.prog F (#[.int .i64 x] ++ cap) w' fun e w'' => e = .returned (.bool (p x)) ∧ Below w'.heap.size w' w'') :
    Calls Try.prog 77 #[v, .func (.func F) #[] cap] w fun e w' => e = .returned (.bool (l.any p)) ∧ Below w.heap.size w w' := by
  have H_hp := Lib.hid hp; clear hp
  go_enter Try.func77, Try.ntmps77
  go_wp2_with fail
  refine (indexInt_any F cap p v l w h hF H_hp.out).mono ?_
  rintro e w1 ⟨⟨n, rfl, hn⟩, hb1⟩
  have H_hn := Lib.hid hn; clear hn
  go_wp2
  go_ret
  exact ⟨ret_bool H_hn.out, hb1⟩

theorem out1_any (x lo hi : Int) (a b : Addr) (w : World) (ha : w.cell? a = some (.int .i64 lo)) (hb : w.cell? b = some (.int .i64 hi)) :
    Calls Try.prog 78 #[.int .i64 x, .pointer (some a), .pointer (some b)] w fun e w' => e = .returned (.bool (decide (x < lo) || decide (hi < x))) ∧ w = w' := by
  by_cases h1 : x < lo
  · go_enter Try.func78, Try.ntmps78
    go_wp2
    go_ret
    exact ⟨by simp [h1], rfl⟩
  · by_cases h2 : hi < x
    · go_enter Try.func78, Try.ntmps78
      go_wp2
      go_ret
      exact ⟨by simp [h2], rfl⟩
    · go_enter Try.func78, Try.ntmps78
      go_wp2
      go_ret
      exact ⟨by simp [h1, h2], rfl⟩

theorem call_out1 (xs : Array Value) (w : World) : (callFunc 78 xs).run Try.prog w = .ok (.enter 78 xs) w := by kernel_rfl

/-- One of the numbers is not from lo to hi. -/
def outB (lo hi : Int) (l : List Int) : Bool := l.any fun x => decide (x < lo) || decide (hi < x)

theorem out_any (lo hi : Int) (v : Value) (l : List Int) (w : World) (h : IsInts w v l) :
    Calls Try.prog 47 #[.int .i64 lo, .int .i64 hi, v] w fun e w' => e = .returned (.bool (outB lo hi l)) ∧ Below w.heap.size w w' := by
  go_enter Try.func47, Try.ntmps47
  go_wp2_with fail
  have hb0 : Below w.heap.size w ((w.alloc (.cells #[.int .i64 lo] 3)).alloc (.cells #[.int .i64 hi] 3)) := ((Below.refl _ w).alloc (Nat.le_refl _) _).alloc (by simp) _
  refine (containsInt_any 78 _ (fun x => decide (x < lo) || decide (hi < x)) v l _ (h.below hb0) call_out1 (fun x w' hb => ?_)).mono ?_
  · refine (out1_any x lo hi _ _ w' ?_ ?_).mono ?_
    · rw [hb.cell (by simp <;> omega)]; simp
    · rw [hb.cell (by simp <;> omega)]; simp
    · rintro e w'' ⟨rfl, rfl⟩
      exact ⟨rfl, Below.refl _ _⟩
  · rintro e w1 ⟨rfl, hb1⟩
    go_wp2
    go_ret
    exact ⟨rfl, hb0.trans (hb1.mono hb0.size)⟩
end Go.Proofs.Ytpkjmnfgpbliaaa
