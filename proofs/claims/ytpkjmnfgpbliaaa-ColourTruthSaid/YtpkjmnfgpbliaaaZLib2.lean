/-
  Contracts of slices.IndexFunc, slices.ContainsFunc at colours with the closure of colour.Check. Conditions: the values read as the lists that are named.
-/
import Derived.Test.YtpkjmnfgpbliaaaZLib
namespace Go.Proofs.Ytpkjmnfgpbliaaa
open Go.RowKit
set_option linter.unusedSimpArgs false
set_option linter.unusedVariables false

def sameName (s : ByteArray) (c : Col) : Bool := c.name.toList == s.toList

theorem check1_any (c : Col) (sv : Value) (s : ByteArray) (b : Nat) (w : World) (hs : w.cell? ⟨b, 0, none⟩ = some (.string s)) (hb : b < w.heap.size) :
    Calls Try.prog 50 #[.agg #[.string c.name, .int .i64 c.stay.lo, .int .i64 c.stay.hi, sv], .pointer (some ⟨b, 0, none⟩)] w fun e w' => e = .returned (.bool (sameName s c)) ∧ Below w.heap.size w w' := by
  go_enter Try.func50, Try.ntmps50
  go_wp2
  go_ret
  exact ⟨rfl, (Below.refl _ _).alloc (Nat.le_refl _) _⟩

theorem call_check1 (xs : Array Value) (w : World) : (callFunc 50 xs).run Try.prog w = .ok (.enter 50 xs) w := by kernel_rfl

theorem indexCol_any (s : ByteArray) (b0 : Nat) (v : Value) (l : List Col) (w : World) (h : IsCols w v l) (hs : w.cell? ⟨b0, 0, none⟩ = some (.string s)) (hb0 : b0 < w.heap.size) :
    Calls Try.prog 79 #[v, .func (.func 50) #[] #[.pointer (some ⟨b0, 0, none⟩)]] w fun e w' => (∃ n : Int, e = .returned (.int .i64 n) ∧ decide (0 ≤ n) = l.any (sameName s)) ∧ Below w.heap.size w w' := by
  have hl := h.len
  obtain ⟨a, c, rfl, _⟩ := h.form
  have hF := call_check1
  go_enter Try.func79, Try.ntmps79
  go_wp2
  go_loopw [8] (fun i wr => ∃ k : Nat, k ≤ l.length ∧ i = .int .i64 k ∧ (∀ j (hj : j < l.length), j < k → sameName s l[j] = false) ∧ Below w.heap.size w wr) (fun i _ => l.length - (intOf i).toNat)
  case atStart => exact ⟨0, by omega, rfl, fun j _ h => by omega, Below.refl _ _⟩
  case round =>
    obtain ⟨k, hk, rfl, hno, hbw⟩ := hrel
    by_cases hlt : k < l.length
    · obtain ⟨b, off, sv, rfl, hb1, hsv, hnm, d0, d1, d2, d3⟩ := h.at k hlt
      have c0 := (hbw.cell (p := ⟨b, off + k * 4, none⟩) hb1).trans d0
      have c1 := (hbw.cell (p := ⟨b, off + k * 4 + 1, none⟩) hb1).trans d1
      have c2 := (hbw.cell (p := ⟨b, off + k * 4 + 2, none⟩) hb1).trans d2
      have c3 := (hbw.cell (p := ⟨b, off + k * 4 + 3, none⟩) hb1).trans d3
      have hs' := (hbw.cell (p := ⟨b0, 0, none⟩) hb0).trans hs
      clear d0 d1 d2 d3
      have H_hno := Lib.hid hno; clear hno; have H_hbw := Lib.hid hbw; clear hbw; have H_hs' := Lib.hid hs'; clear hs'
      go_wp2_with fail
      refine (check1_any l[k] sv s b0 wr H_hs'.out (Nat.lt_of_lt_of_le hb0 H_hbw.out.size)).mono ?_
      rintro e w1 ⟨rfl, hb1⟩
      by_cases hpk : sameName s l[k] = true
      · go_wp2
        go_ret
        exact ⟨⟨k, rfl, by rw [any_of_at _ l k hlt hpk]; simp⟩, H_hbw.out.trans (hb1.mono H_hbw.out.size)⟩
      · have hpk : sameName s l[k] = false := by simpa using hpk
        go_wp2
        go_roundw
        case rel => exact ⟨k + 1, by omega, by go_num, pref_step (sameName s) l k hlt H_hno.out hpk, H_hbw.out.trans (hb1.mono H_hbw.out.size)⟩
        case measure => simp [intOf]; omega
    · have H_hno := Lib.hid hno; clear hno; have H_hbw := Lib.hid hbw; clear hbw
      go_wp2
      go_ret
      obtain rfl : k = l.length := by omega
      exact ⟨⟨-1, rfl, by rw [any_of_pref (sameName s) l H_hno.out]; rfl⟩, H_hbw.out⟩

theorem containsCol_any (s : ByteArray) (b0 : Nat) (v : Value) (l : List Col) (w : World) (h : IsCols w v l) (hs : w.cell? ⟨b0, 0, none⟩ = some (.string s)) (hb0 : b0 < w.heap.size) :
    Calls Try.prog 49 #[v, .func (.func 50) #[] #[.pointer (some ⟨b0, 0, none⟩)]] w fun e w' => e = .returned (.bool (l.any (sameName s))) ∧ Below w.heap.size w w' := by
  go_enter Try.func49, Try.ntmps49
  go_wp2_with fail
  refine (indexCol_any s b0 v l w h hs hb0).mono ?_
  rintro e w1 ⟨⟨n, rfl, hn⟩, hb1⟩
  have H_hn := Lib.hid hn; clear hn
  go_wp2
  go_ret
  exact ⟨ret_bool H_hn.out, hb1⟩
end Go.Proofs.Ytpkjmnfgpbliaaa
