/-
  wax.Name: what it returns of a string. Conditions: the string's length fits an int.
-/
import Derived.Test.YtpkjmnfgpbliaaaZBase
namespace Go.Proofs.Ytpkjmnfgpbliaaa
open Go.RowKit
set_option linter.unusedSimpArgs false
set_option linter.unusedVariables false

/-- The bytes are small letters, and hyphens none of which stands behind a hyphen, the last thing seen being 'last'; nor is the end one. -/
def nameGo : List UInt8 → Int → Bool
  | [], last => !(last == 45)
  | x :: t, last => if (x.toNat : Int) = 45 then (if last = 45 then false else nameGo t 45)
      else if (x.toNat : Int) < 97 ∨ 122 < (x.toNat : Int) then false else nameGo t x.toNat
def nameB (s : ByteArray) : Bool := nameGo s.data.toList 45 && decide (s.size ≤ 20)

theorem nameB_end (s : ByteArray) (last : Int) (hl : ¬ last = 45) (h : nameGo [] last = nameGo s.data.toList 45) : (last != 45 && decide ((s.size : Int) ≤ 20)) = nameB s := by
  have h1 : (last == 45) = false := by simpa using hl
  rw [nameB, ← h]
  simp [nameGo, bne, h1]
  try omega

theorem drop_at (s : ByteArray) (k : Nat) (h : k < s.size) : s.data.toList.drop k = s[k] :: s.data.toList.drop (k + 1) := by
  rw [List.drop_eq_getElem_cons (by simpa using h)]; rfl
theorem drop_end (s : ByteArray) (k : Nat) (h : ¬ k < s.size) : s.data.toList.drop k = [] := by
  apply List.drop_eq_nil_of_le; simp; omega
theorem below_iter (w : World) (s : ByteArray) (k : Nat) : Below w.heap.size w (w.iter s k) := (Below.refl _ w).alloc (Nat.le_refl _) _

theorem next_at {P : Program} (w : World) (s : ByteArray) (k : Nat) (h : k < s.size) :
    ∃ (r : Int) (p : Nat), (∀ ty, (Instr.next (.pointer (some ⟨w.heap.size, 0, none⟩)) true ty).run P (w.iter s k) = .ok (.tuple #[.bool true, .int .i64 k, .int .i32 r]) (w.iter s p)) ∧
      ((r = (s[k].toNat : Int) ∧ p = k + 1) ∨ (128 ≤ r ∧ 128 ≤ (s[k].toNat : Int))) := by
  by_cases ha : s[k].toNat < 128
  · exact ⟨_, _, fun ty => run_next_ascii w s k ty h ha, .inl ⟨rfl, rfl⟩⟩
  · have hd := decode_high s k h (by omega)
    exact ⟨_, _, fun ty => run_next_any w s k ty h, .inr ⟨by omega, by omega⟩⟩

theorem name_any (s : ByteArray) (w : World) (hs : s.size ≤ 140737488355328) :
    Calls Try.prog 48 #[.string s] w fun e w' => e = .returned (.bool (nameB s)) ∧ Below w.heap.size w w' := by
  go_enter Try.func48, Try.ntmps48
  go_wp2
  go_loopw [3] (fun c wr => ∃ (k : Nat) (last : Int), wr = w.iter s k ∧ k ≤ s.size ∧ c = .int .i32 last ∧ nameGo (s.data.toList.drop k) last = nameGo s.data.toList 45) (fun _ wr => s.size - wr.iterPos w.heap.size)
  case atStart => exact ⟨0, 45, rfl, by omega, rfl, rfl⟩
  case round =>
    obtain ⟨k, last, rfl, hk, rfl, hn⟩ := hrel
    by_cases hp : k < s.size
    · obtain ⟨r, p, hnx, hr⟩ := next_at (P := Try.prog) w s k hp
      rw [drop_at s k hp] at hn
      have hfin : (r = 45 ∧ last = 45) ∨ (¬ r = 45 ∧ (r < 97 ∨ 122 < r)) → nameB s = false := by
        intro h
        have : nameGo s.data.toList 45 = false := by
          rw [← hn]
          rcases hr with ⟨rfl, rfl⟩ | ⟨h1, h2⟩
          · rcases h with ⟨h3, h4⟩ | ⟨h3, h4⟩
            · simp only [nameGo]; rw [if_pos h3, if_pos h4]
            · simp only [nameGo]; rw [if_neg h3, if_pos h4]
          · simp only [nameGo]; rw [if_neg (by omega), if_pos (by omega)]
        simp [nameB, this]
      have hgo : ¬ ((r = 45 ∧ last = 45) ∨ (¬ r = 45 ∧ (r < 97 ∨ 122 < r))) → p = k + 1 ∧ nameGo (s.data.toList.drop (k + 1)) r = nameGo s.data.toList 45 := by
        intro h
        rcases hr with ⟨rfl, rfl⟩ | ⟨h1, h2⟩
        · refine ⟨rfl, ?_⟩
          rw [← hn]
          simp only [nameGo]
          by_cases h3 : (s[k].toNat : Int) = 45
          · rw [if_pos h3, if_neg (by omega), h3]
          · rw [if_neg h3, if_neg (by omega)]
        · omega
      have H_hn := Lib.hid hn; clear hn; have H_hfin := Lib.hid hfin; clear hfin; have H_hgo := Lib.hid hgo; clear hgo; have H_hr := Lib.hid hr; clear hr
      by_cases h45 : r = 45
      · subst h45
        by_cases hl : last = 45
        · subst hl
          go_wp2
          go_ret
          exact ⟨ret_bool (H_hfin.out (by simp)).symm, below_iter _ _ _⟩
        · have hl' : (last == 45) = false := by simpa using hl
          go_wp2
          go_roundw
          obtain ⟨rfl, h2⟩ := H_hgo.out (by omega)
          case rel => exact ⟨k + 1, 45, rfl, by omega, rfl, h2⟩
          case measure => obtain ⟨rfl, h2⟩ := H_hgo.out (by omega); simp; omega
      · have h45' : (r == 45) = false := by simpa using h45
        by_cases h97 : r < 97
        · go_wp2
          go_ret
          exact ⟨ret_bool (H_hfin.out (by omega)).symm, below_iter _ _ _⟩
        · by_cases h122 : 122 < r
          · go_wp2
            go_ret
            exact ⟨ret_bool (H_hfin.out (by omega)).symm, below_iter _ _ _⟩
          · go_wp2
            go_roundw
            case rel => obtain ⟨rfl, h2⟩ := H_hgo.out (by omega); exact ⟨k + 1, r, rfl, by omega, rfl, h2⟩
            case measure => obtain ⟨rfl, h2⟩ := H_hgo.out (by omega); simp; omega
    · have hnx : ∀ ty, (Instr.next (.pointer (some ⟨w.heap.size, 0, none⟩)) true ty).run Try.prog (w.iter s k) = _ := fun ty => run_next_end w s k ty hp
      rw [drop_end s k hp] at hn
      have H_hn := Lib.hid hn; clear hn
      by_cases hl : last = 45
      · subst hl
        go_wp2
        go_ret
        exact ⟨ret_bool (by rw [nameB, ← H_hn.out]; rfl), below_iter _ _ _⟩
      · have hl' : (last == 45) = false := by simpa using hl
        go_wp2
        go_ret
        exact ⟨ret_bool (nameB_end s last hl H_hn.out), below_iter _ _ _⟩
end Go.Proofs.Ytpkjmnfgpbliaaa
