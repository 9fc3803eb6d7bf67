/-
  Small laws of worlds. Conditions: none.
-/
import Derived.Test.YtkldmnladkcfeaaGreatDoorProg
import Derived.WalkKit
import Derived.WalkSpells
import Derived.WalkLawsBesides
import Derived.Handy
import Derived.Lib.Hide
import Derived.BigQuiet
import Derived.Test.YtkldmnladkcfeaaGreatDoorZRefA
namespace Go.Proofs.YtkldmnladkcfeaaGreatDoor
open Go.RowKit
set_option linter.unusedSimpArgs false
set_option linter.unusedVariables false
theorem ret_bool {a b : Bool} (h : a = b) : Ending.returned (.bool a) = .returned (.bool b) := by rw [h]
end Go.Proofs.YtkldmnladkcfeaaGreatDoor
namespace Go.Proofs.YtkldmnladkcfeaaGreatDoor
open Go.RowKit
set_option linter.unusedSimpArgs false
set_option linter.unusedVariables false
def nameGo : List UInt8 → Int → Bool
  | [], last => !(last == 45)
  | x :: t, last => if (x.toNat : Int) = 45 then (if last = 45 then false else nameGo t 45)
      else if (x.toNat : Int) < 97 ∨ 122 < (x.toNat : Int) then false else nameGo t x.toNat
def nameB (s : ByteArray) : Bool := nameGo s.data.toList 45 && decide (s.size ≤ 20)
theorem nameB_end (s : ByteArray) (last : Int) (hl : ¬ last = 45) (h : nameGo [] last = nameGo s.data.toList 45) : (last != 45 && decide ((s.size : Int) ≤ 20)) = nameB s := by
  have h1 : (last == 45) = false := by simpa using hl
  rw [nameB, ← h]
  simp [nameGo, bne, h1]
  try omega
theorem drop_at (s : ByteArray) (k : Nat) (h : k < s.size) : s.data.toList.drop k = s[k] :: s.data.toList.drop (k + 1) := by
  rw [List.drop_eq_getElem_cons (by simpa using h)]; rfl
theorem drop_end (s : ByteArray) (k : Nat) (h : ¬ k < s.size) : s.data.toList.drop k = [] := by
  apply List.drop_eq_nil_of_le; simp; omega
theorem below_iter (w : World) (s : ByteArray) (k : Nat) : Below w.heap.size w (w.iter s k) := (Below.refl _ w).alloc (Nat.le_refl _) _
theorem next_at {P : Program} (w : World) (s : ByteArray) (k : Nat) (h : k < s.size) :
    ∃ (r : Int) (p : Nat), (∀ ty, (Instr.next (.pointer (some ⟨w.heap.size, 0, none⟩)) true ty).run P (w.iter s k) = .ok (.tuple #[.bool true, .int .i64 k, .int .i32 r]) (w.iter s p)) ∧
      ((r = (s[k].toNat : Int) ∧ p = k + 1) ∨ (128 ≤ r ∧ 128 ≤ (s[k].toNat : Int))) := by
  by_cases ha : s[k].toNat < 128
  · exact ⟨_, _, fun ty => run_next_ascii w s k ty h ha, .inl ⟨rfl, rfl⟩⟩
  · have hd := decode_high s k h (by omega)
    exact ⟨_, _, fun ty => run_next_any w s k ty h, .inr ⟨by omega, by omega⟩⟩
theorem name_any (s : ByteArray) (w : World) (hs : s.size ≤ 140737488355328) :
    Calls Tryz.prog 18 #[.string s] w fun e w' => e = .returned (.bool (nameB s)) ∧ Below w.heap.size w w' := by
  go_enter Tryz.func18, Tryz.ntmps18
  go_wp2
  go_loopw [3] (fun c wr => ∃ (k : Nat) (last : Int), wr = w.iter s k ∧ k ≤ s.size ∧ c = .int .i32 last ∧ nameGo (s.data.toList.drop k) last = nameGo s.data.toList 45) (fun _ wr => s.size - wr.iterPos w.heap.size)
  case atStart => exact ⟨0, 45, rfl, by omega, rfl, rfl⟩
  case round =>
    obtain ⟨k, last, rfl, hk, rfl, hn⟩ := hrel
    by_cases hp : k < s.size
    · obtain ⟨r, p, hnx, hr⟩ := next_at (P := Tryz.prog) w s k hp
      rw [drop_at s k hp] at hn
      have hfin : (r = 45 ∧ last = 45) ∨ (¬ r = 45 ∧ (r < 97 ∨ 122 < r)) → nameB s = false := by
        intro h
        have : nameGo s.data.toList 45 = false := by
          rw [← hn]
          rcases hr with ⟨rfl, rfl⟩ | ⟨h1, h2⟩
          · rcases h with ⟨h3, h4⟩ | ⟨h3, h4⟩
            · simp only [nameGo]; rw [if_pos h3, if_pos h4]
            · simp only [nameGo]; rw [if_neg h3, if_pos h4]
          · simp only [nameGo]; rw [if_neg (by omega), if_pos (by omega)]
        simp [nameB, this]
      have hgo : ¬ ((r = 45 ∧ last = 45) ∨ (¬ r = 45 ∧ (r < 97 ∨ 122 < r))) → p = k + 1 ∧ nameGo (s.data.toList.drop (k + 1)) r = nameGo s.data.toList 45 := by
        intro h
        rcases hr with ⟨rfl, rfl⟩ | ⟨h1, h2⟩
        · refine ⟨rfl, ?_⟩
          rw [← hn]
          simp only [nameGo]
          by_cases h3 : (s[k].toNat : Int) = 45
          · rw [if_pos h3, if_neg (by omega), h3]
          · rw [if_neg h3, if_neg (by omega)]
        · omega
      have H_hn := Lib.hid hn; clear hn; have H_hfin := Lib.hid hfin; clear hfin; have H_hgo := Lib.hid hgo; clear hgo; have H_hr := Lib.hid hr; clear hr
      by_cases h45 : r = 45
      · subst h45
        by_cases hl : last = 45
        · subst hl
          go_wp2
          go_ret
          exact ⟨ret_bool (H_hfin.out (by simp)).symm, below_iter _ _ _⟩
        · have hl' : (last == 45) = false := by simpa using hl
          go_wp2
          go_roundw
          obtain ⟨rfl, h2⟩ := H_hgo.out (by omega)
          case rel => exact ⟨k + 1, 45, rfl, by omega, rfl, h2⟩
          case measure => obtain ⟨rfl, h2⟩ := H_hgo.out (by omega); simp; omega
      · have h45' : (r == 45) = false := by simpa using h45
        by_cases h97 : r < 97
        · go_wp2
          go_ret
          exact ⟨ret_bool (H_hfin.out (by omega)).symm, below_iter _ _ _⟩
        · by_cases h122 : 122 < r
          · go_wp2
            go_ret
            exact ⟨ret_bool (H_hfin.out (by omega)).symm, below_iter _ _ _⟩
          · go_wp2
            go_roundw
            case rel => obtain ⟨rfl, h2⟩ := H_hgo.out (by omega); exact ⟨k + 1, r, rfl, by omega, rfl, h2⟩
            case measure => obtain ⟨rfl, h2⟩ := H_hgo.out (by omega); simp; omega
    · have hnx : ∀ ty, (Instr.next (.pointer (some ⟨w.heap.size, 0, none⟩)) true ty).run Tryz.prog (w.iter s k) = _ := fun ty => run_next_end w s k ty hp
      rw [drop_end s k hp] at hn
      have H_hn := Lib.hid hn; clear hn
      by_cases hl : last = 45
      · subst hl
        go_wp2
        go_ret
        exact ⟨ret_bool (by rw [nameB, ← H_hn.out]; rfl), below_iter _ _ _⟩
      · have hl' : (last == 45) = false := by simpa using hl
        go_wp2
        go_ret
        exact ⟨ret_bool (nameB_end s last hl H_hn.out), below_iter _ _ _⟩
end Go.Proofs.YtkldmnladkcfeaaGreatDoor
namespace Go.Proofs.YtkldmnladkcfeaaGreatDoor
open Go.RowKit
set_option linter.unusedSimpArgs false
set_option linter.unusedVariables false
def kp79 (r : Nat) : List (Nat × Option Nat) := match r with
  | 0 => [(0, none), (1, none), (2, none)]
  | 1 => [(4, none)]
  | _ => []
def kp100 (r : Nat) : List (Nat × Option Nat) := match r with
  | 0 => [(0, none), (1, none)]
  | 1 => [(0, none), (1, none), (7, none), (8, none)]
  | 2 => [(0, none), (1, none), (7, none), (8, none), (9, none)]
  | 3 => [(0, none), (1, none), (5, none), (7, none), (8, none)]
  | 4 => [(0, none), (1, none), (5, none), (7, none), (8, none), (16, none)]
  | 5 => [(4, none)]
  | 6 => [(0, none), (1, none), (7, none), (8, none)]
  | 7 => [(4, none)]
  | _ => []
def kp78 (r : Nat) : List (Nat × Option Nat) := match r with
  | 0 => [(0, none), (1, none)]
  | 1 => [(4, none)]
  | _ => []
def kp50 (r : Nat) : List (Nat × Option Nat) := match r with
  | 0 => [(2, none), (3, none), (4, none)]
  | 1 => [(6, none)]
  | _ => []
def idxF {α : Type} (p : α → Bool) (l : List α) : Int := match l.findIdx? p with | some k => (k : Int) | none => -1
theorem idxF_cases {α : Type} (p : α → Bool) (l : List α) : (idxF p l = -1 ∧ l.any p = false ∧ ∀ k (h : k < l.length), p l[k] = false) ∨ ∃ k, ∃ h : k < l.length, idxF p l = k ∧ l.any p = true ∧ p l[k] = true ∧ ∀ j (hj : j < l.length), j < k → p l[j] = false := by
  unfold idxF
  cases h : l.findIdx? p with
  | none =>
    have := List.findIdx?_eq_none_iff.1 h
    refine .inl ⟨rfl, ?_, fun k hk => this _ (List.getElem_mem hk)⟩
    rw [List.any_eq_false]
    intro x hx
    simp [this x hx]
  | some k =>
    obtain ⟨h1, h2, h3⟩ := List.findIdx?_eq_some_iff_getElem.1 h
    refine .inr ⟨k, h1, rfl, ?_, h2, fun j hj hjk => ?_⟩
    · rw [List.any_eq_true]; exact ⟨_, List.getElem_mem h1, h2⟩
    · have := h3 j hjk
      simpa using this
def cIntP : Cod Int := ⟨fun n => .dat 1 [[DI n]] 0 0, fun d => match d with | .dat 1 [[.v (.int .i64 n)]] 0 0 => some n | _ => none, fun d x h => by
  split at h
  · cases h; exact DImp.refl _
  · cases h⟩
def cOutF : Cod (Int × Int) := ⟨fun p => .fn 79 [] [.dat 1 [[DI p.1]] 0 0, .dat 1 [[DI p.2]] 0 0], fun d => match d with | .fn 79 [] [.dat 1 [[.v (.int .i64 a)]] 0 0, .dat 1 [[.v (.int .i64 b)]] 0 0] => some (a, b) | _ => none, fun d x h => by
  split at h
  · cases h; exact DImp.refl _
  · cases h⟩
theorem cIntP_enc (n : Int) : cIntP.enc n = .dat 1 [[DI n]] 0 0 := rfl
theorem cIntP_dec (n : Int) : cIntP.dec (.dat 1 [[DI n]] 0 0) = some n := rfl
theorem cOutF_enc (p : Int × Int) : cOutF.enc p = .fn 79 [] [.dat 1 [[DI p.1]] 0 0, .dat 1 [[DI p.2]] 0 0] := rfl
theorem cOutF_dec (a b : Int) : cOutF.dec (.fn 79 [] [.dat 1 [[DI a]] 0 0, .dat 1 [[DI b]] 0 0]) = some (a, b) := rfl
def s79 : List D → Option D := sp3 cInt cIntP cIntP cBool fun n lo hi => some (!inR n lo hi)
theorem ok79 : ∀ ds d, s79 ds = some d → PureC Tryz.prog 79 ds d := ok_sp3 fun n lo hi r hr => by
  cases hr
  refine pure_of_call (mkCx_ok del_nil 13 kp79 []) Tryz.func79 rfl rfl (Nat.le_of_ble_eq_true rfl) (by kernel_rfl) ?_
  rw [Tryz.results79]
  unfold inR
  by_cases h : n < lo
  · have h' : ¬ lo ≤ n := by omega
    simp [kp79, cIntP_enc, h, h']
  · have h' : lo ≤ n := by omega
    by_cases h2 : hi < n
    · have h2' : ¬ n ≤ hi := by omega
      simp [kp79, cIntP_enc, h, h', h2, h2']
    · have h2' : n ≤ hi := by omega
      simp [kp79, cIntP_enc, h, h', h2, h2']
theorem call79 (xs : Array Value) (w : World) : (callFunc 79 xs).run Tryz.prog w = .ok (.enter 79 xs) w := by kernel_rfl
def p1 : List (Nat × (List D → Option D)) := [(79, s79)]
theorem dp1 : DelOk Tryz.prog (delOf p1) := del_cons del_nil call79 ok79
def s100 : List D → Option D := sp2 (cList rInt) cOutF cInt fun l p => if l.length < 1000000 then some (idxF (fun n => !inR n p.1 p.2) l) else none
set_option maxHeartbeats 1000000 in
theorem ok100 : ∀ ds d, s100 ds = some d → PureC Tryz.prog 100 ds d := ok_sp2 fun l p r hr => by
  split at hr
  · rename_i hlm
    cases hr
    obtain ⟨lo, hi⟩ := p
    refine pure_of_call (mkCx_ok dp1 19 kp100 []) Tryz.func100 rfl rfl (Nat.le_of_ble_eq_true rfl) (by kernel_rfl) ?_
    rw [Tryz.results100]
    simp [kp100, cOutF_enc]
    rcases idxF_cases (fun n => !inR n lo hi) l with ⟨e1, _, hall⟩ | ⟨k, hk, e1, _, hbad, hgood⟩
    · rw [e1]
      (generalize hLoopQ : Cx.loop _ _ _ = rLoopQ; apply loop_then hLoopQ (fun k => ⟨[(0, .d (.sl 1 (l.map rInt.enc))), (1, .d (.fn 79 [] [.dat 1 [[DI lo]] 0 0, .dat 1 [[DI hi]] 0 0])), (7, .d (DI l.length)), (8, .d (DI k))], [], [], []⟩) l.length rfl; rotate_left; (show _ < 281474976710656; omega); rfl; rotate_left; all_goals clear hLoopQ)
      · intro j hj
        have w1 := wrap_small ((j : Int) + 1) (by omega) (by omega)
        have hjl : (j : Int) < l.length := by omega
        have hn := hall j hj
        have hn' : inR l[j] lo hi = true := by simpa using hn
        simp [kp100, p1, s79, cIntP_dec, hj, hjl, hn', w1]
      · simp [kp100]
    · rw [e1]
      (generalize hLoopQ : Cx.loop _ _ _ = rLoopQ; apply loop_then hLoopQ (fun k => ⟨[(0, .d (.sl 1 (l.map rInt.enc))), (1, .d (.fn 79 [] [.dat 1 [[DI lo]] 0 0, .dat 1 [[DI hi]] 0 0])), (7, .d (DI l.length)), (8, .d (DI k))], [], [], []⟩) k rfl; rotate_left; (show _ < 281474976710656; omega); rfl; rotate_left; all_goals clear hLoopQ)
      · intro j hj'
        have hj : j < l.length := by omega
        have w1 := wrap_small ((j : Int) + 1) (by omega) (by omega)
        have hjl : (j : Int) < l.length := by omega
        have hn := hgood j hj hj'
        have hn' : inR l[j] lo hi = true := by simpa using hn
        simp [kp100, p1, s79, cIntP_dec, hj, hjl, hn', w1]
      · have hkl : (k : Int) < l.length := by omega
        have hn' : inR l[k] lo hi = false := by simpa using hbad
        simp [kp100, p1, s79, cIntP_dec, hk, hkl, hn']
  · cases hr
theorem call100 (xs : Array Value) (w : World) : (callFunc 100 xs).run Tryz.prog w = .ok (.enter 100 xs) w := by kernel_rfl
theorem idxF_pos {α : Type} (p : α → Bool) (l : List α) : decide (0 ≤ idxF p l) = l.any p := by
  rcases idxF_cases p l with ⟨e1, e2, _⟩ | ⟨k, hk, e1, e2, _⟩
  · rw [e1, e2]; rfl
  · rw [e1, e2]; simp
def p2 : List (Nat × (List D → Option D)) := (100, s100) :: p1
theorem dp2 : DelOk Tryz.prog (delOf p2) := del_cons dp1 call100 ok100
def s78 : List D → Option D := sp2 (cList rInt) cOutF cBool fun l p => if l.length < 1000000 then some (l.any fun n => !inR n p.1 p.2) else none
theorem ok78 : ∀ ds d, s78 ds = some d → PureC Tryz.prog 78 ds d := ok_sp2 fun l p r hr => by
  split at hr
  · rename_i hlm
    cases hr
    obtain ⟨lo, hi⟩ := p
    refine pure_of_call (mkCx_ok dp2 9 kp78 []) Tryz.func78 rfl rfl (Nat.le_of_ble_eq_true rfl) (by kernel_rfl) ?_
    rw [Tryz.results78]
    have hp := idxF_pos (fun n => !inR n lo hi) l
    rw [← hp]
    simp [kp78, p2, s100, cOutF_enc, cOutF_dec, hlm]
  · cases hr
theorem call78 (xs : Array Value) (w : World) : (callFunc 78 xs).run Tryz.prog w = .ok (.enter 78 xs) w := by kernel_rfl
def p3 : List (Nat × (List D → Option D)) := (78, s78) :: p2
theorem dp3 : DelOk Tryz.prog (delOf p3) := del_cons dp2 call78 ok78
def outB (lo hi : Int) (l : List Int) : Bool := l.any fun n => !inR n lo hi
def s50 : List D → Option D := sp3 cInt cInt (cList rInt) cBool fun lo hi l => if l.length < 1000000 then some (outB lo hi l) else none
theorem ok50 : ∀ ds d, s50 ds = some d → PureC Tryz.prog 50 ds d := ok_sp3 fun lo hi l r hr => by
  split at hr
  · rename_i hlm
    cases hr
    refine pure_of_call (mkCx_ok dp3 10 kp50 []) Tryz.func50 rfl rfl (Nat.le_of_ble_eq_true rfl) (by kernel_rfl) ?_
    rw [Tryz.results50]
    unfold outB
    simp [kp50, p3, s78, cOutF_dec, hlm]
  · cases hr
theorem call50 (xs : Array Value) (w : World) : (callFunc 50 xs).run Tryz.prog w = .ok (.enter 50 xs) w := by kernel_rfl
def frontAt (l : List UInt8) (last : Int) (i : Nat) : Int := if i = 0 then last else (l.getD (i - 1) 0).toNat
theorem nameGo_iff : ∀ (l : List UInt8) (last : Int), nameGo l last = true ↔ (∀ i, i < l.length → (((l.getD i 0).toNat : Int) = 45 ∨ (97 ≤ ((l.getD i 0).toNat : Int) ∧ ((l.getD i 0).toNat : Int) ≤ 122)) ∧ ¬ (((l.getD i 0).toNat : Int) = 45 ∧ frontAt l last i = 45)) ∧ ¬ frontAt l last l.length = 45
  | [], last => by simp [nameGo, frontAt]
  | x :: t, last => by
    have hfr : ∀ i, frontAt (x :: t) last (i + 1) = frontAt t x.toNat i := by
      intro i
      unfold frontAt
      cases i with
      | zero => simp
      | succ i => simp
    have ih := nameGo_iff t x.toNat
    rw [nameGo]
    by_cases h1 : (x.toNat : Int) = 45
    · rw [if_pos h1]
      by_cases h2 : last = 45
      · rw [if_pos h2]
        constructor
        · intro h; cases h
        · intro h; exact absurd ⟨by simpa using h1, by simpa [frontAt] using h2⟩ (h.1 0 (by simp)).2
      · rw [if_neg h2]
        rw [h1] at ih
        rw [ih, List.length_cons, hfr, h1]
        constructor
        · rintro ⟨h, h'⟩
          refine ⟨fun i hi => ?_, h'⟩
          cases i with
          | zero => exact ⟨.inl (by simpa using h1), fun hh => h2 (by simpa [frontAt] using hh.2)⟩
          | succ i => rw [hfr, h1]; simpa using h i (by simpa using hi)
        · rintro ⟨h, h'⟩
          refine ⟨fun i hi => ?_, h'⟩
          have := h (i + 1) (by simpa using hi)
          rw [hfr, h1] at this; simpa using this
    · rw [if_neg h1]
      by_cases h2 : (x.toNat : Int) < 97 ∨ 122 < (x.toNat : Int)
      · rw [if_pos h2]
        constructor
        · intro h; cases h
        · intro h
          have := (h.1 0 (by simp)).1
          simp at this
          omega
      · rw [if_neg h2, ih, List.length_cons, hfr]
        constructor
        · rintro ⟨h, h'⟩
          refine ⟨fun i hi => ?_, h'⟩
          cases i with
          | zero => exact ⟨.inr (by simp; omega), fun hh => h1 (by simpa using hh.1)⟩
          | succ i => rw [hfr]; simpa using h i (by simpa using hi)
        · rintro ⟨h, h'⟩
          refine ⟨fun i hi => ?_, h'⟩
          have := h (i + 1) (by simpa using hi)
          rw [hfr] at this; simpa using this
theorem byteAt_list (s : ByteArray) (i : Nat) : byteAt s i = ((s.data.toList.getD i 0).toNat : Int) := by
  unfold byteAt
  by_cases h : i < s.size
  · have h2 : i < s.data.toList.length := by simpa using h
    rw [getD_at _ _ _ h2]
    simp [getElem?_pos, h]
    rfl
  · have h2 : s.data.toList.length ≤ i := by simpa using h
    simp [List.getD, h2, getElem?_neg, h]
theorem nmAt_iff (s : ByteArray) (i : Nat) : nmAt s i = true ↔ (byteAt s i = 45 ∨ (97 ≤ byteAt s i ∧ byteAt s i ≤ 122)) ∧ (0 < i → byteAt s i = 45 → ¬ byteAt s (i - 1) = 45) := by
  unfold nmAt inR
  by_cases h1 : byteAt s i = 45 <;> by_cases h2 : 0 < i <;> by_cases h3 : byteAt s (i - 1) = 45 <;> simp [h1, h2, h3]
theorem refName_iff (s : ByteArray) : refName s = true ↔ (1 ≤ (s.size : Int) ∧ (s.size : Int) ≤ 20) ∧ ¬ byteAt s 0 = 45 ∧ ¬ byteAt s (s.size - 1) = 45 ∧ ∀ i, i < s.size → nmAt s i = true := by
  unfold refName
  simp [inR, and_assoc]
theorem refName_eq (s : ByteArray) : refName s = nameB s := by
  have hlen : s.data.toList.length = s.size := by simp
  rw [Bool.eq_iff_iff, refName_iff]
  unfold nameB
  rw [Bool.and_eq_true, nameGo_iff, hlen]
  simp only [← byteAt_list, decide_eq_true_eq, frontAt]
  constructor
  · rintro ⟨⟨h1, h2⟩, h3, h4, h5⟩
    refine ⟨⟨fun i hi => ?_, ?_⟩, by omega⟩
    · have := (nmAt_iff s i).1 (h5 i hi)
      refine ⟨this.1, ?_⟩
      by_cases hi0 : i = 0
      · subst hi0; intro hh; exact h3 hh.1
      · rw [if_neg hi0]; intro hh; exact this.2 (by omega) hh.1 hh.2
    · rw [if_neg (by omega)]; exact h4
  · rintro ⟨⟨h1, h2⟩, h3⟩
    have hs : ¬ s.size = 0 := fun h => by rw [if_pos h] at h2; exact h2 rfl
    rw [if_neg hs] at h2
    refine ⟨by omega, fun h => (h1 0 (by omega)).2 ⟨h, by simp⟩, h2, fun i hi => (nmAt_iff s i).2 ⟨(h1 i hi).1, fun hi0 hb hb2 => (h1 i hi).2 ⟨hb, by rw [if_neg (by omega)]; exact hb2⟩⟩⟩
theorem pure_words {P : Program} {f : Nat} {ds : List D} {d : D} (h : ∀ (m : Nat → Nat → Prop) (w : World) (vs : List Value), (∀ b o, m b o → b < w.heap.size) → GlobIn m w → RelL m w ds vs → ∃ v, Calls P f vs.toArray w (fun e w' => e = .returned v ∧ Below w.heap.size w w') ∧ ∀ m' w', Rel m' w' d v) : PureC P f ds d := fun m w vs hm hG hr => by
  obtain ⟨v, h1, h2⟩ := h m w vs hm hG hr
  exact h1.mono fun e w' ⟨he, hb⟩ => ⟨v, fun _ _ => False, he, hb, fun b o h => h.elim, h2 _ _⟩
def strOk (s : ByteArray) : Prop := s.size ≤ 140737488355328
instance (s : ByteArray) : Decidable (strOk s) := inferInstanceAs (Decidable (_ ≤ _))
def s18 : List D → Option D := sp1 cStr cBool fun s => if strOk s then some (refName s) else none
theorem ok18 : ∀ ds d, s18 ds = some d → PureC Tryz.prog 18 ds d := ok_sp1 fun s r hr => by
  split at hr
  · rename_i hs
    cases hr
    refine pure_words fun m w vs hm hG hr => ?_
    simp only [RelL, Rel, cStr_enc] at hr
    obtain ⟨v, t, rfl, rfl, rfl⟩ := hr
    refine ⟨_, name_any s w hs, fun m' w' => ?_⟩
    rw [refName_eq, cBool_enc]
    simp [Rel]
  · cases hr
theorem call18 (xs : Array Value) (w : World) : (callFunc 18 xs).run Tryz.prog w = .ok (.enter 18 xs) w := by kernel_rfl
def isFn (f : Nat) : Value → Bool
  | .func (.func g) a b => g == f && a.isEmpty && b.isEmpty
  | _ => false
theorem isFn_eq {f : Nat} {v : Value} (h : isFn f v = true) : v = .func (.func f) #[] #[] := by
  unfold isFn at h
  split at h
  · simp only [Bool.and_eq_true, beq_iff_eq, Array.isEmpty_iff] at h
    obtain ⟨⟨rfl, rfl⟩, rfl⟩ := h
    rfl
  · cases h
theorem isFn_at (f g : Nat) : isFn f (.func (.func g) #[] #[]) = (g == f) := by simp [isFn]
def cFn (f : Nat) : Cod Unit := ⟨fun _ => .v (.func (.func f) #[] #[]), fun d => match d with | .v x => if isFn f x then some () else none | _ => none, fun d x h => by
  split at h
  · split at h
    · rename_i hf; rw [isFn_eq hf]; exact DImp.refl _
    · cases h
  · cases h⟩
theorem cFn_enc (f : Nat) (u : Unit) : (cFn f).enc u = .v (.func (.func f) #[] #[]) := rfl
theorem cFn_dec (f g : Nat) : (cFn f).dec (.v (.func (.func g) #[] #[])) = if g = f then some () else none := by
  simp only [cFn, isFn_at, beq_iff_eq]
def cFnP (f : Nat) : Cod Unit := ⟨fun _ => .dat 1 [[.v (.func (.func f) #[] #[])]] 0 0, fun d => match d with | .dat 1 [[.v x]] 0 0 => if isFn f x then some () else none | _ => none, fun d x h => by
  split at h
  · split at h
    · rename_i hf; rw [isFn_eq hf]; exact DImp.refl _
    · cases h
  · cases h⟩
theorem cFnP_enc (f : Nat) (u : Unit) : (cFnP f).enc u = .dat 1 [[.v (.func (.func f) #[] #[])]] 0 0 := rfl
theorem cFnP_dec (f g : Nat) : (cFnP f).dec (.dat 1 [[.v (.func (.func g) #[] #[])]] 0 0) = if g = f then some () else none := by
  simp only [cFnP, isFn_at, beq_iff_eq]
def cStrP : Cod ByteArray := ⟨fun s => .dat 1 [[DS s]] 0 0, fun d => match d with | .dat 1 [[.v (.string s)]] 0 0 => some s | _ => none, fun d x h => by
  split at h
  · cases h; exact DImp.refl _
  · cases h⟩
theorem cStrP_enc (s : ByteArray) : cStrP.enc s = .dat 1 [[DS s]] 0 0 := rfl
theorem cStrP_dec (s : ByteArray) : cStrP.dec (.dat 1 [[DS s]] 0 0) = some s := rfl
theorem fnc_imp {g : Nat} {a b : List D} (h : LImp a b) : DImp (.fn g [] a) (.fn g [] b) := fun m w v hr => by
  simp only [Rel] at hr ⊢
  obtain ⟨fs, cs, h1, h2, h3⟩ := hr
  exact ⟨fs, cs, h1, h2, h.rel h3⟩
theorem dat_imp {k : Nat} {a b : List D} (h : LImp a b) : DImp (.dat k [a] 0 0) (.dat k [b] 0 0) := fun m w v hr => by
  simp only [Rel, RelRows] at hr ⊢
  obtain ⟨h0, blk, o, h1, ⟨h2, h3⟩, _⟩ := hr
  exact ⟨by simp, blk, o, h1, ⟨by rw [← h.length]; exact h2, h.cells h3⟩, trivial⟩
def spOr (s t : List D → Option D) : List D → Option D := fun ds => match s ds with | some d => some d | none => t ds
attribute [simp] spOr
theorem ok_or {P : Program} {f : Nat} {s t : List D → Option D} (h1 : ∀ ds d, s ds = some d → PureC P f ds d) (h2 : ∀ ds d, t ds = some d → PureC P f ds d) : ∀ ds d, spOr s t ds = some d → PureC P f ds d := fun ds d h => by
  unfold spOr at h
  split at h
  · rename_i d' hd; simp only [Option.some.injEq] at h; subst h; exact h1 ds _ hd
  · exact h2 ds d h
end Go.Proofs.YtkldmnladkcfeaaGreatDoor
