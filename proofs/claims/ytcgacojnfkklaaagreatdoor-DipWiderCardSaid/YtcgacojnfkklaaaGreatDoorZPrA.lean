/-
  Small laws of worlds. Conditions: none.
-/
import Derived.Test.YtcgacojnfkklaaaGreatDoorProg
import Derived.WalkKit
import Derived.WalkSpells
import Derived.WalkLawsBesides
import Derived.Handy
import Derived.Lib.Hide
import Derived.BigQuiet
import Derived.Test.YtcgacojnfkklaaaGreatDoorZRefA
namespace Go.Proofs.YtcgacojnfkklaaaGreatDoor
open Go.RowKit
set_option linter.unusedSimpArgs false
set_option linter.unusedVariables false
theorem ret_bool {a b : Bool} (h : a = b) : Ending.returned (.bool a) = .returned (.bool b) := by rw [h]
end Go.Proofs.YtcgacojnfkklaaaGreatDoor
namespace Go.Proofs.YtcgacojnfkklaaaGreatDoor
open Go.RowKit
set_option linter.unusedSimpArgs false
set_option linter.unusedVariables false
def kp48 (r : Nat) : List (Nat × Option Nat) := match r with
  | 0 => [(2, none), (3, none), (4, none)]
  | 1 => [(6, none)]
  | _ => []
def kp90 (r : Nat) : List (Nat × Option Nat) := match r with
  | 0 => [(0, none), (1, none), (2, none)]
  | 1 => [(4, none)]
  | _ => []
def kp89 (r : Nat) : List (Nat × Option Nat) := match r with
  | 0 => [(0, none), (1, none)]
  | 1 => [(4, none)]
  | _ => []
def kp109 (r : Nat) : List (Nat × Option Nat) := match r with
  | 0 => [(0, none), (1, none)]
  | 1 => [(0, none), (1, none), (7, none), (8, none)]
  | 2 => [(0, none), (1, none), (7, none), (8, none), (9, none)]
  | 3 => [(0, none), (1, none), (5, none), (7, none), (8, none)]
  | 4 => [(0, none), (1, none), (5, none), (7, none), (8, none), (16, none)]
  | 5 => [(4, none)]
  | 6 => [(0, none), (1, none), (7, none), (8, none)]
  | 7 => [(4, none)]
  | _ => []
def kp93 (r : Nat) : List (Nat × Option Nat) := match r with
  | 0 => [(1, none), (2, none)]
  | 1 => [(3, none)]
  | _ => []
def kp83 (r : Nat) : List (Nat × Option Nat) := match r with
  | 0 => [(0, none), (1, none)]
  | 1 => [(0, none), (1, none), (7, none), (8, none)]
  | 2 => [(0, none), (1, none), (7, none), (8, none), (9, none)]
  | 3 => [(0, none), (1, none), (5, none), (7, none), (8, none)]
  | 4 => [(0, none), (1, none), (5, none), (7, none), (8, none), (16, none)]
  | 5 => [(4, none)]
  | 6 => [(0, none), (1, none), (7, none), (8, none)]
  | 7 => [(4, none)]
  | _ => []
def kp92 (r : Nat) : List (Nat × Option Nat) := match r with
  | 0 => [(0, none), (1, none)]
  | 1 => [(4, none)]
  | _ => []
def kp50 (r : Nat) : List (Nat × Option Nat) := match r with
  | 0 => [(1, none), (3, none), (5, none)]
  | 1 => [(1, none), (3, none), (5, none), (7, none)]
  | 2 => [(6, none)]
  | 3 => [(3, none), (5, none), (12, none)]
  | 4 => [(6, none)]
  | 5 => [(3, none), (5, none), (20, none)]
  | 6 => [(6, none)]
  | 7 => [(5, none), (29, none)]
  | 8 => [(6, none)]
  | 9 => [(37, none)]
  | 10 => [(6, none)]
  | 11 => [(6, none)]
  | _ => []
def kp49 (r : Nat) : List (Nat × Option Nat) := match r with
  | 0 => [(0, none), (1, none)]
  | 1 => [(1, none), (8, none), (9, none), (10, none)]
  | 2 => [(1, none), (8, none), (9, none), (10, none), (11, none)]
  | 3 => [(1, none), (6, none), (7, none), (8, none), (9, none), (10, none)]
  | 4 => [(1, none), (5, none), (6, none), (8, none), (9, none), (10, none)]
  | 5 => [(1, none), (5, none), (6, none), (8, none), (9, none), (10, none), (20, none)]
  | 6 => [(4, none), (5, none)]
  | 7 => [(1, none), (8, none), (9, none), (10, none)]
  | 8 => [(4, none), (5, none)]
  | _ => []
def kp18 (r : Nat) : List (Nat × Option Nat) := match r with
  | 0 => [(1, none)]
  | 1 => [(5, none)]
  | 2 => [(5, none), (8, none)]
  | 3 => [(2, none), (3, none), (4, none)]
  | 4 => [(5, none), (35, none)]
  | 5 => [(2, none), (3, none), (4, none)]
  | 6 => [(5, none), (54, none)]
  | 7 => [(2, none), (3, none), (4, none)]
  | 8 => [(3, none), (4, none)]
  | 9 => [(3, none), (4, none), (71, none)]
  | 10 => [(2, none), (3, none), (4, none)]
  | 11 => [(2, none), (3, none), (4, none)]
  | _ => []
def idxF {α : Type} (p : α → Bool) (l : List α) : Int := match l.findIdx? p with | some k => (k : Int) | none => -1
theorem idxF_cases {α : Type} (p : α → Bool) (l : List α) : (idxF p l = -1 ∧ l.any p = false ∧ ∀ k (h : k < l.length), p l[k] = false) ∨ ∃ k, ∃ h : k < l.length, idxF p l = k ∧ l.any p = true ∧ p l[k] = true ∧ ∀ j (hj : j < l.length), j < k → p l[j] = false := by
  unfold idxF
  cases h : l.findIdx? p with
  | none =>
    have := List.findIdx?_eq_none_iff.1 h
    refine .inl ⟨rfl, ?_, fun k hk => this _ (List.getElem_mem hk)⟩
    rw [List.any_eq_false]
    intro x hx
    simp [this x hx]
  | some k =>
    obtain ⟨h1, h2, h3⟩ := List.findIdx?_eq_some_iff_getElem.1 h
    refine .inr ⟨k, h1, rfl, ?_, h2, fun j hj hjk => ?_⟩
    · rw [List.any_eq_true]; exact ⟨_, List.getElem_mem h1, h2⟩
    · have := h3 j hjk
      simpa using this
def cIntP : Cod Int := ⟨fun n => .dat 1 [[DI n]] 0 0, fun d => match d with | .dat 1 [[.v (.int .i64 n)]] 0 0 => some n | _ => none, fun d x h => by
  split at h
  · cases h; exact DImp.refl _
  · cases h⟩
def cOutF : Cod (Int × Int) := ⟨fun p => .fn 90 [] [.dat 1 [[DI p.1]] 0 0, .dat 1 [[DI p.2]] 0 0], fun d => match d with | .fn 90 [] [.dat 1 [[.v (.int .i64 a)]] 0 0, .dat 1 [[.v (.int .i64 b)]] 0 0] => some (a, b) | _ => none, fun d x h => by
  split at h
  · cases h; exact DImp.refl _
  · cases h⟩
theorem cIntP_enc (n : Int) : cIntP.enc n = .dat 1 [[DI n]] 0 0 := rfl
theorem cIntP_dec (n : Int) : cIntP.dec (.dat 1 [[DI n]] 0 0) = some n := rfl
theorem cOutF_enc (p : Int × Int) : cOutF.enc p = .fn 90 [] [.dat 1 [[DI p.1]] 0 0, .dat 1 [[DI p.2]] 0 0] := rfl
theorem cOutF_dec (a b : Int) : cOutF.dec (.fn 90 [] [.dat 1 [[DI a]] 0 0, .dat 1 [[DI b]] 0 0]) = some (a, b) := rfl
def s90 : List D → Option D := sp3 cInt cIntP cIntP cBool fun n lo hi => some (!inR n lo hi)
theorem ok90 : ∀ ds d, s90 ds = some d → PureC Tryz.prog 90 ds d := ok_sp3 fun n lo hi r hr => by
  cases hr
  refine pure_of_call (mkCx_ok del_nil 13 kp90 []) Tryz.func90 rfl rfl (Nat.le_of_ble_eq_true rfl) (by kernel_rfl) ?_
  rw [Tryz.results90]
  unfold inR
  by_cases h : n < lo
  · have h' : ¬ lo ≤ n := by omega
    simp [kp90, cIntP_enc, h, h']
  · have h' : lo ≤ n := by omega
    by_cases h2 : hi < n
    · have h2' : ¬ n ≤ hi := by omega
      simp [kp90, cIntP_enc, h, h', h2, h2']
    · have h2' : n ≤ hi := by omega
      simp [kp90, cIntP_enc, h, h', h2, h2']
theorem call90 (xs : Array Value) (w : World) : (callFunc 90 xs).run Tryz.prog w = .ok (.enter 90 xs) w := by kernel_rfl
def p1 : List (Nat × (List D → Option D)) := [(90, s90)]
theorem dp1 : DelOk Tryz.prog (delOf p1) := del_cons del_nil call90 ok90
def s109 : List D → Option D := sp2 (cList rInt) cOutF cInt fun l p => if l.length < 1000000 then some (idxF (fun n => !inR n p.1 p.2) l) else none
set_option maxHeartbeats 1000000 in
theorem ok109 : ∀ ds d, s109 ds = some d → PureC Tryz.prog 109 ds d := ok_sp2 fun l p r hr => by
  split at hr
  · rename_i hlm
    cases hr
    obtain ⟨lo, hi⟩ := p
    refine pure_of_call (mkCx_ok dp1 19 kp109 []) Tryz.func109 rfl rfl (Nat.le_of_ble_eq_true rfl) (by kernel_rfl) ?_
    rw [Tryz.results109]
    simp [kp109, cOutF_enc]
    rcases idxF_cases (fun n => !inR n lo hi) l with ⟨e1, _, hall⟩ | ⟨k, hk, e1, _, hbad, hgood⟩
    · rw [e1]
      (generalize hLoopQ : Cx.loop _ _ _ = rLoopQ; apply loop_then hLoopQ (fun k => ⟨[(0, .d (.sl 1 (l.map rInt.enc))), (1, .d (.fn 90 [] [.dat 1 [[DI lo]] 0 0, .dat 1 [[DI hi]] 0 0])), (7, .d (DI l.length)), (8, .d (DI k))], [], [], []⟩) l.length rfl; rotate_left; (show _ < 281474976710656; omega); rfl; rotate_left; all_goals clear hLoopQ)
      · intro j hj
        have w1 := wrap_small ((j : Int) + 1) (by omega) (by omega)
        have hjl : (j : Int) < l.length := by omega
        have hn := hall j hj
        have hn' : inR l[j] lo hi = true := by simpa using hn
        simp [kp109, p1, s90, cIntP_dec, hj, hjl, hn', w1]
      · simp [kp109]
    · rw [e1]
      (generalize hLoopQ : Cx.loop _ _ _ = rLoopQ; apply loop_then hLoopQ (fun k => ⟨[(0, .d (.sl 1 (l.map rInt.enc))), (1, .d (.fn 90 [] [.dat 1 [[DI lo]] 0 0, .dat 1 [[DI hi]] 0 0])), (7, .d (DI l.length)), (8, .d (DI k))], [], [], []⟩) k rfl; rotate_left; (show _ < 281474976710656; omega); rfl; rotate_left; all_goals clear hLoopQ)
      · intro j hj'
        have hj : j < l.length := by omega
        have w1 := wrap_small ((j : Int) + 1) (by omega) (by omega)
        have hjl : (j : Int) < l.length := by omega
        have hn := hgood j hj hj'
        have hn' : inR l[j] lo hi = true := by simpa using hn
        simp [kp109, p1, s90, cIntP_dec, hj, hjl, hn', w1]
      · have hkl : (k : Int) < l.length := by omega
        have hn' : inR l[k] lo hi = false := by simpa using hbad
        simp [kp109, p1, s90, cIntP_dec, hk, hkl, hn']
  · cases hr
theorem call109 (xs : Array Value) (w : World) : (callFunc 109 xs).run Tryz.prog w = .ok (.enter 109 xs) w := by kernel_rfl
theorem idxF_pos {α : Type} (p : α → Bool) (l : List α) : decide (0 ≤ idxF p l) = l.any p := by
  rcases idxF_cases p l with ⟨e1, e2, _⟩ | ⟨k, hk, e1, e2, _⟩
  · rw [e1, e2]; rfl
  · rw [e1, e2]; simp
def p2 : List (Nat × (List D → Option D)) := (109, s109) :: p1
theorem dp2 : DelOk Tryz.prog (delOf p2) := del_cons dp1 call109 ok109
def s89 : List D → Option D := sp2 (cList rInt) cOutF cBool fun l p => if l.length < 1000000 then some (l.any fun n => !inR n p.1 p.2) else none
theorem ok89 : ∀ ds d, s89 ds = some d → PureC Tryz.prog 89 ds d := ok_sp2 fun l p r hr => by
  split at hr
  · rename_i hlm
    cases hr
    obtain ⟨lo, hi⟩ := p
    refine pure_of_call (mkCx_ok dp2 9 kp89 []) Tryz.func89 rfl rfl (Nat.le_of_ble_eq_true rfl) (by kernel_rfl) ?_
    rw [Tryz.results89]
    have hp := idxF_pos (fun n => !inR n lo hi) l
    rw [← hp]
    simp [kp89, p2, s109, cOutF_enc, cOutF_dec, hlm]
  · cases hr
theorem call89 (xs : Array Value) (w : World) : (callFunc 89 xs).run Tryz.prog w = .ok (.enter 89 xs) w := by kernel_rfl
def p3 : List (Nat × (List D → Option D)) := (89, s89) :: p2
theorem dp3 : DelOk Tryz.prog (delOf p3) := del_cons dp2 call89 ok89
def outB (lo hi : Int) (l : List Int) : Bool := l.any fun n => !inR n lo hi
def s48 : List D → Option D := sp3 cInt cInt (cList rInt) cBool fun lo hi l => if l.length < 1000000 then some (outB lo hi l) else none
theorem ok48 : ∀ ds d, s48 ds = some d → PureC Tryz.prog 48 ds d := ok_sp3 fun lo hi l r hr => by
  split at hr
  · rename_i hlm
    cases hr
    refine pure_of_call (mkCx_ok dp3 10 kp48 []) Tryz.func48 rfl rfl (Nat.le_of_ble_eq_true rfl) (by kernel_rfl) ?_
    rw [Tryz.results48]
    unfold outB
    simp [kp48, p3, s89, cOutF_dec, hlm]
  · cases hr
theorem call48 (xs : Array Value) (w : World) : (callFunc 48 xs).run Tryz.prog w = .ok (.enter 48 xs) w := by kernel_rfl
def cBthP : Cod Bth := ⟨fun b => .dat 3 [rBth.enc b] 0 0, fun d => match d with | .dat 3 [[.v (.string n), .v (.int .i64 a), .v (.int .i64 b)]] 0 0 => some ⟨n, ⟨a, b⟩⟩ | _ => none, fun d x h => by
  split at h
  · cases h; exact DImp.refl _
  · cases h⟩
def cBthF : Cod Bth := ⟨fun b => .fn 93 [] [.dat 3 [rBth.enc b] 0 0], fun d => match d with | .fn 93 [] [.dat 3 [[.v (.string n), .v (.int .i64 a), .v (.int .i64 b)]] 0 0] => some ⟨n, ⟨a, b⟩⟩ | _ => none, fun d x h => by
  split at h
  · cases h; exact DImp.refl _
  · cases h⟩
theorem cBthP_enc (b : Bth) : cBthP.enc b = .dat 3 [[DS b.name, DI b.warm.lo, DI b.warm.hi]] 0 0 := rfl
theorem cBthP_dec (b : Bth) : cBthP.dec (.dat 3 [[DS b.name, DI b.warm.lo, DI b.warm.hi]] 0 0) = some b := rfl
theorem cBthF_enc (b : Bth) : cBthF.enc b = .fn 93 [] [.dat 3 [[DS b.name, DI b.warm.lo, DI b.warm.hi]] 0 0] := rfl
theorem cBthF_dec (b : Bth) : cBthF.dec (.fn 93 [] [.dat 3 [[DS b.name, DI b.warm.lo, DI b.warm.hi]] 0 0]) = some b := rfl
def sameB (b y : Bth) : Bool := y.name.toList == b.name.toList
def s93 : List D → Option D := sp2 (cAgg rBth) cBthP cBool fun y b => some (sameB b y)
theorem ok93 : ∀ ds d, s93 ds = some d → PureC Tryz.prog 93 ds d := ok_sp2 fun y b r hr => by
  cases hr
  refine pure_of_call (mkCx_ok del_nil 9 kp93 []) Tryz.func93 rfl rfl (Nat.le_of_ble_eq_true rfl) (by kernel_rfl) ?_
  rw [Tryz.results93]
  unfold sameB
  simp [kp93, rBth_enc, cBthP_enc]
theorem call93 (xs : Array Value) (w : World) : (callFunc 93 xs).run Tryz.prog w = .ok (.enter 93 xs) w := by kernel_rfl
def q1 : List (Nat × (List D → Option D)) := [(93, s93)]
theorem dq1 : DelOk Tryz.prog (delOf q1) := del_cons del_nil call93 ok93
def s83 : List D → Option D := sp2 (cList rBth) cBthF cInt fun l b => if l.length < 1000000 then some (idxF (sameB b) l) else none
set_option maxHeartbeats 1000000 in
theorem ok83 : ∀ ds d, s83 ds = some d → PureC Tryz.prog 83 ds d := ok_sp2 fun l b r hr => by
  split at hr
  · rename_i hlm
    cases hr
    refine pure_of_call (mkCx_ok dq1 19 kp83 []) Tryz.func83 rfl rfl (Nat.le_of_ble_eq_true rfl) (by kernel_rfl) ?_
    rw [Tryz.results83]
    simp [kp83, cBthF_enc, rBth_k]
    rcases idxF_cases (sameB b) l with ⟨e1, _, hall⟩ | ⟨k, hk, e1, _, hbad, hgood⟩
    · rw [e1]
      (generalize hLoopQ : Cx.loop _ _ _ = rLoopQ; apply loop_then hLoopQ (fun k => ⟨[(0, .d (.sl 3 (l.map rBth.enc))), (1, .d (.fn 93 [] [.dat 3 [[DS b.name, DI b.warm.lo, DI b.warm.hi]] 0 0])), (7, .d (DI l.length)), (8, .d (DI k))], [], [], []⟩) l.length rfl; rotate_left; (show _ < 281474976710656; omega); rfl; rotate_left; all_goals clear hLoopQ)
      · intro j hj
        have w1 := wrap_small ((j : Int) + 1) (by omega) (by omega)
        have hjl : (j : Int) < l.length := by omega
        have hn := hall j hj
        simp [kp83, q1, s93, rBth_enc, rBth_dec, cBthP_dec, hj, hjl, hn, w1]
      · simp [kp83]
    · rw [e1]
      (generalize hLoopQ : Cx.loop _ _ _ = rLoopQ; apply loop_then hLoopQ (fun k => ⟨[(0, .d (.sl 3 (l.map rBth.enc))), (1, .d (.fn 93 [] [.dat 3 [[DS b.name, DI b.warm.lo, DI b.warm.hi]] 0 0])), (7, .d (DI l.length)), (8, .d (DI k))], [], [], []⟩) k rfl; rotate_left; (show _ < 281474976710656; omega); rfl; rotate_left; all_goals clear hLoopQ)
      · intro j hj'
        have hj : j < l.length := by omega
        have w1 := wrap_small ((j : Int) + 1) (by omega) (by omega)
        have hjl : (j : Int) < l.length := by omega
        have hn := hgood j hj hj'
        simp [kp83, q1, s93, rBth_enc, rBth_dec, cBthP_dec, hj, hjl, hn, w1]
      · have hkl : (k : Int) < l.length := by omega
        simp [kp83, q1, s93, rBth_enc, rBth_dec, cBthP_dec, hk, hkl, hbad]
  · cases hr
theorem call83 (xs : Array Value) (w : World) : (callFunc 83 xs).run Tryz.prog w = .ok (.enter 83 xs) w := by kernel_rfl
def q2 : List (Nat × (List D → Option D)) := (83, s83) :: q1
theorem dq2 : DelOk Tryz.prog (delOf q2) := del_cons dq1 call83 ok83
def s92 : List D → Option D := sp2 (cList rBth) cBthF cBool fun l b => if l.length < 1000000 then some (l.any (sameB b)) else none
theorem ok92 : ∀ ds d, s92 ds = some d → PureC Tryz.prog 92 ds d := ok_sp2 fun l b r hr => by
  split at hr
  · rename_i hlm
    cases hr
    refine pure_of_call (mkCx_ok dq2 9 kp92 []) Tryz.func92 rfl rfl (Nat.le_of_ble_eq_true rfl) (by kernel_rfl) ?_
    rw [Tryz.results92]
    have hp := idxF_pos (sameB b) l
    rw [← hp]
    simp [kp92, q2, s83, cBthF_enc, cBthF_dec, rBth_k, rBth_decL, hlm]
  · cases hr
theorem call92 (xs : Array Value) (w : World) : (callFunc 92 xs).run Tryz.prog w = .ok (.enter 92 xs) w := by kernel_rfl
end Go.Proofs.YtcgacojnfkklaaaGreatDoor
namespace Go.Proofs.YtcgacojnfkklaaaGreatDoor
open Go.RowKit
set_option linter.unusedSimpArgs false
set_option linter.unusedVariables false
def nameGo : List UInt8 → Int → Bool
  | [], last => !(last == 45)
  | x :: t, last => if (x.toNat : Int) = 45 then (if last = 45 then false else nameGo t 45)
      else if (x.toNat : Int) < 97 ∨ 122 < (x.toNat : Int) then false else nameGo t x.toNat
def nameB (s : ByteArray) : Bool := nameGo s.data.toList 45 && decide (s.size ≤ 20)
theorem nameB_end (s : ByteArray) (last : Int) (hl : ¬ last = 45) (h : nameGo [] last = nameGo s.data.toList 45) : (last != 45 && decide ((s.size : Int) ≤ 20)) = nameB s := by
  have h1 : (last == 45) = false := by simpa using hl
  rw [nameB, ← h]
  simp [nameGo, bne, h1]
  try omega
theorem drop_at (s : ByteArray) (k : Nat) (h : k < s.size) : s.data.toList.drop k = s[k] :: s.data.toList.drop (k + 1) := by
  rw [List.drop_eq_getElem_cons (by simpa using h)]; rfl
theorem drop_end (s : ByteArray) (k : Nat) (h : ¬ k < s.size) : s.data.toList.drop k = [] := by
  apply List.drop_eq_nil_of_le; simp; omega
theorem below_iter (w : World) (s : ByteArray) (k : Nat) : Below w.heap.size w (w.iter s k) := (Below.refl _ w).alloc (Nat.le_refl _) _
theorem next_at {P : Program} (w : World) (s : ByteArray) (k : Nat) (h : k < s.size) :
    ∃ (r : Int) (p : Nat), (∀ ty, (Instr.next (.pointer (some ⟨w.heap.size, 0, none⟩)) true ty).run P (w.iter s k) = .ok (.tuple #[.bool true, .int .i64 k, .int .i32 r]) (w.iter s p)) ∧
      ((r = (s[k].toNat : Int) ∧ p = k + 1) ∨ (128 ≤ r ∧ 128 ≤ (s[k].toNat : Int))) := by
  by_cases ha : s[k].toNat < 128
  · exact ⟨_, _, fun ty => run_next_ascii w s k ty h ha, .inl ⟨rfl, rfl⟩⟩
  · have hd := decode_high s k h (by omega)
    exact ⟨_, _, fun ty => run_next_any w s k ty h, .inr ⟨by omega, by omega⟩⟩
theorem name_any (s : ByteArray) (w : World) (hs : s.size ≤ 140737488355328) :
    Calls Tryz.prog 91 #[.string s] w fun e w' => e = .returned (.bool (nameB s)) ∧ Below w.heap.size w w' := by
  go_enter Tryz.func91, Tryz.ntmps91
  go_wp2
  go_loopw [3] (fun c wr => ∃ (k : Nat) (last : Int), wr = w.iter s k ∧ k ≤ s.size ∧ c = .int .i32 last ∧ nameGo (s.data.toList.drop k) last = nameGo s.data.toList 45) (fun _ wr => s.size - wr.iterPos w.heap.size)
  case atStart => exact ⟨0, 45, rfl, by omega, rfl, rfl⟩
  case round =>
    obtain ⟨k, last, rfl, hk, rfl, hn⟩ := hrel
    by_cases hp : k < s.size
    · obtain ⟨r, p, hnx, hr⟩ := next_at (P := Tryz.prog) w s k hp
      rw [drop_at s k hp] at hn
      have hfin : (r = 45 ∧ last = 45) ∨ (¬ r = 45 ∧ (r < 97 ∨ 122 < r)) → nameB s = false := by
        intro h
        have : nameGo s.data.toList 45 = false := by
          rw [← hn]
          rcases hr with ⟨rfl, rfl⟩ | ⟨h1, h2⟩
          · rcases h with ⟨h3, h4⟩ | ⟨h3, h4⟩
            · simp only [nameGo]; rw [if_pos h3, if_pos h4]
            · simp only [nameGo]; rw [if_neg h3, if_pos h4]
          · simp only [nameGo]; rw [if_neg (by omega), if_pos (by omega)]
        simp [nameB, this]
      have hgo : ¬ ((r = 45 ∧ last = 45) ∨ (¬ r = 45 ∧ (r < 97 ∨ 122 < r))) → p = k + 1 ∧ nameGo (s.data.toList.drop (k + 1)) r = nameGo s.data.toList 45 := by
        intro h
        rcases hr with ⟨rfl, rfl⟩ | ⟨h1, h2⟩
        · refine ⟨rfl, ?_⟩
          rw [← hn]
          simp only [nameGo]
          by_cases h3 : (s[k].toNat : Int) = 45
          · rw [if_pos h3, if_neg (by omega), h3]
          · rw [if_neg h3, if_neg (by omega)]
        · omega
      have H_hn := Lib.hid hn; clear hn; have H_hfin := Lib.hid hfin; clear hfin; have H_hgo := Lib.hid hgo; clear hgo; have H_hr := Lib.hid hr; clear hr
      by_cases h45 : r = 45
      · subst h45
        by_cases hl : last = 45
        · subst hl
          go_wp2
          go_ret
          exact ⟨ret_bool (H_hfin.out (by simp)).symm, below_iter _ _ _⟩
        · have hl' : (last == 45) = false := by simpa using hl
          go_wp2
          go_roundw
          obtain ⟨rfl, h2⟩ := H_hgo.out (by omega)
          case rel => exact ⟨k + 1, 45, rfl, by omega, rfl, h2⟩
          case measure => obtain ⟨rfl, h2⟩ := H_hgo.out (by omega); simp; omega
      · have h45' : (r == 45) = false := by simpa using h45
        by_cases h97 : r < 97
        · go_wp2
          go_ret
          exact ⟨ret_bool (H_hfin.out (by omega)).symm, below_iter _ _ _⟩
        · by_cases h122 : 122 < r
          · go_wp2
            go_ret
            exact ⟨ret_bool (H_hfin.out (by omega)).symm, below_iter _ _ _⟩
          · go_wp2
            go_roundw
            case rel => obtain ⟨rfl, h2⟩ := H_hgo.out (by omega); exact ⟨k + 1, r, rfl, by omega, rfl, h2⟩
            case measure => obtain ⟨rfl, h2⟩ := H_hgo.out (by omega); simp; omega
    · have hnx : ∀ ty, (Instr.next (.pointer (some ⟨w.heap.size, 0, none⟩)) true ty).run Tryz.prog (w.iter s k) = _ := fun ty => run_next_end w s k ty hp
      rw [drop_end s k hp] at hn
      have H_hn := Lib.hid hn; clear hn
      by_cases hl : last = 45
      · subst hl
        go_wp2
        go_ret
        exact ⟨ret_bool (by rw [nameB, ← H_hn.out]; rfl), below_iter _ _ _⟩
      · have hl' : (last == 45) = false := by simpa using hl
        go_wp2
        go_ret
        exact ⟨ret_bool (nameB_end s last hl H_hn.out), below_iter _ _ _⟩
end Go.Proofs.YtcgacojnfkklaaaGreatDoor
namespace Go.Proofs.YtcgacojnfkklaaaGreatDoor
open Go.RowKit
set_option linter.unusedSimpArgs false
set_option linter.unusedVariables false
def kp86 (r : Nat) : List (Nat × Option Nat) := match r with
  | 0 => [(3, none), (5, none)]
  | 1 => [(3, none), (5, none), (7, none)]
  | 2 => [(6, none)]
  | 3 => [(3, none), (5, none), (17, none)]
  | 4 => [(6, none)]
  | 5 => [(24, none)]
  | 6 => [(6, none)]
  | 7 => [(6, none)]
  | _ => []
def kp55 (r : Nat) : List (Nat × Option Nat) := match r with
  | 0 => [(0, none), (1, none)]
  | 1 => [(1, none), (8, none), (9, none), (10, none)]
  | 2 => [(1, none), (8, none), (9, none), (10, none), (11, none)]
  | 3 => [(1, none), (6, none), (7, none), (8, none), (9, none), (10, none)]
  | 4 => [(1, none), (5, none), (6, none), (8, none), (9, none), (10, none)]
  | 5 => [(1, none), (5, none), (6, none), (8, none), (9, none), (10, none), (20, none)]
  | 6 => [(4, none), (5, none)]
  | 7 => [(1, none), (8, none), (9, none), (10, none)]
  | 8 => [(4, none), (5, none)]
  | _ => []
def kp69 (r : Nat) : List (Nat × Option Nat) := match r with
  | 0 => [(1, none), (2, none)]
  | 1 => [(1, none), (2, none), (9, none)]
  | 2 => [(4, none)]
  | 3 => [(6, none)]
  | 4 => [(4, none)]
  | _ => []
def kp54 (r : Nat) : List (Nat × Option Nat) := match r with
  | 0 => [(2, none), (3, none), (4, none), (6, none)]
  | 1 => [(2, none), (3, none), (4, none), (6, none), (8, none)]
  | 2 => [(2, none), (4, none), (6, none), (8, none), (11, none)]
  | 3 => [(2, none), (4, none), (6, none), (8, none), (11, none), (20, none)]
  | 4 => [(6, none), (7, none)]
  | 5 => [(2, none), (4, none), (6, none), (8, none), (25, none)]
  | 6 => [(6, none), (7, none)]
  | 7 => [(2, none), (6, none), (8, none), (35, none)]
  | 8 => [(6, none), (7, none)]
  | 9 => [(6, none), (7, none)]
  | _ => []
def frontAt (l : List UInt8) (last : Int) (i : Nat) : Int := if i = 0 then last else (l.getD (i - 1) 0).toNat
theorem nameGo_iff : ∀ (l : List UInt8) (last : Int), nameGo l last = true ↔ (∀ i, i < l.length → (((l.getD i 0).toNat : Int) = 45 ∨ (97 ≤ ((l.getD i 0).toNat : Int) ∧ ((l.getD i 0).toNat : Int) ≤ 122)) ∧ ¬ (((l.getD i 0).toNat : Int) = 45 ∧ frontAt l last i = 45)) ∧ ¬ frontAt l last l.length = 45
  | [], last => by simp [nameGo, frontAt]
  | x :: t, last => by
    have hfr : ∀ i, frontAt (x :: t) last (i + 1) = frontAt t x.toNat i := by
      intro i
      unfold frontAt
      cases i with
      | zero => simp
      | succ i => simp
    have ih := nameGo_iff t x.toNat
    rw [nameGo]
    by_cases h1 : (x.toNat : Int) = 45
    · rw [if_pos h1]
      by_cases h2 : last = 45
      · rw [if_pos h2]
        constructor
        · intro h; cases h
        · intro h; exact absurd ⟨by simpa using h1, by simpa [frontAt] using h2⟩ (h.1 0 (by simp)).2
      · rw [if_neg h2]
        rw [h1] at ih
        rw [ih, List.length_cons, hfr, h1]
        constructor
        · rintro ⟨h, h'⟩
          refine ⟨fun i hi => ?_, h'⟩
          cases i with
          | zero => exact ⟨.inl (by simpa using h1), fun hh => h2 (by simpa [frontAt] using hh.2)⟩
          | succ i => rw [hfr, h1]; simpa using h i (by simpa using hi)
        · rintro ⟨h, h'⟩
          refine ⟨fun i hi => ?_, h'⟩
          have := h (i + 1) (by simpa using hi)
          rw [hfr, h1] at this; simpa using this
    · rw [if_neg h1]
      by_cases h2 : (x.toNat : Int) < 97 ∨ 122 < (x.toNat : Int)
      · rw [if_pos h2]
        constructor
        · intro h; cases h
        · intro h
          have := (h.1 0 (by simp)).1
          simp at this
          omega
      · rw [if_neg h2, ih, List.length_cons, hfr]
        constructor
        · rintro ⟨h, h'⟩
          refine ⟨fun i hi => ?_, h'⟩
          cases i with
          | zero => exact ⟨.inr (by simp; omega), fun hh => h1 (by simpa using hh.1)⟩
          | succ i => rw [hfr]; simpa using h i (by simpa using hi)
        · rintro ⟨h, h'⟩
          refine ⟨fun i hi => ?_, h'⟩
          have := h (i + 1) (by simpa using hi)
          rw [hfr] at this; simpa using this
theorem byteAt_list (s : ByteArray) (i : Nat) : byteAt s i = ((s.data.toList.getD i 0).toNat : Int) := by
  unfold byteAt
  by_cases h : i < s.size
  · have h2 : i < s.data.toList.length := by simpa using h
    rw [getD_at _ _ _ h2]
    simp [getElem?_pos, h]
    rfl
  · have h2 : s.data.toList.length ≤ i := by simpa using h
    simp [List.getD, h2, getElem?_neg, h]
theorem nmAt_iff (s : ByteArray) (i : Nat) : nmAt s i = true ↔ (byteAt s i = 45 ∨ (97 ≤ byteAt s i ∧ byteAt s i ≤ 122)) ∧ (0 < i → byteAt s i = 45 → ¬ byteAt s (i - 1) = 45) := by
  unfold nmAt inR
  by_cases h1 : byteAt s i = 45 <;> by_cases h2 : 0 < i <;> by_cases h3 : byteAt s (i - 1) = 45 <;> simp [h1, h2, h3]
theorem refName_iff (s : ByteArray) : refName s = true ↔ (1 ≤ (s.size : Int) ∧ (s.size : Int) ≤ 20) ∧ ¬ byteAt s 0 = 45 ∧ ¬ byteAt s (s.size - 1) = 45 ∧ ∀ i, i < s.size → nmAt s i = true := by
  unfold refName
  simp [inR, and_assoc]
theorem refName_eq (s : ByteArray) : refName s = nameB s := by
  have hlen : s.data.toList.length = s.size := by simp
  rw [Bool.eq_iff_iff, refName_iff]
  unfold nameB
  rw [Bool.and_eq_true, nameGo_iff, hlen]
  simp only [← byteAt_list, decide_eq_true_eq, frontAt]
  constructor
  · rintro ⟨⟨h1, h2⟩, h3, h4, h5⟩
    refine ⟨⟨fun i hi => ?_, ?_⟩, by omega⟩
    · have := (nmAt_iff s i).1 (h5 i hi)
      refine ⟨this.1, ?_⟩
      by_cases hi0 : i = 0
      · subst hi0; intro hh; exact h3 hh.1
      · rw [if_neg hi0]; intro hh; exact this.2 (by omega) hh.1 hh.2
    · rw [if_neg (by omega)]; exact h4
  · rintro ⟨⟨h1, h2⟩, h3⟩
    have hs : ¬ s.size = 0 := fun h => by rw [if_pos h] at h2; exact h2 rfl
    rw [if_neg hs] at h2
    refine ⟨by omega, fun h => (h1 0 (by omega)).2 ⟨h, by simp⟩, h2, fun i hi => (nmAt_iff s i).2 ⟨(h1 i hi).1, fun hi0 hb hb2 => (h1 i hi).2 ⟨hb, by rw [if_neg (by omega)]; exact hb2⟩⟩⟩
theorem pure_words {P : Program} {f : Nat} {ds : List D} {d : D} (h : ∀ (m : Nat → Nat → Prop) (w : World) (vs : List Value), (∀ b o, m b o → b < w.heap.size) → GlobIn m w → RelL m w ds vs → ∃ v, Calls P f vs.toArray w (fun e w' => e = .returned v ∧ Below w.heap.size w w') ∧ ∀ m' w', Rel m' w' d v) : PureC P f ds d := fun m w vs hm hG hr => by
  obtain ⟨v, h1, h2⟩ := h m w vs hm hG hr
  exact h1.mono fun e w' ⟨he, hb⟩ => ⟨v, fun _ _ => False, he, hb, fun b o h => h.elim, h2 _ _⟩
def strOk (s : ByteArray) : Prop := s.size ≤ 140737488355328
instance (s : ByteArray) : Decidable (strOk s) := inferInstanceAs (Decidable (_ ≤ _))
def s91 : List D → Option D := sp1 cStr cBool fun s => if strOk s then some (refName s) else none
theorem ok91 : ∀ ds d, s91 ds = some d → PureC Tryz.prog 91 ds d := ok_sp1 fun s r hr => by
  split at hr
  · rename_i hs
    cases hr
    refine pure_words fun m w vs hm hG hr => ?_
    simp only [RelL, Rel, cStr_enc] at hr
    obtain ⟨v, t, rfl, rfl, rfl⟩ := hr
    refine ⟨_, name_any s w hs, fun m' w' => ?_⟩
    rw [refName_eq, cBool_enc]
    simp [Rel]
  · cases hr
theorem call91 (xs : Array Value) (w : World) : (callFunc 91 xs).run Tryz.prog w = .ok (.enter 91 xs) w := by kernel_rfl
def namesOk (x : Dsh) : Prop := ∀ b ∈ x.baths, strOk b.name
instance (x : Dsh) : Decidable (namesOk x) := inferInstanceAs (Decidable (∀ b ∈ x.baths, _))
def q3 : List (Nat × (List D → Option D)) := (91, s91) :: (48, s48) :: (92, s92) :: q2
theorem dq3 : DelOk Tryz.prog (delOf q3) := del_cons (del_cons (del_cons dq2 call92 ok92) call48 ok48) call91 ok91
theorem seen_any (l : List Bth) (b : Bth) : l.any (sameB b) = seenB l b.name := rfl
theorem out2 (lo hi a b : Int) : outB lo hi [a, b] = !(inR a lo hi && inR b lo hi) := by
  cases h1 : inR a lo hi <;> cases h2 : inR b lo hi <;> simp [outB, h1, h2]
theorem out1 (lo hi a : Int) : outB lo hi [a] = !inR a lo hi := by simp [outB]
theorem out3 (lo hi a b c : Int) : outB lo hi [a, b, c] = !(inR a lo hi && inR b lo hi && inR c lo hi) := by
  cases h1 : inR a lo hi <;> cases h2 : inR b lo hi <;> cases h3 : inR c lo hi <;> simp [outB, h1, h2, h3]
theorem int_dec1 (a : Int) : (cList rInt).dec (.sl 1 [[DI a]]) = some [a] := rfl
theorem int_dec2 (a b : Int) : (cList rInt).dec (.sl 1 [[DI a], [DI b]]) = some [a, b] := rfl
theorem int_dec3 (a b c : Int) : (cList rInt).dec (.sl 1 [[DI a], [DI b], [DI c]]) = some [a, b, c] := rfl
def s50 : List D → Option D := sp3 (cAgg rDsh) cInt (cAgg rBth) cInt fun x i b => if (0 ≤ i ∧ i ≤ x.baths.length) ∧ x.baths.length < 1000000 ∧ strOk b.name then some (bathE x i.toNat b) else none
set_option maxHeartbeats 2000000 in
theorem ok50 : ∀ ds d, s50 ds = some d → PureC Tryz.prog 50 ds d := ok_sp3 fun x i b r hr => by
  split at hr
  · rename_i hc
    cases hr
    obtain ⟨⟨hi0, hi1⟩, hlm, hs⟩ := hc
    obtain ⟨I, rfl⟩ : ∃ B : Nat, i = B := ⟨i.toNat, by omega⟩
    have hI : I ≤ x.baths.length := by omega
    have hlt : (x.baths.take I).length < 1000000 := by simp; omega
    have hmt : (x.baths.map rBth.enc).take I = (x.baths.take I).map rBth.enc := List.map_take.symm
    rw [Int.toNat_natCast]
    refine pure_of_call (mkCx_ok dq3 45 kp50 []) Tryz.func50 rfl rfl (Nat.le_of_ble_eq_true rfl) (by kernel_rfl) ?_
    rw [Tryz.results50]
    unfold bathE
    rw [← seen_any]
    generalize hT : x.baths.take I = T at *
    cases h1 : refName b.name
    · simp [kp50, rDsh_enc, rBth_enc, q3, s91, hs, h1]
    · cases h2 : T.any (sameB b)
      · cases h3 : inR b.warm.lo 0 2000 <;> cases h4 : inR b.warm.hi 0 2000 <;> by_cases h5 : b.warm.lo < x.melt <;> by_cases h6 : b.warm.hi < b.warm.lo <;> simp [kp50, rDsh_enc, rBth_enc, rBth_decL, cBthF_dec, q3, q2, s91, s92, s48, hs, h1, hI, hmt, hlt, h2, h3, h4, h5, h6, int_dec2, out2]
      · simp [kp50, rDsh_enc, rBth_enc, rBth_decL, cBthF_dec, q3, q2, s91, s92, hs, h1, hI, hmt, hlt, h2]
  · cases hr
theorem call50 (xs : Array Value) (w : World) : (callFunc 50 xs).run Tryz.prog w = .ok (.enter 50 xs) w := by kernel_rfl
theorem fn_imp {g : Nat} {a b : D} (h : DImp a b) : DImp (.fn g [a] []) (.fn g [b] []) := fun m w v hr => by
  simp only [Rel, RelL] at hr ⊢
  obtain ⟨fs, cs, h1, ⟨v1, t1, h2, h3, h4⟩, h5⟩ := hr
  exact ⟨fs, cs, h1, ⟨v1, t1, h2, h m w v1 h3, h4⟩, h5⟩
def cBathM : Cod Dsh := ⟨fun x => .fn 50 [(cAgg rDsh).enc x] [], fun d => match d with | .fn 50 [y] [] => (cAgg rDsh).dec y | _ => none, fun d x h => by
  split at h
  · exact fn_imp ((cAgg rDsh).ed _ _ h)
  · cases h⟩
def cDipM : Cod Dsh := ⟨fun x => .fn 86 [(cAgg rDsh).enc x] [], fun d => match d with | .fn 86 [y] [] => (cAgg rDsh).dec y | _ => none, fun d x h => by
  split at h
  · exact fn_imp ((cAgg rDsh).ed _ _ h)
  · cases h⟩
theorem cBathM_enc (x : Dsh) : cBathM.enc x = .fn 50 [.agg (rDsh.enc x)] [] := rfl
theorem cBathM_dec (x : Dsh) : cBathM.dec (.fn 50 [.agg (rDsh.enc x)] []) = some x := rDsh.de x
theorem cDipM_enc (x : Dsh) : cDipM.enc x = .fn 86 [.agg (rDsh.enc x)] [] := rfl
theorem cDipM_dec (x : Dsh) : cDipM.dec (.fn 86 [.agg (rDsh.enc x)] []) = some x := rDsh.de x
def q4 : List (Nat × (List D → Option D)) := (50, s50) :: q3
theorem dq4 : DelOk Tryz.prog (delOf q4) := del_cons dq3 call50 ok50
def fitL (x : Dsh) (l : List Bth) : Prop := l.length ≤ x.baths.length ∧ x.baths.length < 1000000 ∧ ∀ b ∈ l, strOk b.name
instance (x : Dsh) (l : List Bth) : Decidable (fitL x l) := inferInstanceAs (Decidable (_ ∧ _ ∧ ∀ b ∈ l, _))
def s49 : List D → Option D := sp2 (cList rBth) cBathM (cTup2 cInt cInt) fun l x => if l.length < 1000000 ∧ fitL x l then some (findI (bathE x) 0 l) else none
set_option maxHeartbeats 1000000 in
theorem ok49 : ∀ ds d, s49 ds = some d → PureC Tryz.prog 49 ds d := ok_sp2 fun l x r hr => by
  split at hr
  · rename_i hc
    cases hr
    obtain ⟨hlm, hbd⟩ := hc
    refine pure_of_call (mkCx_ok dq4 24 kp49 []) Tryz.func49 rfl rfl (Nat.le_of_ble_eq_true rfl) (by kernel_rfl) ?_
    rw [Tryz.results49]
    simp [kp49, cBathM_enc, rBth_k]
    rcases findI_cases (bathE x) l with ⟨e1, hall⟩ | ⟨k, hk, e1, hbad, hgood⟩
    · rw [e1]
      (generalize hLoopQ : Cx.loop _ _ _ = rLoopQ; apply loop_then hLoopQ (fun k => ⟨[(1, .d (.fn 50 [.agg (rDsh.enc x)] [])), (8, .d (.sl 3 (l.map rBth.enc))), (9, .d (DI l.length)), (10, .d (DI k))], [], [], []⟩) l.length rfl; rotate_left; (show _ < 281474976710656; omega); rfl; rotate_left; all_goals clear hLoopQ)
      · intro j hj
        have w1 := wrap_small ((j : Int) + 1) (by omega) (by omega)
        have hjl : (j : Int) < l.length := by omega
        have hst := hbd.2.2 _ (List.getElem_mem hj)
        have hji : (j : Int) ≤ x.baths.length := by have := hbd.1; omega
        have hn := hall j hj
        simp [kp49, rDsh_dec, rDsh.de, rBth_enc, rBth_dec, q4, s50, hlm, hbd.1, hbd.2.1, hst, hji, hj, hjl, hn, w1]
      · simp [kp49]
    · rw [e1]
      (generalize hLoopQ : Cx.loop _ _ _ = rLoopQ; apply loop_then hLoopQ (fun k => ⟨[(1, .d (.fn 50 [.agg (rDsh.enc x)] [])), (8, .d (.sl 3 (l.map rBth.enc))), (9, .d (DI l.length)), (10, .d (DI k))], [], [], []⟩) k rfl; rotate_left; (show _ < 281474976710656; omega); rfl; rotate_left; all_goals clear hLoopQ)
      · intro j hj'
        have hj : j < l.length := by omega
        have w1 := wrap_small ((j : Int) + 1) (by omega) (by omega)
        have hjl : (j : Int) < l.length := by omega
        have hst := hbd.2.2 _ (List.getElem_mem hj)
        have hji : (j : Int) ≤ x.baths.length := by have := hbd.1; omega
        have hn := hgood j hj hj'
        simp [kp49, rDsh_dec, rDsh.de, rBth_enc, rBth_dec, q4, s50, hlm, hbd.1, hbd.2.1, hst, hji, hj, hjl, hn, w1]
      · have hkl : (k : Int) < l.length := by omega
        have hst := hbd.2.2 _ (List.getElem_mem hk)
        have hji : (k : Int) ≤ x.baths.length := by have := hbd.1; omega
        have hb : (bathE x k l[k] != 0) = true := by simpa using hbad
        simp [kp49, rDsh_dec, rDsh.de, rBth_enc, rBth_dec, q4, s50, hlm, hbd.1, hbd.2.1, hst, hji, hk, hkl, hb]
  · cases hr
theorem call49 (xs : Array Value) (w : World) : (callFunc 49 xs).run Tryz.prog w = .ok (.enter 49 xs) w := by kernel_rfl
end Go.Proofs.YtcgacojnfkklaaaGreatDoor
namespace Go.Proofs.YtcgacojnfkklaaaGreatDoor
open Go.RowKit
set_option linter.unusedSimpArgs false
set_option linter.unusedVariables false
def q5 : List (Nat × (List D → Option D)) := (49, s49) :: q4
theorem dq5 : DelOk Tryz.prog (delOf q5) := del_cons dq4 call49 ok49
def s18 : List D → Option D := sp1 (cAgg rDsh) (cTup3 cInt cInt cInt) fun x => if namesOk x then some (dchk x) else none
set_option maxHeartbeats 4000000 in
theorem ok18 : ∀ ds d, s18 ds = some d → PureC Tryz.prog 18 ds d := ok_sp1 fun x r hr => by
  split at hr
  · rename_i hc
    cases hr
    have hs := hc
    refine pure_of_call (mkCx_ok dq5 74 kp18 []) Tryz.func18 rfl rfl (Nat.le_of_ble_eq_true rfl) (by kernel_rfl) ?_
    rw [Tryz.results18]
    unfold dchk
    have hN : numbersB x = (inR x.melt 0 2000 && inR x.coat 0 5000 && inR x.thin 0 100 && inR x.back 0 10 && ((inR x.hold 0 600 && inR x.draw 0 600 && inR x.set 0 600) && inR x.run 0 50)) := by
      rw [numbersB_eq]
      cases inR x.hold 0 600 && inR x.draw 0 600 && inR x.set 0 600 <;> simp [Bool.and_assoc]
    rw [hN]
    obtain ⟨fi, fe, hf⟩ : ∃ fi fe, findI (bathE x) 0 x.baths = (fi, fe) := ⟨_, _, rfl⟩
    rw [hf]
    have hde := cBathM_dec x
    rw [rDsh_enc] at hde
    cases h1 : inR x.melt 0 2000
    · simp [kp18, rDsh_enc, rDsh_dec, q5, q4, q3, s48, int_dec1, out1, h1]
    · cases h2 : inR x.coat 0 5000
      · simp [kp18, rDsh_enc, rDsh_dec, q5, q4, q3, s48, int_dec1, out1, h1, h2]
      · cases h3 : inR x.thin 0 100
        · simp [kp18, rDsh_enc, rDsh_dec, q5, q4, q3, s48, int_dec1, out1, h1, h2, h3]
        · cases h4 : inR x.back 0 10
          · simp [kp18, rDsh_enc, rDsh_dec, q5, q4, q3, s48, int_dec1, out1, h1, h2, h3, h4]
          · cases h5 : (inR x.hold 0 600 && inR x.draw 0 600 && inR x.set 0 600)
            · have h5' : (inR x.hold 0 600 && (inR x.draw 0 600 && inR x.set 0 600)) = false := by rw [← Bool.and_assoc]; exact h5
              simp [kp18, rDsh_enc, rDsh_dec, q5, q4, q3, s48, int_dec1, int_dec3, out1, out3, h1, h2, h3, h4, h5, h5', -Bool.and_eq_false_imp, -Bool.and_eq_true]
            · cases h6 : inR x.run 0 50
              · simp [kp18, rDsh_enc, rDsh_dec, q5, q4, q3, s48, int_dec1, int_dec3, out1, out3, h1, h2, h3, h4, h5, h6, -Bool.and_eq_false_imp, -Bool.and_eq_true]
              · cases h7 : inR x.baths.length 1 6
                · simp [kp18, rDsh_enc, rDsh_dec, q5, q4, q3, s48, int_dec1, int_dec3, out1, out3, h1, h2, h3, h4, h5, h6, h7, -Bool.and_eq_false_imp, -Bool.and_eq_true]
                · have hlm : x.baths.length < 1000000 := by have := inR_iff.1 h7; omega
                  have hfit : fitL x x.baths := ⟨Nat.le_refl _, hlm, hs⟩
                  by_cases h8 : fe = 0
                  · simp [kp18, rDsh_enc, rDsh_dec, rBth_k, rBth_decL, q5, q4, q3, s48, s49, int_dec1, int_dec3, out1, out3, h1, h2, h3, h4, h5, h6, h7, h8, hde, hfit, hlm, hf, -Bool.and_eq_false_imp, -Bool.and_eq_true]
                  · have h8' : (fe != 0) = true := by simpa using h8
                    simp [kp18, rDsh_enc, rDsh_dec, rBth_k, rBth_decL, q5, q4, q3, s48, s49, int_dec1, int_dec3, out1, out3, h1, h2, h3, h4, h5, h6, h7, h8, h8', hde, hfit, hlm, hf, -Bool.and_eq_false_imp, -Bool.and_eq_true]
  · cases hr
theorem call18 (xs : Array Value) (w : World) : (callFunc 18 xs).run Tryz.prog w = .ok (.enter 18 xs) w := by kernel_rfl
def s86 : List D → Option D := sp3 (cAgg rDsh) cInt (cAgg rDip) cInt fun x i d => if x.baths.length < 1000000 then some (dipE x d) else none
theorem ok86 : ∀ ds d, s86 ds = some d → PureC Tryz.prog 86 ds d := ok_sp3 fun x i d r hr => by
  split at hr
  · rename_i hlm
    cases hr
    have wb := wrap_small ((x.baths.length : Int) - 1) (by omega) (by omega)
    refine pure_of_call (mkCx_ok dq3 31 kp86 []) Tryz.func86 rfl rfl (Nat.le_of_ble_eq_true rfl) (by kernel_rfl) ?_
    rw [Tryz.results86]
    unfold dipE
    cases q1 : inR d.bath 0 ((x.baths.length : Int) - 1)
    · simp [kp86, rDsh_enc, rDip_enc, q3, s48, int_dec1, int_dec2, out1, out2, wb, q1]
    · cases q2 : inR d.secs 0 600 <;> cases q4 : inR d.pause 0 600 <;> by_cases q5 : d.secs ≤ x.draw <;> simp [kp86, rDsh_enc, rDip_enc, q3, s48, int_dec1, int_dec2, out1, out2, wb, q1, q2, q4, q5]
  · cases hr
theorem call86 (xs : Array Value) (w : World) : (callFunc 86 xs).run Tryz.prog w = .ok (.enter 86 xs) w := by kernel_rfl
def q6 : List (Nat × (List D → Option D)) := (18, s18) :: (86, s86) :: q5
theorem dq6 : DelOk Tryz.prog (delOf q6) := del_cons (del_cons dq5 call86 ok86) call18 ok18
def s55 : List D → Option D := sp2 (cList rDip) cDipM (cTup2 cInt cInt) fun l x => if l.length < 1000000 ∧ x.baths.length < 1000000 then some (findI (fun _ d => dipE x d) 0 l) else none
set_option maxHeartbeats 1000000 in
theorem ok55 : ∀ ds d, s55 ds = some d → PureC Tryz.prog 55 ds d := ok_sp2 fun l x r hr => by
  split at hr
  · rename_i hc
    cases hr
    obtain ⟨hlm, hbd⟩ := hc
    refine pure_of_call (mkCx_ok dq6 24 kp55 []) Tryz.func55 rfl rfl (Nat.le_of_ble_eq_true rfl) (by kernel_rfl) ?_
    rw [Tryz.results55]
    simp [kp55, cDipM_enc, rDip_k]
    rcases findI_cases (fun _ d => dipE x d) l with ⟨e1, hall⟩ | ⟨k, hk, e1, hbad, hgood⟩
    · rw [e1]
      (generalize hLoopQ : Cx.loop _ _ _ = rLoopQ; apply loop_then hLoopQ (fun k => ⟨[(1, .d (.fn 86 [.agg (rDsh.enc x)] [])), (8, .d (.sl 4 (l.map rDip.enc))), (9, .d (DI l.length)), (10, .d (DI k))], [], [], []⟩) l.length rfl; rotate_left; (show _ < 281474976710656; omega); rfl; rotate_left; all_goals clear hLoopQ)
      · intro j hj
        have w1 := wrap_small ((j : Int) + 1) (by omega) (by omega)
        have hjl : (j : Int) < l.length := by omega
        have hn := hall j hj
        simp [kp55, rDsh_dec, rDsh.de, rDip_enc, rDip_dec, q6, s86, hlm, hbd, hj, hjl, hn, w1]
      · simp [kp55]
    · rw [e1]
      (generalize hLoopQ : Cx.loop _ _ _ = rLoopQ; apply loop_then hLoopQ (fun k => ⟨[(1, .d (.fn 86 [.agg (rDsh.enc x)] [])), (8, .d (.sl 4 (l.map rDip.enc))), (9, .d (DI l.length)), (10, .d (DI k))], [], [], []⟩) k rfl; rotate_left; (show _ < 281474976710656; omega); rfl; rotate_left; all_goals clear hLoopQ)
      · intro j hj'
        have hj : j < l.length := by omega
        have w1 := wrap_small ((j : Int) + 1) (by omega) (by omega)
        have hjl : (j : Int) < l.length := by omega
        have hn := hgood j hj hj'
        simp [kp55, rDsh_dec, rDsh.de, rDip_enc, rDip_dec, q6, s86, hlm, hbd, hj, hjl, hn, w1]
      · have hkl : (k : Int) < l.length := by omega
        have hb : (dipE x l[k] != 0) = true := by simpa using hbad
        simp [kp55, rDsh_dec, rDsh.de, rDip_enc, rDip_dec, q6, s86, hlm, hbd, hk, hkl, hb]
  · cases hr
theorem call55 (xs : Array Value) (w : World) : (callFunc 55 xs).run Tryz.prog w = .ok (.enter 55 xs) w := by kernel_rfl
def q7 : List (Nat × (List D → Option D)) := (55, s55) :: q6
theorem dq7 : DelOk Tryz.prog (delOf q7) := del_cons dq6 call55 ok55
def s69 : List D → Option D := sp2 (cAgg rDsh) (cList rDip) cInt fun x l => if x.baths.length < 1000000 then some (planE x l) else none
theorem ok69 : ∀ ds d, s69 ds = some d → PureC Tryz.prog 69 ds d := ok_sp2 fun x l r hr => by
  split at hr
  · rename_i hlm
    cases hr
    refine pure_of_call (mkCx_ok dq7 18 kp69 []) Tryz.func69 rfl rfl (Nat.le_of_ble_eq_true rfl) (by kernel_rfl) ?_
    rw [Tryz.results69]
    unfold planE
    have hde := cDipM_dec x
    rw [rDsh_enc] at hde
    by_cases h1 : 30 < l.length
    · have h1' : (30 : Int) < l.length := by omega
      simp [kp69, rDsh_enc, rDip_k, h1, h1']
    · have h1' : ¬ (30 : Int) < l.length := by omega
      have hl : l.length < 1000000 := by omega
      simp [kp69, rDsh_enc, rDip_k, rDip_decL, q7, s55, h1, h1', hl, hlm, hde]
  · cases hr
theorem call69 (xs : Array Value) (w : World) : (callFunc 69 xs).run Tryz.prog w = .ok (.enter 69 xs) w := by kernel_rfl
def q8 : List (Nat × (List D → Option D)) := (69, s69) :: q7
theorem dq8 : DelOk Tryz.prog (delOf q8) := del_cons dq7 call69 ok69
def s54 : List D → Option D := sp3 (cAgg rDsh) (cAgg rTap) (cList rDip) (cTup2 (cAgg rDsh) cInt) fun x t l => if namesOk x then some (x, askedE x t l) else none
set_option maxHeartbeats 2000000 in
theorem ok54 : ∀ ds d, s54 ds = some d → PureC Tryz.prog 54 ds d := ok_sp3 fun x t l r hr => by
  split at hr
  · rename_i hc
    cases hr
    have hs := hc
    have hlm := blen_or x
    refine pure_of_call (mkCx_ok dq8 49 kp54 []) Tryz.func54 rfl rfl (Nat.le_of_ble_eq_true rfl) (by kernel_rfl) ?_
    rw [Tryz.results54]
    unfold askedE
    by_cases h1 : (dchk x).2.2 = 0
    · have hlm := hlm.resolve_right (by simpa using h1)
      unfold tapE
      cases h2 : (inR t.wick 0 100000 && inR t.top 0 100000 && inR t.foot 0 100000)
      · have h2' : (inR t.wick 0 100000 && (inR t.top 0 100000 && inR t.foot 0 100000)) = false := by rw [← Bool.and_assoc]; exact h2
        simp [kp54, rDsh_enc, rDsh_dec, rTap_enc, rDip_k, q8, q7, q6, q5, q4, q3, s18, s48, hs, hlm, h1, int_dec3, out3, h2, h2', -Bool.and_eq_false_imp, -Bool.and_eq_true]
      · by_cases h3 : t.top < t.wick
        · have hm : (if t.foot < t.top then t.foot else t.top) < t.wick := by split <;> omega
          simp [kp54, rDsh_enc, rDsh_dec, rTap_enc, rDip_k, q8, q7, q6, q5, q4, q3, s18, s48, hs, hlm, h1, int_dec3, out3, h2, h3, hm, -Bool.and_eq_false_imp, -Bool.and_eq_true]
        · by_cases h4 : t.foot < t.wick
          · have hm : (if t.foot < t.top then t.foot else t.top) < t.wick := by split <;> omega
            simp [kp54, rDsh_enc, rDsh_dec, rTap_enc, rDip_k, q8, q7, q6, q5, q4, q3, s18, s48, hs, hlm, h1, int_dec3, out3, h2, h3, h4, hm, -Bool.and_eq_false_imp, -Bool.and_eq_true]
          · have hm : ¬ (if t.foot < t.top then t.foot else t.top) < t.wick := by split <;> omega
            simp [kp54, rDsh_enc, rDsh_dec, rTap_enc, rDip_k, rDip_decL, q8, q7, q6, q5, q4, q3, s18, s48, s69, hs, hlm, h1, int_dec3, out3, h2, h3, h4, hm, -Bool.and_eq_false_imp, -Bool.and_eq_true]
    · have h1' : ((dchk x).2.2 != 0) = true := by simpa using h1
      simp [kp54, rDsh_enc, rDsh_dec, rTap_enc, rDip_k, q8, q7, q6, q5, q4, q3, s18, s48, hs, hlm, h1, h1', -Bool.and_eq_false_imp, -Bool.and_eq_true]
  · cases hr
theorem call54 (xs : Array Value) (w : World) : (callFunc 54 xs).run Tryz.prog w = .ok (.enter 54 xs) w := by kernel_rfl
end Go.Proofs.YtcgacojnfkklaaaGreatDoor
