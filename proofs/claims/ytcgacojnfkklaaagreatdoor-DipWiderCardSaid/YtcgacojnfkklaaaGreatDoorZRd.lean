/-
  The program's Read: the bath of a name. Conditions: none.
-/
import Derived.Test.YtcgacojnfkklaaaGreatDoorZPrN
import Derived.Test.YtcgacojnfkklaaaGreatDoorZPrH
import Derived.Test.YtcgacojnfkklaaaGreatDoorZWr
namespace Go.Proofs.YtcgacojnfkklaaaGreatDoor
open Go.RowKit
set_option linter.unusedSimpArgs false
set_option linter.unusedVariables false
def kp84 (r : Nat) : List (Nat × Option Nat) := match r with
  | 0 => [(1, none), (2, none), (3, none)]
  | 1 => [(3, none)]
  | _ => []
def cStrsP : Cod (List ByteArray) := ⟨fun l => .dat 1 [[(cList rStr).enc l]] 0 0, fun d => match d with | .dat 1 [[y]] 0 0 => (cList rStr).dec y | _ => none, fun d x h => by
  split at h
  · exact dat_imp ⟨_, _, rfl, (cList rStr).ed _ _ h, rfl⟩
  · cases h⟩
theorem cStrsP_enc (l : List ByteArray) : cStrsP.enc l = .dat 1 [[.sl 1 (l.map rStr.enc)]] 0 0 := rfl
theorem cStrsP_dec (l : List ByteArray) : cStrsP.dec (.dat 1 [[.sl 1 (l.map rStr.enc)]] 0 0) = some l := rStr_decL l
def cFirst : Cod (List ByteArray) := ⟨fun l => .fn 84 [] [cStrsP.enc l], fun d => match d with | .fn 84 [] [a] => cStrsP.dec a | _ => none, fun d x h => by
  split at h
  · exact fnc_imp ⟨_, _, rfl, cStrsP.ed _ _ h, rfl⟩
  · cases h⟩
theorem cFirst_enc (l : List ByteArray) : cFirst.enc l = .fn 84 [] [.dat 1 [[.sl 1 (l.map rStr.enc)]] 0 0] := rfl
theorem cFirst_dec (l : List ByteArray) : cFirst.dec (.fn 84 [] [.dat 1 [[.sl 1 (l.map rStr.enc)]] 0 0]) = some l := by
  simp only [cFirst, cStrsP_dec]
def firstB (ws : List ByteArray) (b : Bth) : Bool := b.name.toList == (ws.getD 0 ⟨#[]⟩).toList
def s84 : List D → Option D := sp2 (cAgg rBth) cStrsP cBool fun b ws => if 0 < ws.length then some (firstB ws b) else none
theorem ok84 : ∀ ds d, s84 ds = some d → PureC Tryz.prog 84 ds d := ok_sp2 fun b ws r hr => by
  split at hr
  · rename_i h0
    cases hr
    have h0I : (0 : Int) < ws.length := by omega
    have g0 : ws.getD 0 ⟨#[]⟩ = ws[0] := getD_at _ _ _ h0
    refine pure_of_call (mkCx_ok del_nil 10 kp84 []) Tryz.func84 rfl rfl (Nat.le_of_ble_eq_true rfl) (by kernel_rfl) ?_
    rw [Tryz.results84]
    unfold firstB
    rw [g0]
    simp [kp84, rBth_enc, cStrsP_enc, rStr_enc, h0, h0I]
  · cases hr
theorem call84 (xs : Array Value) (w : World) : (callFunc 84 xs).run Tryz.prog w = .ok (.enter 84 xs) w := by kernel_rfl
theorem d84 : DelOk Tryz.prog (delOf [(84, s84)]) := del_cons del_nil call84 ok84
def s83b : List D → Option D := sp2 (cList rBth) cFirst cInt fun l ws => if l.length < 1000000 ∧ 0 < ws.length then some (idxF (firstB ws) l) else none
set_option maxHeartbeats 1000000 in
theorem ok83b : ∀ ds d, s83b ds = some d → PureC Tryz.prog 83 ds d := ok_sp2 fun l ws r hr => by
  split at hr
  · rename_i hc
    cases hr
    obtain ⟨hlm, hw⟩ := hc
    refine pure_of_call (mkCx_ok d84 19 kp83 []) Tryz.func83 rfl rfl (Nat.le_of_ble_eq_true rfl) (by kernel_rfl) ?_
    rw [Tryz.results83]
    simp [kp83, cFirst_enc, rBth_k]
    rcases idxF_cases (firstB ws) l with ⟨e1, _, hall⟩ | ⟨k, hk, e1, _, hbad, hgood⟩
    · rw [e1]
      (generalize hLoopQ : Cx.loop _ _ _ = rLoopQ; apply loop_then hLoopQ (fun k => ⟨[(0, .d (.sl 3 (l.map rBth.enc))), (1, .d (.fn 84 [] [.dat 1 [[.sl 1 (ws.map rStr.enc)]] 0 0])), (7, .d (DI l.length)), (8, .d (DI k))], [], [], []⟩) l.length rfl; rotate_left; (show _ < 281474976710656; omega); rfl; rotate_left; all_goals clear hLoopQ)
      · intro j hj
        have w1 := wrap_small ((j : Int) + 1) (by omega) (by omega)
        have hjl : (j : Int) < l.length := by omega
        have hn := hall j hj
        simp [kp83, s84, rBth_enc, rBth_dec, cStrsP_dec, hw, hj, hjl, hn, w1]
      · simp [kp83]
    · rw [e1]
      (generalize hLoopQ : Cx.loop _ _ _ = rLoopQ; apply loop_then hLoopQ (fun k => ⟨[(0, .d (.sl 3 (l.map rBth.enc))), (1, .d (.fn 84 [] [.dat 1 [[.sl 1 (ws.map rStr.enc)]] 0 0])), (7, .d (DI l.length)), (8, .d (DI k))], [], [], []⟩) k rfl; rotate_left; (show _ < 281474976710656; omega); rfl; rotate_left; all_goals clear hLoopQ)
      · intro j hj'
        have hj : j < l.length := by omega
        have w1 := wrap_small ((j : Int) + 1) (by omega) (by omega)
        have hjl : (j : Int) < l.length := by omega
        have hn := hgood j hj hj'
        simp [kp83, s84, rBth_enc, rBth_dec, cStrsP_dec, hw, hj, hjl, hn, w1]
      · have hkl : (k : Int) < l.length := by omega
        simp [kp83, s84, rBth_enc, rBth_dec, cStrsP_dec, hw, hk, hkl, hbad]
  · cases hr
end Go.Proofs.YtcgacojnfkklaaaGreatDoor
namespace Go.Proofs.YtcgacojnfkklaaaGreatDoor
open Go.RowKit Go.Lib
set_option linter.unusedSimpArgs false
set_option linter.unusedVariables false
def lineB (s : ByteArray) : ByteArray := ⟨(Lib.cut s.data.toList nlB.data.toList).1.toArray⟩
def restB (s : ByteArray) : ByteArray := ⟨(Lib.cut s.data.toList nlB.data.toList).2.1.toArray⟩
def hasB (s : ByteArray) : Bool := (Lib.cut s.data.toList nlB.data.toList).2.2
def wordsB (s : ByteArray) : List ByteArray := splitW (lineB s) spB
def formB (ws : List ByteArray) : Bool := (ws.length == 3) || (ws.length == 4 && (ws.getD 3 ⟨#[]⟩).toList == turnB.toList)
def dipB (x : Dsh) (ws : List ByteArray) (a b : Int) : Dip := ⟨idxF (firstB ws) x.baths, a, b, ws.length == 4⟩
def stepP (x : Dsh) (k : Nat) (s : ByteArray) : Option (Dip × ByteArray) :=
  if hasB s = true ∧ formB (wordsB s) = true then
    (match numP ((wordsB s).getD 1 ⟨#[]⟩), numP ((wordsB s).getD 2 ⟨#[]⟩) with
    | some a, some b => if dipE x (dipB x (wordsB s) a b) = 0 ∧ k < 30 then some (dipB x (wordsB s) a b, restB s) else none
    | _, _ => none)
  else none
def runP (x : Dsh) (t : ByteArray) : Nat → Option (ByteArray × List Dip)
  | 0 => some (t, [])
  | k + 1 => match runP x t k with
    | some (s, l) => if s.size = 0 then none else (match stepP x k s with
      | some (d, r) => some (r, l ++ [d])
      | none => none)
    | none => none
theorem runP_len (x : Dsh) (t : ByteArray) : ∀ (k : Nat) (s : ByteArray) (l : List Dip), runP x t k = some (s, l) → l.length = k
  | 0, s, l, h => by simp only [runP, Option.some.injEq, Prod.mk.injEq] at h; rw [← h.2]; rfl
  | k + 1, s, l, h => by
    simp only [runP] at h
    split at h
    · rename_i s' l' h'
      split at h
      · cases h
      · split at h
        · simp only [Option.some.injEq, Prod.mk.injEq] at h
          rw [← h.2, List.length_append, runP_len x t k s' l' h']; rfl
        · cases h
    · cases h
theorem stepP_lt {x : Dsh} {k : Nat} {s : ByteArray} {d : Dip} {r : ByteArray} (h : stepP x k s = some (d, r)) : k < 30 := by
  unfold stepP at h
  split at h
  · split at h
    · split at h
      · rename_i hc; exact hc.2
      · cases h
    · cases h
  · cases h
theorem runP_le (x : Dsh) (t : ByteArray) : ∀ (k : Nat) (s : ByteArray) (l : List Dip), runP x t k = some (s, l) → k ≤ 30
  | 0, s, l, h => by omega
  | k + 1, s, l, h => by
    simp only [runP] at h
    split at h
    · split at h
      · cases h
      · split at h
        · rename_i hs; exact stepP_lt hs
        · cases h
    · cases h
theorem runP_down {x : Dsh} {t : ByteArray} {k : Nat} {s : ByteArray} {l : List Dip} (h : runP x t (k + 1) = some (s, l)) : ∃ s' l' d, runP x t k = some (s', l') ∧ ¬ s'.size = 0 ∧ stepP x k s' = some (d, s) ∧ l = l' ++ [d] := by
  simp only [runP] at h
  split at h
  · rename_i s' l' h'
    split at h
    · cases h
    · rename_i hs
      split at h
      · rename_i d r hst
        simp only [Option.some.injEq, Prod.mk.injEq] at h
        obtain ⟨rfl, rfl⟩ := h
        exact ⟨s', l', d, h', hs, hst, rfl⟩
      · cases h
  · cases h
theorem runP_end (x : Dsh) (t : ByteArray) : ∃ n s l, runP x t n = some (s, l) ∧ (s.size = 0 ∨ (¬ s.size = 0 ∧ stepP x n s = none)) ∧ runP x t (n + 1) = none := by
  have key : ∀ j k s l, runP x t k = some (s, l) → k + j = 31 → ∃ n s l, runP x t n = some (s, l) ∧ (s.size = 0 ∨ (¬ s.size = 0 ∧ stepP x n s = none)) ∧ runP x t (n + 1) = none := by
    intro j
    induction j with
    | zero => intro k s l h hk; have := runP_le x t k s l h; omega
    | succ j ih =>
      intro k s l h hk
      by_cases hs : s.size = 0
      · exact ⟨k, s, l, h, .inl hs, by simp only [runP, h, hs, if_true]⟩
      · cases hst : stepP x k s with
        | none => exact ⟨k, s, l, h, .inr ⟨hs, hst⟩, by simp only [runP, h, if_neg hs, hst]⟩
        | some p => exact ih (k + 1) p.2 (l ++ [p.1]) (by simp only [runP, h, if_neg hs, hst]) (by omega)
  exact key 31 0 t [] rfl rfl
theorem runP_upto {x : Dsh} {t : ByteArray} : ∀ {n : Nat} {s : ByteArray} {l : List Dip}, runP x t n = some (s, l) → ∃ (T : Nat → ByteArray) (L : Nat → List Dip) (dd : Nat → Dip), T 0 = t ∧ L 0 = [] ∧ T n = s ∧ L n = l ∧ ∀ j, j < n → ¬ (T j).size = 0 ∧ stepP x j (T j) = some (dd j, T (j + 1)) ∧ L (j + 1) = L j ++ [dd j] := by
  intro n s l h
  have all : ∀ j, j ≤ n → ∃ p, runP x t j = some p := by
    intro j hj
    have : ∀ i, j + i ≤ n → ∀ p, runP x t (j + i) = some p → ∃ p, runP x t j = some p := by
      intro i
      induction i with
      | zero => intro _ p hp; exact ⟨p, hp⟩
      | succ i ih =>
        intro hi p hp
        obtain ⟨s', l', d, h1, _⟩ := runP_down (s := p.1) (l := p.2) (show runP x t (j + i + 1) = some (p.1, p.2) from hp)
        exact ih (by omega) _ h1
    exact this (n - j) (by omega) (s, l) (by rw [show j + (n - j) = n by omega]; exact h)
  refine ⟨fun j => ((runP x t j).getD (⟨#[]⟩, [])).1, fun j => ((runP x t j).getD (⟨#[]⟩, [])).2, fun j => ((stepP x j ((runP x t j).getD (⟨#[]⟩, [])).1).getD (default, ⟨#[]⟩)).1, rfl, rfl, by simp [h], by simp [h], fun j hj => ?_⟩
  obtain ⟨p, hp⟩ := all (j + 1) (by omega)
  obtain ⟨s', l', d, h1, h2, h3, h4⟩ := runP_down (s := p.1) (l := p.2) hp
  refine ⟨by simpa [h1] using h2, ?_, ?_⟩
  · simp [h1, h3, hp]
  · simp [h1, h3, hp, h4]
noncomputable def readP (x : Dsh) (t : ByteArray) : List Dip × Int :=
  if ¬ (dchk x).2.2 = 0 then ([], (dchk x).2.2) else if 2000 < t.size then ([], 3) else
  match runP x t (Classical.choose (runP_end x t)) with
  | some (s, l) => if s.size = 0 then (l, 0) else ([], 6)
  | none => ([], 6)
theorem runP_stop {x : Dsh} {t : ByteArray} {n : Nat} (h : runP x t (n + 1) = none) : ∀ m, n < m → runP x t m = none := by
  intro m hm
  obtain ⟨i, rfl⟩ : ∃ i, m = n + 1 + i := ⟨m - (n + 1), by omega⟩
  clear hm
  induction i with
  | zero => exact h
  | succ i ih =>
    show runP x t (n + 1 + i + 1) = none
    simp only [runP, ih]
theorem readP_at {x : Dsh} {t : ByteArray} {n : Nat} {s : ByteArray} {l : List Dip} (h0 : (dchk x).2.2 = 0) (h2 : ¬ 2000 < t.size) (h : runP x t n = some (s, l)) (hn : runP x t (n + 1) = none) : readP x t = if s.size = 0 then (l, 0) else ([], 6) := by
  obtain ⟨s', l', h3, _, h4⟩ := Classical.choose_spec (runP_end x t)
  unfold readP
  rw [if_neg (by simpa using h0), if_neg h2]
  generalize Classical.choose (runP_end x t) = m at *
  have : m = n := by
    rcases Nat.lt_trichotomy m n with hlt | he | hgt
    · rw [runP_stop h4 n hlt] at h; cases h
    · exact he
    · rw [runP_stop hn m hgt] at h3; cases h3
  subst this
  rw [h]
theorem stepP_some {x : Dsh} {k : Nat} {s : ByteArray} {d : Dip} {r : ByteArray} (h : stepP x k s = some (d, r)) : hasB s = true ∧ formB (wordsB s) = true ∧ ∃ a b, numP ((wordsB s).getD 1 ⟨#[]⟩) = some a ∧ numP ((wordsB s).getD 2 ⟨#[]⟩) = some b ∧ d = dipB x (wordsB s) a b ∧ dipE x (dipB x (wordsB s) a b) = 0 ∧ k < 30 ∧ r = restB s := by
  unfold stepP at h
  split at h
  · rename_i hc
    split at h
    · rename_i a b ha hb
      split at h
      · rename_i hd
        simp only [Option.some.injEq, Prod.mk.injEq] at h
        exact ⟨hc.1, hc.2, a, b, ha, hb, h.1.symm, hd.1, hd.2, h.2.symm⟩
      · cases h
    · cases h
  · cases h
theorem stepP_none {x : Dsh} {k : Nat} {s : ByteArray} (h : stepP x k s = none) : hasB s = false ∨ (hasB s = true ∧ formB (wordsB s) = false) ∨ (hasB s = true ∧ formB (wordsB s) = true ∧ (numP ((wordsB s).getD 1 ⟨#[]⟩) = none ∨ (∃ a, numP ((wordsB s).getD 1 ⟨#[]⟩) = some a) ∧ numP ((wordsB s).getD 2 ⟨#[]⟩) = none ∨
    ∃ a b, numP ((wordsB s).getD 1 ⟨#[]⟩) = some a ∧ numP ((wordsB s).getD 2 ⟨#[]⟩) = some b ∧ (¬ dipE x (dipB x (wordsB s) a b) = 0 ∨ dipE x (dipB x (wordsB s) a b) = 0 ∧ ¬ k < 30))) := by
  unfold stepP at h
  cases h1 : hasB s with
  | false => exact .inl rfl
  | true =>
    cases h2 : formB (wordsB s) with
    | false => exact .inr (.inl ⟨rfl, rfl⟩)
    | true =>
      refine .inr (.inr ⟨rfl, rfl, ?_⟩)
      rw [h1, h2, if_pos ⟨rfl, rfl⟩] at h
      cases h3 : numP ((wordsB s).getD 1 ⟨#[]⟩) with
      | none => exact .inl rfl
      | some a =>
        cases h4 : numP ((wordsB s).getD 2 ⟨#[]⟩) with
        | none => exact .inr (.inl ⟨⟨a, rfl⟩, rfl⟩)
        | some b =>
          rw [h3, h4] at h
          simp only at h
          refine .inr (.inr ⟨a, b, rfl, rfl, ?_⟩)
          split at h
          · cases h
          · rename_i hc
            by_cases h5 : dipE x (dipB x (wordsB s) a b) = 0
            · exact .inr ⟨h5, fun h6 => hc ⟨h5, h6⟩⟩
            · exact .inl h5
theorem cut_len (s sep : List UInt8) : (Lib.cut s sep).1.length ≤ s.length ∧ (Lib.cut s sep).2.1.length ≤ s.length := by
  unfold Lib.cut
  split
  · simp only [List.length_take, List.length_drop]; omega
  · simp
theorem round_at (s : ByteArray) : ∃ A B : List UInt8, Lib.cut s.data.toList [10] = (A, B, hasB s) ∧ restB s = ⟨B.toArray⟩ ∧ splitW ⟨A.toArray⟩ ⟨#[32]⟩ = wordsB s ∧ A.length ≤ s.size ∧ B.length ≤ s.size := by
  refine ⟨(Lib.cut s.data.toList [10]).1, (Lib.cut s.data.toList [10]).2.1, rfl, rfl, rfl, ?_, ?_⟩
  · have := (cut_len s.data.toList [10]).1; simpa using this
  · have := (cut_len s.data.toList [10]).2; simpa using this
theorem ba_size (l : List UInt8) : (⟨l.toArray⟩ : ByteArray).size = l.length := by simp [ByteArray.size]
theorem rest_size (s : ByteArray) : (restB s).size ≤ s.size := by
  obtain ⟨A, B, _, h2, _, _, h5⟩ := round_at s
  rw [h2, ba_size]
  exact h5
theorem splitB_mem (sep : ByteArray) (save : Nat) : ∀ (k : Nat) (s : ByteArray), ∀ p ∈ Lib.splitB sep save k s, p.size ≤ s.size
  | 0, s, p, h => by simp only [Lib.splitB_zero, List.mem_singleton] at h; subst h; exact Nat.le_refl _
  | k + 1, s, p, h => by
    rcases Lib.indexB_cases s sep with h1 | ⟨i, h1, h2⟩
    · rw [Lib.splitB_miss sep save (k + 1) s h1, List.mem_singleton] at h; subst h; exact Nat.le_refl _
    · rw [Lib.splitB_hit sep save k s i h1] at h
      rcases List.mem_cons.1 h with rfl | h
      · rw [ByteArray.size_extract]; omega
      · have := splitB_mem sep save k _ p h
        rw [ByteArray.size_extract] at this; omega
theorem words_mem (s : ByteArray) : ∀ p ∈ wordsB s, p.size ≤ s.size := by
  intro p hp
  have h1 := splitB_mem spB 0 _ _ p hp
  have h2 := (cut_len s.data.toList nlB.data.toList).1
  have h3 : (lineB s).size ≤ s.size := by unfold lineB; rw [ba_size]; simpa using h2
  omega
end Go.Proofs.YtcgacojnfkklaaaGreatDoor
namespace Go.Proofs.YtcgacojnfkklaaaGreatDoor
open Go.RowKit Go.Lib
set_option linter.unusedSimpArgs false
set_option linter.unusedVariables false
def kp79 (r : Nat) : List (Nat × Option Nat) := match r with
  | 0 => [(0, none), (1, none), (2, none)]
  | 1 => [(0, none), (1, none), (2, none), (5, none)]
  | 2 => [(0, none), (1, none)]
  | _ => []
def outR (b4 b5 : Nat) : Nat → Option Nat := fun i => if i = 4 then some b4 else if i = 5 then some b5 else none
theorem call79 (xs : Array Value) (w : World) : (callFunc 79 xs).run Tryz.prog w = .ok (.enter 79 xs) w := by kernel_rfl
theorem idle79 (p4 p5 : Value) (w : World) : CallsD Tryz.prog 79 #[p4, p5] .returning w fun e u' w' => e = .returned (.tuple #[]) ∧ u' = .returning ∧ w' = w := by
  refine callsD_of_wpS Tryz.func79 rfl fun c₀ cs hu => ?_
  apply wpS_seq
  apply wpS_region
  simp [wpOpsS, go_sem, recoverD, hu, Tryz.ntmps79, Exit.thenS]
  refine wpS_of_wp ?_
  go_wp2
  refine ⟨rfl, .returning, by cases c₀; simp_all, .tuple #[], results_none rfl _ _ _, rfl, rfl, rfl⟩
set_option maxRecDepth 100000 in
theorem catch79 {m : Nat → Nat → Prop} {W : World} {b4 b5 : Nat} {l : List Deferred} {g : Gh} {σ : St} {a : Act} {w : World} {x4 x5 : X} (I : Inv 92 m (pureO W (outR b4 b5) l) g σ a w) (hl : a.defers = l) (t4 : getA σ.tmps 4 = some (.loc 4 0)) (t5 : getA σ.tmps 5 = some (.loc 5 0)) (hx4 : getA σ.boxes 4 = some [x4]) (hx5 : getA σ.boxes 5 = some [x5]) :
    CallsD Tryz.prog 79 #[.pointer (some ⟨b4, 0, none⟩), .pointer (some ⟨b5, 0, none⟩)] (.panicking [{ v := formV, recovered := false }]) w fun e u w' => e = .returned (.tuple #[]) ∧ u = .panicking [{ v := formV, recovered := true }] ∧ ∃ g', Inv 92 m (pureO W (outR b4 b5) l) g' ⟨[(4, .loc 4 0), (5, .loc 5 0)], [(4, [.d (.sl 0 [])]), (5, [.d (DI 6)])], [], []⟩ a w' := by
  have o4 : g.box 4 = some b4 := I.out 4 b4 rfl
  have o5 : g.box 5 = some b5 := I.out 5 b5 rfl
  have p4 : a.tmps.getD 4 undef = .pointer (some ⟨b4, 0, none⟩) := by
    obtain ⟨blk, h1, h2⟩ := I.tmps 4 _ t4
    rw [o4] at h1; cases h1; exact h2
  have p5 : a.tmps.getD 5 undef = .pointer (some ⟨b5, 0, none⟩) := by
    obtain ⟨blk, h1, h2⟩ := I.tmps 5 _ t5
    rw [o5] at h1; cases h1; exact h2
  refine callsD_of_wpS Tryz.func79 rfl fun c₀ cs hu => ?_
  apply wpS_seq
  apply wpS_region
  simp [wpOpsS, go_sem, recoverD, hu, Tryz.ntmps79, Exit.thenS]
  simp only [formV]
  refine wpS_of_wp ?_
  go_wp2_with fail
  refine (wpIn_wide (n := 0)).1 ?_
  refine am_code (mkCx_ok del_nil 8 kp79 []) (by kernel_rfl) (by kernel_rfl) ((I.bare [(4, 1), (5, 1)] (by
    intro p hp
    simp only [List.mem_cons, List.not_mem_nil, or_false] at hp
    rcases hp with rfl | rfl
    · exact ⟨_, hx4, rfl⟩
    · exact ⟨_, hx5, rfl⟩)).reframe (N2 := 8) (l2 := []) (T := [(0, .loc 4 0), (1, .loc 5 0), (2, .d (.v (.iface 31 (.int .i64 6))))]) rfl rfl ?_) (noOut (by kernel_rfl)) ?_
  · intro t x hx
    simp only [getA] at hx
    split at hx
    · rename_i e; cases hx; subst e; exact ⟨b4, o4, rfl⟩
    · split at hx
      · rename_i e; cases hx; subst e; exact ⟨b5, o5, rfl⟩
      · split at hx
        · rename_i e; cases hx; subst e
          simp only [RelX, Rel]
          rfl
        · cases hx
  · simp [kp79, codeK_some]
    intro g' a' w' I'
    have hd : a'.defers = [] := I'.noMark (c := mkCx [] 8 kp79 []) (fun h => h)
    have o4' : g'.box 4 = some b4 := I'.out 4 b4 rfl
    have o5' : g'.box 5 = some b5 := I'.out 5 b5 rfl
    refine ⟨hd, .panicking [{ v := .iface 31 (.int .i64 6), recovered := true }], rfl, .tuple #[], results_none rfl _ _ _, rfl, rfl, g', ?_⟩
    refine I'.reframe (N2 := 92) (l2 := l) (T := [(4, .loc 4 0), (5, .loc 5 0)]) I.size hl fun t x hx => ?_
    simp only [getA] at hx
    split at hx
    · rename_i e; cases hx; subst e; exact ⟨b4, o4', p4⟩
    · split at hx
      · rename_i e; cases hx; subst e; exact ⟨b5, o5', p5⟩
      · cases hx
end Go.Proofs.YtcgacojnfkklaaaGreatDoor
