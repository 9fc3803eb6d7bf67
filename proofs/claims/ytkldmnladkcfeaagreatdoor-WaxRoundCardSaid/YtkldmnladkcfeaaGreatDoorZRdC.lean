/-
  The program's Read: the call that takes a panic back. Conditions: none.
-/
import Derived.Test.YtkldmnladkcfeaaGreatDoorZPrN
namespace Go.Proofs.YtkldmnladkcfeaaGreatDoor
open Go.RowKit Go.Lib
set_option linter.unusedSimpArgs false
set_option linter.unusedVariables false
def kp71 (r : Nat) : List (Nat × Option Nat) := match r with
  | 0 => [(0, none), (1, none), (2, none)]
  | 1 => [(0, none), (1, none), (2, none), (5, none)]
  | 2 => [(0, none), (1, none)]
  | _ => []
def outR (b2 b3 : Nat) : Nat → Option Nat := fun i => if i = 2 then some b2 else if i = 3 then some b3 else none
theorem call71 (xs : Array Value) (w : World) : (callFunc 71 xs).run Tryz.prog w = .ok (.enter 71 xs) w := by kernel_rfl
theorem idle71 (p2 p3 : Value) (w : World) : CallsD Tryz.prog 71 #[p2, p3] .returning w fun e u' w' => e = .returned (.tuple #[]) ∧ u' = .returning ∧ w' = w := by
  refine callsD_of_wpS Tryz.func71 rfl fun c₀ cs hu => ?_
  apply wpS_seq
  apply wpS_region
  simp [wpOpsS, go_sem, recoverD, hu, Tryz.ntmps71, Exit.thenS]
  refine wpS_of_wp ?_
  go_wp2
  refine ⟨rfl, .returning, by cases c₀; simp_all, .tuple #[], results_none rfl _ _ _, rfl, rfl, rfl⟩
set_option maxRecDepth 100000 in
theorem catch71 {m : Nat → Nat → Prop} {W : World} {b2 b3 : Nat} {l : List Deferred} {g : Gh} {σ : St} {a : Act} {w : World} {x2 y2 z2 x3 : X} (I : Inv 110 m (pureO W (outR b2 b3) l) g σ a w) (hl : a.defers = l) (t2 : getA σ.tmps 2 = some (.loc 2 0)) (t3 : getA σ.tmps 3 = some (.loc 3 0)) (hx2 : getA σ.boxes 2 = some [x2, y2, z2]) (hx3 : getA σ.boxes 3 = some [x3]) :
    CallsD Tryz.prog 71 #[.pointer (some ⟨b2, 0, none⟩), .pointer (some ⟨b3, 0, none⟩)] (.panicking [{ v := formV, recovered := false }]) w fun e u w' => e = .returned (.tuple #[]) ∧ u = .panicking [{ v := formV, recovered := true }] ∧ ∃ g', Inv 110 m (pureO W (outR b2 b3) l) g' ⟨[(2, .loc 2 0), (3, .loc 3 0)], [(2, [.d (.sl 0 []), .d (.sl 0 []), .d (DI 0)]), (3, [.d (DI 6)])], [], []⟩ a w' := by
  have o2 : g.box 2 = some b2 := I.out 2 b2 rfl
  have o3 : g.box 3 = some b3 := I.out 3 b3 rfl
  have p2 : a.tmps.getD 2 undef = .pointer (some ⟨b2, 0, none⟩) := by
    obtain ⟨blk, h1, h2⟩ := I.tmps 2 _ t2
    rw [o2] at h1; cases h1; exact h2
  have p3 : a.tmps.getD 3 undef = .pointer (some ⟨b3, 0, none⟩) := by
    obtain ⟨blk, h1, h2⟩ := I.tmps 3 _ t3
    rw [o3] at h1; cases h1; exact h2
  refine callsD_of_wpS Tryz.func71 rfl fun c₀ cs hu => ?_
  apply wpS_seq
  apply wpS_region
  simp [wpOpsS, go_sem, recoverD, hu, Tryz.ntmps71, Exit.thenS]
  simp only [formV]
  refine wpS_of_wp ?_
  go_wp2_with fail
  refine (wpIn_wide (n := 0)).1 ?_
  refine am_code (mkCx_ok del_nil 9 kp71 []) (by kernel_rfl) (by kernel_rfl) ((I.bare [(2, 3), (3, 1)] (by
    intro p hp
    simp only [List.mem_cons, List.not_mem_nil, or_false] at hp
    rcases hp with rfl | rfl
    · exact ⟨_, hx2, rfl⟩
    · exact ⟨_, hx3, rfl⟩)).reframe (N2 := 9) (l2 := []) (T := [(0, .loc 2 0), (1, .loc 3 0), (2, .d (.v (.iface 26 (.int .i64 6))))]) rfl rfl ?_) (noOut (by kernel_rfl)) ?_
  · intro t x hx
    simp only [getA] at hx
    split at hx
    · rename_i e; cases hx; subst e; exact ⟨b2, o2, rfl⟩
    · split at hx
      · rename_i e; cases hx; subst e; exact ⟨b3, o3, rfl⟩
      · split at hx
        · rename_i e; cases hx; subst e
          simp only [RelX, Rel]
          rfl
        · cases hx
  · simp [kp71, codeK_some]
    intro g' a' w' I'
    have hd : a'.defers = [] := I'.noMark (c := mkCx [] 9 kp71 []) (fun h => h)
    have o2' : g'.box 2 = some b2 := I'.out 2 b2 rfl
    have o3' : g'.box 3 = some b3 := I'.out 3 b3 rfl
    refine ⟨hd, .panicking [{ v := .iface 26 (.int .i64 6), recovered := true }], rfl, .tuple #[], results_none rfl _ _ _, rfl, rfl, g', ?_⟩
    refine I'.reframe (N2 := 110) (l2 := l) (T := [(2, .loc 2 0), (3, .loc 3 0)]) I.size hl fun t x hx => ?_
    simp only [getA] at hx
    split at hx
    · rename_i e; cases hx; subst e; exact ⟨b2, o2', p2⟩
    · split at hx
      · rename_i e; cases hx; subst e; exact ⟨b3, o3', p3⟩
      · cases hx
end Go.Proofs.YtkldmnladkcfeaaGreatDoor
