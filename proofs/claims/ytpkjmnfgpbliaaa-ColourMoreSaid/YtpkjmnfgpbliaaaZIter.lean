/-
  The iterators of the colour chapter: (*shop).put and slices.Values at batches: what they yield to any loop that keeps the blocks that they read. Conditions: the values read as lists; the order's numbers are indices.
-/
import Derived.RangeFuncNested
import Derived.RangeFuncBound
import Derived.RangeFuncCalls
import Derived.RangeFuncLeaves
import Derived.RangeFuncBox
import Derived.Shelf.Abstract
import Derived.Shelf.RegionOpen
import Derived.OwnWalkIn
import Derived.TacticsInMore
import Derived.LoopNIn
import Derived.LoopIn
import Derived.Maps.AppendAt
import Derived.Test.YtpkjmnfgpbliaaaZLeft
namespace Go.Proofs.Ytpkjmnfgpbliaaa
open Go.RowKit Go.Shelf
set_option linter.unusedSimpArgs false
set_option linter.unusedVariables false
attribute [local go_sem] Oper.semAt_some

/-- The blocks of D lie as they lay. -/
structure KeepB (D : Nat → Prop) (A B : World) : Prop where
  os : B.os = A.os
  tape : B.tape = A.tape
  output : B.output = A.output
  size : A.heap.size ≤ B.heap.size
  block : ∀ k, D k → B.heap[k]? = A.heap[k]?
theorem KeepB.trans {D : Nat → Prop} {A B C : World} (h : KeepB D A B) (k : KeepB D B C) : KeepB D A C :=
  ⟨k.os.trans h.os, k.tape.trans h.tape, k.output.trans h.output, Nat.le_trans h.size k.size, fun i hi => (k.block i hi).trans (h.block i hi)⟩
theorem KeepB.refl (D : Nat → Prop) (A : World) : KeepB D A A := ⟨rfl, rfl, rfl, Nat.le_refl _, fun _ _ => rfl⟩
theorem KeepB.below {D : Nat → Prop} {A B : World} {n : Nat} (h : KeepB D A B) (hD : ∀ k, k < n → D k) : Below n A B := ⟨h.os, h.tape, h.output, h.size, fun k hk => h.block k (hD k hk)⟩
theorem KeepB.of_below {D : Nat → Prop} {A B : World} (h : Below A.heap.size A B) (hD : ∀ k, D k → k < A.heap.size) : KeepB D A B := ⟨h.os, h.tape, h.output, h.size, fun k hk => h.block k (hD k hk)⟩
theorem KeepB.cell {D : Nat → Prop} {A B : World} (h : KeepB D A B) {b o : Nat} (hb : D b) : B.cell? ⟨b, o, none⟩ = A.cell? ⟨b, o, none⟩ := World.cell?_of_block (w := A) (h.block b hb)
theorem KeepB.setCell {D : Nat → Prop} {A B : World} (h : KeepB D A B) (b o : Nat) (hb : ¬ D b) (v : Value) : KeepB D A (B.setCell ⟨b, o, none⟩ v) :=
  h.trans ⟨rfl, rfl, rfl, by simp, fun k hk => Below.heap_setCell _ _ _ _ (by rintro rfl; exact hb hk)⟩
theorem keepB_b {D : Nat → Prop} {w : World} (hD : ∀ k, D k → k < w.heap.size) (W : World) (l : Nat) (o o' : Obj) (hl : w.heap.size ≤ l) (h : W.heap[l]? = some o) (_ : o.isCells = false) (_ : o.isWalk = false) : KeepB D W (W.putObj l o') :=
  ⟨rfl, rfl, rfl, by simp, fun k hk => World.putObj_heap_other (fun e => by have := hD k hk; omega)⟩

def encB {L : List Bat} (b : { b : Bat // b ∈ L }) : Array Value := #[.agg #[.int .i64 b.1.c, .int .i64 b.1.g]]
theorem attach_next (L : List Bat) (k : Nat) (hk : k < L.length) : L.attach.take (k + 1) = L.attach.take k ++ [⟨L[k], List.getElem_mem hk⟩] := by
  rw [List.take_succ_eq_append_getElem (by simpa using hk)]; simp
instance : Inhabited Bat := ⟨⟨0, 0⟩⟩
/-- The batches of an order. -/
def putL (l : List Bat) (ord : List Int) : List Bat := ord.map fun i => l.getD i.toNat default

theorem put_any (P : Nat) (ov : Value) (ord : List Int) (w : World) (ho : IsInts w ov ord) :
    Calls Try.prog 63 #[.pointer (some ⟨P, 0, none⟩), ov] w fun e w' => e = .returned (.func (.func 88) #[] #[.pointer (some ⟨w.heap.size + 1, 0, none⟩), .pointer (some ⟨w.heap.size, 0, none⟩)]) ∧
      w'.cell? ⟨w.heap.size + 1, 0, none⟩ = some ov ∧ w'.cell? ⟨w.heap.size, 0, none⟩ = some (.pointer (some ⟨P, 0, none⟩)) ∧ Below w.heap.size w w' ∧ w'.heap.size = w.heap.size + 2 := by
  obtain ⟨a, c, rfl, _⟩ := ho.form
  go_enter Try.func63, Try.ntmps63
  go_wp2
  go_ret
  have h1 : ((w.alloc (.cells #[.pointer (some ⟨P, 0, none⟩)] 101)).alloc (.cells #[.slice a ord.length c] 42)).cell? ⟨w.heap.size + 1, 0, none⟩ = some (.slice a ord.length c) := by
    simp
  exact ⟨rfl, h1, allocO (by simp) _, ((Below.refl _ _).alloc (Nat.le_refl _) _).alloc (by simp) _, by simp⟩

theorem put1_stops (D : Nat → Prop) (P : Nat) (lv ov : Value) (l : List Bat) (ord : List Int) (Bo Bp : Nat) (w0 w : World) (hb : Below w0.heap.size w0 w) (hD : ∀ k, k < w0.heap.size → D k) (hDo : D Bo) (hDp : D Bp) (hDP : D P)
    (hlo : Bo < w.heap.size) (hlp : Bp < w.heap.size) (hlP : P < w.heap.size) (ho : IsInts w0 ov ord) (hl : IsBats w0 lv l) (c0 : w.cell? ⟨Bo, 0, none⟩ = some ov) (c1 : w.cell? ⟨Bp, 0, none⟩ = some (.pointer (some ⟨P, 0, none⟩)))
    (c4 : w.cell? ⟨P, 4, none⟩ = some lv) (hv : ∀ j (hj : j < ord.length), 0 ≤ ord[j] ∧ ord[j] < l.length) (n : Nat) (hn : 1 ≤ n) :
    SeqStopsK Fence.wide n Try.prog 88 #[.pointer (some ⟨Bo, 0, none⟩), .pointer (some ⟨Bp, 0, none⟩)] encB (KeepB D) (fun ys => ys = (putL l ord).attach) (fun pre => pre <+: (putL l ord).attach) (putL l ord).length w := by
  intro yl J Jx W hW _ _ hY hJ0
  obtain ⟨oa, oc, rfl, _⟩ := ho.form
  obtain ⟨la, lc, rfl, _⟩ := hl.form
  have hol := ho.len
  have hll := hl.len
  have d0 := (hW.cell (p := ⟨Bo, 0, none⟩) hlo).trans c0
  have d1 := (hW.cell (p := ⟨Bp, 0, none⟩) hlp).trans c1
  have d4 := (hW.cell (p := ⟨P, 4, none⟩) hlP).trans c4
  have hb0 := hb.trans (hW.mono hb.size)
  clear c0 c1 c4
  refine callsIn_of_wp Try.func88 rfl trivial ?_ rfl
  simp only [Try.ntmps88, List.size_toArray, List.length_cons, List.length_nil, Nat.reduceAdd, Nat.reduceSub, Array.replicate_succ, Array.replicate_zero, List.push_toArray, List.append_toArray, List.nil_append, List.cons_append]
  have HY := Lib.hid hY; clear hY
  gi_wp2
  gi_loopw [8] (fun i wr => ∃ k : Nat, k ≤ ord.length ∧ i = .int .i64 k ∧ J ((putL l ord).attach.take k) wr ∧ KeepB D W wr) (fun i _ => ord.length - (intOf i).toNat)
  case atStart => exact ⟨0, Nat.zero_le _, rfl, hJ0, KeepB.refl _ _⟩
  case round =>
    obtain ⟨k, hk, rfl, hJs, hkb⟩ := hrel
    have hlen : (putL l ord).length = ord.length := by simp [putL]
    by_cases hlt : k < ord.length
    · obtain ⟨ob, oo, rfl, hob, e0⟩ := ho.at k hlt
      obtain ⟨hi0, hi1⟩ := hv k hlt
      obtain ⟨i, hi⟩ := Int.eq_ofNat_of_zero_le hi0
      have hil : i < l.length := by omega
      obtain ⟨bb, bo, rfl, hbb, g0, g1⟩ := hl.at i hil
      have hbr := hb0.trans ((hkb.below hD).mono (Nat.le_refl _))
      have x0 := (hbr.cell (p := ⟨ob, oo + k, none⟩) hob).trans e0
      rw [hi] at x0
      have y0 := (hbr.cell (p := ⟨bb, bo + i * 2, none⟩) hbb).trans g0
      have y1 := (hbr.cell (p := ⟨bb, bo + i * 2 + 1, none⟩) hbb).trans g1
      have z1 := (hkb.cell hDp).trans d1
      have z4 := (hkb.cell (o := 4) hDP).trans d4
      have hat : (putL l ord)[k]'(by rw [hlen]; exact hlt) = l[i] := by simp [putL, hi, hil]
      have hmem : l[i] ∈ putL l ord := by rw [← hat]; exact List.getElem_mem _
      have hnext : (putL l ord).attach.take (k + 1) = (putL l ord).attach.take k ++ [⟨l[i], hmem⟩] := by rw [attach_next _ k (by rw [hlen]; exact hlt)]; simp only [hat]
      have hpl : ((putL l ord).attach.take k).length < (putL l ord).length := by simp [hlen, hlt]; omega
      obtain ⟨fn, tmps, assign, body, hy, hR⟩ := HY.out _ ⟨l[i], hmem⟩ wr hJs hpl
      dsimp only [encB] at hy
      have hii : (i : Int) < (l.length : Int) := by omega
      have hi00 : (0 : Int) ≤ (i : Int) := by omega
      clear hi e0 g0 g1 d0 d1 d4 hi0 hi1 hat
      have H_hnext := Lib.hid hnext; clear hnext; have H_hpl := Lib.hid hpl; clear hpl; have H_hJs := Lib.hid hJs; clear hJs; have H_hkb := Lib.hid hkb; clear hkb; have H_hbr := Lib.hid hbr; clear hbr; have H_hb0 := Lib.hid hb0; clear hb0; have H_hb := Lib.hid hb; clear hb; have H_hlen := Lib.hid hlen; clear hlen; have H_hW := Lib.hid hW; clear hW
      gi_wp2
      refine hR.mono ?_
      rintro e W3 (⟨rfl, hJ3, hk3⟩ | ⟨rfl, hJx3⟩)
      · rw [← H_hnext.out] at hJ3
        have hk4 := H_hkb.out.trans hk3
        have H_hJ3 := Lib.hid hJ3; clear hJ3; have H_hk4 := Lib.hid hk4; clear hk4; have H_hk3 := Lib.hid hk3; clear hk3
        gi_wp2
        go_roundw
        case rel => exact ⟨k + 1, by omega, by go_num, H_hJ3.out, H_hk4.out⟩
        case measure => simp [intOf]; omega
      · rw [← H_hnext.out] at hJx3
        have H_hJx3 := Lib.hid hJx3; clear hJx3
        gi_wp2
        refine bodyPost_ret (results_none rfl _ _ _) rfl ?_
        exact ⟨⟨_, rfl⟩, .inr ⟨_, List.take_prefix _ _, H_hJx3.out⟩⟩
    · obtain rfl : k = ord.length := by omega
      have hall : (putL l ord).attach.take ord.length = (putL l ord).attach := List.take_of_length_le (by simp [hlen])
      rw [hall] at hJs
      have H_hJs := Lib.hid hJs; clear hJs; have H_hkb := Lib.hid hkb; clear hkb; have H_hb0 := Lib.hid hb0; clear hb0; have H_hb := Lib.hid hb; clear hb; have H_hlen := Lib.hid hlen; clear hlen; have H_hall := Lib.hid hall; clear hall; have H_hW := Lib.hid hW; clear hW
      gi_wp2
      go_end0
      exact ⟨⟨_, rfl⟩, .inl ⟨_, rfl, H_hJs.out⟩⟩

theorem values_any (lv : Value) (l : List Bat) (w : World) (hl : IsBats w lv l) :
    Calls Try.prog 68 #[lv] w fun e w' => e = .returned (.func (.func 90) #[] #[.pointer (some ⟨w.heap.size, 0, none⟩)]) ∧
      w'.cell? ⟨w.heap.size, 0, none⟩ = some lv ∧ Below w.heap.size w w' ∧ w'.heap.size = w.heap.size + 1 := by
  obtain ⟨a, c, rfl, _⟩ := hl.form
  go_enter Try.func68, Try.ntmps68
  go_wp2
  go_ret
  exact ⟨rfl, by simp, (Below.refl _ _).alloc (Nat.le_refl _) _, by simp⟩

theorem values1_stops (D : Nat → Prop) (lv : Value) (l : List Bat) (Bs : Nat) (w0 w : World) (hb : Below w0.heap.size w0 w) (hD : ∀ k, k < w0.heap.size → D k) (hDs : D Bs) (hDw : ∀ k, D k → k < w.heap.size)
    (hls : Bs < w.heap.size) (hl : IsBats w0 lv l) (c0 : w.cell? ⟨Bs, 0, none⟩ = some lv) (n : Nat) (hn : 1 ≤ n) :
    SeqStopsK Fence.wide n Try.prog 90 #[.pointer (some ⟨Bs, 0, none⟩)] encB (KeepB D) (fun ys => ys = l.attach) (fun pre => pre <+: l.attach) l.length w := by
  intro yl J Jx W hW hJa _ hY hJ0
  obtain ⟨la, lc, rfl, _⟩ := hl.form
  have hll := hl.len
  have d0 := (hW.cell (p := ⟨Bs, 0, none⟩) hls).trans c0
  have hb0 := hb.trans (hW.mono hb.size)
  clear c0
  refine callsIn_of_wp Try.func90 rfl trivial ?_ rfl
  simp only [Try.ntmps90, List.size_toArray, List.length_cons, List.length_nil, Nat.reduceAdd, Nat.reduceSub, Array.replicate_succ, Array.replicate_zero, List.push_toArray, List.append_toArray, List.nil_append, List.cons_append]
  have HY := Lib.hid hY; clear hY
  have HJ := Lib.hid hJa; clear hJa
  gi_wp2
  gi_loopw [7] (fun i wr => ∃ k : Nat, k ≤ l.length ∧ i = .int .i64 k ∧ J (l.attach.take k) wr ∧ KeepB D W wr) (fun i _ => l.length - (intOf i).toNat)
  case atStart => exact ⟨0, Nat.zero_le _, rfl, hJ0, KeepB.refl _ _⟩
  case round =>
    obtain ⟨k, hk, rfl, hJs, hkb⟩ := hrel
    by_cases hlt : k < l.length
    · obtain ⟨bb, bo, rfl, hbb, g0, g1⟩ := hl.at k hlt
      have hbr := hb0.trans ((hkb.below hD).mono (Nat.le_refl _))
      have y0 := (hbr.cell (p := ⟨bb, bo + k * 2, none⟩) hbb).trans g0
      have y1 := (hbr.cell (p := ⟨bb, bo + k * 2 + 1, none⟩) hbb).trans g1
      have hnext := attach_next l k hlt
      have hpl : (l.attach.take k).length < l.length := by simp; omega
      obtain ⟨W2, eW2, u0, u1, hb2, hs2⟩ := box2 wr (.int .i64 l[k].c) (.int .i64 l[k].g) 28
      have hJ2 : J (l.attach.take k) W2 := by rw [← eW2]; exact HJ.out _ wr _ none hJs (World.grownBy_alloc wr _ none) (fun r e => by cases e)
      obtain ⟨fn, tmps, assign, body, hy, hR⟩ := HY.out _ ⟨l[k], List.getElem_mem hlt⟩ W2 hJ2 hpl
      dsimp only [encB] at hy
      have hk2 : KeepB D W W2 := hkb.trans (KeepB.of_below hb2 (fun k hk => Nat.lt_of_lt_of_le (hDw k hk) (Nat.le_trans hW.size hkb.size)))
      clear g0 g1 d0
      have H_hnext := Lib.hid hnext; clear hnext; have H_hpl := Lib.hid hpl; clear hpl; have H_hJs := Lib.hid hJs; clear hJs; have H_hkb := Lib.hid hkb; clear hkb; have H_hbr := Lib.hid hbr; clear hbr; have H_hb0 := Lib.hid hb0; clear hb0; have H_hb := Lib.hid hb; clear hb; have H_hW := Lib.hid hW; clear hW; have H_hb2 := Lib.hid hb2; clear hb2; have H_hs2 := Lib.hid hs2; clear hs2; have H_hJ2 := Lib.hid hJ2; clear hJ2; have H_hk2 := Lib.hid hk2; clear hk2
      gi_wp2
      refine hR.mono ?_
      rintro e W3 (⟨rfl, hJ3, hk3⟩ | ⟨rfl, hJx3⟩)
      · rw [← H_hnext.out] at hJ3
        have hk4 := H_hk2.out.trans hk3
        have H_hJ3 := Lib.hid hJ3; clear hJ3; have H_hk4 := Lib.hid hk4; clear hk4; have H_hk3 := Lib.hid hk3; clear hk3
        gi_wp2
        go_roundw
        case rel => exact ⟨k + 1, by omega, by go_num, H_hJ3.out, H_hk4.out⟩
        case measure => simp [intOf]; omega
      · rw [← H_hnext.out] at hJx3
        have H_hJx3 := Lib.hid hJx3; clear hJx3
        gi_wp2
        refine bodyPost_ret (results_none rfl _ _ _) rfl ?_
        exact ⟨⟨_, rfl⟩, .inr ⟨_, List.take_prefix _ _, H_hJx3.out⟩⟩
    · obtain rfl : k = l.length := by omega
      rw [List.take_of_length_le (by simp)] at hJs
      have H_hJs := Lib.hid hJs; clear hJs; have H_hkb := Lib.hid hkb; clear hkb; have H_hb0 := Lib.hid hb0; clear hb0; have H_hb := Lib.hid hb; clear hb; have H_hW := Lib.hid hW; clear hW
      gi_wp2
      go_end0
      exact ⟨⟨_, rfl⟩, .inl ⟨_, rfl, H_hJs.out⟩⟩
end Go.Proofs.Ytpkjmnfgpbliaaa
