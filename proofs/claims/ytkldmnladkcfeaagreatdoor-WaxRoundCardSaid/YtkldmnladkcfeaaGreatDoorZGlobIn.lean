/-
  The listed package variables, as the row lays them: what the walks know of them. Conditions: none.
-/
import Derived.Test.YtkldmnladkcfeaaGreatDoorZAmE
import Derived.Test.YtkldmnladkcfeaaGreatDoorRows
import Derived.MakeChecks
import Derived.HandedShaped
import Derived.LaidMore
import Derived.Lay
import Derived.OpenShut
import Derived.ProofKit
import Derived.Shelf.Vars
namespace Go.Proofs.YtkldmnladkcfeaaGreatDoor
open Go Go.ChangeShapes Go.WideShapes Go.ChangeAt Go.RowKit
set_option linter.unusedVariables false
theorem block_of {P : Program} {w : World} {n : String} {g : Nat} {cs : Array Value} (hg : P.globalNamed n = some g) (h : w.var? P n = some cs) : ∃ ty fr, w.heap[g]? = some (.cells cs ty fr) := by
  simp only [World.var?, hg, Option.bind_some] at h
  split at h
  · rename_i c t f hh
    cases h
    exact ⟨t, f, hh⟩
  · cases h
theorem maxLen_cells {W : World} (h : W.ShapedOpen Tryz.prog) : ∃ m ty fr, W.heap[0]? = some (.cells #[.int .i64 m] ty fr) := by
  have h0 : (((begin Tryz.prog (fun _ _ => 0) default).world.heap[0]?).bind Obj.row?).map (fun x => (x.1.size, x.2)) = some (1, 3) := by kernel_rfl
  cases hq : ((begin Tryz.prog (fun _ _ => 0) default).world.heap[0]?).bind Obj.row? with
  | none => rw [hq] at h0; cases h0
  | some x =>
    rw [hq] at h0
    simp only [Option.map_some, Option.some.injEq, Prod.mk.injEq] at h0
    obtain ⟨hz, ht⟩ := h0
    obtain ⟨zero, t⟩ := x
    simp only at hz ht
    subst ht
    have hg : 0 < Tryz.prog.globals.size := by decide +kernel
    obtain ⟨cs, hh, hs, _⟩ := h.1 0 zero 3 hg hq
    obtain ⟨m, hm⟩ := cell_of_shapedOpen_int h hg hq hz (by kernel_rfl) (by kernel_rfl) Tryz.underlying3
    have h1 : cs[0]? = some (.int .i64 m) := by
      have := hm
      simpa [World.cell?, hh] using this
    have : cs = #[.int .i64 m] := by
      apply Array.ext_getElem?
      intro i
      cases i with
      | zero => simpa using h1
      | succ i => rw [Array.getElem?_eq_none (by omega), Array.getElem?_eq_none (by simp)]
    subst this
    exact ⟨m, _, _, hh⟩
theorem pow_cells {W : World} {cs : Array Value} {fuel : Nat} {p : List MemPlace} (hd : DataW.trod (fun _ => ()) Tryz.prog W 0 (fun _ => true) false fuel 210 cs.toList = some (Rows.laid_internal_strconv_uint64pow10, p)) : cs = (Lib.pow10Tab.map fun z => Value.int .u64 z).toArray := by
  obtain ⟨xs, m, _, ex, hlen, hl, hel⟩ := DataW.trod_array Tryz.underlying210 hd
  have c5 : Tryz.prog.cellsOf 189 = 1 := by kernel_rfl
  have c6 : Tryz.prog.cellsOf 210 = 20 := by kernel_rfl
  have e3 : (xs.map (·.1)) = Lib.pow10Tab.map fun n => (DataW.lit (.int .u64 n) : DataW Unit) := (DataW.agg.inj (Prod.mk.inj ex).1).symm
  have hpl := Lib.pow10Tab_length
  apply Array.ext_getElem?
  intro r
  by_cases hr : r < 20
  · have hE := hel r hr
    rw [c5, Nat.mul_one, List.getElem?_eq_getElem (by omega)] at hE
    obtain ⟨z, e1, e2, _⟩ := DataW.trod_int Tryz.underlying189 hE
    have e4 : (xs.map (·.1))[r]? = (Lib.pow10Tab.map fun n => (DataW.lit (.int .u64 n) : DataW Unit))[r]? := by rw [e3]
    rw [List.getElem?_map, List.getElem?_map, List.getElem?_eq_getElem (by omega : r < xs.length), List.getElem?_eq_getElem (by omega : r < Lib.pow10Tab.length), e2] at e4
    have hz : z = Lib.pow10Tab[r]'(by omega) := by
      simpa using e4
    have : cs.toList[r]? = some (.int .u64 z) := by
      have h0 : ((cs.toList.drop r).take 1)[0]? = some (.int .u64 z) := by rw [e1]; rfl
      simpa using h0
    rw [← Array.getElem?_toList, this, hz]
    simp [hpl, hr]
  · rw [Array.getElem?_eq_none (by rw [c6] at hlen; simp at hlen; omega), Array.getElem?_eq_none (by simp [hpl]; omega)]
set_option maxRecDepth 100000 in
theorem glob_of {W : World} (hS : W.ShapedOpen Tryz.prog) (h : laidMetH Tryz.prog Rows.waxChecksRow.laid W) : GlobIn (oldM W) W := by
  rw [MakeChecks.laidMetH_plain _ _ _ (by kernel_rfl)] at h
  obtain ⟨ps, ⟨_, _, _, _, _, _, _, _, _, _, ⟨_, _, _, _, _, _, _, _, _, _, ⟨g1, t1, cs1, f1, p1, q1, hg1, ht1, hv1, hd1, ⟨_, _, _, _, _, _, _, _, _, _, ⟨g3, t3, cs3, f3, p3, q3, hg3, ht3, hv3, hd3, ⟨g2, t2, cs2, f2, p2, q2, hg2, ht2, hv2, hd2, _⟩, _⟩, _⟩, _⟩, _⟩, _⟩, _, _⟩ := h
  obtain rfl := Option.some.inj ((show Tryz.prog.globalNamed "internal/strconv.uint64pow10" = some 3 by kernel_rfl).symm.trans hg1)
  obtain rfl := Option.some.inj ((show Tryz.prog.globalNamed "strconv.ErrRange" = some 2 by kernel_rfl).symm.trans hg3)
  obtain rfl := Option.some.inj ((show Tryz.prog.globalNamed "strconv.ErrSyntax" = some 1 by kernel_rfl).symm.trans hg2)
  obtain rfl := Option.some.inj ((show (Tryz.prog.globals[3]?).map (·.type) = some 210 by kernel_rfl).symm.trans ht1)
  obtain rfl := Option.some.inj ((show (Tryz.prog.globals[2]?).map (·.type) = some 145 by kernel_rfl).symm.trans ht3)
  obtain rfl := Option.some.inj ((show (Tryz.prog.globals[1]?).map (·.type) = some 145 by kernel_rfl).symm.trans ht2)
  obtain ⟨m0, ty0, fr0, b0⟩ := maxLen_cells hS
  obtain ⟨ty1, fr1, b1⟩ := block_of hg1 hv1
  obtain ⟨ty3, fr3, b3⟩ := block_of hg3 hv3
  obtain ⟨ty2, fr2, b2⟩ := block_of hg2 hv2
  obtain ⟨_, u3, v3, e3, _⟩ := iface_of_trod Tryz.underlying145 hd3
  obtain ⟨_, u2, v2, e2, _⟩ := iface_of_trod Tryz.underlying145 hd2
  have e3' := Array.eq_one_of_toList e3
  have e2' := Array.eq_one_of_toList e2
  have lt : ∀ {b : Nat} {o : Obj}, W.heap[b]? = some o → b < W.heap.size := fun h => (Array.getElem?_eq_some_iff.1 h).1
  intro x hx
  simp only [globL, List.mem_cons, List.mem_nil_iff, or_false] at hx
  rcases hx with rfl | rfl | rfl | rfl
  · exact ⟨fun _ => lt b0, _, _, _, b0, by simp, m0, rfl⟩
  · exact ⟨fun _ => lt b1, _, _, _, b1, by rw [pow_cells hd1]; simp [Lib.pow10Tab_length], pow_cells hd1⟩
  · exact ⟨fun _ => lt b2, _, _, _, b2, by rw [e2']; simp, u2, v2, e2'⟩
  · exact ⟨fun _ => lt b3, _, _, _, b3, by rw [e3']; simp, u3, v3, e3'⟩
end Go.Proofs.YtkldmnladkcfeaaGreatDoor
