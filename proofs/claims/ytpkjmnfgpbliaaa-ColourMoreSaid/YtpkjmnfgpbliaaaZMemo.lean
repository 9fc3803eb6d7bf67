/-
  The map of plans that are known: each entry is right. What a look and a store do. No walk here.
-/
import Derived.Test.YtpkjmnfgpbliaaaZLesser
import Derived.Maps.Own
import Derived.DeepKeys4
namespace Go.Proofs.Ytpkjmnfgpbliaaa
open Go.RowKit Go.Shelf Go.Sort
open Go.ChangeMaps Go.MapKept
open Go.WideElems (Fit rd rg pl rd_val elemAt)
open Go.Maps (Keyed)
set_option linter.unusedSimpArgs false
set_option linter.unusedVariables false

theorem laidC : laidOutB Try.prog = true := by kernel_rfl
theorem rowStand : (125 : TypeId) < Try.prog.types.size := of_decide_eq_true (by kernel_rfl)
theorem wideStand : (match Try.prog.underlying 125 with | some (.array _ _) | some (.struct _) => true | _ => false) = true := by rw [Try.underlying125]
theorem keyTypeStand : Try.prog.keyTypeAt 2 125 = true := by kernel_rfl
set_option maxRecDepth 100000 in
theorem keyedStand : Keyed Try.prog 125 := Keyed.of_law (deep_law_laid laidC (m := 2) (by decide) rowStand keyTypeStand wideStand)

def vStand (bf lf : Int) : Value := .agg #[.int .i64 bf, .int .i64 lf]
theorem keyStruct2 {P : Program} {k i : TypeId} {f0 f1 : Field} (hu : P.underlying k = some (.struct #[f0, f1])) (hi : P.underlying i = some (.int .i64)) (t0 : f0.type = i) (t1 : f1.type = i) (o0 : f0.offset = 0) (o1 : f1.offset = 1)
    (n0 : (f0.name != "_") = true) (n1 : (f1.name != "_") = true) (hk : P.keyType k = true) (hc : P.cellsOf k = 2) (hci : P.cellsOf i = 1) (hm : 1 ≤ P.types.size) (bf lf : Int) (h0 : (Lit.int .i64 bf).wf = true) (h1 : (Lit.int .i64 lf).wf = true) :
    ∃ kl, keyOf P k (vStand bf lf) = some kl := by
  obtain ⟨m, hm⟩ : ∃ m, P.types.size = m + 1 := ⟨P.types.size - 1, by omega⟩
  have k0 : P.keyLits (m + 1) i [.int .i64 bf] = some [.int .i64 bf] := by simp [Program.keyLits, hi, h0]
  have k1 : P.keyLits (m + 1) i [.int .i64 lf] = some [.int .i64 lf] := by simp [Program.keyLits, hi, h1]
  simp [keyOf, hu, k0, k1, hk, hm, vStand, Value.formed, Value.cells, hc, Program.keyLits, hi, hci, h0, h1, t0, t1, o0, o1, n0, n1]
theorem keyStand (bf lf : Int) (h0 : (Lit.int .i64 bf).wf = true) (h1 : (Lit.int .i64 lf).wf = true) : ∃ kl, keyOf Try.prog 125 (vStand bf lf) = some kl :=
  keyStruct2 Try.underlying125 Try.underlying3 rfl rfl rfl rfl rfl rfl (by kernel_rfl) (by kernel_rfl) (by kernel_rfl) (of_decide_eq_true (by kernel_rfl)) bf lf h0 h1

/-- How an element of the map reads: as nothing. -/
def R0 (_ : Value) : Option (DataW Unit × List MemPlace) := some (.lit (.bool true), [])
/-- Block M is a map of at most n entries; the plan of each is f's. -/
def Memo (w : World) (M : Nat) (f : Int → Int → Pln) (n : Nat) : Prop :=
  ∃ es clock, w.heap[M]? = some (.map es clock) ∧ Fit Try.prog 125 R0 es clock ∧ es.size ≤ n ∧ ∀ e ∈ es.toList, ∃ bf lf, e.key = vStand bf lf ∧ e.val = vPln (f bf lf)
theorem Memo.mono {w : World} {M : Nat} {f : Int → Int → Pln} {n n' : Nat} (h : Memo w M f n) (hn : n ≤ n') : Memo w M f n' := by
  obtain ⟨es, c, h1, h2, h3, h4⟩ := h
  exact ⟨es, c, h1, h2, Nat.le_trans h3 hn, h4⟩
theorem Memo.same {w w' : World} {M : Nat} {f : Int → Int → Pln} {n : Nat} (h : Memo w M f n) (hb : w'.heap[M]? = w.heap[M]?) : Memo w' M f n := by
  obtain ⟨es, c, h1, h2, h3, h4⟩ := h
  exact ⟨es, c, hb.trans h1, h2, h3, h4⟩
theorem Memo.lt {w : World} {M : Nat} {f : Int → Int → Pln} {n : Nat} (h : Memo w M f n) : M < w.heap.size := by
  obtain ⟨es, c, h1, _⟩ := h
  exact (Array.getElem?_eq_some_iff.1 h1).1
theorem Memo.made {w : World} {M : Nat} {f : Int → Int → Pln} (h : w.heap[M]? = some (.map #[] 0)) : Memo w M f 0 :=
  ⟨#[], 0, h, ⟨by simp, stamped_empty 0, by simp⟩, Nat.le_refl _, by simp⟩

/-- A look: the same in every world where the map's block is the same. -/
theorem memo_look {w : World} {M : Nat} {f : Int → Int → Pln} {n : Nat} (h : Memo w M f n) (bf lf : Int) (h0 : (Lit.int .i64 bf).wf = true) (h1 : (Lit.int .i64 lf).wf = true) :
    (∀ w' : World, w'.heap[M]? = w.heap[M]? → (Instr.lookup 104 (.map (some M)) (vStand bf lf) true).run Try.prog w' = .ok (.tuple #[.agg #[.int .i64 0, .int .i64 0], .bool false]) w') ∨
    (∀ w' : World, w'.heap[M]? = w.heap[M]? → (Instr.lookup 104 (.map (some M)) (vStand bf lf) true).run Try.prog w' = .ok (.tuple #[vPln (f bf lf), .bool true]) w') := by
  obtain ⟨es, c, hb, F, hn, he⟩ := h
  obtain ⟨kl, hkl⟩ := keyStand bf lf h0 h1
  by_cases hex : ∃ x ∈ es.toList, x.key = vStand bf lf
  · refine .inr fun w' hw' => ?_
    rcases Maps.fit_look true keyedStand Try.underlying104 (z := .agg #[.int .i64 0, .int .i64 0]) (by exact Try.zeroValue127 w') (hw'.trans hb) F hkl with ⟨hr, hno, _⟩ | ⟨e0, y, hm, hk, hr, _⟩
    · obtain ⟨x, hx, hxk⟩ := hex
      exact absurd hxk (hno x hx)
    · obtain ⟨b', l', hk', hv'⟩ := he e0 hm
      rw [hk] at hk'
      simp only [vStand, Value.agg.injEq, Array.mk.injEq, List.cons.injEq, Value.int.injEq, true_and, and_true] at hk'
      obtain ⟨rfl, rfl⟩ := hk'
      rw [hv'] at hr; exact hr
  · refine .inl fun w' hw' => ?_
    rcases Maps.fit_look true keyedStand Try.underlying104 (z := .agg #[.int .i64 0, .int .i64 0]) (by exact Try.zeroValue127 w') (hw'.trans hb) F hkl with ⟨hr, hno, _⟩ | ⟨e0, y, hm, hk, hr, _⟩
    · exact hr
    · exact absurd ⟨e0, hm, hk⟩ hex

theorem memo_store {w : World} {M : Nat} {f : Int → Int → Pln} {n : Nat} (h : Memo w M f n) (hroom : n < maxLen) (bf lf : Int) (h0 : (Lit.int .i64 bf).wf = true) (h1 : (Lit.int .i64 lf).wf = true) :
    ∃ w', (Instr.mapUpdate 104 (.map (some M)) (vStand bf lf) (vPln (f bf lf))).run Try.prog w = .ok () w' ∧ Memo w' M f (n + 1) ∧ w.grownBy w' (some M) := by
  obtain ⟨es, c, hb, F, hn, he⟩ := h
  obtain ⟨kl, hkl⟩ := keyStand bf lf h0 h1
  obtain ⟨es', c', hr, F', hput, _, _, hmem⟩ := Maps.fit_store (R' := R0) keyedStand Try.underlying104 hb F (Nat.lt_of_le_of_lt hn hroom) (fun _ _ _ _ hz => hz) hkl (yv := (.lit (.bool true), [])) rfl (val := vPln (f bf lf))
  refine ⟨_, hr, ⟨es', c', heap_setBlock_same hb _, F', ?_, ?_⟩, ⟨rfl, rfl, rfl, by simp [setBlock], fun i _ hi => heap_setBlock_other hb _ (fun e => hi (by rw [e]))⟩⟩
  · have e1 : es'.size = ((es'.toList.map (rg Try.prog 125 R0)).foldr DataW.insert []).length := by rw [length_sorted]; simp
    rw [e1, hput]
    unfold putKey
    rw [length_insert]
    have e2 := List.length_filter_le (notKey kl) ((es.toList.map (rg Try.prog 125 R0)).foldr DataW.insert [])
    rw [length_sorted] at e2
    simp at e2
    omega
  · intro x hx
    rcases hmem x hx with ⟨h2, _⟩ | ⟨h2, h3⟩
    · exact he x h2
    · exact ⟨bf, lf, h2, h3⟩
end Go.Proofs.Ytpkjmnfgpbliaaa
