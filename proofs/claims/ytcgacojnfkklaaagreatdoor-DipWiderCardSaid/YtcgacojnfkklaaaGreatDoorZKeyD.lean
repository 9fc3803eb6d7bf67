/-
  The keys of the map of what was tried in vain. No walk here. Conditions: none.
-/
import Derived.Test.YtcgacojnfkklaaaGreatDoorZFewA
import Derived.Test.YtcgacojnfkklaaaGreatDoorZAmF
import Derived.DeepKeys4
namespace Go.Proofs.YtcgacojnfkklaaaGreatDoor
open Go.RowKit
open Go.Maps (Keyed)
set_option linter.unusedSimpArgs false
set_option linter.unusedVariables false
theorem laidD : laidOutB Tryz.prog = true := by kernel_rfl
theorem rowTried : (125 : TypeId) < Tryz.prog.types.size := of_decide_eq_true (by kernel_rfl)
theorem wideTried : (match Tryz.prog.underlying 125 with | some (.array _ _) | some (.struct _) => true | _ => false) = true := by kernel_rfl
theorem keyTypeTried : Tryz.prog.keyTypeAt 3 125 = true := by kernel_rfl
set_option maxRecDepth 100000 in
theorem lawTried : WideMaps.KeyLaw Tryz.prog 125 := deep_law_laid laidD (m := 3) (by decide) rowTried keyTypeTried wideTried
theorem keyedTried : Keyed Tryz.prog 125 := Keyed.of_law lawTried
theorem formedTried (a b c d e f : Int) : (Value.agg #[.int .i64 a, .int .i64 b, .int .i64 c, .int .i64 d, .int .i64 e, .int .i64 f]).formed Tryz.prog 125 = true := by kernel_rfl
theorem keyLits_arr {P : Program} {d : Nat} {t : TypeId} {cs : List Value} {n : Nat} {e : TypeId} (h : P.underlying t = some (.array n e)) : P.keyLits (d + 1) t cs = if cs.length = P.cellsOf t then ((List.range n).mapM fun i => P.keyLits d e ((cs.drop (i * P.cellsOf e)).take (P.cellsOf e))).map List.flatten else none := by
  simp only [Program.keyLits, h]
theorem keyLits_str {P : Program} {d : Nat} {t : TypeId} {cs : List Value} {fs : Array Field} (h : P.underlying t = some (.struct fs)) : P.keyLits (d + 1) t cs = if cs.length = P.cellsOf t ∧ fs.all (·.name != "_") = true then (fs.toList.mapM fun f => P.keyLits d f.type ((cs.drop f.offset).take (P.cellsOf f.type))).map List.flatten else none := by
  simp only [Program.keyLits, h]
theorem keyG {P : Program} {k c i : TypeId} {f0 f1 : Field} (hu : P.underlying k = some (.struct #[f0, f1])) (hc : P.underlying c = some (.array 5 i)) (hi : P.underlying i = some (.int .i64)) (t0 : f0.type = c) (t1 : f1.type = i) (o0 : f0.offset = 0) (o1 : f1.offset = 5)
    (n0 : (f0.name != "_") = true) (n1 : (f1.name != "_") = true) (hk : P.keyType k = true) (c6 : P.cellsOf k = 6) (c5 : P.cellsOf c = 5) (c3 : P.cellsOf i = 1) (hm : 2 ≤ P.types.size) (a0 a1 a2 a3 a4 n : Int)
    (h0 : (Lit.int .i64 a0).wf = true) (h1 : (Lit.int .i64 a1).wf = true) (h2 : (Lit.int .i64 a2).wf = true) (h3 : (Lit.int .i64 a3).wf = true) (h4 : (Lit.int .i64 a4).wf = true) (h5 : (Lit.int .i64 n).wf = true)
    (hf : (Value.agg #[.int .i64 a0, .int .i64 a1, .int .i64 a2, .int .i64 a3, .int .i64 a4, .int .i64 n]).formed P k = true) :
    ∃ kl, keyOf P k (.agg #[.int .i64 a0, .int .i64 a1, .int .i64 a2, .int .i64 a3, .int .i64 a4, .int .i64 n]) = some kl := by
  obtain ⟨m, hm⟩ : ∃ m, P.types.size + 1 = m + 1 + 1 + 1 := ⟨P.types.size - 2, by omega⟩
  have k1 : ∀ (d : Nat) (x : Int), (Lit.int .i64 x).wf = true → P.keyLits (d + 1) i [Value.int .i64 x] = some [Lit.int .i64 x] := fun d x h => by
    simp [Program.keyLits, hi, h]
  have k5 : P.keyLits (m + 1 + 1) c [.int .i64 a0, .int .i64 a1, .int .i64 a2, .int .i64 a3, .int .i64 a4] = some [Lit.int .i64 a0, Lit.int .i64 a1, Lit.int .i64 a2, Lit.int .i64 a3, Lit.int .i64 a4] := by
    rw [keyLits_arr hc]
    simp [c5, c3, List.range_succ, k1, h0, h1, h2, h3, h4]
  have k6 := k1 (m + 1) n h5
  unfold keyOf
  rw [hu]
  simp only
  rw [hf, hk, hm, keyLits_str hu]
  simp [Value.cells, t0, t1, o0, o1, n0, n1, c6, c5, c3, k5, k6]
theorem sh1_bd (v : Value) : 1 ≤ sh1 v ∧ sh1 v ≤ 4 := by
  unfold sh1; split <;> omega
theorem sh1_int {v : Value} (h : sh1 v = 1) : ∃ a, v = .int .i64 a := by
  unfold sh1 at h; split at h <;> first | exact ⟨_, rfl⟩ | omega
theorem shVs_cons {l : List Value} {k : Nat} (h : shVs l = 5 * k + 1) : ∃ a t, l = .int .i64 a :: t ∧ shVs t = k := by
  cases l with
  | nil => simp [shVs] at h
  | cons v t =>
    simp only [shVs] at h
    have := sh1_bd v
    obtain ⟨a, rfl⟩ := sh1_int (v := v) (by omega)
    exact ⟨a, t, rfl, by simp only [sh1] at h; omega⟩
theorem shVs_nil {l : List Value} (h : shVs l = 0) : l = [] := by
  cases l with
  | nil => rfl
  | cons v t => simp only [shVs] at h; have := sh1_bd v; omega
theorem keyOkTried : KeyOk Tryz.prog 125 19530 where
  law := keyedTried
  key := fun v h hw => by
    have hb := sh1_bd v
    cases v with
    | agg cs =>
      simp only [shK] at h
      obtain ⟨a0, t0, e0, h0⟩ := shVs_cons (l := cs.toList) (k := 781) (by omega)
      obtain ⟨a1, t1, rfl, h1⟩ := shVs_cons (l := t0) (k := 156) (by omega)
      obtain ⟨a2, t2, rfl, h2⟩ := shVs_cons (l := t1) (k := 31) (by omega)
      obtain ⟨a3, t3, rfl, h3⟩ := shVs_cons (l := t2) (k := 6) (by omega)
      obtain ⟨a4, t4, rfl, h4⟩ := shVs_cons (l := t3) (k := 1) (by omega)
      obtain ⟨a5, t5, rfl, h5⟩ := shVs_cons (l := t4) (k := 0) (by omega)
      have := shVs_nil h5
      subst this
      have hcs : cs = #[.int .i64 a0, .int .i64 a1, .int .i64 a2, .int .i64 a3, .int .i64 a4, .int .i64 a5] := by rw [← Array.toArray_toList (xs := cs), e0]
      subst hcs
      simp only [wfK, List.mem_cons, List.not_mem_nil, or_false, forall_eq_or_imp, forall_eq, wf1] at hw
      obtain ⟨w0, w1, w2, w3, w4, w5⟩ := hw
      exact keyG Tryz.underlying125 Tryz.underlying123 Tryz.underlying3 rfl rfl rfl rfl rfl rfl (by kernel_rfl) (by kernel_rfl) (by kernel_rfl) (by kernel_rfl) (of_decide_eq_true (by kernel_rfl)) _ _ _ _ _ _ w0 w1 w2 w3 w4 w5 (formedTried _ _ _ _ _ _)
    | _ => simp only [shK] at h; omega
theorem keys125 : ∀ (K : TypeId) (sh : Nat), getA [(125, 19530)] K = some sh → KeyOk Tryz.prog K sh := fun K sh h => by
  simp only [getA] at h
  split at h
  · rename_i e; simp only [Option.some.injEq] at h; subst h; subst e; exact keyOkTried
  · cases h
end Go.Proofs.YtcgacojnfkklaaaGreatDoor
