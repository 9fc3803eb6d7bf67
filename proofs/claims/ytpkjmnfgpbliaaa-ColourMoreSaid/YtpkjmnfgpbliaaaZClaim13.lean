/-
  ColourMore returns true for every input, and each argument reads afterwards as it read before. Conditions: none.
-/
import Derived.Test.YtpkjmnfgpbliaaaZRowsI
import Derived.Test.YtpkjmnfgpbliaaaRows
namespace Go.Proofs.Ytpkjmnfgpbliaaa
open Go.ChangeShapes Go.WideShapes Go.ChangeAt Go.RowKit
set_option linter.unusedVariables false
set_option linter.unusedSimpArgs false

theorem walk13 {w : World} {v0 v1 v2 : Value} {x0 : Shp} {x1 : Bat} {x2 : Six} (hs : namesOk x0) (g2 : sixOk x2) (h0 : Rel (oldM w) w ((cAgg rShp).enc x0) v0) (h1 : Rel (oldM w) w ((cAgg rBat).enc x1) v1) (h2 : Rel (oldM w) w ((cAgg rSix).enc x2) v2) :
    Calls Try.prog 13 #[v0, v1, v2] w fun e w' => e = .returned (.bool true) ∧ Below w.heap.size w w' := by
  refine law_calls (P := Try.prog) (f := 13) (ds := [(cAgg rShp).enc x0, (cAgg rBat).enc x1, (cAgg rSix).enc x2]) (ok13 _ _ ?_) (vs := [v0, v1, v2]) ⟨_, _, rfl, h0, _, _, rfl, h1, _, _, rfl, h2, rfl⟩
  simp only [s13, sp3, cAgg_enc, cAgg_dec, rBat.de, rShp.de, rSix.de, cBats_de]
  simp [hs, g2, cBool_enc]
set_option maxRecDepth 100000 in
theorem lifted13 (os : Os) (started : os.Started) (H : Type) (enc : TypeId × Value → H) :
    ReturnsInHanded {} Try.checked os 13 .any (Rows.colourMoreSpec.pre6 enc Try.prog Try.f13 Rows.colourMoreRow.domain false) (Rows.colourMoreSpec.post enc Try.prog Try.f13 false true false false) := by
  refine returnsInHanded_of_change_sized (C := Try.checked) ownK started (by kernel_rfl) Try.func13
    (ChangeSpec.witness6 (enc := enc) (C := Try.checked) false ⟨#[], #[.agg #[.slice none 0 0, .int .i64 0, .int .i64 0, .int .i64 0], .agg #[.int .i64 0, .int .i64 0], .agg #[.int .u16 0, .int .u16 0, .int .u16 0, .int .u16 0, .int .u16 0, .int .u16 0]], []⟩ 8 (by kernel_rfl) (by kernel_rfl) (by kernel_rfl) (by kernel_rfl)) ?_
  intro W base args ds gs before hval0 hW hcnd hwt0 _
  have hval : ∀ (j : Nat) t v, Try.f13.params[j]? = some t → args[j]? = some v → Value.okWide Try.prog W .any base t v := hval0
  have hW' := hW
  obtain ⟨p, q, hA0, hV, rfl, hfz, hnd⟩ := hW
  have hA : DataW.TrodAll enc Try.prog W 0 (fun _ => true) true Try.f13.params.toList args.toList ds p := hA0
  have hwt : (DataW.weightsEach Try.prog (Try.f13.params.toList ++ []) (ds ++ gs)).all (· ≤ reachBytes) = true := hwt0
  rw [Try.params13] at hA hwt hval
  obtain ⟨v0, vs0, d0, ds0, p0, q0, hargs, rfl, rfl, h0, r0⟩ := trodAll_cons hA
  obtain ⟨v1, vs1, d1, ds1, p1, q1, rfl, rfl, rfl, h1, r1⟩ := trodAll_cons r0
  obtain ⟨v2, vs2, d2, ds2, p2, q2, rfl, rfl, rfl, h2, r2⟩ := trodAll_cons r1
  obtain ⟨rfl, rfl, rfl⟩ := trodAll_nil r2
  obtain rfl : args = #[v0, v1, v2] := by cases args; simp_all
  obtain ⟨rfl, rfl⟩ := trodVars_none hV
  simp only [List.append_nil] at hwt hW'
  have hwt : ∀ n ∈ DataW.weightsEach Try.prog [26, 28, 89] [d0, d1, d2], n ≤ reachBytes := by simpa using hwt
  have lt0 : ∀ x ∈ p0, x.block < W.heap.size := by obtain ⟨m, hm⟩ := h0; exact DataW.trod_lt m _ _ _ hm
  have lt1 : ∀ x ∈ p1, x.block < W.heap.size := by obtain ⟨m, hm⟩ := h1; exact DataW.trod_lt m _ _ _ hm
  have lt2 : ∀ x ∈ p2, x.block < W.heap.size := by obtain ⟨m, hm⟩ := h2; exact DataW.trod_lt m _ _ _ hm
  obtain ⟨x0, hs, e0⟩ := arg_shop h0 (fun n hn => hwt n (each_cons.2 (.inl hn)))
  obtain ⟨x1, _, e1⟩ := arg_agg readBat (by decide) h1 (fun n hn => hwt n (each_cons.2 (.inr (each_cons.2 (.inl hn)))))
  obtain ⟨x2, g2, e2⟩ := arg_agg readSix (by decide) h2 (fun n hn => hwt n (each_cons.2 (.inr (each_cons.2 (.inr (each_cons.2 (.inl hn)))))))
  clear hA0 hval0
  refine (walk13 hs g2 e0 e1 e2).mono fun e W' ⟨he, bel⟩ => ?_
  subst he
  exact ⟨_, rfl, _, _, _, [], _, [], hW', trodAll_mk1 (shut_bool Try.underlying4 _), (trodAll_cons_mk (Below.trod laidOutP (by kernel_rfl) (of_decide_eq_true (by kernel_rfl)) h0 bel lt0) (trodAll_cons_mk (Below.trod laidOutP (by kernel_rfl) (of_decide_eq_true (by kernel_rfl)) h1 bel lt1) (trodAll_cons_mk (Below.trod laidOutP (by kernel_rfl) (of_decide_eq_true (by kernel_rfl)) h2 bel lt2) trodAll_mk0))), rfl, bel.frame _, fun h => by cases h⟩
theorem colourMoreProved : Rows.ColourMoreSaid :=
  OpenClaim.holds_of_wide 13 Try.f13 rfl rfl rfl rfl rfl rfl rfl ⟨rfl, rfl, rfl, rfl, rfl⟩ rfl rfl rfl rfl rfl (by kernel_rfl) Try.func13 (by kernel_rfl)
    (of_decide_eq_true (by kernel_rfl)) (by unfold Func.isWrapper; first | (rw [if_pos (by decide +kernel)]; kernel_rfl) | (rw [if_neg (by decide +kernel)]; exact ⟨rfl, rfl⟩))
    (fun os started H enc _ => lifted13 os started H enc)
#print axioms colourMoreProved
end Go.Proofs.Ytpkjmnfgpbliaaa
