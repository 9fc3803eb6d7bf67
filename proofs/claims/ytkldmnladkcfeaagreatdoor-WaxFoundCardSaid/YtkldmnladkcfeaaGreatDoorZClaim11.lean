/-
  WaxFound returns true for every input, and each argument reads afterwards as it read before (the row, and the tied card). Conditions: none.
-/
import Derived.Test.YtkldmnladkcfeaaGreatDoorZLaw11
import Derived.Test.YtkldmnladkcfeaaGreatDoorZRowsB
import Derived.Test.YtkldmnladkcfeaaGreatDoorZWrap
import Derived.Test.YtkldmnladkcfeaaGreatDoorRows
import Derived.Test.YtkldmnladkcfeaaGreatDoorCards
import Derived.Test.YtkldmnladkcfeaaGreatDoorTie
import Derived.SevenTiedAt
namespace Go.Proofs.YtkldmnladkcfeaaGreatDoor
open Go Go.ChangeShapes Go.WideShapes Go.ChangeAt Go.RowKit
set_option linter.unusedVariables false
set_option linter.unusedSimpArgs false
theorem walk11 {w : World} {v0 v1 : Value} {x0 : Tbl} {x1 : Mlt} (hc : namesOk x0 ∧ mltOk x1) (hG : GlobIn (oldM w) w) (h0 : Rel (oldM w) w ((cAgg rTbl).enc x0) v0) (h1 : Rel (oldM w) w ((cAgg rMlt).enc x1) v1) :
    Calls Tryz.prog 11 #[v0, v1] w fun e w' => e = .returned (.bool true) ∧ Below w.heap.size w w' := by
  refine law_calls (P := Tryz.prog) (f := 11) (ds := [(cAgg rTbl).enc x0, (cAgg rMlt).enc x1]) (ok11 _ _ ?_) (vs := [v0, v1]) hG ⟨_, _, rfl, h0, _, _, rfl, h1, rfl⟩
  simp only [s11, sp2, cAgg_enc, cAgg_dec, rMlt.de, rTbl.de]
  rw [if_pos hc]; rfl
set_option maxRecDepth 100000 in
theorem lifted11 (os : Os) (started : os.Started) (H : Type) (enc : TypeId × Value → H) :
    ReturnsInHanded {} Tryz.checked os 11 .any (fun w args => (Rows.waxFoundSpec.pre enc Tryz.prog Tryz.f11 Rows.waxFoundRow.domain false w args ∧ laidMetH Tryz.prog Rows.waxFoundRow.laid w) ∧ sizedMet enc Tryz.prog Tryz.f11 (OpenSpec.ofChange Rows.waxFoundSpec) false w args) (Rows.waxFoundSpec.post enc Tryz.prog Tryz.f11 false true false false) := by
  refine handed_laid (C := Tryz.checked) (laid := Rows.waxFoundRow.laid) ownK started (by kernel_rfl) Tryz.func11
    (ChangeSpec.witness_shaped (enc := enc) (C := Tryz.checked) (os := os) (X := fun w _ => laidMetH Tryz.prog Rows.waxFoundRow.laid w) false (startW os) #[.agg #[.slice none 0 0, .slice none 0 0, .int .i64 0], .agg #[.int .u8 0, .int .u8 0, .int .u16 0, .slice none 0 0, .slice none 0 0, .int .u8 0]] 8 (World.laidAll_os _ _ _) (start_shaped os _) (by kernel_rfl) (by kernel_rfl) (by kernel_rfl) (start_met os _)) ?_
  intro W base args ds gs before hval0 hW hwt0 hSh hL
  have hG := glob_of hSh hL
  have hval : ∀ (j : Nat) t v, Tryz.f11.params[j]? = some t → args[j]? = some v → Value.okWide Tryz.prog W .any base t v := hval0
  have hW' := hW
  obtain ⟨p, q, hA0, hV, rfl, hfz, hnd⟩ := hW
  have hA : DataW.TrodAll enc Tryz.prog W 0 (fun _ => true) true Tryz.f11.params.toList args.toList ds p := hA0
  have hwt : (DataW.weightsEach Tryz.prog (Tryz.f11.params.toList ++ []) (ds ++ gs)).all (· ≤ reachBytes) = true := hwt0
  rw [Tryz.params11] at hA hwt hval
  obtain ⟨v0, vs0, d0, ds0, p0, q0, hargs, rfl, rfl, h0, r0⟩ := trodAll_cons hA
  obtain ⟨v1, vs1, d1, ds1, p1, q1, rfl, rfl, rfl, h1, r1⟩ := trodAll_cons r0
  obtain ⟨rfl, rfl, rfl⟩ := trodAll_nil r1
  obtain rfl : args = #[v0, v1] := by cases args; simp_all
  obtain ⟨rfl, rfl⟩ := trodVars_none hV
  simp only [List.append_nil] at hwt hW'
  have hwt : ∀ n ∈ DataW.weightsEach Tryz.prog [25, 60] [d0, d1], n ≤ reachBytes := by simpa using hwt
  have lt0 : ∀ x ∈ p0, x.block < W.heap.size := by obtain ⟨m, hm⟩ := h0; exact DataW.trod_lt m _ _ _ hm
  have lt1 : ∀ x ∈ p1, x.block < W.heap.size := by obtain ⟨m, hm⟩ := h1; exact DataW.trod_lt m _ _ _ hm
  obtain ⟨x0, g0, e0⟩ := arg_agg readTbl (by decide) h0 (fun n hn => hwt n (each_cons.2 (.inl hn)))
  obtain ⟨x1, g1, e1⟩ := arg_agg readMlt (by decide) h1 (fun n hn => hwt n (each_cons.2 (.inr (each_cons.2 (.inl hn)))))
  clear hA0 hval0
  refine (walk11 (⟨g0, g1⟩) hG e0 e1).mono fun e W' ⟨he, bel⟩ => ?_
  subst he
  exact ⟨_, rfl, _, _, _, [], _, [], hW', trodAll_mk1 (shut_bool Tryz.underlying4 _), (trodAll_cons_mk (Below.trod laidOutP (by kernel_rfl) (of_decide_eq_true (by kernel_rfl)) h0 bel lt0) (trodAll_cons_mk (Below.trod laidOutP (by kernel_rfl) (of_decide_eq_true (by kernel_rfl)) h1 bel lt1) trodAll_mk0)), rfl, bel.frame _, fun h => by cases h⟩
theorem waxFoundRowProved : Rows.WaxFoundSaid :=
  OpenClaim.holds_of_wide 11 Tryz.f11 rfl rfl rfl rfl rfl rfl rfl ⟨rfl, rfl, rfl, rfl, rfl⟩ rfl rfl rfl rfl rfl (by kernel_rfl) Tryz.func11 (by kernel_rfl)
    (of_decide_eq_true (by kernel_rfl)) (by unfold Func.isWrapper; first | (rw [if_pos (by decide +kernel)]; kernel_rfl) | (rw [if_neg (by decide +kernel)]; exact ⟨rfl, rfl⟩))
    (fun os started H enc _ => lifted11 os started H enc)
theorem waxFoundProved : Rows.WaxFoundCardSaid :=
  Claim7.holds_tied_plain_at .later [] [.data, .data, .data, .data, .sentinel, .sentinel, .pinned] true (true, "dcba7f7fecda1b285af31bb7f1c258d976b43d463039ec9ceaab3e7f0df4152c") true
    waxFoundRowProved (fun _ h => by cases h) (by kernel_rfl) (fun _ h => by cases h) waxFound_row_tie rfl ⟨rfl, rfl⟩ (by kernel_rfl) rfl
    (fun f fn hf hfn => by
      obtain rfl : f = 11 := Option.some.inj ((show Tryz.prog.funcNamed "stearin/stearinlaw01.WaxFound" = some 11 by kernel_rfl).symm.trans hf) |>.symm
      obtain rfl : fn = Tryz.f11 := (Option.some.inj (Tryz.func11.symm.trans hfn)).symm
      exact ⟨by kernel_rfl, fun j t ht => wants_none (l := [25, 60]) (by rw [Tryz.params11]) (by kernel_rfl) j t ht⟩)
    (by kernel_rfl)
#print axioms waxFoundProved
end Go.Proofs.YtkldmnladkcfeaaGreatDoor
