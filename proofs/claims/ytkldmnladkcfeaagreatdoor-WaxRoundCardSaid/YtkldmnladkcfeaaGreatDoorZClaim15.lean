/-
  WaxRound returns true for every input, and each argument reads afterwards as it read before (the row, and the tied card). Conditions: none.
-/
import Derived.Test.YtkldmnladkcfeaaGreatDoorZLaw15
import Derived.Test.YtkldmnladkcfeaaGreatDoorZRowsB
import Derived.Test.YtkldmnladkcfeaaGreatDoorZWrap
import Derived.Test.YtkldmnladkcfeaaGreatDoorRows
import Derived.Test.YtkldmnladkcfeaaGreatDoorCards
import Derived.Test.YtkldmnladkcfeaaGreatDoorTie
import Derived.SevenTiedAt
namespace Go.Proofs.YtkldmnladkcfeaaGreatDoor
open Go Go.ChangeShapes Go.WideShapes Go.ChangeAt Go.RowKit
set_option linter.unusedVariables false
set_option linter.unusedSimpArgs false
theorem walk15 {w : World} {v0 v1 : Value} {x0 : Tbl} {x1 : ByteArray} (hc : namesOk x0) (hG : GlobIn (oldM w) w) (h0 : Rel (oldM w) w ((cAgg rTbl).enc x0) v0) (h1 : Rel (oldM w) w (cStr.enc x1) v1) :
    Calls Tryz.prog 15 #[v0, v1] w fun e w' => e = .returned (.bool true) ∧ Below w.heap.size w w' := by
  refine law_calls (P := Tryz.prog) (f := 15) (ds := [(cAgg rTbl).enc x0, cStr.enc x1]) (ok15 _ _ ?_) (vs := [v0, v1]) hG ⟨_, _, rfl, h0, _, _, rfl, h1, rfl⟩
  simp only [s15, sp2, cAgg_enc, cAgg_dec, cStr_de, rTbl.de]
  rw [if_pos hc]; rfl
set_option maxRecDepth 100000 in
theorem lifted15 (os : Os) (started : os.Started) (H : Type) (enc : TypeId × Value → H) :
    ReturnsInHanded {} Tryz.checked os 15 .any (fun w args => (Rows.waxRoundSpec.pre enc Tryz.prog Tryz.f15 Rows.waxRoundRow.domain false w args ∧ laidMetH Tryz.prog Rows.waxRoundRow.laid w) ∧ sizedMet enc Tryz.prog Tryz.f15 (OpenSpec.ofChange Rows.waxRoundSpec) false w args) (Rows.waxRoundSpec.post enc Tryz.prog Tryz.f15 false true false false) := by
  refine handed_laid (C := Tryz.checked) (laid := Rows.waxRoundRow.laid) ownK started (by kernel_rfl) Tryz.func15
    (ChangeSpec.witness_shaped (enc := enc) (C := Tryz.checked) (os := os) (X := fun w _ => laidMetH Tryz.prog Rows.waxRoundRow.laid w) false (startW os) #[.agg #[.slice none 0 0, .slice none 0 0, .int .i64 0], .string ⟨#[]⟩] 8 (World.laidAll_os _ _ _) (start_shaped os _) (by kernel_rfl) (by kernel_rfl) (by kernel_rfl) (start_met os _)) ?_
  intro W base args ds gs before hval0 hW hwt0 hSh hL
  have hG := glob_of hSh hL
  have hval : ∀ (j : Nat) t v, Tryz.f15.params[j]? = some t → args[j]? = some v → Value.okWide Tryz.prog W .any base t v := hval0
  have hW' := hW
  obtain ⟨p, q, hA0, hV, rfl, hfz, hnd⟩ := hW
  have hA : DataW.TrodAll enc Tryz.prog W 0 (fun _ => true) true Tryz.f15.params.toList args.toList ds p := hA0
  have hwt : (DataW.weightsEach Tryz.prog (Tryz.f15.params.toList ++ []) (ds ++ gs)).all (· ≤ reachBytes) = true := hwt0
  rw [Tryz.params15] at hA hwt hval
  obtain ⟨v0, vs0, d0, ds0, p0, q0, hargs, rfl, rfl, h0, r0⟩ := trodAll_cons hA
  obtain ⟨v1, vs1, d1, ds1, p1, q1, rfl, rfl, rfl, h1, r1⟩ := trodAll_cons r0
  obtain ⟨rfl, rfl, rfl⟩ := trodAll_nil r1
  obtain rfl : args = #[v0, v1] := by cases args; simp_all
  obtain ⟨rfl, rfl⟩ := trodVars_none hV
  simp only [List.append_nil] at hwt hW'
  have hwt : ∀ n ∈ DataW.weightsEach Tryz.prog [25, 9] [d0, d1], n ≤ reachBytes := by simpa using hwt
  have lt0 : ∀ x ∈ p0, x.block < W.heap.size := by obtain ⟨m, hm⟩ := h0; exact DataW.trod_lt m _ _ _ hm
  have lt1 : ∀ x ∈ p1, x.block < W.heap.size := by obtain ⟨m, hm⟩ := h1; exact DataW.trod_lt m _ _ _ hm
  obtain ⟨x0, g0, e0⟩ := arg_agg readTbl (by decide) h0 (fun n hn => hwt n (each_cons.2 (.inl hn)))
  obtain ⟨b1, rfl⟩ := okWide_string Tryz.underlying9 (hval 1 9 v1 rfl rfl)
  obtain ⟨x1, g1, e1⟩ := arg_one readS (fun s => cStr.enc s) (fun _ => rfl) rfl h1 (fun n hn => hwt n (each_cons.2 (.inr (each_cons.2 (.inl hn)))))
  clear hA0 hval0
  refine (walk15 (g0) hG e0 e1).mono fun e W' ⟨he, bel⟩ => ?_
  subst he
  exact ⟨_, rfl, _, _, _, [], _, [], hW', trodAll_mk1 (shut_bool Tryz.underlying4 _), (trodAll_cons_mk (Below.trod laidOutP (by kernel_rfl) (of_decide_eq_true (by kernel_rfl)) h0 bel lt0) (trodAll_cons_mk (Below.trod laidOutP (by kernel_rfl) (of_decide_eq_true (by kernel_rfl)) h1 bel lt1) trodAll_mk0)), rfl, bel.frame _, fun h => by cases h⟩
theorem waxRoundRowProved : Rows.WaxRoundSaid :=
  OpenClaim.holds_of_wide 15 Tryz.f15 rfl rfl rfl rfl rfl rfl rfl ⟨rfl, rfl, rfl, rfl, rfl⟩ rfl rfl rfl rfl rfl (by kernel_rfl) Tryz.func15 (by kernel_rfl)
    (of_decide_eq_true (by kernel_rfl)) (by unfold Func.isWrapper; first | (rw [if_pos (by decide +kernel)]; kernel_rfl) | (rw [if_neg (by decide +kernel)]; exact ⟨rfl, rfl⟩))
    (fun os started H enc _ => lifted15 os started H enc)
theorem waxRoundProved : Rows.WaxRoundCardSaid :=
  Claim7.holds_tied_plain_at .later [] [.data, .data, .data, .data, .sentinel, .sentinel, .pinned] true (true, "dcba7f7fecda1b285af31bb7f1c258d976b43d463039ec9ceaab3e7f0df4152c") true
    waxRoundRowProved (fun _ h => by cases h) (by kernel_rfl) (fun _ h => by cases h) waxRound_row_tie rfl ⟨rfl, rfl⟩ (by kernel_rfl) rfl
    (fun f fn hf hfn => by
      obtain rfl : f = 15 := Option.some.inj ((show Tryz.prog.funcNamed "stearin/stearinlaw01.WaxRound" = some 15 by kernel_rfl).symm.trans hf) |>.symm
      obtain rfl : fn = Tryz.f15 := (Option.some.inj (Tryz.func15.symm.trans hfn)).symm
      exact ⟨by kernel_rfl, fun j t ht => wants_none (l := [25, 9]) (by rw [Tryz.params15]) (by kernel_rfl) j t ht⟩)
    (by kernel_rfl)
#print axioms waxRoundProved
end Go.Proofs.YtkldmnladkcfeaaGreatDoor
