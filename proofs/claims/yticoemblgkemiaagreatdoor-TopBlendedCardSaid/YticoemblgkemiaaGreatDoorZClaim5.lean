/-
  TopBlended returns true for every input, and each argument reads afterwards as it read before (the row, and the tied card). Conditions: none.
-/
import Derived.Test.YticoemblgkemiaaGreatDoorZBldM
import Derived.Test.YticoemblgkemiaaGreatDoorZRows
import Derived.Test.YticoemblgkemiaaGreatDoorRows
import Derived.Test.YticoemblgkemiaaGreatDoorCards
import Derived.Test.YticoemblgkemiaaGreatDoorTie
import Derived.SevenTiedAt
set_option linter.unusedSimpArgs false
set_option linter.unusedVariables false
namespace Go.Proofs.YticoemblgkemiaaGreatDoor
open Go Go.ChangeShapes Go.WideShapes Go.ChangeAt Go.RowKit
theorem Q9V {w:World} {v0 v1:Value} {x0:Tbl} {x1:Ble} (hc:QQh x0∧Q4G x1) (hG:GlobIn (QqW w) w) (h0:Rel (QqW w) w ((Qcf QRf).enc x0) v0) (h1:Rel (QqW w) w ((Qcf Q76).enc x1) v1):
  Calls Tryz.prog 5 #[v0,v1] w fun e w'=>e= .returned (.bool true)∧Below w.heap.size w w':=by
 refine Qxi (P:=Tryz.prog) (f:=5) (ds:=[(Qcf QRf).enc x0,(Qcf Q76).enc x1]) (okj5 _ _ ?_) (vs:=[v0,v1]) hG ⟨_,_,rfl,h0,_,_,rfl,h1,rfl⟩;simp only[sj5,sp2,QmL,QaQ,Q76.de,QRf.de];rw[if_pos hc]; rfl
set_option maxRecDepth 100000 in
theorem Q7D (os:Os) (started:os.Started) (H:Type) (enc:TypeId×Value→H):
  ReturnsInHanded {} Tryz.checked os 5 .any (fun w args=>(Rows.topBlendedSpec.pre enc Tryz.prog Tryz.f5 Rows.topBlendedRow.domain false w args∧laidMetH Tryz.prog Rows.topBlendedRow.laid w)∧sizedMet enc Tryz.prog Tryz.f5 (OpenSpec.ofChange Rows.topBlendedSpec) false w args) (Rows.topBlendedSpec.post enc Tryz.prog Tryz.f5 false true false false):=by
 refine QqM (C:=Tryz.checked) (laid:=Rows.topBlendedRow.laid) ownK started (by kernel_rfl) Tryz.func5
  (ChangeSpec.witness_shaped (enc:=enc) (C:=Tryz.checked) (os:=os) (X:=fun w _=>laidMetH Tryz.prog Rows.topBlendedRow.laid w) false (QyZ os) #[.agg #[.slice none 0 0,.slice none 0 0,.int .i64 0],.agg #[.int .u8 0,.int .u8 0,.int .u8 0,.int .u8 0,.int .u32 0]] 8 (World.laidAll_os _ _ _) (QoL os _) (by kernel_rfl) (by kernel_rfl) (by kernel_rfl) (Qzd os _)) ?_
 intro W base args ds gs before hval0 hW hwt0 hSh hL;have hG:=QHB hSh hL;have hval:∀(j:Nat) t v,Tryz.f5.params[j]?=some t→args[j]?=some v→Value.okWide Tryz.prog W .any base t v:=hval0;have hW':=hW;obtain⟨p,q,hA0,hV,rfl,hfz,hnd⟩:=hW;have hA:DataW.TrodAll enc Tryz.prog W 0 (fun _=>true) true Tryz.f5.params.toList args.toList ds p:=hA0;have hwt:(DataW.weightsEach Tryz.prog (Tryz.f5.params.toList++[]) (ds++gs)).all (· ≤reachBytes)=true:=hwt0;rw[Tryz.params5]at hA hwt hval;obtain⟨v0,vs0,d0,ds0,p0,q0,hargs,rfl,rfl,h0,r0⟩:=trodAll_cons hA;obtain⟨v1,vs1,d1,ds1,p1,q1,rfl,rfl,rfl,h1,r1⟩:=trodAll_cons r0;obtain⟨rfl,rfl,rfl⟩:=trodAll_nil r1;obtain rfl:args= #[v0,v1]:=by cases args; simp_all
 obtain⟨rfl,rfl⟩:=trodVars_none hV;simp only[List.append_nil]at hwt hW';have hwt:∀n∈DataW.weightsEach Tryz.prog [59,74] [d0,d1],n≤reachBytes:=by simpa using hwt
 have lt0:∀x∈p0,x.block < W.heap.size:=by obtain⟨m,hm⟩:=h0; exact DataW.trod_lt m _ _ _ hm
 have lt1:∀x∈p1,x.block < W.heap.size:=by obtain⟨m,hm⟩:=h1; exact DataW.trod_lt m _ _ _ hm
 obtain⟨x0,g0,e0⟩:=QEu QZN (by decide) h0 (fun n hn=>hwt n (Qfw.2 (.inl hn)))
 obtain⟨x1,g1,e1⟩:=QEu Q8r (by decide) h1 (fun n hn=>hwt n (Qfw.2 (.inr (Qfw.2 (.inl hn)))))
 clear hA0 hval0;refine(Q9V (⟨g0,g1⟩) hG e0 e1).mono fun e W' ⟨he,bel⟩=>?_;subst he;exact⟨_,rfl,_,_,_,[],_,[],hW',trodAll_mk1 (shut_bool Tryz.underlying4 _),(trodAll_cons_mk (Below.trod Qti (by kernel_rfl) (of_decide_eq_true (by kernel_rfl)) h0 bel lt0) (trodAll_cons_mk (Below.trod Qti (by kernel_rfl) (of_decide_eq_true (by kernel_rfl)) h1 bel lt1) trodAll_mk0)),rfl,bel.frame _,fun h=>by cases h⟩
theorem Q9y:Tryz.pinned.checked.prog.funcNamed Rows.topBlendedRow.func=some 5:=by kernel_rfl
theorem Q9r:joinedFacts Tryz.pinned.checked.prog 5 Tryz.f5 Rows.topBlendedSpec Rows.topBlendedRow=true:=by kernel_rfl
theorem Q8T:Tryz.f5.isInstance Tryz.pinned.checked.prog Rows.topBlendedRow.origin Rows.topBlendedRow.targs:=of_decide_eq_true (by kernel_rfl)
theorem Q9w:Tryz.f5.isWrapper Tryz.pinned.checked.prog Rows.topBlendedRow.wrapper Rows.topBlendedRow.mainSum:=by unfold Func.isWrapper; first | (rw[if_pos (by decide+kernel)]; kernel_rfl) | (rw[if_neg (by decide+kernel)]; exact⟨rfl,rfl⟩)
theorem topBlendedRowProved:Rows.TopBlendedSaid:=
 OpenClaim.holds_of_wide 5 Tryz.f5 rfl rfl rfl rfl rfl rfl rfl ⟨rfl,rfl,rfl,rfl,rfl⟩ rfl rfl rfl rfl rfl Q9y Tryz.func5 Q9r Q8T Q9w
  (fun os started H enc _=>Q7D os started H enc)
theorem topBlendedProved:Rows.TopBlendedCardSaid:=
 Claim7.holds_tied_plain_at .later [] [.data,.data,.data,.data,.sentinel,.sentinel,.pinned] true (true, "d47ee03d9ef91d9f66b4b1e518b95febb2d04a0d872826bc4a6c0f91e9fa35fc") true
  topBlendedRowProved (fun _ h=>by cases h) (by kernel_rfl) (fun _ h=>by cases h) topBlended_row_tie rfl ⟨rfl,rfl⟩ (by kernel_rfl) rfl
  (fun f fn hf hfn=>by
   obtain rfl:f=5:=Option.some.inj ((show Tryz.prog.funcNamed "stearin/stearintop.TopBlended" =some 5 by kernel_rfl).symm.trans hf) |>.symm
   obtain rfl:fn=Tryz.f5:=(Option.some.inj (Tryz.func5.symm.trans hfn)).symm;exact⟨by kernel_rfl,fun j t ht=>QuQ (l:=[59,74]) (by rw[Tryz.params5]) (by kernel_rfl) j t ht⟩)
  (by kernel_rfl)
#print axioms topBlendedProved
end Go.Proofs.YticoemblgkemiaaGreatDoor
