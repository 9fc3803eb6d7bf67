/-
  TopSorted returns true for every input, and each argument reads afterwards as it read before (the row, and the tied card). Conditions: none.
-/
import Derived.Test.YticoemblgkemiaaGreatDoorZSrtM
import Derived.Test.YticoemblgkemiaaGreatDoorZRows
import Derived.Test.YticoemblgkemiaaGreatDoorRows
import Derived.Test.YticoemblgkemiaaGreatDoorCards
import Derived.Test.YticoemblgkemiaaGreatDoorTie
import Derived.SevenTiedAt
set_option linter.unusedSimpArgs false
set_option linter.unusedVariables false
namespace Go.Proofs.YticoemblgkemiaaGreatDoor
open Go Go.ChangeShapes Go.WideShapes Go.ChangeAt Go.RowKit
theorem Q2n {w:World} {v0 v1:Value} {x0:Tbl} {x1:Std} (hc:QQh x0∧(∀m∈x1.melts,QRx m)∧QQZ x1.grams) (hG:GlobIn (QqW w) w) (h0:Rel (QqW w) w ((Qcf QRf).enc x0) v0) (h1:Rel (QqW w) w ((Qcf Q0u).enc x1) v1):
  Calls Tryz.prog 4 #[v0,v1] w fun e w'=>e= .returned (.bool true)∧Below w.heap.size w w':=by
 refine Qxi (P:=Tryz.prog) (f:=4) (ds:=[(Qcf QRf).enc x0,(Qcf Q0u).enc x1]) (okj4 _ _ ?_) (vs:=[v0,v1]) hG ⟨_,_,rfl,h0,_,_,rfl,h1,rfl⟩;simp only[sj4,sp2,QmL,QaQ,Q0u.de,QRf.de];rw[if_pos hc]; rfl
set_option maxRecDepth 100000 in
theorem Q0j (os:Os) (started:os.Started) (H:Type) (enc:TypeId×Value→H):
  ReturnsInHanded {} Tryz.checked os 4 .any (fun w args=>(Rows.topSortedSpec.pre enc Tryz.prog Tryz.f4 Rows.topSortedRow.domain false w args∧laidMetH Tryz.prog Rows.topSortedRow.laid w)∧sizedMet enc Tryz.prog Tryz.f4 (OpenSpec.ofChange Rows.topSortedSpec) false w args) (Rows.topSortedSpec.post enc Tryz.prog Tryz.f4 false true false false):=by
 refine QqM (C:=Tryz.checked) (laid:=Rows.topSortedRow.laid) ownK started (by kernel_rfl) Tryz.func4
  (ChangeSpec.witness_shaped (enc:=enc) (C:=Tryz.checked) (os:=os) (X:=fun w _=>laidMetH Tryz.prog Rows.topSortedRow.laid w) false (QyZ os) #[.agg #[.slice none 0 0,.slice none 0 0,.int .i64 0],.agg #[.int .i64 0,.int .i64 0,.slice none 0 0,.slice none 0 0]] 8 (World.laidAll_os _ _ _) (QoL os _) (by kernel_rfl) (by kernel_rfl) (by kernel_rfl) (Qzd os _)) ?_
 intro W base args ds gs before hval0 hW hwt0 hSh hL;have hG:=QHB hSh hL;have hval:∀(j:Nat) t v,Tryz.f4.params[j]?=some t→args[j]?=some v→Value.okWide Tryz.prog W .any base t v:=hval0;have hW':=hW;obtain⟨p,q,hA0,hV,rfl,hfz,hnd⟩:=hW;have hA:DataW.TrodAll enc Tryz.prog W 0 (fun _=>true) true Tryz.f4.params.toList args.toList ds p:=hA0;have hwt:(DataW.weightsEach Tryz.prog (Tryz.f4.params.toList++[]) (ds++gs)).all (· ≤reachBytes)=true:=hwt0;rw[Tryz.params4]at hA hwt hval;obtain⟨v0,vs0,d0,ds0,p0,q0,hargs,rfl,rfl,h0,r0⟩:=trodAll_cons hA;obtain⟨v1,vs1,d1,ds1,p1,q1,rfl,rfl,rfl,h1,r1⟩:=trodAll_cons r0;obtain⟨rfl,rfl,rfl⟩:=trodAll_nil r1;obtain rfl:args= #[v0,v1]:=by cases args; simp_all
 obtain⟨rfl,rfl⟩:=trodVars_none hV;simp only[List.append_nil]at hwt hW';have hwt:∀n∈DataW.weightsEach Tryz.prog [59,63] [d0,d1],n≤reachBytes:=by simpa using hwt
 have lt0:∀x∈p0,x.block < W.heap.size:=by obtain⟨m,hm⟩:=h0; exact DataW.trod_lt m _ _ _ hm
 have lt1:∀x∈p1,x.block < W.heap.size:=by obtain⟨m,hm⟩:=h1; exact DataW.trod_lt m _ _ _ hm
 obtain⟨x0,g0,e0⟩:=QEu QZN (by decide) h0 (fun n hn=>hwt n (Qfw.2 (.inl hn)))
 obtain⟨x1,g1,e1⟩:=QEu QZR (by decide) h1 (fun n hn=>hwt n (Qfw.2 (.inr (Qfw.2 (.inl hn)))))
 clear hA0 hval0;refine(Q2n (⟨g0,g1.1,g1.2⟩) hG e0 e1).mono fun e W' ⟨he,bel⟩=>?_;subst he;exact⟨_,rfl,_,_,_,[],_,[],hW',trodAll_mk1 (shut_bool Tryz.underlying4 _),(trodAll_cons_mk (Below.trod Qti (by kernel_rfl) (of_decide_eq_true (by kernel_rfl)) h0 bel lt0) (trodAll_cons_mk (Below.trod Qti (by kernel_rfl) (of_decide_eq_true (by kernel_rfl)) h1 bel lt1) trodAll_mk0)),rfl,bel.frame _,fun h=>by cases h⟩
theorem Q13:Tryz.pinned.checked.prog.funcNamed Rows.topSortedRow.func=some 4:=by kernel_rfl
theorem Q1M:joinedFacts Tryz.pinned.checked.prog 4 Tryz.f4 Rows.topSortedSpec Rows.topSortedRow=true:=by kernel_rfl
theorem Q1J:Tryz.f4.isInstance Tryz.pinned.checked.prog Rows.topSortedRow.origin Rows.topSortedRow.targs:=of_decide_eq_true (by kernel_rfl)
theorem Q05:Tryz.f4.isWrapper Tryz.pinned.checked.prog Rows.topSortedRow.wrapper Rows.topSortedRow.mainSum:=by unfold Func.isWrapper; first | (rw[if_pos (by decide+kernel)]; kernel_rfl) | (rw[if_neg (by decide+kernel)]; exact⟨rfl,rfl⟩)
theorem topSortedRowProved:Rows.TopSortedSaid:=
 OpenClaim.holds_of_wide 4 Tryz.f4 rfl rfl rfl rfl rfl rfl rfl ⟨rfl,rfl,rfl,rfl,rfl⟩ rfl rfl rfl rfl rfl Q13 Tryz.func4 Q1M Q1J Q05
  (fun os started H enc _=>Q0j os started H enc)
theorem topSortedProved:Rows.TopSortedCardSaid:=
 Claim7.holds_tied_plain_at .later [] [.data,.data,.data,.data,.sentinel,.sentinel,.pinned] true (true, "d47ee03d9ef91d9f66b4b1e518b95febb2d04a0d872826bc4a6c0f91e9fa35fc") true
  topSortedRowProved (fun _ h=>by cases h) (by kernel_rfl) (fun _ h=>by cases h) topSorted_row_tie rfl ⟨rfl,rfl⟩ (by kernel_rfl) rfl
  (fun f fn hf hfn=>by
   obtain rfl:f=4:=Option.some.inj ((show Tryz.prog.funcNamed "stearin/stearintop.TopSorted" =some 4 by kernel_rfl).symm.trans hf) |>.symm
   obtain rfl:fn=Tryz.f4:=(Option.some.inj (Tryz.func4.symm.trans hfn)).symm;exact⟨by kernel_rfl,fun j t ht=>QuQ (l:=[59,63]) (by rw[Tryz.params4]) (by kernel_rfl) j t ht⟩)
  (by kernel_rfl)
#print axioms topSortedProved
end Go.Proofs.YticoemblgkemiaaGreatDoor
