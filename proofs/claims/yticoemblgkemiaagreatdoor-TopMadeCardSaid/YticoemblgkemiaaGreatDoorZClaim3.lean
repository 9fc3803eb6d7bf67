/-
  TopMade returns true for every input, and each argument reads afterwards as it read before (the row, and the tied card). Conditions: none.
-/
import Derived.Test.YticoemblgkemiaaGreatDoorZRows
import Derived.Test.YticoemblgkemiaaGreatDoorCards
import Derived.Test.YticoemblgkemiaaGreatDoorTie
set_option linter.unusedSimpArgs false
set_option linter.unusedVariables false
namespace Go.Proofs.YticoemblgkemiaaGreatDoor
open Go Go.ChangeShapes Go.WideShapes Go.ChangeAt Go.RowKit
theorem QNP {w:World} {v0 v1:Value} {x0:List Bat} {x1:Mad} (hc:Qc0 x0/\QMm x1.ks/\Qlg x1.cards) (hG:GlobIn (QqW w) w) (h0:Rel (QqW w) w ((QJ QQ).enc x0) v0) (h1:Rel (QqW w) w ((Qcf QHd).enc x1) v1):
  Calls Tryz.prog 3 #[v0,v1] w λe w'=>e= .returned (.bool true)/\Below w.heap.size w w':=by
 refine Qxi (P:=Tryz.prog) (f:=3) (ds:=[(QJ QQ).enc x0,(Qcf QHd).enc x1]) (okj3 _ _ ?_) (vs:=[v0,v1]) hG ⟨_,_,rfl,h0,_,_,rfl,h1,rfl⟩;simp only[sj3,sp2,QmL,QaQ,QBH,QHd.de];rw[if_pos hc]; rfl
set_option maxRecDepth 100000 in
theorem QE0 (os:Os) (d9:os.Started) (H:Type) (enc:TypeId×Value->H):
  ReturnsInHanded {} Tryz.checked os 3 .any (λw args=>(Rows.topMadeSpec.pre enc Tryz.prog Tryz.f3 Rows.topMadeRow.domain false w args/\laidMetH Tryz.prog Rows.topMadeRow.laid w)/\sizedMet enc Tryz.prog Tryz.f3 (OpenSpec.ofChange Rows.topMadeSpec) false w args) (Rows.topMadeSpec.post enc Tryz.prog Tryz.f3 false true false false):=by
 refine QqM (C:=Tryz.checked) (laid:=Rows.topMadeRow.laid) ownK d9 (by kernel_rfl) Tryz.func3
  (ChangeSpec.witness_shaped (enc:=enc) (C:=Tryz.checked) (os:=os) (X:=λw _=>laidMetH Tryz.prog Rows.topMadeRow.laid w) false (QyZ os) #[.slice none 0 0,.agg #[.int .i64 0,.int .i64 0,.slice none 0 0,.slice none 0 0]] 8 (World.laidAll_os _ _ _) (QoL os _) (by kernel_rfl) (by kernel_rfl) (by kernel_rfl) (Qzd os _)) ?_
 intro W base args ds gs iK rM hW hwt0 hSh hL;have hG:=QHB hSh hL;have pR:∀(j:Nat) t v,Tryz.f3.params[j]?=some t->args[j]?=some v->Value.okWide Tryz.prog W .any base t v:=rM;have hW':=hW;obtain⟨p,q,pF,hV,rfl,dV,bZ⟩:=hW;have hA:DataW.TrodAll enc Tryz.prog W 0 (λ_=>true) true Tryz.f3.params.toList args.toList ds p:=pF;have lB:(DataW.weightsEach Tryz.prog (Tryz.f3.params.toList++[]) (ds++gs)).all (· <=reachBytes)=true:=hwt0;rw[Tryz.params3]at hA lB pR;obtain⟨v0,vs0,d0,ds0,p0,q0,aW,rfl,rfl,h0,r0⟩:=trodAll_cons hA;obtain⟨v1,vs1,d1,ds1,p1,q1,rfl,rfl,rfl,h1,r1⟩:=trodAll_cons r0;obtain⟨rfl,rfl,rfl⟩:=trodAll_nil r1;obtain rfl:args= #[v0,v1]:=by cases args; simp_all
 obtain⟨rfl,rfl⟩:=trodVars_none hV;simp only[List.append_nil]at lB hW';have lB:∀n∈DataW.weightsEach Tryz.prog [22,28] [d0,d1],n<=reachBytes:=by simpa using lB
 have lt0:∀x∈p0,x.block < W.heap.size:=by obtain⟨m,hm⟩:=h0; exact DataW.trod_lt m _ _ _ hm
 have lt1:∀x∈p1,x.block < W.heap.size:=by obtain⟨m,hm⟩:=h1; exact DataW.trod_lt m _ _ _ hm
 obtain⟨b0,n0,c0,rfl⟩:=okWide_slice Tryz.underlying22 (pR 0 22 v0 rfl rfl);obtain⟨x0,g0,e0⟩:=QEk QAW (λl=>(QJ QQ).enc l) (λ_=>rfl) rfl h0 (λn hn=>lB n (Qfw.2 (.inl hn)));obtain⟨x1,g1,e1⟩:=QEu QD1 (by decide) h1 (λn hn=>lB n (Qfw.2 (.inr (Qfw.2 (.inl hn)))))
 clear pF rM;refine(QNP (⟨g0,g1.1,g1.2⟩) hG e0 e1).mono λe W' ⟨he,bel⟩=>?_;subst he;exact⟨_,rfl,_,_,_,[],_,[],hW',trodAll_mk1 (shut_bool Tryz.underlying4 _),(trodAll_cons_mk (Below.trod Qti (by kernel_rfl) (of_decide_eq_true (by kernel_rfl)) h0 bel lt0) (trodAll_cons_mk (Below.trod Qti (by kernel_rfl) (of_decide_eq_true (by kernel_rfl)) h1 bel lt1) trodAll_mk0)),rfl,bel.frame _,λh=>by cases h⟩
theorem QK5:Tryz.pinned.checked.prog.funcNamed Rows.topMadeRow.func=some 3:=by kernel_rfl
theorem QIV:joinedFacts Tryz.pinned.checked.prog 3 Tryz.f3 Rows.topMadeSpec Rows.topMadeRow=true:=by kernel_rfl
theorem QJ7:Tryz.f3.isInstance Tryz.pinned.checked.prog Rows.topMadeRow.origin Rows.topMadeRow.targs:=of_decide_eq_true (by kernel_rfl)
theorem QKD:Tryz.f3.isWrapper Tryz.pinned.checked.prog Rows.topMadeRow.wrapper Rows.topMadeRow.mainSum:=by unfold Func.isWrapper; first | (rw[if_pos (by decide+kernel)]; kernel_rfl) | (rw[if_neg (by decide+kernel)]; exact⟨rfl,rfl⟩)
theorem topMadeRowProved:Rows.TopMadeSaid:=
 OpenClaim.holds_of_wide 3 Tryz.f3 rfl rfl rfl rfl rfl rfl rfl ⟨rfl,rfl,rfl,rfl,rfl⟩ rfl rfl rfl rfl rfl QK5 Tryz.func3 QIV QJ7 QKD
  (λos d9 H enc _=>QE0 os d9 H enc)
theorem topMadeProved:Rows.TopMadeCardSaid:=
 Claim7.holds_tied_plain_at .later [] [.data,.data,.data,.data,.sentinel,.sentinel,.pinned] true (true, "d47ee03d9ef91d9f66b4b1e518b95febb2d04a0d872826bc4a6c0f91e9fa35fc") true
  topMadeRowProved (λ_ h=>by cases h) (by kernel_rfl) (λ_ h=>by cases h) topMade_row_tie rfl ⟨rfl,rfl⟩ (by kernel_rfl) rfl
  (λf fn hf fL=>by
   obtain rfl:f=3:=Option.some.inj ((show Tryz.prog.funcNamed "stearin/stearintop.TopMade" =some 3 by kernel_rfl).symm.trans hf) |>.symm
   obtain rfl:fn=Tryz.f3:=(Option.some.inj (Tryz.func3.symm.trans fL)).symm;exact⟨by kernel_rfl,λj t ht=>QuQ (l:=[22,28]) (by rw[Tryz.params3]) (by kernel_rfl) j t ht⟩)
  (by kernel_rfl)
#print axioms topMadeProved
end Go.Proofs.YticoemblgkemiaaGreatDoor
