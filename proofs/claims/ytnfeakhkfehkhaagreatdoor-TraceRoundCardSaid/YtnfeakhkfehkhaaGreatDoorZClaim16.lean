/-
  TraceRound returns true for every input, and each argument reads afterwards as it read before (the row, and the tied card). Conditions: none.
-/
import Derived.Test.YtnfeakhkfehkhaaGreatDoorZLaw16
import Derived.Test.YtnfeakhkfehkhaaGreatDoorZRows
import Derived.Test.YtnfeakhkfehkhaaGreatDoorCards
import Derived.Test.YtnfeakhkfehkhaaGreatDoorTie
set_option linter.unusedSimpArgs false
set_option linter.unusedVariables false
namespace Go.Proofs.YtnfeakhkfehkhaaGreatDoor
open Go Go.ChangeShapes Go.WideShapes Go.ChangeAt Go.RowKit
theorem QPv {w:World} {v0 v1:Value} {x0:List Bat} {x1:ByteArray} (hc:QcC x0) (hG:GlobIn (Qov w) w) (h0:Rel (Qov w) w ((Qy QO).enc x0) v0) (h1:Rel (Qov w) w (QmM.enc x1) v1):
  Calls Tryz.prog 16 #[v0,v1] w λe w'=>e= .returned (.bool true)/\Below w.heap.size w w':=by
 refine QtR (P:=Tryz.prog) (f:=16) (ds:=[(Qy QO).enc x0,QmM.enc x1]) (ok16 _ _ ?_) (vs:=[v0,v1]) hG ⟨_,_,rfl,h0,_,_,rfl,h1,rfl⟩;simp only[s16,sp2,Qqg,Qbq,Qyh,QKb];rw[if_pos hc]; rfl
set_option maxRecDepth 100000 in
theorem QPr (os:Os) (d5:os.Started) (H:Type) (enc:TypeId×Value->H):
  ReturnsInHanded {} Tryz.checked os 16 .any (λw args=>(Rows.traceRoundSpec.pre enc Tryz.prog Tryz.f16 Rows.traceRoundRow.domain false w args/\laidMetH Tryz.prog Rows.traceRoundRow.laid w)/\sizedMet enc Tryz.prog Tryz.f16 (OpenSpec.ofChange Rows.traceRoundSpec) false w args) (Rows.traceRoundSpec.post enc Tryz.prog Tryz.f16 false true false false):=by
 refine QoO (C:=Tryz.checked) (laid:=Rows.traceRoundRow.laid) QQG d5 (by kernel_rfl) Tryz.func16
  (ChangeSpec.witness_shaped (enc:=enc) (C:=Tryz.checked) (os:=os) (X:=λw _=>laidMetH Tryz.prog Rows.traceRoundRow.laid w) false (Qui os) #[.slice none 0 0,.string ⟨#[]⟩] 8 (World.laidAll_os _ _ _) (Qnn os _) (by kernel_rfl) (by kernel_rfl) (by kernel_rfl) (QuR os _)) ?_
 intro W base args ds gs iB qQ hW hwt0 hSh hL;have hG:=QBQ hSh hL;have lC:∀(j:Nat) t v,Tryz.f16.params[j]?=some t->args[j]?=some v->Value.okWide Tryz.prog W .any base t v:=qQ;have hW':=hW;obtain⟨p,q,qB,hV,rfl,dT,cB⟩:=hW;have hA:DataW.TrodAll enc Tryz.prog W 0 (λ_=>true) true Tryz.f16.params.toList args.toList ds p:=qB;have kK:(DataW.weightsEach Tryz.prog (Tryz.f16.params.toList++[]) (ds++gs)).all (· <=reachBytes)=true:=hwt0;rw[Tryz.params16]at hA kK lC;obtain⟨v0,vs0,d0,ds0,p0,q0,aY,rfl,rfl,h0,r0⟩:=trodAll_cons hA;obtain⟨v1,vs1,d1,ds1,p1,q1,rfl,rfl,rfl,h1,r1⟩:=trodAll_cons r0;obtain⟨rfl,rfl,rfl⟩:=trodAll_nil r1;obtain rfl:args= #[v0,v1]:=by cases args; simp_all
 obtain⟨rfl,rfl⟩:=trodVars_none hV;simp only[List.append_nil]at kK hW';have kK:∀n∈DataW.weightsEach Tryz.prog [22,9] [d0,d1],n<=reachBytes:=by simpa using kK
 have lt0:∀x∈p0,x.block < W.heap.size:=by obtain⟨m,hm⟩:=h0; exact DataW.trod_lt m _ _ _ hm
 have lt1:∀x∈p1,x.block < W.heap.size:=by obtain⟨m,hm⟩:=h1; exact DataW.trod_lt m _ _ _ hm
 obtain⟨b0,n0,c0,rfl⟩:=okWide_slice Tryz.underlying22 (lC 0 22 v0 rfl rfl);obtain⟨x0,g0,e0⟩:=QoK QxR (λl=>(Qy QO).enc l) (λ_=>rfl) rfl h0 (λn hn=>kK n (Qcz.2 (.inl hn)));obtain⟨b1,rfl⟩:=okWide_string Tryz.underlying9 (lC 1 9 v1 rfl rfl);obtain⟨x1,g1,e1⟩:=QoK QHY (λs=>QmM.enc s) (λ_=>rfl) rfl h1 (λn hn=>kK n (Qcz.2 (.inr (Qcz.2 (.inl hn)))));clear qB qQ;refine(QPv (g0) hG e0 e1).mono λe W' ⟨he,zP⟩=>?_;subst he;exact⟨_,rfl,_,_,_,[],_,[],hW',trodAll_mk1 (shut_bool Tryz.underlying4 _),(trodAll_cons_mk (Below.trod Ql4 (by kernel_rfl) (of_decide_eq_true (by kernel_rfl)) h0 zP lt0) (trodAll_cons_mk (Below.trod Ql4 (by kernel_rfl) (of_decide_eq_true (by kernel_rfl)) h1 zP lt1) trodAll_mk0)),rfl,zP.frame _,λh=>by cases h⟩
theorem traceRoundRowProved:Rows.TraceRoundSaid:=
 OpenClaim.holds_of_wide 16 Tryz.f16 rfl rfl rfl rfl rfl rfl rfl ⟨rfl,rfl,rfl,rfl,rfl⟩ rfl rfl rfl rfl rfl (by kernel_rfl) Tryz.func16 (by kernel_rfl)
  (of_decide_eq_true (by kernel_rfl)) (by unfold Func.isWrapper; first | (rw[if_pos (by decide+kernel)]; kernel_rfl) | (rw[if_neg (by decide+kernel)]; exact⟨rfl,rfl⟩))
  (λos d5 H enc _=>QPr os d5 H enc)
theorem traceRoundProved:Rows.TraceRoundCardSaid:=
 Claim7.holds_tied_plain_at .later [] [.data,.data,.data,.data,.sentinel,.sentinel,.pinned] true (true, "e895634384156d47f9b259d7b5c512773a1f38cb49a0a56832fa40143062f964") true
  traceRoundRowProved (λ_ h=>by cases h) (by kernel_rfl) (λ_ h=>by cases h) traceRound_row_tie rfl ⟨rfl,rfl⟩ (by kernel_rfl) rfl
  (λf fn hf fF=>by
   obtain rfl:f=16:=Option.some.inj ((show Tryz.prog.funcNamed "stearin/stearinlaw12.TraceRound" =some 16 by kernel_rfl).symm.trans hf) |>.symm
   obtain rfl:fn=Tryz.f16:=(Option.some.inj (Tryz.func16.symm.trans fF)).symm;exact⟨by kernel_rfl,λj t ht=>Qsu (l:=[22,9]) (by rw[Tryz.params16]) (by kernel_rfl) j t ht⟩)
  (by kernel_rfl)
#print axioms traceRoundProved
end Go.Proofs.YtnfeakhkfehkhaaGreatDoor
