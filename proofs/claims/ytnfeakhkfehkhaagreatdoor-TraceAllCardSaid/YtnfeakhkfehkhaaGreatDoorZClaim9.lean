/-
  TraceAll returns true for every input, and each argument reads afterwards as it read before (the row, and the tied card). Conditions: none.
-/
import Derived.Test.YtnfeakhkfehkhaaGreatDoorZLaw9
import Derived.Test.YtnfeakhkfehkhaaGreatDoorZRowsB
import Derived.Test.YtnfeakhkfehkhaaGreatDoorCards
import Derived.Test.YtnfeakhkfehkhaaGreatDoorTie
set_option linter.unusedSimpArgs false
set_option linter.unusedVariables false
namespace Go.Proofs.YtnfeakhkfehkhaaGreatDoor
open Go Go.ChangeShapes Go.WideShapes Go.ChangeAt Go.RowKit
theorem QRG {w:World} {v0 v1:Value} {x0:List Bat} {x1:Int} (hc:QcC x0/\QLK x1) (hG:GlobIn (Qov w) w) (h0:Rel (Qov w) w ((Qy QO).enc x0) v0) (h1:Rel (Qov w) w ((cK .u8).enc x1) v1):
  Calls Tryz.prog 9 #[v0,v1] w λe w'=>e= .returned (.bool true)/\Below w.heap.size w w':=by
 refine QtR (P:=Tryz.prog) (f:=9) (ds:=[(Qy QO).enc x0,(cK .u8).enc x1]) (ok9 _ _ ?_) (vs:=[v0,v1]) hG ⟨_,_,rfl,h0,_,_,rfl,h1,rfl⟩;simp only[s9,sp2,Qyh,QNF];rw[if_pos hc]; rfl
set_option maxRecDepth 100000 in
theorem QRl (os:Os) (d5:os.Started) (H:Type) (enc:TypeId×Value->H):
  ReturnsInHanded {} Tryz.checked os 9 .any (λw args=>(Rows.traceAllSpec.pre enc Tryz.prog Tryz.f9 Rows.traceAllRow.domain false w args/\laidMetH Tryz.prog Rows.traceAllRow.laid w)/\sizedMet enc Tryz.prog Tryz.f9 (OpenSpec.ofChange Rows.traceAllSpec) false w args) (Rows.traceAllSpec.post enc Tryz.prog Tryz.f9 false true false false):=by
 refine QoO (C:=Tryz.checked) (laid:=Rows.traceAllRow.laid) QQG d5 (by kernel_rfl) Tryz.func9
  (ChangeSpec.witness_shaped (enc:=enc) (C:=Tryz.checked) (os:=os) (X:=λw _=>laidMetH Tryz.prog Rows.traceAllRow.laid w) false (Qui os) #[.slice none 0 0,.int .u8 0] 8 (World.laidAll_os _ _ _) (Qnn os _) (by kernel_rfl) (by kernel_rfl) (by kernel_rfl) (QuR os _)) ?_
 intro W base args ds gs iB qQ hW hwt0 hSh hL;have hG:=QBQ hSh hL;have lC:∀(j:Nat) t v,Tryz.f9.params[j]?=some t->args[j]?=some v->Value.okWide Tryz.prog W .any base t v:=qQ;have hW':=hW;obtain⟨p,q,qB,hV,rfl,dT,cB⟩:=hW;have hA:DataW.TrodAll enc Tryz.prog W 0 (λ_=>true) true Tryz.f9.params.toList args.toList ds p:=qB;have kK:(DataW.weightsEach Tryz.prog (Tryz.f9.params.toList++[]) (ds++gs)).all (· <=reachBytes)=true:=hwt0;rw[Tryz.params9]at hA kK lC;obtain⟨v0,vs0,d0,ds0,p0,q0,aY,rfl,rfl,h0,r0⟩:=trodAll_cons hA;obtain⟨v1,vs1,d1,ds1,p1,q1,rfl,rfl,rfl,h1,r1⟩:=trodAll_cons r0;obtain⟨rfl,rfl,rfl⟩:=trodAll_nil r1;obtain rfl:args= #[v0,v1]:=by cases args; simp_all
 obtain⟨rfl,rfl⟩:=trodVars_none hV;simp only[List.append_nil]at kK hW';have kK:∀n∈DataW.weightsEach Tryz.prog [22,5] [d0,d1],n<=reachBytes:=by simpa using kK
 have lt0:∀x∈p0,x.block < W.heap.size:=by obtain⟨m,hm⟩:=h0; exact DataW.trod_lt m _ _ _ hm
 have lt1:∀x∈p1,x.block < W.heap.size:=by obtain⟨m,hm⟩:=h1; exact DataW.trod_lt m _ _ _ hm
 obtain⟨b0,n0,c0,rfl⟩:=okWide_slice Tryz.underlying22 (lC 0 22 v0 rfl rfl);obtain⟨x0,g0,e0⟩:=QoK QxR (λl=>(Qy QO).enc l) (λ_=>rfl) rfl h0 (λn hn=>kK n (Qcz.2 (.inl hn)));obtain⟨b1,rfl⟩:=okWide_int Tryz.underlying5 (lC 1 5 v1 rfl rfl);obtain⟨x1,g1,e1⟩:=QoK QN2 (λn=>(cK .u8).enc n) (λ_=>rfl) rfl h1 (λn hn=>kK n (Qcz.2 (.inr (Qcz.2 (.inl hn)))));clear qB qQ;refine(QRG (⟨g0,wf8 g1⟩) hG e0 e1).mono λe W' ⟨he,zP⟩=>?_;subst he;exact⟨_,rfl,_,_,_,[],_,[],hW',trodAll_mk1 (shut_bool Tryz.underlying4 _),(trodAll_cons_mk (Below.trod Ql4 (by kernel_rfl) (of_decide_eq_true (by kernel_rfl)) h0 zP lt0) (trodAll_cons_mk (Below.trod Ql4 (by kernel_rfl) (of_decide_eq_true (by kernel_rfl)) h1 zP lt1) trodAll_mk0)),rfl,zP.frame _,λh=>by cases h⟩
theorem traceAllRowProved:Rows.TraceAllSaid:=
 OpenClaim.holds_of_wide 9 Tryz.f9 rfl rfl rfl rfl rfl rfl rfl ⟨rfl,rfl,rfl,rfl,rfl⟩ rfl rfl rfl rfl rfl (by kernel_rfl) Tryz.func9 (by kernel_rfl)
  (of_decide_eq_true (by kernel_rfl)) (by unfold Func.isWrapper; first | (rw[if_pos (by decide+kernel)]; kernel_rfl) | (rw[if_neg (by decide+kernel)]; exact⟨rfl,rfl⟩))
  (λos d5 H enc _=>QRl os d5 H enc)
theorem traceAllProved:Rows.TraceAllCardSaid:=
 Claim7.holds_tied_plain_at .later [] [.data,.data,.data,.data,.sentinel,.sentinel,.pinned] true (true, "e895634384156d47f9b259d7b5c512773a1f38cb49a0a56832fa40143062f964") true
  traceAllRowProved (λ_ h=>by cases h) (by kernel_rfl) (λ_ h=>by cases h) traceAll_row_tie rfl ⟨rfl,rfl⟩ (by kernel_rfl) rfl
  (λf fn hf fF=>by
   obtain rfl:f=9:=Option.some.inj ((show Tryz.prog.funcNamed "stearin/stearinlaw12.TraceAll" =some 9 by kernel_rfl).symm.trans hf) |>.symm
   obtain rfl:fn=Tryz.f9:=(Option.some.inj (Tryz.func9.symm.trans fF)).symm;exact⟨by kernel_rfl,λj t ht=>Qsu (l:=[22,5]) (by rw[Tryz.params9]) (by kernel_rfl) j t ht⟩)
  (by kernel_rfl)
#print axioms traceAllProved
end Go.Proofs.YtnfeakhkfehkhaaGreatDoor
