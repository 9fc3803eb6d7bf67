/-
  TraceComplaints returns true for every input, and each argument reads afterwards as it read before (the row, and the tied card). Conditions: none.
-/
import Derived.Test.YtnfeakhkfehkhaaGreatDoorZLaw5
import Derived.Test.YtnfeakhkfehkhaaGreatDoorZRows
import Derived.Test.YtnfeakhkfehkhaaGreatDoorCards
import Derived.Test.YtnfeakhkfehkhaaGreatDoorTie
set_option linter.unusedSimpArgs false
set_option linter.unusedVariables false
namespace Go.Proofs.YtnfeakhkfehkhaaGreatDoor
open Go Go.ChangeShapes Go.WideShapes Go.ChangeAt Go.RowKit
theorem QHB {w:World} {v0 v1 v2:Value} {x0:List Bat} {x1:List Int} {x2:List Int} (hc:QcC x0/\x1.length<=17592186044416/\x2.length<=17592186044416) (hG:GlobIn (Qov w) w) (h0:Rel (Qov w) w ((Qy QO).enc x0) v0) (h1:Rel (Qov w) w ((Qy Qt).enc x1) v1) (h2:Rel (Qov w) w ((Qy Qt).enc x2) v2):
  Calls Tryz.prog 5 #[v0,v1,v2] w λe w'=>e= .returned (.bool true)/\Below w.heap.size w w':=by
 refine QtR (P:=Tryz.prog) (f:=5) (ds:=[(Qy QO).enc x0,(Qy Qt).enc x1,(Qy Qt).enc x2]) (ok5 _ _ ?_) (vs:=[v0,v1,v2]) hG ⟨_,_,rfl,h0,_,_,rfl,h1,_,_,rfl,h2,rfl⟩;simp only[s5,sp3,Qqg,Qbq,Qyh,Qyq];rw[if_pos hc]; rfl
set_option maxRecDepth 100000 in
theorem QBH (os:Os) (d5:os.Started) (H:Type) (enc:TypeId×Value->H):
  ReturnsInHanded {} Tryz.checked os 5 .any (λw args=>(Rows.traceComplaintsSpec.pre enc Tryz.prog Tryz.f5 Rows.traceComplaintsRow.domain false w args/\laidMetH Tryz.prog Rows.traceComplaintsRow.laid w)/\sizedMet enc Tryz.prog Tryz.f5 (OpenSpec.ofChange Rows.traceComplaintsSpec) false w args) (Rows.traceComplaintsSpec.post enc Tryz.prog Tryz.f5 false true false false):=by
 refine QoO (C:=Tryz.checked) (laid:=Rows.traceComplaintsRow.laid) QQG d5 (by kernel_rfl) Tryz.func5
  (ChangeSpec.witness_shaped (enc:=enc) (C:=Tryz.checked) (os:=os) (X:=λw _=>laidMetH Tryz.prog Rows.traceComplaintsRow.laid w) false (Qui os) #[.slice none 0 0,.slice none 0 0,.slice none 0 0] 8 (World.laidAll_os _ _ _) (Qnn os _) (by kernel_rfl) (by kernel_rfl) (by kernel_rfl) (QuR os _)) ?_
 intro W base args ds gs iB qQ hW hwt0 hSh hL;have hG:=QBQ hSh hL;have lC:∀(j:Nat) t v,Tryz.f5.params[j]?=some t->args[j]?=some v->Value.okWide Tryz.prog W .any base t v:=qQ;have hW':=hW;obtain⟨p,q,qB,hV,rfl,dT,cB⟩:=hW;have hA:DataW.TrodAll enc Tryz.prog W 0 (λ_=>true) true Tryz.f5.params.toList args.toList ds p:=qB;have kK:(DataW.weightsEach Tryz.prog (Tryz.f5.params.toList++[]) (ds++gs)).all (· <=reachBytes)=true:=hwt0;rw[Tryz.params5]at hA kK lC;obtain⟨v0,vs0,d0,ds0,p0,q0,aY,rfl,rfl,h0,r0⟩:=trodAll_cons hA;obtain⟨v1,vs1,d1,ds1,p1,q1,rfl,rfl,rfl,h1,r1⟩:=trodAll_cons r0;obtain⟨v2,vs2,d2,ds2,p2,q2,rfl,rfl,rfl,h2,r2⟩:=trodAll_cons r1;obtain⟨rfl,rfl,rfl⟩:=trodAll_nil r2;obtain rfl:args= #[v0,v1,v2]:=by cases args; simp_all
 obtain⟨rfl,rfl⟩:=trodVars_none hV;simp only[List.append_nil]at kK hW';have kK:∀n∈DataW.weightsEach Tryz.prog [22,26,26] [d0,d1,d2],n<=reachBytes:=by simpa using kK
 have lt0:∀x∈p0,x.block < W.heap.size:=by obtain⟨m,hm⟩:=h0; exact DataW.trod_lt m _ _ _ hm
 have lt1:∀x∈p1,x.block < W.heap.size:=by obtain⟨m,hm⟩:=h1; exact DataW.trod_lt m _ _ _ hm
 have lt2:∀x∈p2,x.block < W.heap.size:=by obtain⟨m,hm⟩:=h2; exact DataW.trod_lt m _ _ _ hm
 obtain⟨b0,n0,c0,rfl⟩:=okWide_slice Tryz.underlying22 (lC 0 22 v0 rfl rfl);obtain⟨x0,g0,e0⟩:=QoK QxR (λl=>(Qy QO).enc l) (λ_=>rfl) rfl h0 (λn hn=>kK n (Qcz.2 (.inl hn)));obtain⟨b1,n1,c1,rfl⟩:=okWide_slice Tryz.underlying26 (lC 1 26 v1 rfl rfl);obtain⟨x1,g1,e1⟩:=QoK Qqb (λl=>(Qy Qt).enc l) (λ_=>rfl) rfl h1 (λn hn=>kK n (Qcz.2 (.inr (Qcz.2 (.inl hn)))));obtain⟨b2,n2,c2,rfl⟩:=okWide_slice Tryz.underlying26 (lC 2 26 v2 rfl rfl);obtain⟨x2,g2,e2⟩:=QoK Qqb (λl=>(Qy Qt).enc l) (λ_=>rfl) rfl h2 (λn hn=>kK n (Qcz.2 (.inr (Qcz.2 (.inr (Qcz.2 (.inl hn)))))));clear qB qQ;refine(QHB (⟨g0,g1,g2⟩) hG e0 e1 e2).mono λe W' ⟨he,zP⟩=>?_;subst he;exact⟨_,rfl,_,_,_,[],_,[],hW',trodAll_mk1 (shut_bool Tryz.underlying4 _),(trodAll_cons_mk (Below.trod Ql4 (by kernel_rfl) (of_decide_eq_true (by kernel_rfl)) h0 zP lt0) (trodAll_cons_mk (Below.trod Ql4 (by kernel_rfl) (of_decide_eq_true (by kernel_rfl)) h1 zP lt1) (trodAll_cons_mk (Below.trod Ql4 (by kernel_rfl) (of_decide_eq_true (by kernel_rfl)) h2 zP lt2) trodAll_mk0))),rfl,zP.frame _,λh=>by cases h⟩
theorem traceComplaintsRowProved:Rows.TraceComplaintsSaid:=
 OpenClaim.holds_of_wide 5 Tryz.f5 rfl rfl rfl rfl rfl rfl rfl ⟨rfl,rfl,rfl,rfl,rfl⟩ rfl rfl rfl rfl rfl (by kernel_rfl) Tryz.func5 (by kernel_rfl)
  (of_decide_eq_true (by kernel_rfl)) (by unfold Func.isWrapper; first | (rw[if_pos (by decide+kernel)]; kernel_rfl) | (rw[if_neg (by decide+kernel)]; exact⟨rfl,rfl⟩))
  (λos d5 H enc _=>QBH os d5 H enc)
theorem traceComplaintsProved:Rows.TraceComplaintsCardSaid:=
 Claim7.holds_tied_plain_at .later [] [.data,.data,.data,.data,.sentinel,.sentinel,.pinned] true (true, "e895634384156d47f9b259d7b5c512773a1f38cb49a0a56832fa40143062f964") true
  traceComplaintsRowProved (λ_ h=>by cases h) (by kernel_rfl) (λ_ h=>by cases h) traceComplaints_row_tie rfl ⟨rfl,rfl⟩ (by kernel_rfl) rfl
  (λf fn hf fF=>by
   obtain rfl:f=5:=Option.some.inj ((show Tryz.prog.funcNamed "stearin/stearinlaw12.TraceComplaints" =some 5 by kernel_rfl).symm.trans hf) |>.symm
   obtain rfl:fn=Tryz.f5:=(Option.some.inj (Tryz.func5.symm.trans fF)).symm;exact⟨by kernel_rfl,λj t ht=>Qsu (l:=[22,26,26]) (by rw[Tryz.params5]) (by kernel_rfl) j t ht⟩)
  (by kernel_rfl)
#print axioms traceComplaintsProved
end Go.Proofs.YtnfeakhkfehkhaaGreatDoor
