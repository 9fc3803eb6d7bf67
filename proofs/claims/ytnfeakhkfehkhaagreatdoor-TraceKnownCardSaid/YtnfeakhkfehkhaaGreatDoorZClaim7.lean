/-
  TraceKnown returns true for every input, and each argument reads afterwards as it read before (the row, and the tied card). Conditions: none.
-/
import Derived.Test.YtnfeakhkfehkhaaGreatDoorZLaw7
import Derived.Test.YtnfeakhkfehkhaaGreatDoorZRows
import Derived.Test.YtnfeakhkfehkhaaGreatDoorRows
import Derived.Test.YtnfeakhkfehkhaaGreatDoorCards
import Derived.Test.YtnfeakhkfehkhaaGreatDoorTie
import Derived.SevenTiedAt
set_option linter.unusedSimpArgs false
set_option linter.unusedVariables false
namespace Go.Proofs.YtnfeakhkfehkhaaGreatDoor
open Go Go.ChangeShapes Go.WideShapes Go.ChangeAt Go.RowKit
theorem QKV {w:World} (hG:GlobIn (Qov w) w):Calls Tryz.prog 7 #[] w fun e w'=>e= .returned (.bool true)∧Below w.heap.size w w':=
 QtR (P:=Tryz.prog) (f:=7) (ds:=[]) (ok7 _ _ rfl) (vs:=[]) hG rfl
set_option maxRecDepth 100000 in
theorem QKU (os:Os) (started:os.Started) (H:Type) (enc:TypeId×Value→H):
  ReturnsInHanded {} Tryz.checked os 7 .any (fun w args=>(Rows.traceKnownSpec.pre enc Tryz.prog Tryz.f7 Rows.traceKnownRow.domain false w args∧laidMetH Tryz.prog Rows.traceKnownRow.laid w)∧sizedMet enc Tryz.prog Tryz.f7 (OpenSpec.ofChange Rows.traceKnownSpec) false w args) (Rows.traceKnownSpec.post enc Tryz.prog Tryz.f7 false true false false):=by
 refine QoO (C:=Tryz.checked) (laid:=Rows.traceKnownRow.laid) ownK started (by kernel_rfl) Tryz.func7
  (ChangeSpec.witness_shaped (enc:=enc) (C:=Tryz.checked) (os:=os) (X:=fun w _=>laidMetH Tryz.prog Rows.traceKnownRow.laid w) false (Qui os) #[] 8 (World.laidAll_os _ _ _) (Qnn os _) (by kernel_rfl) (by kernel_rfl) (by kernel_rfl) (QuR os _)) ?_
 intro W base args ds gs before hval0 hW hwt0 hSh hL;have hG:=QBQ hSh hL;have hval:∀(j:Nat) t v,Tryz.f7.params[j]?=some t→args[j]?=some v→Value.okWide Tryz.prog W .any base t v:=hval0;have hW':=hW;obtain⟨p,q,hA0,hV,rfl,hfz,hnd⟩:=hW;have hA:DataW.TrodAll enc Tryz.prog W 0 (fun _=>true) true Tryz.f7.params.toList args.toList ds p:=hA0;have hwt:(DataW.weightsEach Tryz.prog (Tryz.f7.params.toList++[]) (ds++gs)).all (· ≤reachBytes)=true:=hwt0;rw[Tryz.params7]at hA hwt hval;obtain⟨hargs,rfl,rfl⟩:=trodAll_nil hA;obtain rfl:args= #[]:=by cases args; simp_all
 obtain⟨rfl,rfl⟩:=trodVars_none hV;simp only[List.append_nil]at hwt hW';clear hA0 hval0;refine(QKV hG).mono fun e W' ⟨he,bel⟩=>?_;subst he;exact⟨_,rfl,_,_,_,[],_,[],hW',trodAll_mk1 (shut_bool Tryz.underlying4 _),trodAll_mk0,rfl,bel.frame _,fun h=>by cases h⟩
theorem traceKnownRowProved:Rows.TraceKnownSaid:=
 OpenClaim.holds_of_wide 7 Tryz.f7 rfl rfl rfl rfl rfl rfl rfl ⟨rfl,rfl,rfl,rfl,rfl⟩ rfl rfl rfl rfl rfl (by kernel_rfl) Tryz.func7 (by kernel_rfl)
  (of_decide_eq_true (by kernel_rfl)) (by unfold Func.isWrapper; first | (rw[if_pos (by decide+kernel)]; kernel_rfl) | (rw[if_neg (by decide+kernel)]; exact⟨rfl,rfl⟩))
  (fun os started H enc _=>QKU os started H enc)
theorem traceKnownProved:Rows.TraceKnownCardSaid:=
 Claim7.holds_tied_plain_at .later [] [.data,.data,.data,.data,.sentinel,.sentinel,.pinned] true (true, "e895634384156d47f9b259d7b5c512773a1f38cb49a0a56832fa40143062f964") true
  traceKnownRowProved (fun _ h=>by cases h) (by kernel_rfl) (fun _ h=>by cases h) traceKnown_row_tie rfl ⟨rfl,rfl⟩ (by kernel_rfl) rfl
  (fun f fn hf hfn=>by
   obtain rfl:f=7:=Option.some.inj ((show Tryz.prog.funcNamed "stearin/stearinlaw12.TraceKnown" =some 7 by kernel_rfl).symm.trans hf) |>.symm
   obtain rfl:fn=Tryz.f7:=(Option.some.inj (Tryz.func7.symm.trans hfn)).symm;exact⟨by kernel_rfl,fun j t ht=>Qsu (l:=[]) (by rw[Tryz.params7]) (by kernel_rfl) j t ht⟩)
  (by kernel_rfl)
#print axioms traceKnownProved
end Go.Proofs.YtnfeakhkfehkhaaGreatDoor
