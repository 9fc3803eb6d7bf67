/-
  The program of the trace chapter: where wax must be. Conditions: none.
-/
import Derived.Test.YticoemblgkemiaaGreatDoorZPrJ
set_option linter.unusedSimpArgs false
set_option linter.unusedVariables false
namespace Go.Proofs.YticoemblgkemiaaGreatDoor
open Go.RowKit
theorem Qd9 {a b:Bool} (h:¬a=b):((if a=true then(1:Int)else 0)==(if b=true then 1 else 0))=false:=by
 cases a<;>cases b<;>simp_all
set_option maxHeartbeats 1000000 in
theorem QKk:QzT Tryz.prog 123 43690:=by
 intro xs ys hx hy w x y;obtain⟨a0,t,rfl,fI⟩:=QaK (k:=10922) hx;obtain⟨a1,t,rfl,dJ⟩:=QaK (k:=2730) fI;obtain⟨a2,t,rfl,hx2⟩:=QaK (k:=682) dJ;obtain⟨a3,t,rfl,hx3⟩:=QaK (k:=170) hx2;obtain⟨a4,t,rfl,hx4⟩:=QaK (k:=42) hx3;obtain⟨a5,t,rfl,hx5⟩:=QaK (k:=10) hx4;obtain⟨a6,t,rfl,hx6⟩:=QaK (k:=2) hx5;obtain⟨a7,t,rfl,hx7⟩:=QaK (k:=0) hx6;obtain rfl:=Qcc hx7;obtain⟨b0,t,rfl,o7⟩:=QaK (k:=10922) hy;obtain⟨b1,t,rfl,o8⟩:=QaK (k:=2730) o7;obtain⟨b2,t,rfl,hy2⟩:=QaK (k:=682) o8;obtain⟨b3,t,rfl,hy3⟩:=QaK (k:=170) hy2;obtain⟨b4,t,rfl,hy4⟩:=QaK (k:=42) hy3;obtain⟨b5,t,rfl,hy5⟩:=QaK (k:=10) hy4;obtain⟨b6,t,rfl,hy6⟩:=QaK (k:=2) hy5;obtain⟨b7,t,rfl,hy7⟩:=QaK (k:=0) hy6;obtain rfl:=Qcc hy7;have hm:Tryz.prog.eqGuardType Tryz.prog.depth 123=false:=by kernel_rfl
 have hu:=Tryz.underlying123;have h3:=Tryz.underlying4;obtain⟨fi,hf,_⟩:=QJT.inf;have lM:Tryz.prog.cellsOf 4=1:=by kernel_rfl
 have e:(Op.equalIn 10000 123 (.agg #[.bool a0,.bool a1,.bool a2,.bool a3,.bool a4,.bool a5,.bool a6,.bool a7]) (.agg #[.bool b0,.bool b1,.bool b2,.bool b3,.bool b4,.bool b5,.bool b6,.bool b7])).run Tryz.prog w= .ok (eqV [.bool a0,.bool a1,.bool a2,.bool a3,.bool a4,.bool a5,.bool a6,.bool a7] [.bool b0,.bool b1,.bool b2,.bool b3,.bool b4,.bool b5,.bool b6,.bool b7]) w:=by
  rw[run_equalIn_array w 9999 _ _ hu hf];simp only[lM,eqV,List.any_cons,List.any_nil,isS,Bool.or_false,Bool.false_eq_true,if_false,List.map_cons,List.map_nil,Qfs];by_cases q0:a0=b0
  .subst q0;by_cases q1:a1=b1
   .subst q1;by_cases q2:a2=b2
    .subst q2;by_cases q3:a3=b3
     .subst q3;by_cases q4:a4=b4
      .subst q4;by_cases q5:a5=b5
       .subst q5;by_cases q6:a6=b6
        .subst q6;by_cases q7:a7=b7
         .subst q7;simp[Op.eqItems,go_sem,h3,List.range_succ]
         .simp[Op.eqItems,go_sem,h3,List.range_succ,q7,Qd9 q7]
        .simp[Op.eqItems,go_sem,h3,List.range_succ,q6,Qd9 q6]
       .simp[Op.eqItems,go_sem,h3,List.range_succ,q5,Qd9 q5]
      .simp[Op.eqItems,go_sem,h3,List.range_succ,q4,Qd9 q4]
     .simp[Op.eqItems,go_sem,h3,List.range_succ,q3,Qd9 q3]
    .simp[Op.eqItems,go_sem,h3,List.range_succ,q2,Qd9 q2]
   .simp[Op.eqItems,go_sem,h3,List.range_succ,q1,Qd9 q1]
  .simp[Op.eqItems,go_sem,h3,List.range_succ,q0,Qd9 q0]
 constructor
 .simp only[Sem.run_bind];rw[run_eqGuard_agg _ _ _ _ _ _ _ hm];simp only[Zo,run_eql_struct];rw[e]; rfl
 .simp only[Sem.run_bind];rw[run_eqGuard_agg _ _ _ _ _ _ _ hm];simp only[Zo,run_neq_struct];rw[e]; rfl
def QNg:List (TypeId×Nat):=(123,43690)::QA7
attribute [simp] QNg
theorem QFu:∀(T:TypeId) (n:Nat),Qt QNg T=some n->QzT Tryz.prog T n:=λT n h=>by
 simp only[QNg,Qt]at h;split at h
 .rename_i e; simp only[Zs]at h; subst h; subst e; exact QKk
 .exact Qo0 T n h
def QIX (l:List (Nat×(List D->Option D))) (le:List (Nat×QfF)) (N:Nat) (kp:Nat->List (Nat×Option Nat)) (kb:List (Nat×Nat×Nat)) (df:Nat->List (Nat×Nat)) (md:Nat->Nat) (sq:List (Nat×(List D->Option (List (List Value))))):Cx:= { Γ:=tys,eqs:=QNg,Δ:=Qaw l,N:=N,F:=QbK,kp:=kp,kb:=kb,Δe:=Qj6 le,diff:=df,md:=md,seq:=QiT sq}
attribute [simp] QIX
theorem QBQ {l:List (Nat×(List D->Option D))} (h:QaE Tryz.prog (Qaw l)) {le:List (Nat×QfF)} (he:Qnm Tryz.prog (Qj6 le)) {sq:List (Nat×(List D->Option (List (List Value))))} (hs:QpD Tryz.prog (QiT sq)) (N:Nat) (kp:Nat->List (Nat×Option Nat)) (kb:List (Nat×Nat×Nat)) (df:Nat->List (Nat×Nat)) (md:Nat->Nat):CxOk Tryz.prog (QIX l le N kp kb df md sq):=
 ⟨QoQ,QFu,h,he,by kernel_rfl,Qbn,Qi9,hs⟩
noncomputable def QC0:Row Oct:=QCf 8 (λs=>s.1) λ_ _ h=>Subtype.ext h
theorem Qtm (f:Nat->Bool):QC0.enc (Oct.of f)=(List.range 8).map λk=>DB (f k):=rfl
end Go.Proofs.YticoemblgkemiaaGreatDoor
