/-
  How the law draws a truth: never, turn, bounds. Conditions: none.
-/
import Derived.Test.YticoemblgkemiaaGreatDoorZLawC
set_option linter.unusedSimpArgs false
set_option linter.unusedVariables false
namespace Go.Proofs.YticoemblgkemiaaGreatDoor
open Go.RowKit
def QiX (r:Nat):List (Nat×Option Nat):=match r with
 | 0=>kpn [1,2,3]
 | 1=>kpn [1,2,3,8,9]
 | 2=>kpn [1,2,3,8,9,10]
 | 3=>kpn [1,2,3,8,9,10,30]
 | 4=>kpn [1,2,3,8,9,10]
 | 5=>kpn [1,2,3,8,9,10,11,12,13]
 | 6=>kpn [1,2,3,8,9,10,11,12,13,14]
 | 7=>kpn [1,2,3,8,9,10,11,12,13,14,37]
 | 8=>kpn [1,2,3,8,9,10,11,12,13,14]
 | 9=>kpn [1,2,3,8,9,10,11,12,13,14,44]
 | 10=>kpn [1,2,3,8,9,10,11,12,13,14]
 | 11=>kpn [1,2,3,8,9,10,11,12,13,57]
 | 12=>kpn [1,2,3,8,9,10,11,12,13,15]
 | 13=>kpn [1,2,3,8,9,10,11,12,13,15,62]
 | 14=>kpn [1,2,3,8,9,10,11,12,13,15]
 | 15=>kpn [1,2,3,8,9,10,11,12,13,15,16]
 | 16=>kpn [1,2,3,8,9,10,11,12,13,15,16,17]
 | 17=>kpn [1,2,3,8,9,10,11,12,13,15,16,17,71]
 | 18=>kpn [1,2,3,8,9,10,11,12,13,15,16,17]
 | 19=>kpn [1,2,3,8,9,10,11,12,13,15,16,17,104]
 | 20=>kpn [1,2,3,8,9,10,11,12,13,15,16,17]
 | 21=>kpn [1,2,3,8,9,10,11,12,13,15,105]
 | 22=>kpn [1,2,3,8,9,10,11,12,13,15]
 | 23=>kpn [1,2,3,8,9,10,11,12,13,15]
 | 24=>kpn [1,2,3,8,9,10,11,12,13,127]
 | 25=>kpn [1,2,3,8,9,10,11,12,13]
 | 26=>kpn [1,2,3,8,9,10,11,12,140]
 | 27=>kpn [1,2,3,8,9,10]
 | 28=>kpn [6,7]
 | _=>[]
def Qre (r:Nat):List (Nat×Option Nat):=match r with
 | 0=>kpn [1,2,3]
 | 1=>kpn [1,2,3,7]
 | 2=>kpn [1,2,3,7,12]
 | 3=>kpn [1,2,3,7]
 | 4=>kpn [1,2,3,7,23]
 | 5=>[(6,none)]
 | 6=>[(6,none)]
 | _=>[]
def QNc (p:Pro) (x t:Int):Bool:=p.never.any λe=>[e.fr,e.to]==[x,t]
def QNB:List D->Option D:=sp3 (Qcf Qof) QaY QaY QaW λp x t=>if p.never.length<=1000000 then some (QNc p x t)else none
theorem QNM:∀ds d,QNB ds=some d->PureC Tryz.prog 146 ds d:=QcN λp x t r hr=>by
 split at hr
 .rename_i hb;cases hr;refine Qf (Qw Qs 24 Qre []) Tryz.func146 rfl rfl (Zb rfl) (by kernel_rfl) ?_
  rw[Tryz.results146];unfold QNc;rcases Qhs (λe:Edg=>[e.fr,e.to]==[x,t]) p.never with⟨e,hall⟩ | ⟨k,hk,e,aM,aT⟩
  .rw[e];simp[Qre,Qu]
   (generalize aC:Cx.loop _ _ _=aE; apply Qi aC (λk=>⟨[(1,.d (DI x)),(2,.d (DI t)),(3,.loc 3 0),(7,.d (DI k))],[(3,[.d (.sl 1 (p.has.map QH.enc)),.d (.sl 1 (p.needs.map QH.enc)),.d (.sl 2 (p.never.map Qci.enc))])],[],[]⟩) p.never.length rfl; rotate_left; (show _ < 281474976710656; omega); rfl; rotate_left; all_goals clear aC)
   .intro j hj;have w1:=Qa ((j:Int)+1) (by omega) (by omega)
    have aO:(j:Int) < p.never.length:=by omega
    have hn:=hall j hj;have gC:([p.never[j].fr,p.never[j].to]==[x,t])=false:=hn;simp[-List.cons_beq_cons,Qre,hj,aO,gC,w1,QI]
   .simp[Qre]
  .rw[e];simp[Qre,Qu]
   (generalize aC:Cx.loop _ _ _=aE; apply Qi aC (λk=>⟨[(1,.d (DI x)),(2,.d (DI t)),(3,.loc 3 0),(7,.d (DI k))],[(3,[.d (.sl 1 (p.has.map QH.enc)),.d (.sl 1 (p.needs.map QH.enc)),.d (.sl 2 (p.never.map Qci.enc))])],[],[]⟩) k rfl; rotate_left; (show _ < 281474976710656; omega); rfl; rotate_left; all_goals clear aC)
   .intro j cM;have hj:j < p.never.length:=by omega
    have w1:=Qa ((j:Int)+1) (by omega) (by omega)
    have aO:(j:Int) < p.never.length:=by omega
    have gC:([p.never[j].fr,p.never[j].to]==[x,t])=false:=aT j hj cM;simp[-List.cons_beq_cons,Qre,hj,aO,gC,w1,QI]
   .have aX:(k:Int) < p.never.length:=by omega
    have dO:([p.never[k].fr,p.never[k].to]==[x,t])=true:=aM;simp[-List.cons_beq_cons,Qre,hk,aX,dO,QI]
 .cases hr
theorem QE8 (xs:Array Value) (w:World):(callFunc 146 xs).run Tryz.prog w= .ok (.enter 146 xs) w:=by kernel_rfl
theorem QFI (p:Pro) (x t:Nat):QNc p x t=nvP p x t:=by
 unfold QNc nvP;congr 1;funext e;rw[Bool.eq_iff_iff];simp
def Qlg (y:List Int):Prop:=∀z∈y,0<=z/\z < 4294967296
noncomputable instance (y:List Int):Decidable (Qlg y):=Classical.propDecidable _
noncomputable def s85:List D->Option D:=sp2 (QJ (rK .u32)) QaY QaY λy n=>if 0<=n/\n < 1000000/\Qlg y then some (Qk8 y n.toNat)else none
theorem ok85:∀ds d,s85 ds=some d->PureC Tryz.prog 67 ds d:=Qay λy n r hr=>by
 split at hr
 .rename_i hc;obtain⟨h0,h1,hy⟩:=hc;cases hr;obtain⟨n,rfl⟩:∃k:Nat,n=k:=⟨n.toNat,by omega⟩
  refine Qf (Qw Qs 16 QOr []) Tryz.func67 rfl rfl (Zb rfl) (by kernel_rfl) ?_
  rw[Tryz.results67,Int.toNat_natCast];unfold Qk8;by_cases hl:y.length=0
  .rw[if_pos hl];obtain rfl:y=[]:=List.length_eq_zero_iff.1 hl;simp[QOr]
  .rw[if_neg hl];have gT:(n:Int).tmod y.length=((n % y.length:Nat):Int):=by
    rw[Int.tmod_eq_emod_of_nonneg (by omega)]; rfl
   have gL:n % y.length < y.length:=Nat.mod_lt _ (by omega)
   rw[Ql _ _ _ gL];have t7:¬y=[]:=λe=>hl (by rw[e]; rfl)
   have hlI:((y.length:Int)==0)=false:=beq_eq_false_iff_ne.2 (by omega)
   generalize n % y.length=q at*;have tD:(q:Int) < y.length:=by omega
   have hz:=hy _ (Ze gL);have w1:=Qa y[q] (by omega) (by omega)
   simp[QOr,QbN,Qe2,hl,hlI,gT,gL,tD,w1]
 .cases hr
theorem QMi (xs:Array Value) (w:World):(callFunc 67 xs).run Tryz.prog w= .ok (.enter 67 xs) w:=by kernel_rfl
end Go.Proofs.YticoemblgkemiaaGreatDoor
