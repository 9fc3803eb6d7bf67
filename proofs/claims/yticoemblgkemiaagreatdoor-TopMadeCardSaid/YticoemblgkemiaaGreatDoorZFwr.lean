/-
  The list of Fewest, and Comes, at the examples: the kernel runs the program, and is told what enter, must and may return. Conditions: these books.
-/
import Derived.Test.YticoemblgkemiaaGreatDoorZRdM
set_option linter.unusedSimpArgs false
set_option linter.unusedVariables false
namespace Go.Proofs.YticoemblgkemiaaGreatDoor
open Go.RowKit
theorem QPq {α:Type} {q:α->α->Bool} {d:α} {a b:List α} (hq:∀x y,q x y=true↔x=y):eqI q d a b=true↔a=b:=by
 rw[Qh5];constructor
 .rintro⟨h1,h2⟩;refine List.ext_getElem h1 λi hi hi'=>?_;have:=(hq _ _).1 (h2 i hi)
  rwa [Ql _ _ _ hi,Ql _ _ _ hi']at this
 .rintro rfl;exact⟨rfl,λi _=>(hq _ _).2 rfl⟩
theorem QPJ {a b:ByteArray} :(a.toList==b.toList)=true↔a=b:=by
 rw[beq_iff_eq,ByteArray.toList_eq,ByteArray.toList_eq];exact⟨λh=>ByteArray.ext (Array.toList_inj.1 h),λh=>by rw[h]⟩
theorem QPC {a b:Tak} :QNL a b=true↔a=b:=by
 obtain⟨a1,a2⟩:=a;obtain⟨b1,b2⟩:=b;simp[QNL]
theorem QPB (a b:Bat):QCO a b=true↔a=b:=by
 obtain⟨a1,a2,a3,a4,a5⟩:=a;obtain⟨b1,b2,b3,b4,b5⟩:=b;unfold QCO QAZ;rw[Za,QPq λx y=>QPC];rw[Za,Za,Za,Za,QPJ,beq_iff_eq,beq_iff_eq,beq_iff_eq,decide_eq_true_eq];simp only[Bat.mk.injEq];constructor
 .rintro⟨⟨h1,h2,h3,h4,_⟩,h5⟩; exact⟨h1,h2,h3,h4,h5⟩
 .rintro⟨h1,h2,h3,h4,h5⟩; exact⟨⟨h1,h2,h3,h4,by rw[h5]⟩,h5⟩
theorem QPp {a b:List Bat} :Qzg a b=true↔a=b:=QPq QPB
def QPR (cs:List D):Bool:=decide (cs.length=80)&&(List.range 80).all λk=>match cs.getD k .top with
 | .v (.int .i64 _)=>decide (k < 16)
 | .v (.bool _)=>decide (16<=k)
 | _=>false
theorem QPG {cs:List D} (h:QPR cs=true):∃a n v,cs=QdW a n v:=by
 unfold QPR at h;rw[Za,decide_eq_true_eq,Zl]at h;obtain⟨hl,hc⟩:=h;refine⟨λk=>QPK (cs.getD k .top),λk=>QPK (cs.getD (8+k) .top),λx t=>QGK (cs.getD (16+x*8+t) .top),List.ext_getElem (by rw[QX,hl]) λk h1 h2=>?_⟩
 have hk:k < 80:=by omega
 have q:=hc k (Zm.2 hk);simp only[QdW,List.getElem_map,List.getElem_range];have e2:cs.getD k .top=cs[k]:=Ql _ _ _ h1;rw[e2]at q;unfold QbA;split at q
 .rename_i z hz;rw[decide_eq_true_eq]at q;by_cases h8:k < 8
  .rw[if_pos h8]; dsimp only; rw[e2,hz]; rfl
  .rw[if_neg h8,if_pos q]; dsimp only; rw[show 8+(k - 8)=k by omega,e2,hz]; rfl
 .rename_i z hz;rw[decide_eq_true_eq]at q;rw[if_neg (by omega),if_neg (by omega)]; dsimp only; rw[show 16+(k - 16) / 8*8+(k - 16) % 8=k by omega,e2,hz]; rfl
 .cases q
theorem QPr {s t:List D} (h:LImp s t):∀r:List D,LImp (r++s) (r++t)
 | []=>h
 | a::r=>QaX (DImp.refl a) (QPr h r)
def bxB (b:List Bat) (cs:List D):Bool:=QPR (cs.take 80)&&((List.range 8).all λk=>decide (QPK ((cs.take 80).getD k (DI 0))=(QT b).getD k 0)&&decide (QPK ((cs.take 80).getD (8+k) (DI 0))=(QaD b).getD k 0))&&((List.range 8).all λx=>(List.range 8).all λt=>!QGK ((cs.take 80).getD (16+x*8+t) (DB false)))&&(match cs.drop 80 with
 | [x,y]=>(match(QJ QQ).dec x,(QJ QH).dec y with
  | some c,some l=>Qzg c b&&decide (l=Qae b)
  | _,_=>false)
 | _=>false)
theorem QPD {b:List Bat} {cs:List D} (h:bxB b cs=true):LImp cs (rBx.enc (Qek b)):=by
 unfold bxB at h;rw[Za,Za,Za,Zl,Zl]at h;obtain⟨⟨⟨h1,h2⟩,h3⟩,h4⟩:=h;split at h4
 .rename_i x y hd;split at h4
  .rename_i c l hx hy;rw[Za,decide_eq_true_eq]at h4;obtain rfl:c=b:=QPp.1 h4.1;obtain rfl:=h4.2;have ecs:cs=cs.take 80++[x,y]:=by rw[<-hd,List.take_append_drop]
   have es:cs.take 80=QdW (λj=>(QT c).getD j 0) (λj=>(QaD c).getD j 0) noN:=by
    have e0:=Sup.eq ⟨cs.take 80,QPG h1⟩;dsimp only at e0;rw[e0];refine Qt1 (λk hk=>?_) (λk hk=>?_) (λi t hi ht=>?_)
    .have:=h2 k (Zm.2 hk);rw[Za,decide_eq_true_eq,decide_eq_true_eq]at this;unfold Sup.h;rw[if_pos hk]; exact this.1
    .have:=h2 k (Zm.2 hk);rw[Za,decide_eq_true_eq,decide_eq_true_eq]at this;unfold Sup.n;rw[if_pos hk]; exact this.2
    .have:=h3 i (Zm.2 hi);rw[Zl]at this;have:=this t (Zm.2 ht);unfold Sup.v;rw[if_pos ⟨hi,ht⟩];simpa[noN]using this
   have hh:=QPr (s:=[x,y]) (QaX ((QJ QQ).ed _ _ hx) (QaX ((QJ QH).ed _ _ hy) (LImp.refl _))) (cs.take 80);rw[<-ecs]at hh;have e:rBx.enc (Qek c)=QdW (λj=>(QT c).getD j 0) (λj=>(QaD c).getD j 0) noN++[.sl 5 (c.map QQ.enc),.sl 1 ((Qae c).map QH.enc)]:=rfl;rw[e,<-es];exact hh
  .cases h4
 .cases h4
def QPH (b:List Bat):List D->Option D:=λds=>match ds with
 | [.agg cs,.v (.int .i64 i)]=>if bxB b cs=true/\0<=i/\i < b.length then some (.agg ((List.range 8).map λk=>DB (decide (k < b.length)&&Qlp b i.toNat k)))else none
 | _=>none
theorem QPL {b:List Bat} (hv:ValidB b):∀ds d,QPH b ds=some d->PureC Tryz.prog 56 ds d:=λds d hr=>by
 unfold QPH at hr;split at hr
 .rename_i cs i;split at hr
  .rename_i hc;cases hr;obtain⟨h1,h2,h3⟩:=hc;have hd:(Qcf rBx).dec (.agg (rBx.enc (Qek b)))=some (Qek b):=rBx.de (Qek b);have yS:(Qek b).bats=b:=rfl;have e:s58 [.agg (rBx.enc (Qek b)),DI i]=some (.agg (QC0.enc (Oct.of (QdZ b i.toNat)))):=by
    simp only[s58,sp2,hd,Qak];rw[if_pos ⟨hv,rfl,h2,h3⟩]; rfl
   have e2:(List.range 8).map (λk=>DB (decide (k < b.length)&&Qlp b i.toNat k))=QC0.enc (Oct.of (QdZ b i.toNat)):=by
    show _=(List.range 8).map λk=>DB (QdZ b i.toNat k);refine List.map_congr_left λk hk=>?_;unfold QdZ;by_cases aX:k < b.length
    .rw[QnC hv (by omega) aX]
    .rw[decide_eq_false aX]; rfl
   rw[e2];exact(QPc _ _ e).imp (QaX (QPD h1).agg (LImp.refl _))
  .cases hr
 .cases hr
def QPX (b:List Bat):List D->Option D:=λds=>match ds with
 | [.agg cs,.v (.int .i64 i)]=>if bxB b cs=true/\0<=i/\i < b.length then some (.agg ((List.range 8).map λk=>DB (decide (k < b.length)&&QCH b i.toNat k)))else none
 | _=>none
theorem QPW {b:List Bat} (hv:ValidB b):∀ds d,QPX b ds=some d->PureC Tryz.prog 57 ds d:=λds d hr=>by
 unfold QPX at hr;split at hr
 .rename_i cs i;split at hr
  .rename_i hc;cases hr;obtain⟨h1,h2,h3⟩:=hc;have hd:(Qcf rBx).dec (.agg (rBx.enc (Qek b)))=some (Qek b):=rBx.de (Qek b);have e:s60 [.agg (rBx.enc (Qek b)),DI i]=some (.agg (QC0.enc (Oct.of (Qm6 b i.toNat)))):=by
    simp only[s60,sp2,hd,Qak];rw[if_pos ⟨hv,rfl,h2,h3⟩]; rfl
   have e2:(List.range 8).map (λk=>DB (decide (k < b.length)&&QCH b i.toNat k))=QC0.enc (Oct.of (Qm6 b i.toNat)):=by
    show _=(List.range 8).map λk=>DB (Qm6 b i.toNat k);refine List.map_congr_left λk hk=>?_;unfold Qm6;by_cases aX:k < b.length
    .rw[Qwq hv (by omega) aX]
    .rw[decide_eq_false aX]; rfl
   rw[e2];exact(QOt _ _ e).imp (QaX (QPD h1).agg (LImp.refl _))
  .cases hr
 .cases hr
def QPT (b:List Bat):List D->Option D:=λds=>match ds with
 | [x,y]=>(match(QJ QQ).dec x,(QJ QH).dec y with
  | some c,some l=>if Qzg c b=true/\l.length<=100 then some (if QFW b l=0 then .tup [.agg (QdW (λj=>(QT b).getD j 0) (λj=>(QaD b).getD j 0) noN++[.sl 5 (b.map QQ.enc),.sl 1 ((Qae b).map QH.enc)]),DI 0]else .tup [.agg QKp,DI (QFW b l)])else none
  | _,_=>none)
 | _=>none
theorem QPO {b:List Bat} (hb:bkB b=true/\Qee b/\b.length<=140737488355328):∀ds d,QPT b ds=some d->PureC Tryz.prog 55 ds d:=λds d hr=>by
 unfold QPT at hr;split at hr
 .rename_i x y;split at hr
  .rename_i c l hx hy;split at hr
   .rename_i hc;cases hr;obtain rfl:c=b:=QPp.1 hc.1;refine QNo _ _ ?_;simp only[s57,sp2,hx,hy];rw[if_pos ⟨hb.1,hb.2.1,hb.2.2,by omega⟩]
    rfl
   .cases hr
  .cases hr
 .cases hr
def kw67 (r:Nat):List (Nat×Option Nat):=match r with
 | 0=>kpn [0,1]
 | 1=>kpn [1,7,8,9]
 | 2=>kpn [1,7,8,9,10]
 | 3=>kpn [1,5,6,7,8,9]
 | 4=>kpn [1,7,8,9,17]
 | 5=>[(4,none)]
 | 6=>kpn [1,7,8,9]
 | 7=>[(4,none)]
 | _=>[]
def kw68 (r:Nat):List (Nat×Option Nat):=match r with
 | 0=>kpn [1,2]
 | 1=>[(5,none)]
 | _=>[]
def kw69 (r:Nat):List (Nat×Option Nat):=match r with
 | 0=>kpn [0,1,2,3,4,5,6]
 | 1=>kpn [0,1,2,3,4,5,6,12]
 | 2=>[(9,none)]
 | 3=>kpn [1,3,5,6,10]
 | 4=>kpn [1,3,5,6,10,21]
 | 5=>kpn [1,3,5,6,10]
 | 6=>kpn [1,3,5,6,10]
 | 7=>kpn [1,3,5,6,10,33]
 | 8=>[(9,none)]
 | 9=>kpn [1,3,5,6,10]
 | 10=>[(9,none)]
 | _=>[]
def kw70 (r:Nat):List (Nat×Option Nat):=match r with
 | 0=>kpn [2,3,5]
 | 1=>[(6,none)]
 | _=>[]
def kw71 (r:Nat):List (Nat×Option Nat):=match r with
 | 0=>kpn [1,2,3]
 | 1=>[(6,none)]
 | _=>[]
def kw27 (r:Nat):List (Nat×Option Nat):=match r with
 | 0=>kpn [2,3,4,6]
 | 1=>kpn [2,3,4,6,7,8]
 | 2=>kpn [2,3,4,6,7,8,24]
 | 3=>kpn [6,7]
 | 4=>kpn [2,3,4,6,8,9]
 | 5=>kpn [2,3,4,6,8,9,27,28]
 | 6=>kpn [2,3,4,6,8,9,27,28,29]
 | 7=>kpn [2,3,4,6,8,9,10,27,28]
 | 8=>kpn [2,3,4,6,8,9,10,11,27,28]
 | 9=>kpn [2,3,4,6,8,9,10,27,28,37]
 | 10=>kpn [2,3,4,6,8,9,27,28]
 | 11=>kpn [2,3,4,6,8,9,27,28]
 | 12=>kpn [3,4,6,9,12]
 | 13=>kpn [3,6,12]
 | 14=>kpn [6,12,47,48]
 | 15=>kpn [6,12,47,48,49]
 | 16=>kpn [6,12,13,47,48]
 | 17=>kpn [6,12,47,48,53]
 | 18=>kpn [6,7]
 | 19=>kpn [6,12,47,48]
 | 20=>kpn [6,7]
 | _=>[]
def kw19 (r:Nat):List (Nat×Option Nat):=match r with
 | 0=>kpn [0,1]
 | 1=>kpn [1,6,7]
 | 2=>kpn [1,6,7,16]
 | 3=>kpn [4,5,6]
 | 4=>kpn [4,5,6]
 | _=>[]
noncomputable def QPY:List (Nat×FnI):=[(46,{ fn:=Tryz.f46,kp:=kw19}),
 (48,{ fn:=Tryz.f48,kp:=kw27,kb:=[(5000,3,0),(5000,4,0),(5000,9,0),(6,0,1001)]}),
 (116,{ fn:=Tryz.f116,kp:=QIm}),
 (118,{ fn:=Tryz.f118,kp:=kw67}),
 (119,{ fn:=Tryz.f119,kp:=kw68}),
 (120,{ fn:=Tryz.f120,kp:=kw69,kb:=[(1001,0,1001)]}),
 (121,{ fn:=Tryz.f121,kp:=kw70}),
 (122,{ fn:=Tryz.f122,kp:=kw71})]
theorem QPy:FnI.Ok Tryz.prog 46 { fn:=Tryz.f46,kp:=kw19} :=⟨Tryz.func46,rfl,by kernel_rfl,by kernel_rfl,λ_ _=>by kernel_rfl,by decide⟩
theorem QPz:FnI.Ok Tryz.prog 48 { fn:=Tryz.f48,kp:=kw27,kb:=[(5000,3,0),(5000,4,0),(5000,9,0),(6,0,1001)]} :=⟨Tryz.func48,rfl,by kernel_rfl,by kernel_rfl,λ_ _=>by kernel_rfl,by decide⟩
theorem QPt:FnI.Ok Tryz.prog 116 { fn:=Tryz.f116,kp:=QIm} :=⟨Tryz.func116,rfl,by kernel_rfl,by kernel_rfl,λ_ _=>by kernel_rfl,by decide⟩
theorem QPw:FnI.Ok Tryz.prog 118 { fn:=Tryz.f118,kp:=kw67} :=⟨Tryz.func118,rfl,by kernel_rfl,by kernel_rfl,λ_ _=>by kernel_rfl,by decide⟩
theorem QPx:FnI.Ok Tryz.prog 119 { fn:=Tryz.f119,kp:=kw68} :=⟨Tryz.func119,rfl,by kernel_rfl,by kernel_rfl,λ_ _=>by kernel_rfl,by decide⟩
theorem QPs:FnI.Ok Tryz.prog 120 { fn:=Tryz.f120,kp:=kw69,kb:=[(1001,0,1001)]} :=⟨Tryz.func120,rfl,by kernel_rfl,by kernel_rfl,λ_ _=>by kernel_rfl,by decide⟩
theorem QPu:FnI.Ok Tryz.prog 121 { fn:=Tryz.f121,kp:=kw70} :=⟨Tryz.func121,rfl,by kernel_rfl,by kernel_rfl,λ_ _=>by kernel_rfl,by decide⟩
theorem QPv:FnI.Ok Tryz.prog 122 { fn:=Tryz.f122,kp:=kw71} :=⟨Tryz.func122,rfl,by kernel_rfl,by kernel_rfl,λ_ _=>by kernel_rfl,by decide⟩
theorem QPA:Qt9 Tryz.prog QPY:=QP QPy (QP QPz (QP QPt (QP QPw (QP QPx (QP QPs (QP QPu (QP QPv QFN)))))))
noncomputable def gF:List (Nat×(List D->Option D)):=[(55,QPT (Qcs 50)),(56,QPH (Qcs 50)),(57,QPX (Qcs 50)),(117,s66)]
theorem dgF:QaE Tryz.prog (Qaw gF):=by
 have hv:ValidB (Qcs 50):=(QbQ _).1 (by rw[QCv])
 exact Qh (Qh (Qh (Qh Qs QDc ok66) Qzp (QPW hv)) Qy4 (QPL hv)) QsN (QPO ⟨by decide+kernel,by decide+kernel,by decide+kernel⟩)
noncomputable def cxF:Cx:=QGL gF [] 0 (λ_=>[]) [] (λ_=>[]) (λ_=>0) [] []
theorem QPE:CxOk Tryz.prog cxF:=Qby dgF Qb6 Qbn Qcx 0 (λ_=>[]) [] (λ_=>[]) (λ_=>0)
noncomputable def QPP:List D->Option D:=(cxF.runs QPY 14).Δ 48
theorem QPV:∀ds d,QPP ds=some d->PureC Tryz.prog 48 ds d:=λ_ _ h=>QvV QPE QPA 14 h
theorem QPI (xs:Array Value) (w:World):(callFunc 48 xs).run Tryz.prog w= .ok (.enter 48 xs) w:=by kernel_rfl
noncomputable def QPN:List D->Option D:=(cxF.runs QPY 14).Δ 46
theorem QPS:∀ds d,QPN ds=some d->PureC Tryz.prog 46 ds d:=λ_ _ h=>QvV QPE QPA 14 h
theorem QPF (xs:Array Value) (w:World):(callFunc 46 xs).run Tryz.prog w= .ok (.enter 46 xs) w:=by kernel_rfl
set_option maxRecDepth 100000 in
theorem QPU:QPP [.sl 5 ((Qcs 50).map QQ.enc),.sl 1 [[DI 3]],.sl 1 [[DI 4]]]=some (.tup [.sl 1 [[DI 1]],DI 0]):=by kernel_rfl
set_option maxRecDepth 100000 in
theorem QPQ:QPN [.sl 5 ((Qcs 50).map QQ.enc),DI 0]=some (.tup [.sl 1 [[DI 2],[DI 4]],.sl 1 [[DI 2],[DI 3],[DI 4]],DI 0]):=by kernel_rfl
set_option maxRecDepth 100000 in
theorem QPM:QPN [.sl 5 ((Qcs 50).map QQ.enc),DI 5]=some (.tup [.sl 0 [],.sl 0 [],DI 4]):=by kernel_rfl
end Go.Proofs.YticoemblgkemiaaGreatDoor
