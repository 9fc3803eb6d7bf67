/-
  The program of the trace chapter: which cards were true, all possibilities. Conditions: none.
-/
import Derived.Test.YticoemblgkemiaaGreatDoorZPrF
set_option linter.unusedSimpArgs false
set_option linter.unusedVariables false
namespace Go.Proofs.YticoemblgkemiaaGreatDoor
open Go.RowKit
attribute [local simp] Quu QqG Quy Qw5 Qrb QxJ QEa QEx QGe Qry QKI QLz QMp Que QFL QGl QuE Qud Qy7 QGC Qty QAC QCa QAG Qz6 QzD QFa QE4 QEI QDV QH0 QGu QAH QeN Qrw X.known QM8 QoW Qor Qpu exA Qqz
def kp99 (r:Nat):List (Nat×Option Nat):=match r with
 | 0=>[(1,none)]
 | 1=>[(2,none)]
 | _=>[]
def Qts (r:Nat):List (Nat×Option Nat):=match r with
 | 0=>kpn [0,1,10,11]
 | 1=>kpn [0,1,10,11,12]
 | 2=>kpn [0,1,3,10,11]
 | 3=>kpn [0,1,3,4,10,11]
 | 4=>kpn [0,1,3,4,10,11,15,16,17]
 | 5=>kpn [0,1,3,4,10,11,15,16,17,18]
 | 6=>kpn [0,1,3,4,5,6,10,11,15,16,17]
 | 7=>kpn [0,1,3,4,10,11,15,16,17]
 | 8=>kpn [0,1,3,4,10,11,15,16,17]
 | 9=>kpn [0,1,10,11,33]
 | 10=>kpn [0,1,10,11]
 | _=>[]
def Qp2 (l:List Int) (s:Nat):Nat->(Nat->Bool)
 | 0=>λ_=>false
 | k+1=>QZ (Qp2 l s k) (l.getD k 0).toNat (Qc9 s k)
theorem Qzr (l:List Int) (s:Nat):Qp2 l s 0=λ_=>false:=rfl
attribute [local simp] Qzr
def QJZ (l:List Int) (s:Nat):List Value:=[.agg ((List.range 8).map λt=>Value.bool (Qp2 l s l.length t)).toArray]
def Qi3 (l:List Int):List (List Value):=(List.range (2 ^ l.length)).map (QJZ l)
theorem Qki {α:Type} {l:List α} {j:Nat} {v:α} (h:l[j]?=some v):l.take j++[v]=l.take (j+1):=by
 rw[List.take_add_one,h]; rfl
theorem QrB {α:Type} {l:List α} {j:Nat} {v:α} (h:l[j]?=some v):l.take j++[v] <+:l:=by
 rw[Qki h]; exact List.take_prefix _ _
theorem QnK {l:List Int} {j:Nat} (h:j < 2 ^ l.length):(Qi3 l)[j]?=some (QJZ l j):=by simp[Qi3,h]
def Qv9 (l:List Int):Prop:=l.length<=3/\∀x∈l,0<=x/\x < 8
instance (l:List Int):Decidable (Qv9 l):=inferInstanceAs (Decidable (_/\_))
noncomputable def QIx:List D->Option (List (List Value)):=λds=>match ds with
 | [.dat 82 [cs] 0 0]=>(match rBx.dec cs with
  | some x=>if Qv9 x.lost then some (Qi3 x.lost)else none
  | none=>none)
 | _=>none
theorem Qks (f:Nat->Bool):∀l:List Nat,Qc8 (l.map λt=>DB (f t))=some (l.map λt=>Value.bool (f t))
 | []=>rfl
 | a::t=>by simp only[List.map_cons,Qc8,Qks f t]; rfl
theorem QEs:∀n:Nat,n < 4->IntKind.i64.wrap (2 ^ min n IntKind.i64.bits)=2 ^ n:=by decide
theorem QGa:∀s:Nat,s < 8->∀k:Nat,k < 3->(bits .and .i64 ((s:Int) / 2 ^ min k IntKind.i64.bits) 1==1)=Qc9 s k:=by decide
theorem QLa {h n:Nat->Int} {v:Nat->Nat->Bool} {a b:D} :(QdW h n v++[a,b])[81]?=some b:=by
 rw[List.getElem?_append_right (by rw[QX]; omega),QX]; rfl
set_option maxHeartbeats 4000000 in
theorem QOB:∀ds r,QIx ds=some r->QC4 Tryz.prog 202 ds r:=by
 intro ds r hr;unfold QIx at hr;split at hr
 .rename_i cs;split at hr
  .rename_i x hx;split at hr
   .rename_i hc;cases hr;obtain⟨tZ,xO⟩:=hc;have bM:cs=rBx.enc x:=by
     have:rBx.dec cs=some x:=hx;unfold rBx QCf at this;simp only at this;split at this
     .rename_i hd;cases this;exact hd.choose_spec.symm
     .cases this
    subst bM;rw[QkY];refine Qq4 (Qw Qs 35 Qts []) Tryz.func202 rfl rfl rfl (Zb rfl) (by kernel_rfl) λln ad had=>?_
    obtain⟨⟨b1',o1'⟩,rfl⟩:∃p,ad=[p]:=by
     match ad,had with
     | [p],_=>exact⟨p,rfl⟩
    have sl:=QEs x.lost.length (by omega)
    simp[Qts,QLa,sl];have tS:((2 ^ x.lost.length:Nat):Int)=2 ^ x.lost.length:=by
     rcases(by omega:x.lost.length=0\/x.lost.length=1\/x.lost.length=2\/x.lost.length=3)with e | e | e | e<;>rw[e]<;>rfl
    have hp8:2 ^ x.lost.length<=8:=by
     rcases(by omega:x.lost.length=0\/x.lost.length=1\/x.lost.length=2\/x.lost.length=3)with e | e | e | e<;>rw[e]<;>decide
    rw[<-tS];generalize hR:QdW x.sup.h x.sup.n x.sup.v++[D.sl 5 (List.map QQ.enc x.bats),D.sl 1 (List.map QH.enc x.lost)]=row at*;have tC:row[81]?=some (D.sl 1 (List.map QH.enc x.lost)):=by rw[<-hR]; exact QLa
    have l8:row.length=82:=by rw[<-hR]; exact QFX
    have xV:∀h:81 < row.length,row[81]'h=D.sl 1 (List.map QH.enc x.lost):=λh=>by
     rw[Zg h]at tC; exact Option.some.inj tC
    clear hR;generalize x.lost=l at*;refine QsT _ _ _ _ (λk s'=>∃j:Nat,j+k=2 ^ l.length/\s'=⟨⟨[(0,.d (.v (.func (.yield ln) #[] #[]))),(1,.d (.datA b1' o1' 82 [row] 0 0)),(10,.d (DI ((2 ^ l.length:Nat):Int))),(11,.d (DI j))],[],[],[]⟩,(Qi3 l).take j,false⟩) (2 ^ l.length) ⟨0,by omega,rfl⟩ ?_
    rintro k s' ⟨j,t6,rfl⟩;by_cases hj:j < 2 ^ l.length
    .have n7:(j:Int) < ((2 ^ l.length:Nat):Int):=by omega
     have w1:=Qa ((j:Int)+1) (by omega) (by omega)
     generalize hNN:2 ^ l.length=N at*;simp[Qts,n7,xV,l8];refine QsT _ _ _ _ (λk2 s'=>∃q:Nat,q+k2=l.length/\s'=⟨⟨[(0,.d (.v (.func (.yield ln) #[] #[]))),(1,.d (.datA b1' o1' 82 [row] 0 0)),(3,.d (DI j)),(4,.loc 4 0),(10,.d (DI N)),(11,.d (DI j)),(15,.d (.sl 1 (l.map QH.enc))),(16,.d (DI l.length)),(17,.d (DI q))],[(4,Qk 8 (λt=>DB (Qp2 l j q t)))],[],[]⟩,(Qi3 l).take j,false⟩) l.length ⟨0,by omega,rfl⟩ ?_
     rintro k2 s' ⟨q,hqk,rfl⟩;by_cases hq:q < l.length
     .have tD:(q:Int) < l.length:=by omega
      have w2:=Qa ((q:Int)+1) (by omega) (by omega)
      have h8:=xO l[q] (Ze hq);have h8n:l[q].toNat < 8:=by omega
      have h8m:l[q].toNat+1<=8:=by omega
      have hb:=QGa j (by omega) q (by omega)
      have bT:Qp2 l j (q+1)=QZ (Qp2 l j q) l[q].toNat (Qc9 j q):=by rw[Qp2,Ql _ _ _ hq]
      simp[Qts,Qd,hq,tD,Qaj,QA,Qb,Qo,Qfy,w2,h8.1,h8.2,h8n,h8m,hb];exact⟨k2 - 1,by omega,q+1,by omega,by rw[bT]; exact⟨by omega,rfl⟩⟩
     .have tD:¬(q:Int) < l.length:=by omega
      have gZ:q=l.length:=by omega
      subst gZ;have hp:=QrB (QnK (l:=l) (j:=j) (by omega))
      have hs:=Qki (QnK (l:=l) (j:=j) (by omega))
      simp only[QJZ]at hp hs;simp[Qts,Qaj,QA,Qb,QaG,Qv,Qks,hs,w1];exact⟨List.take_prefix _ _,k - 1,by omega,j+1,by omega,by omega,rfl⟩
    .have hjN:¬(j:Int) < ((2 ^ l.length:Nat):Int):=by omega
     have lW:j=2 ^ l.length:=by omega
     have hl:(Qi3 l).take j=Qi3 l:=List.take_of_length_le (by simp[Qi3]; omega)
     generalize 2 ^ l.length=N at*;simp[Qts,hjN,hl];done
   .cases hr
  .cases hr
 .cases hr
theorem QHn (xs:Array Value) (w:World):(callFunc 202 xs).run Tryz.prog w= .ok (.enter 202 xs) w:=by kernel_rfl
theorem QKO:QpD Tryz.prog (QiT [(202,QIx)]):=λgf caps l h=>by
 simp only[QiT,Qt]at h;split at h
 .rename_i s hs;split at hs
  .rename_i e; simp only[Zs]at hs; subst hs; subst e;exact⟨QHn,QOB _ _ h⟩
  .cases hs
 .cases h
noncomputable def s99:List D->Option D:=sp1 (Qcf rBx) QNy λx=>some (.fn 202 [] [.dat 82 [rBx.enc x] 0 0])
theorem ok99:∀ds d,s99 ds=some d->PureC Tryz.prog 135 ds d:=Qbr λx r hr=>by
 cases hr;refine Qf (Qw Qs 4 kp99 []) Tryz.func135 rfl rfl (Zb rfl) (by kernel_rfl) ?_
 rw[Tryz.results135];show _=some (D.fn 202 [] [.dat 82 [rBx.enc x] 0 0]);simp[kp99,QkY,QaU,QL,Qas,Qag,QX];done
theorem QMo (xs:Array Value) (w:World):(callFunc 135 xs).run Tryz.prog w= .ok (.enter 135 xs) w:=by kernel_rfl
end Go.Proofs.YticoemblgkemiaaGreatDoor
namespace Go.Proofs.YticoemblgkemiaaGreatDoor
open Go.RowKit
noncomputable def Qcd {α:Type} (enc:α->D):Cod α:=⟨enc,λd=> @dite _ (∃x,enc x=d) (Classical.propDecidable _) (λh=>some h.choose) (λ_=>none),λd x h=>by
 split at h
 .rename_i hd;cases h;rw[hd.choose_spec]; exact DImp.refl _
 .cases h⟩
theorem Qb8 {α:Type} (enc:α->D) (x:α):(Qcd enc).enc x=enc x:=rfl
theorem Qa4 {α:Type} {enc:α->D} (inj:∀x y,enc x=enc y->x=y) (x:α):(Qcd enc).dec (enc x)=some x:=by
 have h:∃y,enc y=enc x:=⟨x,rfl⟩;show(@dite _ (∃y,enc y=enc x) (Classical.propDecidable _) (λh=>some h.choose) (λ_=>none))=some x;rw[dif_pos h]; exact congrArg some (inj _ _ h.choose_spec)
abbrev Oct:= {cs:List D // ∃f:Nat->Bool,cs=(List.range 8).map λk=>DB (f k)}
def Oct.of (f:Nat->Bool):Oct:=⟨(List.range 8).map λk=>DB (f k),f,rfl⟩
def Oct.f (s:Oct) (k:Nat):Bool:=if k < 8 then QGK (s.1.getD k (DB false))else false
theorem QEo {f:Nat->Bool} {k:Nat} (hk:k < 8) (d:D):((List.range 8).map λk=>DB (f k)).getD k d=DB (f k):=by
 simp[Zd,hk]
theorem Oct.of_f (f:Nat->Bool) (k:Nat):(Oct.of f).f k=if k < 8 then f k else false:=by
 unfold Oct.f Oct.of;split
 .rename_i hk; dsimp only; rw[QEo hk]; rfl
 .rfl
theorem Oct.eq (s:Oct):s.1=(List.range 8).map λk=>DB (s.f k):=by
 obtain⟨cs,f,rfl⟩:=s;refine List.map_congr_left λk hk=>?_;have:=Oct.of_f f k;rw[if_pos (Zm.1 hk)]at this;exact congrArg DB this.symm
def QjP (g:Nat) (s:Oct):D:= .fn g [] [.dat 8 [s.1] 0 0]
theorem QqR (g:Nat) (x y:Oct) (h:QjP g x=QjP g y):x=y:=by
 simp only[QjP,D.fn.injEq,List.cons.injEq,D.dat.injEq,and_true,true_and]at h;exact Subtype.ext h
def QnA (s:Oct):D:= .dat 8 [s.1] 0 0
theorem Qhd (x y:Oct) (h:QnA x=QnA y):x=y:=by
 simp only[QnA,D.dat.injEq,List.cons.injEq,and_true,true_and]at h;exact Subtype.ext h
def QIU (r:Nat):List (Nat×Option Nat):=match r with
 | 0=>kpn [2,4]
 | 1=>[(5,none)]
 | _=>[]
def QMy (r:Nat):List (Nat×Option Nat):=match r with
 | 0=>kpn [2,4]
 | 1=>[(5,none)]
 | _=>[]
noncomputable def QNz:List D->Option D:=sp3 QaY (Qcf Qce) (Qcd QnA) QaW λ_ t s=>if 0<=t.fr/\t.fr < 8 then some (s.f t.fr.toNat)else none
theorem QOh:∀ds d,QNz ds=some d->PureC Tryz.prog 136 ds d:=QcN λk t s r hr=>by
 split at hr
 .rename_i hi;cases hr;refine Qf (Qw Qs 10 QIU []) Tryz.func136 rfl rfl (Zb rfl) (by kernel_rfl) ?_
  rw[Tryz.results136];have h8:t.fr.toNat < 8:=by omega
  simp[QIU,Qr,Qb8,QnA,s.eq,hi.1,hi.2,h8];done
 .cases hr
theorem QEh (xs:Array Value) (w:World):(callFunc 136 xs).run Tryz.prog w= .ok (.enter 136 xs) w:=by kernel_rfl
noncomputable def Qmt:List D->Option D:=sp2 (QJ Qce) (Qcd (QjP 136)) QaW λl s=>if l.length<=17592186044416/\∀t∈l,0<=t.fr/\t.fr < 8 then some (l.any λt=>s.f t.fr.toNat)else none
noncomputable def QPg:List (Nat×(List D->Option D)):=[(136,QNz)]
theorem QNT:QaE Tryz.prog (Qaw QPg):=Qh Qs QEh QOh
set_option maxHeartbeats 2000000 in
theorem QAE:∀ds d,Qmt ds=some d->PureC Tryz.prog 137 ds d:=Qay λl s r hr=>by
 split at hr
 .rename_i hc;obtain⟨hl,ht⟩:=hc;cases hr;refine Qf (Qw QNT 19 QiY []) Tryz.func137 rfl rfl (Zb rfl) (by kernel_rfl) ?_
  rw[Tryz.results137];simp[QiY,Qb8,QjP,Qx];generalize aC:Cx.loop _ _ _=aE;have tA:aE=some (if(List.range l.length).all (λj=>!(s.f (l.getD j default).fr.toNat))=true then(.exit 0,⟨[(1,.d (QjP 136 s)),(7,.d (.sl 2 (l.map Qce.enc))),(8,.d (DI l.length)),(9,.d (DI l.length)),(10,.d (DB false))],[],[],[]⟩)else(.ret,⟨[(4,.d (DB true))],[],[],[]⟩)):=by
   refine QeB aC (λj=>⟨[(1,.d (QjP 136 s)),(7,.d (.sl 2 (l.map Qce.enc))),(8,.d (DI l.length)),(9,.d (DI j))],[],[],[]⟩) _ _ _ _ (by simp[QjP]) (by show _ < 281474976710656; omega) (by simp) (by simp) ?_ ?_
   .intro j hj;have aO:(j:Int) < l.length:=by omega
    have w1:=Qa ((j:Int)+1) (by omega) (by omega)
    have h0:=ht l[j] (Ze hj);rw[Ql l j _ hj];have hs:QNz [DI j,.agg [DI l[j].fr,DI l[j].gr],.dat 8 [s.1] 0 0]=some (DB (s.f l[j].fr.toNat)):=by
     have hd:(Qcd QnA).dec (.dat 8 [s.1] 0 0)=some s:=Qa4 Qhd s;simp only[QNz,sp3,Qak,QaQ,Qjy,hd];rw[if_pos h0]; rfl
    cases hb:s.f l[j].fr.toNat with
    | true=>
     rw[hb]at hs;simp[QiY,QPg,QjP,Qr,hj,aO,hs]
    | false=>
     rw[hb]at hs;simp[QiY,QPg,QjP,Qr,hj,aO,hs,w1]
   .simp[QiY,QjP]
  rw[tA];have e2:(l.any λt=>s.f t.fr.toNat)=!(List.range l.length).all (λj=>!(s.f (l.getD j default).fr.toNat)):=by
   rw[Bool.eq_iff_iff,Zy,Bool.not_eq_true',List.all_eq_false];constructor
   .rintro⟨t,h1,h2⟩;obtain⟨k,hk,rfl⟩:=List.getElem_of_mem h1;exact⟨k,Zm.2 hk,by rw[Ql _ _ _ hk,h2]; simp⟩
   .rintro⟨k,hk,h⟩;have dR:=Zm.1 hk;rw[Ql _ _ _ dR]at h;exact⟨_,Ze dR,by simpa using h⟩
  rw[e2];cases(List.range l.length).all (λj=>!(s.f (l.getD j default).fr.toNat))with
  | true=>simp[QiY]
  | false=>simp
 .cases hr
noncomputable def QMY:List D->Option D:=sp3 QaY (Qcf Qce) (Qcd QnA) QaW λ_ t s=>if 0<=t.fr/\t.fr < 8 then some (s.f t.fr.toNat)else none
theorem QOJ:∀ds d,QMY ds=some d->PureC Tryz.prog 203 ds d:=QcN λk t s r hr=>by
 split at hr
 .rename_i hi;cases hr;refine Qf (Qw Qs 10 QMy []) Tryz.func203 rfl rfl (Zb rfl) (by kernel_rfl) ?_
  rw[Tryz.results203];have h8:t.fr.toNat < 8:=by omega
  simp[QMy,Qr,Qb8,QnA,s.eq,hi.1,hi.2,h8];done
 .cases hr
theorem QDQ (xs:Array Value) (w:World):(callFunc 203 xs).run Tryz.prog w= .ok (.enter 203 xs) w:=by kernel_rfl
noncomputable def QnD:List D->Option D:=sp2 (QJ Qce) (Qcd (QjP 203)) QaW λl s=>if l.length<=17592186044416/\∀t∈l,0<=t.fr/\t.fr < 8 then some (l.any λt=>s.f t.fr.toNat)else none
noncomputable def QOb:List (Nat×(List D->Option D)):=[(203,QMY)]
theorem QOq:QaE Tryz.prog (Qaw QOb):=Qh Qs QDQ QOJ
set_option maxHeartbeats 2000000 in
theorem QAl:∀ds d,QnD ds=some d->PureC Tryz.prog 137 ds d:=Qay λl s r hr=>by
 split at hr
 .rename_i hc;obtain⟨hl,ht⟩:=hc;cases hr;refine Qf (Qw QOq 19 QiY []) Tryz.func137 rfl rfl (Zb rfl) (by kernel_rfl) ?_
  rw[Tryz.results137];simp[QiY,Qb8,QjP,Qx];generalize aC:Cx.loop _ _ _=aE;have tA:aE=some (if(List.range l.length).all (λj=>!(s.f (l.getD j default).fr.toNat))=true then(.exit 0,⟨[(1,.d (QjP 203 s)),(7,.d (.sl 2 (l.map Qce.enc))),(8,.d (DI l.length)),(9,.d (DI l.length)),(10,.d (DB false))],[],[],[]⟩)else(.ret,⟨[(4,.d (DB true))],[],[],[]⟩)):=by
   refine QeB aC (λj=>⟨[(1,.d (QjP 203 s)),(7,.d (.sl 2 (l.map Qce.enc))),(8,.d (DI l.length)),(9,.d (DI j))],[],[],[]⟩) _ _ _ _ (by simp[QjP]) (by show _ < 281474976710656; omega) (by simp) (by simp) ?_ ?_
   .intro j hj;have aO:(j:Int) < l.length:=by omega
    have w1:=Qa ((j:Int)+1) (by omega) (by omega)
    have h0:=ht l[j] (Ze hj);rw[Ql l j _ hj];have hs:QMY [DI j,.agg [DI l[j].fr,DI l[j].gr],.dat 8 [s.1] 0 0]=some (DB (s.f l[j].fr.toNat)):=by
     have hd:(Qcd QnA).dec (.dat 8 [s.1] 0 0)=some s:=Qa4 Qhd s;simp only[QMY,sp3,Qak,QaQ,Qjy,hd];rw[if_pos h0]; rfl
    cases hb:s.f l[j].fr.toNat with
    | true=>
     rw[hb]at hs;simp[QiY,QOb,QjP,Qr,hj,aO,hs]
    | false=>
     rw[hb]at hs;simp[QiY,QOb,QjP,Qr,hj,aO,hs,w1]
   .simp[QiY,QjP]
  rw[tA];have e2:(l.any λt=>s.f t.fr.toNat)=!(List.range l.length).all (λj=>!(s.f (l.getD j default).fr.toNat)):=by
   rw[Bool.eq_iff_iff,Zy,Bool.not_eq_true',List.all_eq_false];constructor
   .rintro⟨t,h1,h2⟩;obtain⟨k,hk,rfl⟩:=List.getElem_of_mem h1;exact⟨k,Zm.2 hk,by rw[Ql _ _ _ hk,h2]; simp⟩
   .rintro⟨k,hk,h⟩;have dR:=Zm.1 hk;rw[Ql _ _ _ dR]at h;exact⟨_,Ze dR,by simpa using h⟩
  rw[e2];cases(List.range l.length).all (λj=>!(s.f (l.getD j default).fr.toNat))with
  | true=>simp[QiY]
  | false=>simp
 .cases hr
end Go.Proofs.YticoemblgkemiaaGreatDoor
namespace Go.Proofs.YticoemblgkemiaaGreatDoor
theorem QsU {l:List Int} {s:Nat} :∀k,k<=l.length->(∀i j,i < k->j < k->(l.getD i 0).toNat=(l.getD j 0).toNat->i=j)->∀t,Qp2 l s k t=(List.range k).any λq=>Qc9 s q&&(l.getD q 0).toNat==t
 | 0,_,_,t=>rfl
 | k+1,hk,hd,t=>by
  have ih:=QsU (l:=l) (s:=s) k (by omega) (λi j h1 h2=>hd i j (by omega) (by omega)) t
  rw[Qp2,List.range_succ,List.any_append,<-ih,List.any_cons,List.any_nil,Bool.or_false];unfold QZ;by_cases e:t=(l.getD k 0).toNat
  .rw[if_pos e,ih];have h0:(List.range k).any (λq=>Qc9 s q&&(l.getD q 0).toNat==t)=false:=by
    rw[List.any_eq_false];intro q hq;rw[Zm]at hq;have:¬(l.getD q 0).toNat=t:=λh=>by
     have:=hd q k (by omega) (by omega) (h.trans e); omega
    have h2:((l.getD q 0).toNat==t)=false:=by simpa using this
    rw[h2,Bool.and_false]; simp
   rw[h0,e]; simp
  .rw[if_neg e];have:¬(l.getD k 0).toNat=t:=λh=>e h.symm;have h2:((l.getD k 0).toNat==t)=false:=by simpa using this
   rw[h2,Bool.and_false,Bool.or_false]
theorem Qjn {b:List Bat} {q:Nat} (h:q < (QS b).length):((Qae b).getD q 0).toNat=(QS b).getD q 0:=by
 unfold Qae;rw[Zd,List.getElem?_map,Zg h,Ql _ _ _ h]; rfl
theorem QjF (b:List Bat):(Qae b).length=(QS b).length:=by simp[Qae]
def QzP (b:List Bat) (s:Nat):Nat->Bool:=Qp2 (Qae b) s (Qae b).length
theorem Qmf (b:List Bat) (s:Nat):QzP b s=Qe3 b s:=by
 funext t;unfold QzP Qe3;rw[QsU _ (Zr _) (λi j hi hj h=>?_) t,QjF]
 .rw[Bool.eq_iff_iff,Zy,Zy];constructor
  .rintro⟨q,h1,h2⟩;rw[Qjn (Zm.1 h1)]at h2;exact⟨q,h1,h2⟩
  .rintro⟨q,h1,h2⟩;refine⟨q,h1,?_⟩;rw[Qjn (Zm.1 h1)]; exact h2
 .rw[QjF]at hi hj;rw[Qjn hi,Qjn hj,Ql _ _ _ hi,Ql _ _ _ hj]at h;exact(List.getElem_inj (QgJ b)).1 h
def Qg2 (b:List Bat) (i s:Nat):Nat->Nat->Bool:=QcA (QM b) i (QzP b s)
theorem QvQ {b:List Bat} (h:BookOk b) {i s t:Nat} (ht:t < b.length):Qg2 b i s (t+1)=QZ (Qg2 b i s t) t (decide (t=i)||(b[t].lost&&!QzP b s t)||b[t].takes.any λq=>Qg2 b i s t q.fr.toNat):=by
 unfold Qg2;rw[QcA];have hl:(QM b).lost t=b[t].lost:=by show QbV b t=_; unfold QbV; rw[Qao ht]
 have hf:((List.range t).any λx=>(QM b).fix x t&&QcA (QM b) i (QzP b s) t x)=b[t].takes.any λq=>QcA (QM b) i (QzP b s) t q.fr.toNat:=by
  rw[Bool.eq_iff_iff,Zy,Zy];constructor
  .rintro⟨x,h1,h2⟩;rw[Za]at h2;have h2':Qk7 b x t=true:=h2.1;unfold Qk7 at h2';rw[Qao ht]at h2';obtain⟨k,h4,h5⟩:=Zy.1 h2';have h5':k.fr=(x:Int):=by simpa using h5
   exact⟨k,h4,by rw[h5']; exact h2.2⟩
  .rintro⟨k,h4,h5⟩;have:=(h.at ht).fr k h4;refine⟨k.fr.toNat,Zm.2 (by omega),?_⟩
   rw[Za];refine⟨?_,h5⟩;show Qk7 b k.fr.toNat t=true;unfold Qk7;rw[Qao ht];exact Zy.2 ⟨k,h4,by simp; omega⟩
 rw[hl,hf]
theorem Qr4 {b:List Bat} (h:BookOk b) {i s:Nat} (hi:i < b.length):Qg2 b i s b.length=QdK (QM b) i (QzP b s):=by
 funext x;unfold QdK Qg2;have bE:=h.le;by_cases hx:x < b.length
 .exact(Qez _ _ _ hx bE).symm
 .have key:∀m,x < m\/m<=x->QcA (QM b) i (QzP b s) m x=false:=by
   intro m
   induction m with
   | zero=>intro _; rfl
   | succ m ih=>
    intro _;rw[QcA];unfold QZ;split
    .rename_i e;subst e;have e1:¬x=i:=by omega
     have e2:(QM b).lost x=false:=by show QbV b x=false; unfold QbV; rw[Qau (by omega)]; rfl
     have e3:∀y,(QM b).fix y x=false:=λy=>by show Qk7 b y x=false; unfold Qk7; rw[Qau (by omega)]; rfl
     simp[e1,e2,e3]
    .exact ih (by omega)
  rw[key _ (by omega),key _ (by omega)]
def QiM (d:Nat->Bool) (m x t:Nat):Bool:=decide (t < m)&&(decide (x < t)&&(d x&&!d t))
theorem QvC (d:Nat->Bool):QiM d 0=noN:=by
 funext x t; simp[QiM,noN]
theorem QtC {d:Nat->Bool} {m:Nat} (h:d m=true):QiM d (m+1)=QiM d m:=by
 funext x t;unfold QiM;by_cases e:t=m
 .subst e; simp[h]
 .have:decide (t < m+1)=decide (t < m):=by rw[decide_eq_decide]; omega
  rw[this]
def Qvc (d:Nat->Bool) (m k:Nat):Nat->Nat->Bool:=λx t=>QiM d m x t||(decide (t=m)&&decide (x < k)&&d x)
theorem Qx6 (d:Nat->Bool) (m:Nat):Qvc d m 0=QiM d m:=by
 funext x t; simp[Qvc]
theorem Qoj (d:Nat->Bool) (m k:Nat):Qvc d m (k+1)=QgC (Qvc d m k) k m (d k):=by
 funext x t;unfold Qvc QgC;by_cases e:x=k
 .subst e;rw[if_pos rfl];unfold QZ;by_cases e2:t=m
  .subst e2; simp[QiM]
  .rw[if_neg e2]; simp[e2]
 .rw[if_neg e];have:decide (x < k+1)=decide (x < k):=by rw[decide_eq_decide]; omega
  rw[this]
theorem QzX {d:Nat->Bool} {m:Nat} (h:d m=false):Qvc d m m=QiM d (m+1):=by
 funext x t;unfold Qvc QiM;by_cases e:t=m
 .subst e; simp[h]
 .have:decide (t < m+1)=decide (t < m):=by rw[decide_eq_decide]; omega
  rw[this]; simp[e]
theorem Qt2 {d d':Nat->Bool} {m:Nat} (h:∀x,x < m->d x=d' x):QiM d m=QiM d' m:=by
 funext x t;unfold QiM;by_cases h1:t < m
 .by_cases h2:x < t
  .rw[h x (by omega),h t h1]
  .simp[h2]
 .simp[h1]
def mwB (b:List Bat) (i s:Nat):Bool:=Qc2 (Sup.of (λj=>(QT b).getD j 0) (λj=>(QaD b).getD j 0) (QiM (Qg2 b i s b.length) b.length))
def QeE (b:List Bat) (i j k:Nat):Bool:=decide (k < b.length)&&(List.range j).all λs=>!mwB b i s||Qg2 b i s b.length k
theorem QsD {b:List Bat} {i j:Nat} (h:mwB b i j=false):QeE b i (j+1)=QeE b i j:=by
 funext k;unfold QeE;rw[List.range_succ,List.all_append,List.all_cons,h]; simp
theorem Qmp {b:List Bat} {i j k:Nat} (h:mwB b i j=true):QeE b i (j+1) k=(QeE b i j k&&Qg2 b i j b.length k):=by
 unfold QeE;rw[List.range_succ,List.all_append,List.all_cons,List.all_nil,Bool.and_true,h,Bool.and_assoc]; simp
theorem Qu3 {b:List Bat} {i j:Nat} (h:∀k,k < 8->Qg2 b i j b.length k=QeE b i j k) (hb:BookOk b) (hi:i < b.length):QeE b i (j+1)=QeE b i j:=by
 cases hw:mwB b i j with
 | false=>exact QsD hw
 | true=>
  funext k;rw[Qmp hw];by_cases hk:k < 8
  .rw[h k hk]; simp
  .have:QeE b i j k=false:=by
    have:=hb.le;unfold QeE;have:decide (k < b.length)=false:=by simp; omega
    rw[this]; rfl
   rw[this]; rfl
theorem QuC {b:List Bat} (h:ValidB b) {i s:Nat} (hi:i < b.length):mwB b i s=Qcj ⟨QT b,QaD b,QcB (QkL b i s) b.length⟩:=by
 have bE:=h.ok.le;have hd:Qg2 b i s b.length=QdK (QM b) i (Qe3 b s):=by rw[Qr4 h.ok hi,Qmf]
 have eh:(Sup.of (λj=>(QT b).getD j 0) (λj=>(QaD b).getD j 0) (QiM (Qg2 b i s b.length) b.length)).h=Qb2 (QV b):=by
  funext x;rw[QFc];split
  .rfl
  .exact(QfJ (by omega)).symm
 have en:(Sup.of (λj=>(QT b).getD j 0) (λj=>(QaD b).getD j 0) (QiM (Qg2 b i s b.length) b.length)).n=Q4 (QV b):=by
  funext x;rw[QGA];split
  .rfl
  .exact(Qcv (by omega)).symm
 have n9:=(QeA (Qek b).sup).1 (by rw[QeY h.ok]; exact h.sol)
 rw[QMf bE,QMT bE]at n9;have hP:=Qd4 h;rw[Bool.eq_iff_iff,Qmz h];unfold mwB;rw[QeA,eh,en];have hv:∀x t,x < t->t < 8->0 < Q4 (QV b) t->(Sup.of (λj=>(QT b).getD j 0) (λj=>(QaD b).getD j 0) (QiM (Qg2 b i s b.length) b.length)).v x t=nvD (QM b) i (Qe3 b s) x t:=by
  intro x t hx ht hn;have dG:t < b.length:=by
   rcases Nat.lt_or_ge t b.length with h | h
   .exact h
   .rw[Qcv h]at hn; omega
  rw[QHT,if_pos ⟨by omega,ht⟩,hd]
  unfold QiM nvD;rw[decide_eq_true dG,decide_eq_true hx,Bool.true_and,Bool.true_and]
 constructor
 .rintro⟨_,hH⟩;exact Qgl hP.has hP.need hv hH
 .intro hH;exact⟨n9.1,Qgl hP.has hP.need (λx t h1 h2 h3=>(hv x t h1 h2 h3).symm) hH⟩
noncomputable def QdZ (b:List Bat) (i k:Nat):Bool:=decide (k < b.length)&&Qrc b i k
theorem Qv7 {b:List Bat} (h:ValidB b) {i:Nat} (hi:i < b.length):QeE b i (2 ^ (Qae b).length)=QdZ b i:=by
 funext k;unfold QeE QdZ;by_cases hk:k < b.length
 .rw[QnC h hi hk,QjF];congr 1;unfold Qlp;rw[Bool.eq_iff_iff,Zl,Zl];refine forall_congr' λs=>forall_congr' λhs=>?_;have hd:Qg2 b i s b.length=QkL b i s:=by rw[Qr4 h.ok hi,Qmf]; rfl
  rw[QuC h hi,hd];cases Qcj ⟨QT b,QaD b,QcB (QkL b i s) b.length⟩<;>cases QkL b i s k<;>simp
 .rw[decide_eq_false hk]; rfl
end Go.Proofs.YticoemblgkemiaaGreatDoor
