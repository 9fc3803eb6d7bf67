/-
  The program of the trace chapter: whether some take is of one of some batches. Conditions: none.
-/
import Derived.Test.YtnfeakhkfehkhaaGreatDoorZPrF
set_option linter.unusedSimpArgs false
set_option linter.unusedVariables false
namespace Go.Proofs.YtnfeakhkfehkhaaGreatDoor
open Go.RowKit
noncomputable def QbR {α:Type} (enc:α->D):Cod α:=⟨enc,λd=> @dite _ (∃x,enc x=d) (Classical.propDecidable _) (λh=>some h.choose) (λ_=>none),λd x h=>by
 split at h
 .rename_i hd;cases h;rw[hd.choose_spec]; exact DImp.refl _
 .cases h⟩
theorem QbS {α:Type} (enc:α->D) (x:α):(QbR enc).enc x=enc x:=rfl
theorem QaN {α:Type} {enc:α->D} (inj:∀x y,enc x=enc y->x=y) (x:α):(QbR enc).dec (enc x)=some x:=by
 have h:∃y,enc y=enc x:=⟨x,rfl⟩;show(@dite _ (∃y,enc y=enc x) (Classical.propDecidable _) (λh=>some h.choose) (λ_=>none))=some x;rw[dif_pos h]; exact congrArg some (inj _ _ h.choose_spec)
abbrev Oct:= {cs:List D // ∃f:Nat->Bool,cs=(List.range 8).map λk=>DB (f k)}
def Oct.of (f:Nat->Bool):Oct:=⟨(List.range 8).map λk=>DB (f k),f,rfl⟩
def Oct.f (s:Oct) (k:Nat):Bool:=if k < 8 then QAp (s.1.getD k (DB false))else false
theorem QBl {f:Nat->Bool} {k:Nat} (hk:k < 8) (d:D):((List.range 8).map λk=>DB (f k)).getD k d=DB (f k):=by
 simp[Zd,hk]
theorem Oct.of_f (f:Nat->Bool) (k:Nat):(Oct.of f).f k=if k < 8 then f k else false:=by
 unfold Oct.f Oct.of;split
 .rename_i hk; dsimp only; rw[QBl hk]; rfl
 .rfl
theorem Oct.eq (s:Oct):s.1=(List.range 8).map λk=>DB (s.f k):=by
 obtain⟨cs,f,rfl⟩:=s;refine List.map_congr_left λk hk=>?_;have:=Oct.of_f f k;rw[if_pos (Zm.1 hk)]at this;exact congrArg DB this.symm
def Qjy (g:Nat) (s:Oct):D:= .fn g [] [.dat 8 [s.1] 0 0]
theorem Qpr (g:Nat) (x y:Oct) (h:Qjy g x=Qjy g y):x=y:=by
 simp only[Qjy,D.fn.injEq,List.cons.injEq,D.dat.injEq,and_true,true_and]at h;exact Subtype.ext h
def Qk9 (s:Oct):D:= .dat 8 [s.1] 0 0
theorem Qgx (x y:Oct) (h:Qk9 x=Qk9 y):x=y:=by
 simp only[Qk9,D.dat.injEq,List.cons.injEq,and_true,true_and]at h;exact Subtype.ext h
def QFb (r:Nat):List (Nat×Option Nat):=match r with
 | 0=>kpn [2,4]
 | 1=>[(5,none)]
 | _=>[]
def QE6 (r:Nat):List (Nat×Option Nat):=match r with
 | 0=>kpn [2,4]
 | 1=>[(5,none)]
 | _=>[]
noncomputable def QGP:List D->Option D:=sp3 Qbh (QeC Qb1) (QbR Qk9) QaI λ_ t s=>if 0<=t.fr/\t.fr < 8 then some (s.f t.fr.toNat)else none
theorem QHv:∀ds d,QGP ds=some d->PureC Tryz.prog 100 ds d:=QcG λk t s r hr=>by
 split at hr
 .rename_i hi;cases hr;refine Qm (QE QB 10 QFb []) Tryz.func100 rfl rfl (Zb rfl) (by kernel_rfl) ?_
  rw[Tryz.results100];have h8:t.fr.toNat < 8:=by omega
  simp[QFb,Qo,QbS,Qk9,s.eq,hi.1,hi.2,h8];done
 .cases hr
theorem QzE (xs:Array Value) (w:World):(callFunc 100 xs).run Tryz.prog w= .ok (.enter 100 xs) w:=by kernel_rfl
noncomputable def QlC:List D->Option D:=sp2 (Qy Qb1) (QbR (Qjy 100)) QaI λl s=>if l.length<=17592186044416/\∀t∈l,0<=t.fr/\t.fr < 8 then some (l.any λt=>s.f t.fr.toNat)else none
noncomputable def QHi:List (Nat×(List D->Option D)):=[(100,QGP)]
theorem QHM:Qay Tryz.prog (Qas QHi):=Ql QB QzE QHv
set_option maxHeartbeats 2000000 in
theorem Qxg:∀ds d,QlC ds=some d->PureC Tryz.prog 92 ds d:=QaR λl s r hr=>by
 split at hr
 .rename_i hc;obtain⟨hl,ht⟩:=hc;cases hr;refine Qm (QE QHM 19 QhY []) Tryz.func92 rfl rfl (Zb rfl) (by kernel_rfl) ?_
  rw[Tryz.results92];simp[QhY,QbS,Qjy,Qu];generalize aC:Cx.loop _ _ _=aE;have oW:aE=some (if(List.range l.length).all (λj=>!(s.f (l.getD j default).fr.toNat))=true then(.exit 0,⟨[(1,.d (Qjy 100 s)),(7,.d (.sl 2 (l.map Qb1.enc))),(8,.d (DI l.length)),(9,.d (DI l.length)),(10,.d (DB false))],[],[],[]⟩)else(.ret,⟨[(4,.d (DB true))],[],[],[]⟩)):=by
   refine Qa7 aC (λj=>⟨[(1,.d (Qjy 100 s)),(7,.d (.sl 2 (l.map Qb1.enc))),(8,.d (DI l.length)),(9,.d (DI j))],[],[],[]⟩) _ _ _ _ (by simp[Qjy]) (by show _ < 281474976710656; omega) (by simp) (by simp) ?_ ?_
   .intro j hj;have aO:(j:Int) < l.length:=by omega
    have w1:=Qa ((j:Int)+1) (by omega) (by omega)
    have h0:=ht l[j] (Ze hj);rw[Qj l j _ hj];have hs:QGP [DI j,.agg [DI l[j].fr,DI l[j].gr],.dat 8 [s.1] 0 0]=some (DB (s.f l[j].fr.toNat)):=by
     have hd:(QbR Qk9).dec (.dat 8 [s.1] 0 0)=some s:=QaN Qgx s;simp only[QGP,sp3,Qam,Qbq,QiP,hd];rw[if_pos h0]; rfl
    cases hb:s.f l[j].fr.toNat with
    | true=>
     rw[hb]at hs;simp[QhY,QHi,Qjy,Qo,hj,aO,hs]
    | false=>
     rw[hb]at hs;simp[QhY,QHi,Qjy,Qo,hj,aO,hs,w1]
   .simp[QhY,Qjy]
  rw[oW];have e2:(l.any λt=>s.f t.fr.toNat)=!(List.range l.length).all (λj=>!(s.f (l.getD j default).fr.toNat)):=by
   rw[Bool.eq_iff_iff,Zy,Bool.not_eq_true',List.all_eq_false];constructor
   .rintro⟨t,h1,h2⟩;obtain⟨k,hk,rfl⟩:=List.getElem_of_mem h1;exact⟨k,Zm.2 hk,by rw[Qj _ _ _ hk,h2]; simp⟩
   .rintro⟨k,hk,h⟩;have cZ:=Zm.1 hk;rw[Qj _ _ _ cZ]at h;exact⟨_,Ze cZ,by simpa using h⟩
  rw[e2];cases(List.range l.length).all (λj=>!(s.f (l.getD j default).fr.toNat))with
  | true=>simp[QhY]
  | false=>simp
 .cases hr
noncomputable def QGj:List D->Option D:=sp3 Qbh (QeC Qb1) (QbR Qk9) QaI λ_ t s=>if 0<=t.fr/\t.fr < 8 then some (s.f t.fr.toNat)else none
theorem QHG:∀ds d,QGj ds=some d->PureC Tryz.prog 120 ds d:=QcG λk t s r hr=>by
 split at hr
 .rename_i hi;cases hr;refine Qm (QE QB 10 QE6 []) Tryz.func120 rfl rfl (Zb rfl) (by kernel_rfl) ?_
  rw[Tryz.results120];have h8:t.fr.toNat < 8:=by omega
  simp[QE6,Qo,QbS,Qk9,s.eq,hi.1,hi.2,h8];done
 .cases hr
theorem QzJ (xs:Array Value) (w:World):(callFunc 120 xs).run Tryz.prog w= .ok (.enter 120 xs) w:=by kernel_rfl
noncomputable def QlN:List D->Option D:=sp2 (Qy Qb1) (QbR (Qjy 120)) QaI λl s=>if l.length<=17592186044416/\∀t∈l,0<=t.fr/\t.fr < 8 then some (l.any λt=>s.f t.fr.toNat)else none
noncomputable def QHF:List (Nat×(List D->Option D)):=[(120,QGj)]
theorem QHk:Qay Tryz.prog (Qas QHF):=Ql QB QzJ QHG
set_option maxHeartbeats 2000000 in
theorem QwE:∀ds d,QlN ds=some d->PureC Tryz.prog 92 ds d:=QaR λl s r hr=>by
 split at hr
 .rename_i hc;obtain⟨hl,ht⟩:=hc;cases hr;refine Qm (QE QHk 19 QhY []) Tryz.func92 rfl rfl (Zb rfl) (by kernel_rfl) ?_
  rw[Tryz.results92];simp[QhY,QbS,Qjy,Qu];generalize aC:Cx.loop _ _ _=aE;have oW:aE=some (if(List.range l.length).all (λj=>!(s.f (l.getD j default).fr.toNat))=true then(.exit 0,⟨[(1,.d (Qjy 120 s)),(7,.d (.sl 2 (l.map Qb1.enc))),(8,.d (DI l.length)),(9,.d (DI l.length)),(10,.d (DB false))],[],[],[]⟩)else(.ret,⟨[(4,.d (DB true))],[],[],[]⟩)):=by
   refine Qa7 aC (λj=>⟨[(1,.d (Qjy 120 s)),(7,.d (.sl 2 (l.map Qb1.enc))),(8,.d (DI l.length)),(9,.d (DI j))],[],[],[]⟩) _ _ _ _ (by simp[Qjy]) (by show _ < 281474976710656; omega) (by simp) (by simp) ?_ ?_
   .intro j hj;have aO:(j:Int) < l.length:=by omega
    have w1:=Qa ((j:Int)+1) (by omega) (by omega)
    have h0:=ht l[j] (Ze hj);rw[Qj l j _ hj];have hs:QGj [DI j,.agg [DI l[j].fr,DI l[j].gr],.dat 8 [s.1] 0 0]=some (DB (s.f l[j].fr.toNat)):=by
     have hd:(QbR Qk9).dec (.dat 8 [s.1] 0 0)=some s:=QaN Qgx s;simp only[QGj,sp3,Qam,Qbq,QiP,hd];rw[if_pos h0]; rfl
    cases hb:s.f l[j].fr.toNat with
    | true=>
     rw[hb]at hs;simp[QhY,QHF,Qjy,Qo,hj,aO,hs]
    | false=>
     rw[hb]at hs;simp[QhY,QHF,Qjy,Qo,hj,aO,hs,w1]
   .simp[QhY,Qjy]
  rw[oW];have e2:(l.any λt=>s.f t.fr.toNat)=!(List.range l.length).all (λj=>!(s.f (l.getD j default).fr.toNat)):=by
   rw[Bool.eq_iff_iff,Zy,Bool.not_eq_true',List.all_eq_false];constructor
   .rintro⟨t,h1,h2⟩;obtain⟨k,hk,rfl⟩:=List.getElem_of_mem h1;exact⟨k,Zm.2 hk,by rw[Qj _ _ _ hk,h2]; simp⟩
   .rintro⟨k,hk,h⟩;have cZ:=Zm.1 hk;rw[Qj _ _ _ cZ]at h;exact⟨_,Ze cZ,by simpa using h⟩
  rw[e2];cases(List.range l.length).all (λj=>!(s.f (l.getD j default).fr.toNat))with
  | true=>simp[QhY]
  | false=>simp
 .cases hr
end Go.Proofs.YtnfeakhkfehkhaaGreatDoor
namespace Go.Proofs.YtnfeakhkfehkhaaGreatDoor
open Go.RowKit
attribute [local simp] QsF Qpi Qsl QuB Qpn Qug QCp Qz9 QBu QoZ QD9 QF4 QEe Qr7 QBy QBD Qso QsH QtX QzI QrM QwX QxJ Qye Qw5 QuE QBq QBz QB7 QzU QBv QBm Qw1 Qed Qot X.known QGW QmU Qn8 QnL exA Qoy
def kp99 (r:Nat):List (Nat×Option Nat):=match r with
 | 0=>[(1,none)]
 | 1=>[(2,none)]
 | _=>[]
def QrH (r:Nat):List (Nat×Option Nat):=match r with
 | 0=>kpn [0,1,10,11]
 | 1=>kpn [0,1,10,11,12]
 | 2=>kpn [0,1,3,10,11]
 | 3=>kpn [0,1,3,4,10,11]
 | 4=>kpn [0,1,3,4,10,11,15,16,17]
 | 5=>kpn [0,1,3,4,10,11,15,16,17,18]
 | 6=>kpn [0,1,3,4,5,6,10,11,15,16,17]
 | 7=>kpn [0,1,3,4,10,11,15,16,17]
 | 8=>kpn [0,1,3,4,10,11,15,16,17]
 | 9=>kpn [0,1,10,11,33]
 | 10=>kpn [0,1,10,11]
 | _=>[]
def Qoi (l:List Int) (s:Nat):Nat->(Nat->Bool)
 | 0=>λ_=>false
 | k+1=>Q2 (Qoi l s k) (l.getD k 0).toNat (QeB s k)
theorem Qvf (l:List Int) (s:Nat):Qoi l s 0=λ_=>false:=rfl
attribute [local simp] Qvf
def QEL (l:List Int) (s:Nat):List Value:=[.agg ((List.range 8).map λt=>Value.bool (Qoi l s l.length t)).toArray]
def QhT (l:List Int):List (List Value):=(List.range (2 ^ l.length)).map (QEL l)
theorem Qnu {α:Type} {l:List α} {j:Nat} {v:α} (h:l[j]?=some v):l.take j++[v]=l.take (j+1):=by
 rw[List.take_add_one,h]; rfl
theorem Qwh {α:Type} {l:List α} {j:Nat} {v:α} (h:l[j]?=some v):l.take j++[v] <+:l:=by
 rw[Qnu h]; exact List.take_prefix _ _
theorem Qmn {l:List Int} {j:Nat} (h:j < 2 ^ l.length):(QhT l)[j]?=some (QEL l j):=by simp[QhT,h]
def QvF (l:List Int):Prop:=l.length<=3/\∀x∈l,0<=x/\x < 8
noncomputable instance (l:List Int):Decidable (QvF l):=Classical.propDecidable _
noncomputable def QEg:List D->Option (List (List Value)):=λds=>match ds with
 | [.dat 82 [cs] 0 0]=>(match rBx.dec cs with
  | some x=>if QvF x.lost then some (QhT x.lost)else none
  | none=>none)
 | _=>none
theorem Qjh (f:Nat->Bool):∀l:List Nat,QcR (l.map λt=>DB (f t))=some (l.map λt=>Value.bool (f t))
 | []=>rfl
 | a::t=>by simp only[List.map_cons,QcR,Qjh f t]; rfl
theorem QB0:∀n:Nat,n < 4->IntKind.i64.wrap (2 ^ min n IntKind.i64.bits)=2 ^ n:=by decide
theorem QAQ:∀s:Nat,s < 8->∀k:Nat,k < 3->(bits .and .i64 ((s:Int) / 2 ^ min k IntKind.i64.bits) 1==1)=QeB s k:=by decide
theorem QFB {h n:Nat->Int} {v:Nat->Nat->Bool} {a b:D} :(Qdk h n v++[a,b])[81]?=some b:=by
 rw[List.getElem?_append_right (by rw[QX]; omega),QX]; rfl
set_option maxHeartbeats 4000000 in
theorem QG1:∀ds r,QEg ds=some r->QGy Tryz.prog 119 ds r:=by
 intro ds r hr;unfold QEg at hr;split at hr
 .rename_i cs;split at hr
  .rename_i x hx;split at hr
   .rename_i hc;cases hr;obtain⟨tJ,uP⟩:=hc;have bP:cs=rBx.enc x:=by
     have:rBx.dec cs=some x:=hx;unfold rBx QwG at this;simp only at this;split at this
     .rename_i hd;cases this;exact hd.choose_spec.symm
     .cases this
    subst bP;rw[QiI];refine QpH (QE QB 35 QrH []) Tryz.func119 rfl rfl rfl (Zb rfl) (by kernel_rfl) λln ad had=>?_
    obtain⟨⟨b1',o1'⟩,rfl⟩:∃p,ad=[p]:=by
     match ad,had with
     | [p],_=>exact⟨p,rfl⟩
    have sl:=QB0 x.lost.length (by omega)
    simp[QrH,QFB,sl];have tD:((2 ^ x.lost.length:Nat):Int)=2 ^ x.lost.length:=by
     rcases(by omega:x.lost.length=0\/x.lost.length=1\/x.lost.length=2\/x.lost.length=3)with e | e | e | e<;>rw[e]<;>rfl
    have hp8:2 ^ x.lost.length<=8:=by
     rcases(by omega:x.lost.length=0\/x.lost.length=1\/x.lost.length=2\/x.lost.length=3)with e | e | e | e<;>rw[e]<;>decide
    rw[<-tD];generalize hR:Qdk x.sup.h x.sup.n x.sup.v++[D.sl 5 (List.map QO.enc x.bats),D.sl 1 (List.map Qt.enc x.lost)]=row at*;have xE:row[81]?=some (D.sl 1 (List.map Qt.enc x.lost)):=by rw[<-hR]; exact QFB
    have lP:row.length=82:=by rw[<-hR]; exact QAs
    have xF:∀h:81 < row.length,row[81]'h=D.sl 1 (List.map Qt.enc x.lost):=λh=>by
     rw[Zg h]at xE; exact Option.some.inj xE
    clear hR;generalize x.lost=l at*;refine Qrd _ _ _ _ (λk s'=>∃j:Nat,j+k=2 ^ l.length/\s'=⟨⟨[(0,.d (.v (.func (.yield ln) #[] #[]))),(1,.d (.datA b1' o1' 82 [row] 0 0)),(10,.d (DI ((2 ^ l.length:Nat):Int))),(11,.d (DI j))],[],[],[]⟩,(QhT l).take j,false⟩) (2 ^ l.length) ⟨0,by omega,rfl⟩ ?_
    rintro k s' ⟨j,tA,rfl⟩;by_cases hj:j < 2 ^ l.length
    .have xG:(j:Int) < ((2 ^ l.length:Nat):Int):=by omega
     have w1:=Qa ((j:Int)+1) (by omega) (by omega)
     generalize hNN:2 ^ l.length=N at*;simp[QrH,xG,xF,lP];refine Qrd _ _ _ _ (λk2 s'=>∃q:Nat,q+k2=l.length/\s'=⟨⟨[(0,.d (.v (.func (.yield ln) #[] #[]))),(1,.d (.datA b1' o1' 82 [row] 0 0)),(3,.d (DI j)),(4,.loc 4 0),(10,.d (DI N)),(11,.d (DI j)),(15,.d (.sl 1 (l.map Qt.enc))),(16,.d (DI l.length)),(17,.d (DI q))],[(4,QPw 8 (λt=>DB (Qoi l j q t)))],[],[]⟩,(QhT l).take j,false⟩) l.length ⟨0,by omega,rfl⟩ ?_
     rintro k2 s' ⟨q,hqk,rfl⟩;by_cases hq:q < l.length
     .have zI:(q:Int) < l.length:=by omega
      have w2:=Qa ((q:Int)+1) (by omega) (by omega)
      have h8:=uP l[q] (Ze hq);have h8n:l[q].toNat < 8:=by omega
      have h8m:l[q].toNat+1<=8:=by omega
      have hb:=QAQ j (by omega) q (by omega)
      have bV:Qoi l j (q+1)=Q2 (Qoi l j q) l[q].toNat (QeB j q):=by rw[Qoi,Qj _ _ _ hq]
      simp[QrH,Qc,hq,zI,Qaf,Qz,Qb,Qp,QeY,w2,h8.1,h8.2,h8n,h8m,hb];exact⟨k2 - 1,by omega,q+1,by omega,by rw[bV]; exact⟨by omega,rfl⟩⟩
     .have zI:¬(q:Int) < l.length:=by omega
      have gT:q=l.length:=by omega
      subst gT;have hp:=Qwh (Qmn (l:=l) (j:=j) (by omega))
      have hs:=Qnu (Qmn (l:=l) (j:=j) (by omega))
      simp only[QEL]at hp hs;simp[QrH,Qaf,Qz,Qb,QaG,Qx,Qjh,hs,w1];exact⟨List.take_prefix _ _,k - 1,by omega,j+1,by omega,by omega,rfl⟩
    .have hjN:¬(j:Int) < ((2 ^ l.length:Nat):Int):=by omega
     have m8:j=2 ^ l.length:=by omega
     have hl:(QhT l).take j=QhT l:=List.take_of_length_le (by simp[QhT]; omega)
     generalize 2 ^ l.length=N at*;simp[QrH,hjN,hl];done
   .cases hr
  .cases hr
 .cases hr
theorem QAO (xs:Array Value) (w:World):(callFunc 119 xs).run Tryz.prog w= .ok (.enter 119 xs) w:=by kernel_rfl
theorem QDT:Quo Tryz.prog (Qm6 [(119,QEg)]):=λgf caps l h=>by
 simp only[Qm6,Qv]at h;split at h
 .rename_i s hs;split at hs
  .rename_i e; simp only[Zs]at hs; subst hs; subst e;exact⟨QAO,QG1 _ _ h⟩
  .cases hs
 .cases h
noncomputable def s99:List D->Option D:=sp1 (QeC rBx) cRaw λx=>some (.fn 119 [] [.dat 82 [rBx.enc x] 0 0])
theorem ok99:∀ds d,s99 ds=some d->PureC Tryz.prog 99 ds d:=Qb2 λx r hr=>by
 cases hr;refine Qm (QE QB 4 kp99 []) Tryz.func99 rfl rfl (Zb rfl) (by kernel_rfl) ?_
 rw[Tryz.results99];show _=some (D.fn 119 [] [.dat 82 [rBx.enc x] 0 0]);simp[kp99,QiI,Qax,QF,Qah,Q8,QX];done
theorem QFL (xs:Array Value) (w:World):(callFunc 99 xs).run Tryz.prog w= .ok (.enter 99 xs) w:=by kernel_rfl
end Go.Proofs.YtnfeakhkfehkhaaGreatDoor
namespace Go.Proofs.YtnfeakhkfehkhaaGreatDoor
theorem Qrt {l:List Int} {s:Nat} :∀k,k<=l.length->(∀i j,i < k->j < k->(l.getD i 0).toNat=(l.getD j 0).toNat->i=j)->∀t,Qoi l s k t=(List.range k).any λq=>QeB s q&&(l.getD q 0).toNat==t
 | 0,_,_,t=>rfl
 | k+1,hk,hd,t=>by
  have ih:=Qrt (l:=l) (s:=s) k (by omega) (λi j h1 h2=>hd i j (by omega) (by omega)) t
  rw[Qoi,List.range_succ,List.any_append,<-ih,List.any_cons,List.any_nil,Bool.or_false];unfold Q2;by_cases e:t=(l.getD k 0).toNat
  .rw[if_pos e,ih];have h0:(List.range k).any (λq=>QeB s q&&(l.getD q 0).toNat==t)=false:=by
    rw[List.any_eq_false];intro q hq;rw[Zm]at hq;have:¬(l.getD q 0).toNat=t:=λh=>by
     have:=hd q k (by omega) (by omega) (h.trans e); omega
    have h2:((l.getD q 0).toNat==t)=false:=by simpa using this
    rw[h2,Bool.and_false]; simp
   rw[h0,e]; simp
  .rw[if_neg e];have:¬(l.getD k 0).toNat=t:=λh=>e h.symm;have h2:((l.getD k 0).toNat==t)=false:=by simpa using this
   rw[h2,Bool.and_false,Bool.or_false]
theorem Qih {b:List Bat} {q:Nat} (h:q < (Qq b).length):((QU b).getD q 0).toNat=(Qq b).getD q 0:=by
 unfold QU;rw[Zd,List.getElem?_map,Zg h,Qj _ _ _ h]; rfl
theorem Qiy (b:List Bat):(QU b).length=(Qq b).length:=by simp[QU]
def Qv2 (b:List Bat) (s:Nat):Nat->Bool:=Qoi (QU b) s (QU b).length
theorem QkL (b:List Bat) (s:Nat):Qv2 b s=QcI b s:=by
 funext t;unfold Qv2 QcI;rw[Qrt _ (Zr _) (λi j hi hj h=>?_) t,Qiy]
 .rw[Bool.eq_iff_iff,Zy,Zy];constructor
  .rintro⟨q,h1,h2⟩;rw[Qih (Zm.1 h1)]at h2;exact⟨q,h1,h2⟩
  .rintro⟨q,h1,h2⟩;refine⟨q,h1,?_⟩;rw[Qih (Zm.1 h1)]; exact h2
 .rw[Qiy]at hi hj;rw[Qih hi,Qih hj,Qj _ _ _ hi,Qj _ _ _ hj]at h;exact(List.getElem_inj (Qef b)).1 h
def Qf8 (b:List Bat) (i s:Nat):Nat->Nat->Bool:=Qcb (Qaa b) i (Qv2 b s)
theorem Qun {b:List Bat} (h:BookOk b) {i s t:Nat} (ht:t < b.length):Qf8 b i s (t+1)=Q2 (Qf8 b i s t) t (decide (t=i)||(b[t].lost&&!Qv2 b s t)||b[t].takes.any λq=>Qf8 b i s t q.fr.toNat):=by
 unfold Qf8;rw[Qcb];have hl:(Qaa b).lost t=b[t].lost:=by show Qfv b t=_; unfold Qfv; rw[Qbf ht]
 have hf:((List.range t).any λx=>(Qaa b).fix x t&&Qcb (Qaa b) i (Qv2 b s) t x)=b[t].takes.any λq=>Qcb (Qaa b) i (Qv2 b s) t q.fr.toNat:=by
  rw[Bool.eq_iff_iff,Zy,Zy];constructor
  .rintro⟨x,h1,h2⟩;rw[Za]at h2;have h2':QnV b x t=true:=h2.1;unfold QnV at h2';rw[Qbf ht]at h2';obtain⟨k,h4,h5⟩:=Zy.1 h2';have h5':k.fr=(x:Int):=by simpa using h5
   exact⟨k,h4,by rw[h5']; exact h2.2⟩
  .rintro⟨k,h4,h5⟩;have:=(h.at ht).fr k h4;refine⟨k.fr.toNat,Zm.2 (by omega),?_⟩
   rw[Za];refine⟨?_,h5⟩;show QnV b k.fr.toNat t=true;unfold QnV;rw[Qbf ht];exact Zy.2 ⟨k,h4,by simp; omega⟩
 rw[hl,hf]
theorem Qra {b:List Bat} (h:BookOk b) {i s:Nat} (hi:i < b.length):Qf8 b i s b.length=QcV (Qaa b) i (Qv2 b s):=by
 funext x;unfold QcV Qf8;have aX:=h.le;by_cases hx:x < b.length
 .exact(QdH _ _ _ hx aX).symm
 .have key:∀m,x < m\/m<=x->Qcb (Qaa b) i (Qv2 b s) m x=false:=by
   intro m
   induction m with
   | zero=>intro _; rfl
   | succ m ih=>
    intro _;rw[Qcb];unfold Q2;split
    .rename_i e;subst e;have e1:¬x=i:=by omega
     have e2:(Qaa b).lost x=false:=by show Qfv b x=false; unfold Qfv; rw[Qbc (by omega)]; rfl
     have e3:∀y,(Qaa b).fix y x=false:=λy=>by show QnV b y x=false; unfold QnV; rw[Qbc (by omega)]; rfl
     simp[e1,e2,e3]
    .exact ih (by omega)
  rw[key _ (by omega),key _ (by omega)]
def QhQ (d:Nat->Bool) (m x t:Nat):Bool:=decide (t < m)&&(decide (x < t)&&(d x&&!d t))
theorem Qvd (d:Nat->Bool):QhQ d 0=noN:=by
 funext x t; simp[QhQ,noN]
theorem QrN {d:Nat->Bool} {m:Nat} (h:d m=true):QhQ d (m+1)=QhQ d m:=by
 funext x t;unfold QhQ;by_cases e:t=m
 .subst e; simp[h]
 .have:decide (t < m+1)=decide (t < m):=by rw[decide_eq_decide]; omega
  rw[this]
def QsO (d:Nat->Bool) (m k:Nat):Nat->Nat->Bool:=λx t=>QhQ d m x t||(decide (t=m)&&decide (x < k)&&d x)
theorem Quq (d:Nat->Bool) (m:Nat):QsO d m 0=QhQ d m:=by
 funext x t; simp[QsO]
theorem QmW (d:Nat->Bool) (m k:Nat):QsO d m (k+1)=QhG (QsO d m k) k m (d k):=by
 funext x t;unfold QsO QhG;by_cases e:x=k
 .subst e;rw[if_pos rfl];unfold Q2;by_cases e2:t=m
  .subst e2; simp[QhQ]
  .rw[if_neg e2]; simp[e2]
 .rw[if_neg e];have:decide (x < k+1)=decide (x < k):=by rw[decide_eq_decide]; omega
  rw[this]
theorem QxU {d:Nat->Bool} {m:Nat} (h:d m=false):QsO d m m=QhQ d (m+1):=by
 funext x t;unfold QsO QhQ;by_cases e:t=m
 .subst e; simp[h]
 .have:decide (t < m+1)=decide (t < m):=by rw[decide_eq_decide]; omega
  rw[this]; simp[e]
theorem QrG {d d':Nat->Bool} {m:Nat} (h:∀x,x < m->d x=d' x):QhQ d m=QhQ d' m:=by
 funext x t;unfold QhQ;by_cases h1:t < m
 .by_cases h2:x < t
  .rw[h x (by omega),h t h1]
  .simp[h2]
 .simp[h1]
def mwB (b:List Bat) (i s:Nat):Bool:=QcJ (Sup.of (λj=>(QI b).getD j 0) (λj=>(QV b).getD j 0) (QhQ (Qf8 b i s b.length) b.length))
def QdJ (b:List Bat) (i j k:Nat):Bool:=decide (k < b.length)&&(List.range j).all λs=>!mwB b i s||Qf8 b i s b.length k
theorem Qq3 {b:List Bat} {i j:Nat} (h:mwB b i j=false):QdJ b i (j+1)=QdJ b i j:=by
 funext k;unfold QdJ;rw[List.range_succ,List.all_append,List.all_cons,h]; simp
theorem QkT {b:List Bat} {i j k:Nat} (h:mwB b i j=true):QdJ b i (j+1) k=(QdJ b i j k&&Qf8 b i j b.length k):=by
 unfold QdJ;rw[List.range_succ,List.all_append,List.all_cons,List.all_nil,Bool.and_true,h,Bool.and_assoc]; simp
theorem Qr8 {b:List Bat} {i j:Nat} (h:∀k,k < 8->Qf8 b i j b.length k=QdJ b i j k) (hb:BookOk b) (hi:i < b.length):QdJ b i (j+1)=QdJ b i j:=by
 cases hw:mwB b i j with
 | false=>exact Qq3 hw
 | true=>
  funext k;rw[QkT hw];by_cases hk:k < 8
  .rw[h k hk]; simp
  .have:QdJ b i j k=false:=by
    have:=hb.le;unfold QdJ;have:decide (k < b.length)=false:=by simp; omega
    rw[this]; rfl
   rw[this]; rfl
theorem Qrz {b:List Bat} (h:ValidB b) {i s:Nat} (hi:i < b.length):mwB b i s=QaT ⟨QI b,QV b,QaE (Qcy b i s) b.length⟩:=by
 have aX:=h.ok.le;have hd:Qf8 b i s b.length=QcV (Qaa b) i (QcI b s):=by rw[Qra h.ok hi,QkL]
 have eh:(Sup.of (λj=>(QI b).getD j 0) (λj=>(QV b).getD j 0) (QhQ (Qf8 b i s b.length) b.length)).h=Qem (Qac b):=by
  funext x;rw[QA5];split
  .rfl
  .exact(QiF (by omega)).symm
 have en:(Sup.of (λj=>(QI b).getD j 0) (λj=>(QV b).getD j 0) (QhQ (Qf8 b i s b.length) b.length)).n=QaM (Qac b):=by
  funext x;rw[Qzw];split
  .rfl
  .exact(QdW (by omega)).symm
 have oX:=(QdM (QdP b).sup).1 (by rw[Qd4 h.ok]; exact h.sol)
 rw[QDb aX,QGN aX]at oX;have hP:=Qg0 h;rw[Bool.eq_iff_iff,Qmu h];unfold mwB;rw[QdM,eh,en];have hv:∀x t,x < t->t < 8->0 < QaM (Qac b) t->(Sup.of (λj=>(QI b).getD j 0) (λj=>(QV b).getD j 0) (QhQ (Qf8 b i s b.length) b.length)).v x t=nvD (Qaa b) i (QcI b s) x t:=by
  intro x t hx ht hn;have dJ:t < b.length:=by
   rcases Nat.lt_or_ge t b.length with h | h
   .exact h
   .rw[QdW h]at hn; omega
  rw[Qzy,if_pos ⟨by omega,ht⟩,hd]
  unfold QhQ nvD;rw[decide_eq_true dJ,decide_eq_true hx,Bool.true_and,Bool.true_and]
 constructor
 .rintro⟨_,hH⟩;exact Qfc hP.has hP.need hv hH
 .intro hH;exact⟨oX.1,Qfc hP.has hP.need (λx t h1 h2 h3=>(hv x t h1 h2 h3).symm) hH⟩
noncomputable def Qdl (b:List Bat) (i k:Nat):Bool:=decide (k < b.length)&&Qgj b i k
theorem QuT {b:List Bat} (h:ValidB b) {i:Nat} (hi:i < b.length):QdJ b i (2 ^ (QU b).length)=Qdl b i:=by
 funext k;unfold QdJ Qdl;by_cases hk:k < b.length
 .rw[Qi6 h hi hk,Qiy];congr 1;unfold Qjz;rw[Bool.eq_iff_iff,Zl,Zl];refine forall_congr' λs=>forall_congr' λhs=>?_;have hd:Qf8 b i s b.length=Qcy b i s:=by rw[Qra h.ok hi,QkL]; rfl
  rw[Qrz h hi,hd];cases QaT ⟨QI b,QV b,QaE (Qcy b i s) b.length⟩<;>cases Qcy b i s k<;>simp
 .rw[decide_eq_false hk]; rfl
end Go.Proofs.YtnfeakhkfehkhaaGreatDoor
