/-
  The program of the trace chapter: the error of a batch. Conditions: the names are strings.
-/
import Derived.Test.YticoemblgkemiaaGreatDoorZPrA
set_option linter.unusedSimpArgs false
set_option linter.unusedVariables false
namespace Go.Proofs.YticoemblgkemiaaGreatDoor
open Go.RowKit
def kp93 (r:Nat):List (Nat×Option Nat):=match r with
 | 0=>kpn [2,4]
 | 1=>[(5,none)]
 | _=>[]
def QNV (r:Nat):List (Nat×Option Nat):=match r with
 | 0=>kpn [0,2,4]
 | 1=>[(5,none)]
 | _=>[]
def kp95 (r:Nat):List (Nat×Option Nat):=match r with
 | 0=>[(3,none)]
 | 1=>[(4,none)]
 | _=>[]
def QiY (r:Nat):List (Nat×Option Nat):=match r with
 | 0=>kpn [0,1]
 | 1=>kpn [1,7,8,9]
 | 2=>kpn [1,7,8,9,10]
 | 3=>kpn [1,5,6,7,8,9]
 | 4=>kpn [1,7,8,9,17]
 | 5=>[(4,none)]
 | 6=>kpn [1,7,8,9]
 | 7=>[(4,none)]
 | _=>[]
def QpP (r:Nat):List (Nat×Option Nat):=match r with
 | 0=>kpn [0,3]
 | 1=>kpn [0,3,5,6]
 | 2=>kpn [0,3,5,6,19,20,21]
 | 3=>kpn [0,3,5,6,19,20,21,22]
 | 4=>kpn [0,3,5,6,8,19,20,21]
 | 5=>kpn [0,3,5,6,19,20,21]
 | 6=>kpn [0,3,5,6,19,20,21]
 | 7=>kpn [0,3,5,6,30]
 | 8=>[(4,none)]
 | 9=>kpn [3,5,6,35]
 | 10=>[(4,none)]
 | 11=>kpn [3,5,6,41]
 | 12=>[(4,none)]
 | 13=>kpn [3,5,6,54]
 | 14=>[(4,none)]
 | 15=>kpn [5,6,63]
 | 16=>[(4,none)]
 | 17=>kpn [5,6,68]
 | 18=>[(4,none)]
 | 19=>kpn [5,6,73]
 | 20=>[(4,none)]
 | 21=>[(77,none)]
 | 22=>[(4,none)]
 | 23=>[(4,none)]
 | _=>[]
def g48:List (Nat×(List D->Option D)):=[(133,s48)]
theorem dg48:QaE Tryz.prog (Qaw g48):=Qh Qs Qot QMu
theorem QGR (lo hi n:Int):Qk3 lo hi [n]=!inR n lo hi:=by simp[Qk3]
theorem QjB (lo hi n:Int):s48 [DI lo,DI hi,.sl 1 [[DI n]]]=some (DB (!inR n lo hi)):=by
 have e:(.sl 1 [[DI n]]:D)= .sl 1 ([n].map QH.enc):=rfl;rw[e];simp only[s48,sp3,Qak,Qap];rw[if_pos (by simp),QGR]; rfl
def s93:List D->Option D:=sp3 QaY (Qcf Qce) Qp7 QaW λ_ t i=>if 0<=i/\i<=1000000 then some (!inR t.fr 0 (i - 1))else none
theorem ok93:∀ds d,s93 ds=some d->PureC Tryz.prog 235 ds d:=QcN λk t i r hr=>by
 split at hr
 .rename_i hi;cases hr;refine Qf (Qw dg48 12 kp93 []) Tryz.func235 rfl rfl (Zb rfl) (by kernel_rfl) ?_
  rw[Tryz.results235];have w1:=Qa (i - 1) (by omega) (by omega)
  have gK:=QjB 0 (i - 1) t.fr;simp[kp93,g48,Qr,QdG,w1,gK]
 .cases hr
theorem QLw (xs:Array Value) (w:World):(callFunc 235 xs).run Tryz.prog w= .ok (.enter 235 xs) w:=by kernel_rfl
def QDo (x:Bat) (k:Int) (t:Tak):Bool:=decide (0 < k)&&decide (t.fr<=(x.takes.getD (k - 1).toNat default).fr)
def s94:List D->Option D:=sp3 QaY (Qcf Qce) Qi2 QaW λk t x=>if 0<=k/\k<=x.takes.length/\x.takes.length<=17592186044416 then some (QDo x k t)else none
theorem ok94:∀ds d,s94 ds=some d->PureC Tryz.prog 236 ds d:=QcN λk t x r hr=>by
 split at hr
 .rename_i hk;obtain⟨h0,h1,h2⟩:=hk;cases hr;refine Qf (Qw Qs 20 QNV []) Tryz.func236 rfl rfl (Zb rfl) (by kernel_rfl) ?_
  rw[Tryz.results236];unfold QDo;by_cases hk:0 < k
  .have w1:=Qa (k - 1) (by omega) (by omega)
   have g1:(k - 1).toNat < x.takes.length:=by omega
   have g2:k - 1 < x.takes.length:=by omega
   have g3:1<=k:=by omega
   have g4:k.toNat - 1 < x.takes.length:=by omega
   rw[Ql x.takes _ _ g1];simp[QNV,Qr,Qkm,Qe,hk,w1,g2,g3,g4]
  .simp[QNV,Qr,Qkm,Qe,hk]
 .cases hr
theorem QLx (xs:Array Value) (w:World):(callFunc 236 xs).run Tryz.prog w= .ok (.enter 236 xs) w:=by kernel_rfl
def s95:List D->Option D:=sp2 QaY (Qcf Qce) QaW λ_ t=>some (!inR t.gr 1 100000)
theorem ok95:∀ds d,s95 ds=some d->PureC Tryz.prog 237 ds d:=Qay λk t r hr=>by
 cases hr;refine Qf (Qw dg48 9 kp95 []) Tryz.func237 rfl rfl (Zb rfl) (by kernel_rfl) ?_
 rw[Tryz.results237];have gK:=QjB 1 100000 t.gr;simp[kp95,g48,Qr,gK]
theorem QI2 (xs:Array Value) (w:World):(callFunc 237 xs).run Tryz.prog w= .ok (.enter 237 xs) w:=by kernel_rfl
inductive TPr where
 | none (i:Int)
 | asc (x:Bat)
 | rng
def TPr.is:TPr->Nat->Tak->Bool
 | .none i,_,t=>!inR t.fr 0 (i - 1)
 | .asc x,k,t=>QDo x k t
 | .rng,_,t=>!inR t.gr 1 100000
def TPr.enc:TPr->D
 | .none i=> .fn 235 [] [.dat 1 [[DI i]] 0 0]
 | .asc x=> .fn 236 [] [.dat 5 [QQ.enc x] 0 0]
 | .rng=> .v (.func (.func 237) #[] #[])
def QLy:Cod TPr:=⟨TPr.enc,λd=>match d with
 | .fn 235 [] [.dat 1 [[.v (.int .i64 a)]] 0 0]=>some (.none a)
 | .fn 236 [] [y]=>(Qi2.dec y).map .asc
 | .v v=>if QGr 237 v=true then some .rng else Option.none
 | _=>Option.none,λd x h=>by
 split at h
 .cases h; exact DImp.refl _
 .rename_i y;obtain⟨b,hb,rfl⟩:=Option.map_eq_some_iff.1 h;intro m w v hv;show Rel m w (.fn 236 [] [Qi2.enc b]) v;simp only[Rel,RelL]at hv|-;obtain⟨fs,cs,h1,h2,u,t,h3,h4,h5⟩:=hv;exact⟨fs,cs,h1,h2,u,t,h3,Qi2.ed _ _ hb _ _ _ h4,h5⟩
 .split at h
  .rename_i hf;cases h;rw[Qkc hf]; exact DImp.refl _
  .cases h
 .cases h⟩
theorem QBx (p:TPr):QLy.enc p=p.enc:=rfl
theorem Qwh (i:Int):QLy.dec (.fn 235 [] [.dat 1 [[DI i]] 0 0])=some (.none i):=rfl
theorem QBF (x:Bat):QLy.dec (.fn 236 [] [.dat 5 [[DS x.name,DI x.grams,DI x.fresh,DB x.lost,.sl 2 (x.takes.map Qce.enc)]] 0 0])=some (.asc x):=by
 show(Qi2.dec _).map TPr.asc=_;rw[QrQ]; rfl
theorem QCo:QLy.dec (.v (.func (.func 237) #[] #[]))=some .rng:=rfl
def TPr.ok:TPr->List Tak->Prop
 | .none i,_=>0<=i/\i<=1000000
 | .asc x,l=>l.length<=x.takes.length/\x.takes.length<=17592186044416
 | .rng,_=>True
instance (p:TPr) (l:List Tak):Decidable (p.ok l):=by cases p<;>(unfold TPr.ok; infer_instance)
def q3:List (Nat×(List D->Option D)):=[(235,s93),(236,s94),(237,s95)]
theorem dq3:QaE Tryz.prog (Qaw q3):=Qh (Qh (Qh Qs QI2 ok95) QLx ok94) QLw ok93
def QmU (p:TPr) (l:List Tak):Bool:=(List.range l.length).any λk=>p.is k (l.getD k default)
def s92:List D->Option D:=sp2 (QJ Qce) QLy QaW λl p=>if l.length<=17592186044416/\p.ok l then some (QmU p l)else none
theorem Qx8 (xs:Array Value) (w:World):(callFunc 137 xs).run Tryz.prog w= .ok (.enter 137 xs) w:=by kernel_rfl
set_option maxHeartbeats 2000000 in
theorem ok92:∀ds d,s92 ds=some d->PureC Tryz.prog 137 ds d:=Qay λl p r hr=>by
 split at hr
 .rename_i hc;obtain⟨hl,hp⟩:=hc;cases hr;refine Qf (Qw dq3 19 QiY []) Tryz.func137 rfl rfl (Zb rfl) (by kernel_rfl) ?_
  rw[Tryz.results137];simp[QiY,QBx,Qx];generalize aC:Cx.loop _ _ _=aE;have tA:aE=some (if(List.range l.length).all (λj=>!p.is j (l.getD j default))=true then(.exit 0,⟨[(1,.d p.enc),(7,.d (.sl 2 (l.map Qce.enc))),(8,.d (DI l.length)),(9,.d (DI l.length)),(10,.d (DB false))],[],[],[]⟩)else(.ret,⟨[(4,.d (DB true))],[],[],[]⟩)):=by
   refine QeB aC (λj=>⟨[(1,.d p.enc),(7,.d (.sl 2 (l.map Qce.enc))),(8,.d (DI l.length)),(9,.d (DI j))],[],[],[]⟩) _ _ _ _ (by simp) (by show _ < 281474976710656; omega) (by simp) (by simp) ?_ ?_
   .intro j hj;have aO:(j:Int) < l.length:=by omega
    have w1:=Qa ((j:Int)+1) (by omega) (by omega)
    rw[Ql l j _ hj];cases p with
    | none i=>
     have zU:s93 [DI j,.agg [DI l[j].fr,DI l[j].gr],.dat 1 [[DI i]] 0 0]=some (DB (!inR l[j].fr 0 (i - 1))):=by
      simp only[s93,sp3,Qak,QaQ,Qjy,QdI];rw[if_pos (show 0<=i/\i<=1000000 from hp)]; rfl
     show _=some (if(!(!inR l[j].fr 0 (i - 1)))=true then _ else _);cases hb:inR l[j].fr 0 (i - 1)with
     | true=>
      rw[hb]at zU;simp[QiY,q3,TPr.enc,Qr,hj,aO,zU,w1]
     | false=>
      rw[hb]at zU;simp[QiY,q3,TPr.enc,Qr,hj,aO,zU]
    | asc x=>
     have zV:s94 [DI j,.agg [DI l[j].fr,DI l[j].gr],.dat 5 [QQ.enc x] 0 0]=some (DB (QDo x j l[j])):=by
      have c:(0:Int)<=(j:Int)/\(j:Int)<=x.takes.length/\x.takes.length<=17592186044416:=by have:=hp.1; have:=hp.2; omega
      simp only[s94,sp3,Qak,QaQ,Qjy,QwU];rw[if_pos c]; rfl
     show _=some (if(!QDo x j l[j])=true then _ else _);cases hb:QDo x j l[j]with
     | true=>
      rw[hb]at zV;simp[QiY,q3,TPr.enc,Qr,hj,aO,zV]
     | false=>
      rw[hb]at zV;simp[QiY,q3,TPr.enc,Qr,hj,aO,zV,w1]
    | rng=>
     have zW:s95 [DI j,.agg [DI l[j].fr,DI l[j].gr]]=some (DB (!inR l[j].gr 1 100000)):=by
      simp only[s95,sp2,Qak,QaQ,Qjy]; rfl
     show _=some (if(!(!inR l[j].gr 1 100000))=true then _ else _);cases hb:inR l[j].gr 1 100000 with
     | true=>
      rw[hb]at zW;simp[QiY,q3,TPr.enc,Qr,hj,aO,zW,w1]
     | false=>
      rw[hb]at zW;simp[QiY,q3,TPr.enc,Qr,hj,aO,zW]
   .simp[QiY]
  rw[tA];have e2:QmU p l=!(List.range l.length).all (λj=>!p.is j (l.getD j default)):=by
   unfold QmU;rw[List.all_eq_not_any_not]; simp
  rw[e2];cases(List.range l.length).all (λj=>!p.is j (l.getD j default))with
  | true=>simp[QiY]
  | false=>simp
 .cases hr
def QGn (x:Bat):Nat->Int
 | 0=>x.fresh
 | k+1=>IntKind.i64.wrap (QGn x k+(x.takes.getD k default).gr)
theorem QvE (x:Bat):QGn x 0=x.fresh:=rfl
attribute [local simp] QvE
theorem Qwl {x:Bat} (h0:0<=x.fresh/\x.fresh<=100000) (hl:x.takes.length<=8) (hg:∀t∈x.takes,1<=t.gr/\t.gr<=100000):∀k,k<=x.takes.length->QGn x k=x.fresh+Qm4 x.takes k
 | 0,_=>by simp[QGn]
 | k+1,hk=>by
  have ih:=Qwl h0 hl hg k (by omega)
  have hb:=QnH (l:=x.takes) k (by omega) λj hj _=>hg _ (Ze hj)
  have h1:=hg _ (Ze (by omega:k < x.takes.length))
  rw[QGn,ih,Ql _ _ _ (by omega),Qht (by omega),Qa _ (by omega) (by omega)]
  omega
theorem QvM {x:Bat} {i:Nat} :QmU (.none i) x.takes=x.takes.any (λt=>!inR t.fr 0 ((i:Int) - 1)):=by
 unfold QmU;rw[Bool.eq_iff_iff,Zy,Zy];constructor
 .rintro⟨k,hk,h⟩;rw[Zm]at hk;rw[Ql _ _ _ hk]at h;exact⟨_,Ze hk,h⟩
 .rintro⟨t,ht,h⟩;obtain⟨k,hk,rfl⟩:=List.getElem_of_mem ht;exact⟨k,Zm.2 hk,by rw[Ql _ _ _ hk]; exact h⟩
theorem QAs {x:Bat} :QmU .rng x.takes=x.takes.any (λt=>!inR t.gr 1 100000):=by
 unfold QmU;rw[Bool.eq_iff_iff,Zy,Zy];constructor
 .rintro⟨k,hk,h⟩;rw[Zm]at hk;rw[Ql _ _ _ hk]at h;exact⟨_,Ze hk,h⟩
 .rintro⟨t,ht,h⟩;obtain⟨k,hk,rfl⟩:=List.getElem_of_mem ht;exact⟨k,Zm.2 hk,by rw[Ql _ _ _ hk]; exact h⟩
theorem QAb {x:Bat} :QmU (.asc x) x.takes=!Qp0 x.takes:=by
 unfold QmU Qp0;rw[Bool.eq_iff_iff,Zy,Bool.not_eq_true',decide_eq_false_iff_not];constructor
 .rintro⟨k,hk,h⟩ hall;rw[Zm]at hk;simp only[TPr.is,QDo,Za,decide_eq_true_eq]at h;obtain⟨h1,h2⟩:=h;have:=hall k hk (by omega)
  rw[show((k:Int) - 1).toNat=k - 1 by omega]at h2
  omega
 .intro h;apply Classical.byContradiction;intro hn;refine h λk hk h0=>?_;apply Classical.byContradiction;intro aQ;refine hn ⟨k,Zm.2 hk,?_⟩;simp only[TPr.is,QDo,Za,decide_eq_true_eq];rw[show((k:Int) - 1).toNat=k - 1 by omega]
  omega
def Qee (b:List Bat):Prop:=∀x∈b,QAO x.name
instance (b:List Bat):Decidable (Qee b):=inferInstanceAs (Decidable (∀x∈b,_))
def g49:List (Nat×(List D->Option D)):=[(77,s89),(233,s90),(133,s48),(137,s92)]
theorem dg49:QaE Tryz.prog (Qaw g49):=Qh (Qh (Qh (Qh Qs Qx8 ok92) Qot QMu) QJK ok90) QDx ok89
def Qov (r:Nat):List (Nat×Nat):=if r=1 then [(5,10),(8,10)]else []
def s49:List D->Option D:=sp2 (QJ QQ) QaY QaY λb n=>if 0<=n/\n < b.length/\b.length<=8/\bkB b=true/\Qee b then some (QmK b n.toNat (b.getD n.toNat default))else none
theorem QLq (xs:Array Value) (w:World):(callFunc 192 xs).run Tryz.prog w= .ok (.enter 192 xs) w:=by kernel_rfl
set_option maxHeartbeats 4000000 in
theorem ok49:∀ds d,s49 ds=some d->PureC Tryz.prog 192 ds d:=Qay λb n r hr=>by
 split at hr
 .rename_i hc;obtain⟨h0,h1,h8,cL,k7⟩:=hc;obtain⟨i,rfl⟩:∃i:Nat,n=i:=⟨n.toNat,by omega⟩
  cases hr;have hi:i < b.length:=by omega
  have dW:(i:Int) < b.length:=by omega
  have ht:=Qvs cL hi;have hs:=k7 b[i] (Ze hi);rw[Int.toNat_natCast,Ql b i _ hi];refine Qf (Qby dg49 Qb6 Qbn Qcx 87 QpP [] Qov (λ_=>0)) Tryz.func192 rfl rfl (Zb rfl) (by kernel_rfl) ?_
  rw[Tryz.results192];have h90:s90 [.sl 5 ((b.take i).map QQ.enc),.fn 234 [] [.dat 5 [[DS b[i].name,DI b[i].grams,DI b[i].fresh,DB b[i].lost,.sl 2 (b[i].takes.map Qce.enc)]] 0 0]]=some (DB ((b.take i).any (Qll b[i]))):=by
   simp only[s90,sp2,Q9,QoK];rw[if_pos (by simp; omega)]; rfl
  have gN:(b.map QQ.enc).take i=(b.take i).map QQ.enc:=(List.map_take).symm;generalize hx:b[i]=x at*;have jO:s92 [.sl 2 (x.takes.map Qce.enc),.fn 235 [] [.dat 1 [[DI i]] 0 0]]=some (DB (x.takes.any (λt=>!inR t.fr 0 ((i:Int) - 1)))):=by
   simp only[s92,sp2,QeF,Qwh];rw[if_pos ⟨ht,(show(0:Int)<=(i:Int)/\(i:Int)<=1000000 by omega)⟩,QvM]; rfl
  have kD:s92 [.sl 2 (x.takes.map Qce.enc),.fn 236 [] [.dat 5 [[DS x.name,DI x.grams,DI x.fresh,DB x.lost,.sl 2 (x.takes.map Qce.enc)]] 0 0]]=some (DB (!Qp0 x.takes)):=by
   simp only[s92,sp2,QeF,QBF];rw[if_pos ⟨ht,(show x.takes.length<=x.takes.length/\x.takes.length<=17592186044416 from⟨Zr _,ht⟩)⟩,QAb]; rfl
  have lK:s92 [.sl 2 (x.takes.map Qce.enc),.v (.func (.func 237) #[] #[])]=some (DB (x.takes.any (λt=>!inR t.gr 1 100000))):=by
   simp only[s92,sp2,QeF,QCo];rw[if_pos ⟨ht,trivial⟩,QAs]; rfl
  have d7:=QjB 1 100000 x.grams;have eM:=QjB 0 x.grams x.fresh;simp[QpP,Qov,g49,Qj,Qe,hi,dW,hx]
  (generalize aC:Cx.loop _ _ _=aE; apply Qi aC (λk=>⟨[(0,.d (.sl 5 (b.map QQ.enc))),(3,.loc 3 0),(5,.loc 5 0),(6,.d (DI (QGn x k))),(19,.d (.sl 2 (x.takes.map Qce.enc))),(20,.d (DI x.takes.length)),(21,.d (DI k))],[(3,[.d (DI i)]),(5,[.d (DS x.name),.d (DI x.grams),.d (DI x.fresh),.d (DB x.lost),.d (.sl 2 (x.takes.map Qce.enc))])],[],[]⟩) x.takes.length (by first | (simp; done) | (simp; rfl) | (simp; simp[*])); rotate_left; (show _ < 281474976710656; omega); rfl; rotate_left; all_goals clear aC)
  .intro k hk;have aX:(k:Int) < x.takes.length:=by omega
   have w1:=Qa ((k:Int)+1) (by omega) (by omega)
   rw[QGn,Ql _ _ _ hk];simp[QpP,Qr,hk,aX,w1]
  .unfold QmK;have jX:s89 [DS x.name]=some (DB (Qbz x.name)):=by simp only[s89,sp1,QrD]; rw[if_pos hs]; rfl
   have eQ:i<=b.length:=by omega
   cases e1:Qbz x.name with
   | false=>rw[e1]at jX; simp[QpP,jX]
   | true=>
    rw[e1]at jX;cases xN:(b.take i).any (λy=>y.name.toList==x.name.toList)with
    | true=>
     have dH:=h90.trans (congrArg (λb=>some (DB b)) (show(b.take i).any (Qll x)=true from xN));rw[<-gN]at dH;simp[QpP,jX,eQ,dH];done
    | false=>
     have dH:=h90.trans (congrArg (λb=>some (DB b)) (show(b.take i).any (Qll x)=false from xN));rw[<-gN]at dH;cases e3:inR x.grams 1 100000 with
     | false=>
      rw[e3]at d7;simp[QpP,jX,eQ,dH,d7];done
     | true=>
      rw[e3]at d7;cases e4:inR x.fresh 0 x.grams with
      | false=>
       rw[e4]at eM;simp[QpP,jX,eQ,dH,d7,eM];done
      | true=>
       rw[e4]at eM;have wB:=Qal.1 e3;have hb4:=Qal.1 e4;obtain⟨nm,gm,fr,lo,tk⟩:=x;dsimp only at*;cases lF:tk.any (λt=>!inR t.fr 0 ((i:Int) - 1))with
       | true=>
        rw[lF]at jO;have qY:0 < tk.length:=by
         rcases tk with _ | ⟨t,tk⟩
         .cases lF
         .simp
        have zX:(0:Int) < tk.length:=by omega
        cases lo with
        | true=>
         simp[QpP,jX,eQ,dH,d7,eM,qY];done
        | false=>
         simp[QpP,jX,eQ,dH,d7,eM,jO];done
       | false=>
        rw[lF]at jO;cases hA5:Qp0 tk with
        | false=>
         rw[hA5]at kD;have qY:0 < tk.length:=by
          rcases tk with _ | ⟨t,tk⟩
          .cases hA5
          .simp
         have zX:(0:Int) < tk.length:=by omega
         cases lo with
         | true=>
          simp[QpP,jX,eQ,dH,d7,eM,qY];done
         | false=>
          simp[QpP,jX,eQ,dH,d7,eM,jO,kD];done
        | true=>
         rw[hA5]at kD;cases lG:tk.any (λt=>!inR t.gr 1 100000)with
         | true=>
          rw[lG]at lK;have qY:0 < tk.length:=by
           rcases tk with _ | ⟨t,tk⟩
           .cases lG
           .simp
          have zX:(0:Int) < tk.length:=by omega
          cases lo with
          | true=>
           simp[QpP,jX,eQ,dH,d7,eM,qY];done
          | false=>
           simp[QpP,jX,eQ,dH,d7,eM,jO,kD,lK];done
         | false=>
          rw[lG]at lK;cases lo with
          | true=>
           by_cases qY:0 < tk.length
           .have zX:(0:Int) < tk.length:=by omega
            simp[QpP,jX,eQ,dH,d7,eM,qY];done
           .have zX:¬(0:Int) < tk.length:=by omega
            simp[QpP,jX,eQ,dH,d7,eM,qY,jO,kD,lK];done
          | false=>
           have xO:tk.length<=i:=QeX hA5 λt ht=>by
            rw[List.any_eq_false]at lF;have:=Qal.1 (by simpa using lF t ht)
            omega
           have hS:=Qwl (x:=⟨nm,gm,fr,false,tk⟩) (by dsimp only; omega) (by dsimp only; omega) (λt ht=>by
            rw[List.any_eq_false]at lG;exact Qal.1 (by simpa using lG t ht)) tk.length (Zr _)
           rw[show Qm4 (Bat.takes ⟨nm,gm,fr,false,tk⟩) tk.length=QaR tk by rw[Qm4,List.take_length]]at hS
           rw[hS];by_cases h9:fr+QaR tk=gm
           .simp[QpP,jX,eQ,dH,d7,eM,jO,kD,lK,h9];done
           .have h9':(fr+QaR tk != gm)=true:=by simpa using h9
            simp[QpP,jX,eQ,dH,d7,eM,jO,kD,lK,h9,h9'];done
 .cases hr
end Go.Proofs.YticoemblgkemiaaGreatDoor
