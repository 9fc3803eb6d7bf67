/-
  The program of the trace chapter: the error of a batch. Conditions: the names are strings.
-/
import Derived.Test.YtnfeakhkfehkhaaGreatDoorZPrA
set_option linter.unusedSimpArgs false
set_option linter.unusedVariables false
namespace Go.Proofs.YtnfeakhkfehkhaaGreatDoor
open Go.RowKit
def kp93 (r:Nat):List (Nat×Option Nat):=match r with
 | 0=>kpn [2,4]
 | 1=>[(5,none)]
 | _=>[]
def QHD (r:Nat):List (Nat×Option Nat):=match r with
 | 0=>kpn [0,2,4]
 | 1=>[(5,none)]
 | _=>[]
def kp95 (r:Nat):List (Nat×Option Nat):=match r with
 | 0=>[(3,none)]
 | 1=>[(4,none)]
 | _=>[]
def QhY (r:Nat):List (Nat×Option Nat):=match r with
 | 0=>kpn [0,1]
 | 1=>kpn [1,7,8,9]
 | 2=>kpn [1,7,8,9,10]
 | 3=>kpn [1,5,6,7,8,9]
 | 4=>kpn [1,7,8,9,17]
 | 5=>[(4,none)]
 | 6=>kpn [1,7,8,9]
 | 7=>[(4,none)]
 | _=>[]
def QnM (r:Nat):List (Nat×Option Nat):=match r with
 | 0=>kpn [0,3]
 | 1=>kpn [0,3,5,6]
 | 2=>kpn [0,3,5,6,19,20,21]
 | 3=>kpn [0,3,5,6,19,20,21,22]
 | 4=>kpn [0,3,5,6,8,19,20,21]
 | 5=>kpn [0,3,5,6,19,20,21]
 | 6=>kpn [0,3,5,6,19,20,21]
 | 7=>kpn [0,3,5,6,30]
 | 8=>[(4,none)]
 | 9=>kpn [3,5,6,35]
 | 10=>[(4,none)]
 | 11=>kpn [3,5,6,41]
 | 12=>[(4,none)]
 | 13=>kpn [3,5,6,54]
 | 14=>[(4,none)]
 | 15=>kpn [5,6,63]
 | 16=>[(4,none)]
 | 17=>kpn [5,6,68]
 | 18=>[(4,none)]
 | 19=>kpn [5,6,73]
 | 20=>[(4,none)]
 | 21=>[(77,none)]
 | 22=>[(4,none)]
 | 23=>[(4,none)]
 | _=>[]
def g48:List (Nat×(List D->Option D)):=[(48,s48)]
theorem dg48:Qay Tryz.prog (Qas g48):=Ql QB Qn5 QDi
theorem QBd (lo hi n:Int):QmI lo hi [n]=!inR n lo hi:=by simp[QmI]
theorem QjM (lo hi n:Int):s48 [DI lo,DI hi,.sl 1 [[DI n]]]=some (DB (!inR n lo hi)):=by
 have e:(.sl 1 [[DI n]]:D)= .sl 1 ([n].map Qt.enc):=rfl;rw[e];simp only[s48,sp3,Qam,QQ];rw[if_pos (by simp),QBd]; rfl
def s93:List D->Option D:=sp3 Qbh (QeC Qb1) Quy QaI λ_ t i=>if 0<=i/\i<=1000000 then some (!inR t.fr 0 (i - 1))else none
theorem ok93:∀ds d,s93 ds=some d->PureC Tryz.prog 93 ds d:=QcG λk t i r hr=>by
 split at hr
 .rename_i hi;cases hr;refine Qm (QE dg48 12 kp93 []) Tryz.func93 rfl rfl (Zb rfl) (by kernel_rfl) ?_
  rw[Tryz.results93];have w1:=Qa (i - 1) (by omega) (by omega)
  have gC:=QjM 0 (i - 1) t.fr;simp[kp93,g48,Qo,QgT,w1,gC]
 .cases hr
theorem QDY (xs:Array Value) (w:World):(callFunc 93 xs).run Tryz.prog w= .ok (.enter 93 xs) w:=by kernel_rfl
def Qzk (x:Bat) (k:Int) (t:Tak):Bool:=decide (0 < k)&&decide (t.fr<=(x.takes.getD (k - 1).toNat default).fr)
def s94:List D->Option D:=sp3 Qbh (QeC Qb1) QhX QaI λk t x=>if 0<=k/\k<=x.takes.length/\x.takes.length<=17592186044416 then some (Qzk x k t)else none
theorem ok94:∀ds d,s94 ds=some d->PureC Tryz.prog 94 ds d:=QcG λk t x r hr=>by
 split at hr
 .rename_i hk;obtain⟨h0,h1,h2⟩:=hk;cases hr;refine Qm (QE QB 20 QHD []) Tryz.func94 rfl rfl (Zb rfl) (by kernel_rfl) ?_
  rw[Tryz.results94];unfold Qzk;by_cases hk:0 < k
  .have w1:=Qa (k - 1) (by omega) (by omega)
   have g1:(k - 1).toNat < x.takes.length:=by omega
   have g2:k - 1 < x.takes.length:=by omega
   have g3:1<=k:=by omega
   have g4:k.toNat - 1 < x.takes.length:=by omega
   rw[Qj x.takes _ _ g1];simp[QHD,Qo,QiT,Qh,hk,w1,g2,g3,g4]
  .simp[QHD,Qo,QiT,Qh,hk]
 .cases hr
theorem QFX (xs:Array Value) (w:World):(callFunc 94 xs).run Tryz.prog w= .ok (.enter 94 xs) w:=by kernel_rfl
def s95:List D->Option D:=sp2 Qbh (QeC Qb1) QaI λ_ t=>some (!inR t.gr 1 100000)
theorem ok95:∀ds d,s95 ds=some d->PureC Tryz.prog 95 ds d:=QaR λk t r hr=>by
 cases hr;refine Qm (QE dg48 9 kp95 []) Tryz.func95 rfl rfl (Zb rfl) (by kernel_rfl) ?_
 rw[Tryz.results95];have gC:=QjM 1 100000 t.gr;simp[kp95,g48,Qo,gC]
theorem QEO (xs:Array Value) (w:World):(callFunc 95 xs).run Tryz.prog w= .ok (.enter 95 xs) w:=by kernel_rfl
inductive TPr where
 | none (i:Int)
 | asc (x:Bat)
 | rng
def TPr.is:TPr->Nat->Tak->Bool
 | .none i,_,t=>!inR t.fr 0 (i - 1)
 | .asc x,k,t=>Qzk x k t
 | .rng,_,t=>!inR t.gr 1 100000
def TPr.enc:TPr->D
 | .none i=> .fn 93 [] [.dat 1 [[DI i]] 0 0]
 | .asc x=> .fn 94 [] [.dat 5 [QO.enc x] 0 0]
 | .rng=> .v (.func (.func 95) #[] #[])
def QCQ:Cod TPr:=⟨TPr.enc,λd=>match d with
 | .fn 93 [] [.dat 1 [[.v (.int .i64 a)]] 0 0]=>some (.none a)
 | .fn 94 [] [y]=>(QhX.dec y).map .asc
 | .v v=>if QGh 95 v=true then some .rng else Option.none
 | _=>Option.none,λd x h=>by
 split at h
 .cases h; exact DImp.refl _
 .rename_i y;obtain⟨b,hb,rfl⟩:=Option.map_eq_some_iff.1 h;intro m w v hv;show Rel m w (.fn 94 [] [QhX.enc b]) v;simp only[Rel,RelL]at hv|-;obtain⟨fs,cs,h1,h2,u,t,h3,h4,h5⟩:=hv;exact⟨fs,cs,h1,h2,u,t,h3,QhX.ed _ _ hb _ _ _ h4,h5⟩
 .split at h
  .rename_i hf;cases h;rw[QvG hf]; exact DImp.refl _
  .cases h
 .cases h⟩
theorem Qx4 (p:TPr):QCQ.enc p=p.enc:=rfl
theorem Qvr (i:Int):QCQ.dec (.fn 93 [] [.dat 1 [[DI i]] 0 0])=some (.none i):=rfl
theorem Qwy (x:Bat):QCQ.dec (.fn 94 [] [.dat 5 [[DS x.name,DI x.grams,DI x.fresh,DB x.lost,.sl 2 (x.takes.map Qb1.enc)]] 0 0])=some (.asc x):=by
 show(QhX.dec _).map TPr.asc=_;rw[QpO]; rfl
theorem Qyl:QCQ.dec (.v (.func (.func 95) #[] #[]))=some .rng:=rfl
def TPr.ok:TPr->List Tak->Prop
 | .none i,_=>0<=i/\i<=1000000
 | .asc x,l=>l.length<=x.takes.length/\x.takes.length<=17592186044416
 | .rng,_=>True
instance (p:TPr) (l:List Tak):Decidable (p.ok l):=by cases p<;>(unfold TPr.ok; infer_instance)
def q3:List (Nat×(List D->Option D)):=[(93,s93),(94,s94),(95,s95)]
theorem dq3:Qay Tryz.prog (Qas q3):=Ql (Ql (Ql QB QEO ok95) QFX ok94) QDY ok93
def Qlc (p:TPr) (l:List Tak):Bool:=(List.range l.length).any λk=>p.is k (l.getD k default)
def s92:List D->Option D:=sp2 (Qy Qb1) QCQ QaI λl p=>if l.length<=17592186044416/\p.ok l then some (Qlc p l)else none
theorem QvB (xs:Array Value) (w:World):(callFunc 92 xs).run Tryz.prog w= .ok (.enter 92 xs) w:=by kernel_rfl
set_option maxHeartbeats 2000000 in
theorem ok92:∀ds d,s92 ds=some d->PureC Tryz.prog 92 ds d:=QaR λl p r hr=>by
 split at hr
 .rename_i hc;obtain⟨hl,hp⟩:=hc;cases hr;refine Qm (QE dq3 19 QhY []) Tryz.func92 rfl rfl (Zb rfl) (by kernel_rfl) ?_
  rw[Tryz.results92];simp[QhY,Qx4,Qu];generalize aC:Cx.loop _ _ _=aE;have oW:aE=some (if(List.range l.length).all (λj=>!p.is j (l.getD j default))=true then(.exit 0,⟨[(1,.d p.enc),(7,.d (.sl 2 (l.map Qb1.enc))),(8,.d (DI l.length)),(9,.d (DI l.length)),(10,.d (DB false))],[],[],[]⟩)else(.ret,⟨[(4,.d (DB true))],[],[],[]⟩)):=by
   refine Qa7 aC (λj=>⟨[(1,.d p.enc),(7,.d (.sl 2 (l.map Qb1.enc))),(8,.d (DI l.length)),(9,.d (DI j))],[],[],[]⟩) _ _ _ _ (by simp) (by show _ < 281474976710656; omega) (by simp) (by simp) ?_ ?_
   .intro j hj;have aO:(j:Int) < l.length:=by omega
    have w1:=Qa ((j:Int)+1) (by omega) (by omega)
    rw[Qj l j _ hj];cases p with
    | none i=>
     have zA:s93 [DI j,.agg [DI l[j].fr,DI l[j].gr],.dat 1 [[DI i]] 0 0]=some (DB (!inR l[j].fr 0 (i - 1))):=by
      simp only[s93,sp3,Qam,Qbq,QiP,Qgd];rw[if_pos (show 0<=i/\i<=1000000 from hp)]; rfl
     show _=some (if(!(!inR l[j].fr 0 (i - 1)))=true then _ else _);cases hb:inR l[j].fr 0 (i - 1)with
     | true=>
      rw[hb]at zA;simp[QhY,q3,TPr.enc,Qo,hj,aO,zA,w1]
     | false=>
      rw[hb]at zA;simp[QhY,q3,TPr.enc,Qo,hj,aO,zA]
    | asc x=>
     have zB:s94 [DI j,.agg [DI l[j].fr,DI l[j].gr],.dat 5 [QO.enc x] 0 0]=some (DB (Qzk x j l[j])):=by
      have c:(0:Int)<=(j:Int)/\(j:Int)<=x.takes.length/\x.takes.length<=17592186044416:=by have:=hp.1; have:=hp.2; omega
      simp only[s94,sp3,Qam,Qbq,QiP,Qs2];rw[if_pos c]; rfl
     show _=some (if(!Qzk x j l[j])=true then _ else _);cases hb:Qzk x j l[j]with
     | true=>
      rw[hb]at zB;simp[QhY,q3,TPr.enc,Qo,hj,aO,zB]
     | false=>
      rw[hb]at zB;simp[QhY,q3,TPr.enc,Qo,hj,aO,zB,w1]
    | rng=>
     have zC:s95 [DI j,.agg [DI l[j].fr,DI l[j].gr]]=some (DB (!inR l[j].gr 1 100000)):=by
      simp only[s95,sp2,Qam,Qbq,QiP]; rfl
     show _=some (if(!(!inR l[j].gr 1 100000))=true then _ else _);cases hb:inR l[j].gr 1 100000 with
     | true=>
      rw[hb]at zC;simp[QhY,q3,TPr.enc,Qo,hj,aO,zC,w1]
     | false=>
      rw[hb]at zC;simp[QhY,q3,TPr.enc,Qo,hj,aO,zC]
   .simp[QhY]
  rw[oW];have e2:Qlc p l=!(List.range l.length).all (λj=>!p.is j (l.getD j default)):=by
   unfold Qlc;rw[List.all_eq_not_any_not]; simp
  rw[e2];cases(List.range l.length).all (λj=>!p.is j (l.getD j default))with
  | true=>simp[QhY]
  | false=>simp
 .cases hr
def QAF (x:Bat):Nat->Int
 | 0=>x.fresh
 | k+1=>IntKind.i64.wrap (QAF x k+(x.takes.getD k default).gr)
theorem QsS (x:Bat):QAF x 0=x.fresh:=rfl
attribute [local simp] QsS
theorem QvT {x:Bat} (h0:0<=x.fresh/\x.fresh<=100000) (hl:x.takes.length<=8) (hg:∀t∈x.takes,1<=t.gr/\t.gr<=100000):∀k,k<=x.takes.length->QAF x k=x.fresh+Ql5 x.takes k
 | 0,_=>by simp[QAF]
 | k+1,hk=>by
  have ih:=QvT h0 hl hg k (by omega)
  have hb:=Ql7 (l:=x.takes) k (by omega) λj hj _=>hg _ (Ze hj)
  have h1:=hg _ (Ze (by omega:k < x.takes.length))
  rw[QAF,ih,Qj _ _ _ (by omega),Qgp (by omega),Qa _ (by omega) (by omega)]
  omega
theorem Qs5 {x:Bat} {i:Nat} :Qlc (.none i) x.takes=x.takes.any (λt=>!inR t.fr 0 ((i:Int) - 1)):=by
 unfold Qlc;rw[Bool.eq_iff_iff,Zy,Zy];constructor
 .rintro⟨k,hk,h⟩;rw[Zm]at hk;rw[Qj _ _ _ hk]at h;exact⟨_,Ze hk,h⟩
 .rintro⟨t,ht,h⟩;obtain⟨k,hk,rfl⟩:=List.getElem_of_mem ht;exact⟨k,Zm.2 hk,by rw[Qj _ _ _ hk]; exact h⟩
theorem Qxj {x:Bat} :Qlc .rng x.takes=x.takes.any (λt=>!inR t.gr 1 100000):=by
 unfold Qlc;rw[Bool.eq_iff_iff,Zy,Zy];constructor
 .rintro⟨k,hk,h⟩;rw[Zm]at hk;rw[Qj _ _ _ hk]at h;exact⟨_,Ze hk,h⟩
 .rintro⟨t,ht,h⟩;obtain⟨k,hk,rfl⟩:=List.getElem_of_mem ht;exact⟨k,Zm.2 hk,by rw[Qj _ _ _ hk]; exact h⟩
theorem Qxm {x:Bat} :Qlc (.asc x) x.takes=!QpK x.takes:=by
 unfold Qlc QpK;rw[Bool.eq_iff_iff,Zy,Bool.not_eq_true',decide_eq_false_iff_not];constructor
 .rintro⟨k,hk,h⟩ hall;rw[Zm]at hk;simp only[TPr.is,Qzk,Za,decide_eq_true_eq]at h;obtain⟨h1,h2⟩:=h;have:=hall k hk (by omega)
  rw[show((k:Int) - 1).toNat=k - 1 by omega]at h2
  omega
 .intro h;apply Classical.byContradiction;intro hn;refine h λk hk h0=>?_;apply Classical.byContradiction;intro aR;refine hn ⟨k,Zm.2 hk,?_⟩;simp only[TPr.is,Qzk,Za,decide_eq_true_eq];rw[show((k:Int) - 1).toNat=k - 1 by omega]
  omega
def Qdx (b:List Bat):Prop:=∀x∈b,Qxi x.name
instance (b:List Bat):Decidable (Qdx b):=inferInstanceAs (Decidable (∀x∈b,_))
def g49:List (Nat×(List D->Option D)):=[(89,s89),(90,s90),(48,s48),(92,s92)]
theorem dg49:Qay Tryz.prog (Qas g49):=Ql (Ql (Ql (Ql QB QvB ok92) Qn5 QDi) QEc ok90) QCX ok89
def QmV (r:Nat):List (Nat×Nat):=if r=1 then [(5,10),(8,10)]else []
def s49:List D->Option D:=sp2 (Qy QO) Qbh Qbh λb n=>if 0<=n/\n < b.length/\b.length<=8/\bkB b=true/\Qdx b then some (Qol b n.toNat (b.getD n.toNat default))else none
theorem QDB (xs:Array Value) (w:World):(callFunc 49 xs).run Tryz.prog w= .ok (.enter 49 xs) w:=by kernel_rfl
set_option maxHeartbeats 4000000 in
theorem ok49:∀ds d,s49 ds=some d->PureC Tryz.prog 49 ds d:=QaR λb n r hr=>by
 split at hr
 .rename_i hc;obtain⟨h0,h1,h8,cO,kV⟩:=hc;obtain⟨i,rfl⟩:∃i:Nat,n=i:=⟨n.toNat,by omega⟩
  cases hr;have hi:i < b.length:=by omega
  have dC:(i:Int) < b.length:=by omega
  have ht:=QuP cO hi;have hs:=kV b[i] (Ze hi);rw[Int.toNat_natCast,Qj b i _ hi];refine Qm (QbT dg49 Qct QbC QcU 87 QnM [] QmV (λ_=>0)) Tryz.func49 rfl rfl (Zb rfl) (by kernel_rfl) ?_
  rw[Tryz.results49];have h90:s90 [.sl 5 ((b.take i).map QO.enc),.fn 91 [] [.dat 5 [[DS b[i].name,DI b[i].grams,DI b[i].fresh,DB b[i].lost,.sl 2 (b[i].takes.map Qb1.enc)]] 0 0]]=some (DB ((b.take i).any (Qkb b[i]))):=by
   simp only[s90,sp2,QR,Qn2];rw[if_pos (by simp; omega)]; rfl
  have htk:(b.map QO.enc).take i=(b.take i).map QO.enc:=(List.map_take).symm;generalize hx:b[i]=x at*;have jF:s92 [.sl 2 (x.takes.map Qb1.enc),.fn 93 [] [.dat 1 [[DI i]] 0 0]]=some (DB (x.takes.any (λt=>!inR t.fr 0 ((i:Int) - 1)))):=by
   simp only[s92,sp2,QdQ,Qvr];rw[if_pos ⟨ht,(show(0:Int)<=(i:Int)/\(i:Int)<=1000000 by omega)⟩,Qs5]; rfl
  have j7:s92 [.sl 2 (x.takes.map Qb1.enc),.fn 94 [] [.dat 5 [[DS x.name,DI x.grams,DI x.fresh,DB x.lost,.sl 2 (x.takes.map Qb1.enc)]] 0 0]]=some (DB (!QpK x.takes)):=by
   simp only[s92,sp2,QdQ,Qwy];rw[if_pos ⟨ht,(show x.takes.length<=x.takes.length/\x.takes.length<=17592186044416 from⟨Zr _,ht⟩)⟩,Qxm]; rfl
  have k9:s92 [.sl 2 (x.takes.map Qb1.enc),.v (.func (.func 95) #[] #[])]=some (DB (x.takes.any (λt=>!inR t.gr 1 100000))):=by
   simp only[s92,sp2,QdQ,Qyl];rw[if_pos ⟨ht,trivial⟩,Qxj]; rfl
  have d4:=QjM 1 100000 x.grams;have h48b:=QjM 0 x.grams x.fresh;simp[QnM,QmV,g49,Qe,Qh,hi,dC,hx]
  (generalize aC:Cx.loop _ _ _=aE; apply Qi aC (λk=>⟨[(0,.d (.sl 5 (b.map QO.enc))),(3,.loc 3 0),(5,.loc 5 0),(6,.d (DI (QAF x k))),(19,.d (.sl 2 (x.takes.map Qb1.enc))),(20,.d (DI x.takes.length)),(21,.d (DI k))],[(3,[.d (DI i)]),(5,[.d (DS x.name),.d (DI x.grams),.d (DI x.fresh),.d (DB x.lost),.d (.sl 2 (x.takes.map Qb1.enc))])],[],[]⟩) x.takes.length (by first | (simp; done) | (simp; rfl) | (simp; simp[*])); rotate_left; (show _ < 281474976710656; omega); rfl; rotate_left; all_goals clear aC)
  .intro k hk;have bB:(k:Int) < x.takes.length:=by omega
   have w1:=Qa ((k:Int)+1) (by omega) (by omega)
   rw[QAF,Qj _ _ _ hk];simp[QnM,Qo,hk,bB,w1]
  .unfold Qol;have jN:s89 [DS x.name]=some (DB (Qbe x.name)):=by simp only[s89,sp1,Qp8]; rw[if_pos hs]; rfl
   have eL:i<=b.length:=by omega
   cases e1:Qbe x.name with
   | false=>rw[e1]at jN; simp[QnM,jN]
   | true=>
    rw[e1]at jN;cases wW:(b.take i).any (λy=>y.name.toList==x.name.toList)with
    | true=>
     have dK:=h90.trans (congrArg (λb=>some (DB b)) (show(b.take i).any (Qkb x)=true from wW));rw[<-htk]at dK;simp[QnM,jN,eL,dK];done
    | false=>
     have dK:=h90.trans (congrArg (λb=>some (DB b)) (show(b.take i).any (Qkb x)=false from wW));rw[<-htk]at dK;cases e3:inR x.grams 1 100000 with
     | false=>
      rw[e3]at d4;simp[QnM,jN,eL,dK,d4];done
     | true=>
      rw[e3]at d4;cases e4:inR x.fresh 0 x.grams with
      | false=>
       rw[e4]at h48b;simp[QnM,jN,eL,dK,d4,h48b];done
      | true=>
       rw[e4]at h48b;have tW:=Qau.1 e3;have hb4:=Qau.1 e4;obtain⟨nm,gm,fr,lo,tk⟩:=x;dsimp only at*;cases kZ:tk.any (λt=>!inR t.fr 0 ((i:Int) - 1))with
       | true=>
        rw[kZ]at jF;have qD:0 < tk.length:=by
         rcases tk with _ | ⟨t,tk⟩
         .cases kZ
         .simp
        have zD:(0:Int) < tk.length:=by omega
        cases lo with
        | true=>
         simp[QnM,jN,eL,dK,d4,h48b,qD];done
        | false=>
         simp[QnM,jN,eL,dK,d4,h48b,jF];done
       | false=>
        rw[kZ]at jF;cases hA5:QpK tk with
        | false=>
         rw[hA5]at j7;have qD:0 < tk.length:=by
          rcases tk with _ | ⟨t,tk⟩
          .cases hA5
          .simp
         have zD:(0:Int) < tk.length:=by omega
         cases lo with
         | true=>
          simp[QnM,jN,eL,dK,d4,h48b,qD];done
         | false=>
          simp[QnM,jN,eL,dK,d4,h48b,jF,j7];done
        | true=>
         rw[hA5]at j7;cases hA7:tk.any (λt=>!inR t.gr 1 100000)with
         | true=>
          rw[hA7]at k9;have qD:0 < tk.length:=by
           rcases tk with _ | ⟨t,tk⟩
           .cases hA7
           .simp
          have zD:(0:Int) < tk.length:=by omega
          cases lo with
          | true=>
           simp[QnM,jN,eL,dK,d4,h48b,qD];done
          | false=>
           simp[QnM,jN,eL,dK,d4,h48b,jF,j7,k9];done
         | false=>
          rw[hA7]at k9;cases lo with
          | true=>
           by_cases qD:0 < tk.length
           .have zD:(0:Int) < tk.length:=by omega
            simp[QnM,jN,eL,dK,d4,h48b,qD];done
           .have zD:¬(0:Int) < tk.length:=by omega
            simp[QnM,jN,eL,dK,d4,h48b,qD,jF,j7,k9];done
          | false=>
           have uP:tk.length<=i:=Qdy hA5 λt ht=>by
            rw[List.any_eq_false]at kZ;have:=Qau.1 (by simpa using kZ t ht)
            omega
           have hS:=QvT (x:=⟨nm,gm,fr,false,tk⟩) (by dsimp only; omega) (by dsimp only; omega) (λt ht=>by
            rw[List.any_eq_false]at hA7;exact Qau.1 (by simpa using hA7 t ht)) tk.length (Zr _)
           rw[show Ql5 (Bat.takes ⟨nm,gm,fr,false,tk⟩) tk.length=QaS tk by rw[Ql5,List.take_length]]at hS
           rw[hS];by_cases h9:fr+QaS tk=gm
           .simp[QnM,jN,eL,dK,d4,h48b,jF,j7,k9,h9];done
           .have h9':(fr+QaS tk != gm)=true:=by simpa using h9
            simp[QnM,jN,eL,dK,d4,h48b,jF,j7,k9,h9,h9'];done
 .cases hr
end Go.Proofs.YtnfeakhkfehkhaaGreatDoor
