/-
  The program of the trace chapter: the error of a batch. Conditions: the names are strings.
-/
import Derived.Test.YtnfeakhkfehkhaaGreatDoorZPrA
import Derived.Test.YtnfeakhkfehkhaaGreatDoorZRefF
set_option linter.unusedSimpArgs false
set_option linter.unusedVariables false
namespace Go.Proofs.YtnfeakhkfehkhaaGreatDoor
open Go.RowKit
def kp93 (r:Nat):List (Nat×Option Nat):=match r with
 | 0=>kpn [2,4]
 | 1=>[(5,none)]
 | _=>[]
def QHD (r:Nat):List (Nat×Option Nat):=match r with
 | 0=>kpn [0,2,4]
 | 1=>[(5,none)]
 | _=>[]
def kp95 (r:Nat):List (Nat×Option Nat):=match r with
 | 0=>[(3,none)]
 | 1=>[(4,none)]
 | _=>[]
def QhY (r:Nat):List (Nat×Option Nat):=match r with
 | 0=>kpn [0,1]
 | 1=>kpn [1,7,8,9]
 | 2=>kpn [1,7,8,9,10]
 | 3=>kpn [1,5,6,7,8,9]
 | 4=>kpn [1,7,8,9,17]
 | 5=>[(4,none)]
 | 6=>kpn [1,7,8,9]
 | 7=>[(4,none)]
 | _=>[]
def QnM (r:Nat):List (Nat×Option Nat):=match r with
 | 0=>kpn [0,3]
 | 1=>kpn [0,3,5,6]
 | 2=>kpn [0,3,5,6,19,20,21]
 | 3=>kpn [0,3,5,6,19,20,21,22]
 | 4=>kpn [0,3,5,6,8,19,20,21]
 | 5=>kpn [0,3,5,6,19,20,21]
 | 6=>kpn [0,3,5,6,19,20,21]
 | 7=>kpn [0,3,5,6,30]
 | 8=>[(4,none)]
 | 9=>kpn [3,5,6,35]
 | 10=>[(4,none)]
 | 11=>kpn [3,5,6,41]
 | 12=>[(4,none)]
 | 13=>kpn [3,5,6,54]
 | 14=>[(4,none)]
 | 15=>kpn [5,6,63]
 | 16=>[(4,none)]
 | 17=>kpn [5,6,68]
 | 18=>[(4,none)]
 | 19=>kpn [5,6,73]
 | 20=>[(4,none)]
 | 21=>[(77,none)]
 | 22=>[(4,none)]
 | 23=>[(4,none)]
 | _=>[]
def g48:List (Nat×(List D→Option D)):=[(48,s48)]
theorem dg48:Qay Tryz.prog (Qas g48):=Ql QB Qn5 QDi
theorem QBd (lo hi n:Int):QmI lo hi [n]=!inR n lo hi:=by simp[QmI]
theorem QjM (lo hi n:Int):s48 [DI lo,DI hi,.sl 1 [[DI n]]]=some (DB (!inR n lo hi)):=by
 have e:(.sl 1 [[DI n]]:D)= .sl 1 ([n].map Qt.enc):=rfl;rw[e];simp only[s48,sp3,Qam,QQ];rw[if_pos (by simp),QBd]; rfl
def s93:List D→Option D:=sp3 Qbh (QeC Qb1) Quy QaI fun _ t i=>if 0≤i∧i≤1000000 then some (!inR t.fr 0 (i - 1))else none
theorem ok93:∀ds d,s93 ds=some d→PureC Tryz.prog 93 ds d:=QcG fun k t i r hr=>by
 split at hr
 ·rename_i hi;cases hr;refine Qm (QE dg48 12 kp93 []) Tryz.func93 rfl rfl (Nat.le_of_ble_eq_true rfl) (by kernel_rfl) ?_
  rw[Tryz.results93];have w1:=Qa (i - 1) (by omega) (by omega)
  have h48:=QjM 0 (i - 1) t.fr;simp[kp93,g48,Qo,QgT,w1,h48]
 ·cases hr
theorem QDY (xs:Array Value) (w:World):(callFunc 93 xs).run Tryz.prog w= .ok (.enter 93 xs) w:=by kernel_rfl
def Qzk (x:Bat) (k:Int) (t:Tak):Bool:=decide (0 < k)&&decide (t.fr≤(x.takes.getD (k - 1).toNat default).fr)
def s94:List D→Option D:=sp3 Qbh (QeC Qb1) QhX QaI fun k t x=>if 0≤k∧k≤x.takes.length∧x.takes.length≤17592186044416 then some (Qzk x k t)else none
theorem ok94:∀ds d,s94 ds=some d→PureC Tryz.prog 94 ds d:=QcG fun k t x r hr=>by
 split at hr
 ·rename_i hk;obtain⟨h0,h1,h2⟩:=hk;cases hr;refine Qm (QE QB 20 QHD []) Tryz.func94 rfl rfl (Nat.le_of_ble_eq_true rfl) (by kernel_rfl) ?_
  rw[Tryz.results94];unfold Qzk;by_cases hk:0 < k
  ·have w1:=Qa (k - 1) (by omega) (by omega)
   have g1:(k - 1).toNat < x.takes.length:=by omega
   have g2:k - 1 < x.takes.length:=by omega
   have g3:1≤k:=by omega
   have g4:k.toNat - 1 < x.takes.length:=by omega
   rw[Qj x.takes _ _ g1];simp[QHD,Qo,Qu,QiT,Qh,hk,w1,g1,g2,g3,g4]
  ·simp[QHD,Qo,Qu,QiT,Qh,hk]
 ·cases hr
theorem QFX (xs:Array Value) (w:World):(callFunc 94 xs).run Tryz.prog w= .ok (.enter 94 xs) w:=by kernel_rfl
def s95:List D→Option D:=sp2 Qbh (QeC Qb1) QaI fun _ t=>some (!inR t.gr 1 100000)
theorem ok95:∀ds d,s95 ds=some d→PureC Tryz.prog 95 ds d:=QaR fun k t r hr=>by
 cases hr;refine Qm (QE dg48 9 kp95 []) Tryz.func95 rfl rfl (Nat.le_of_ble_eq_true rfl) (by kernel_rfl) ?_
 rw[Tryz.results95];have h48:=QjM 1 100000 t.gr;simp[kp95,g48,Qo,h48]
theorem QEO (xs:Array Value) (w:World):(callFunc 95 xs).run Tryz.prog w= .ok (.enter 95 xs) w:=by kernel_rfl
inductive TPr where
 | none (i:Int)
 | asc (x:Bat)
 | rng
def TPr.is:TPr→Nat→Tak→Bool
 | .none i,_,t=>!inR t.fr 0 (i - 1)
 | .asc x,k,t=>Qzk x k t
 | .rng,_,t=>!inR t.gr 1 100000
def TPr.enc:TPr→D
 | .none i=> .fn 93 [] [.dat 1 [[DI i]] 0 0]
 | .asc x=> .fn 94 [] [.dat 5 [QO.enc x] 0 0]
 | .rng=> .v (.func (.func 95) #[] #[])
def QCQ:Cod TPr:=⟨TPr.enc,fun d=>match d with
 | .fn 93 [] [.dat 1 [[.v (.int .i64 a)]] 0 0]=>some (.none a)
 | .fn 94 [] [y]=>(QhX.dec y).map .asc
 | .v v=>if QGh 95 v=true then some .rng else Option.none
 | _=>Option.none,fun d x h=>by
 split at h
 ·cases h; exact DImp.refl _
 ·rename_i y;obtain⟨b,hb,rfl⟩:=Option.map_eq_some_iff.1 h;intro m w v hv;show Rel m w (.fn 94 [] [QhX.enc b]) v;simp only[Rel,RelL]at hv⊢;obtain⟨fs,cs,h1,h2,u,t,h3,h4,h5⟩:=hv;exact⟨fs,cs,h1,h2,u,t,h3,QhX.ed _ _ hb _ _ _ h4,h5⟩
 ·split at h
  ·rename_i hf;cases h;rw[QvG hf]; exact DImp.refl _
  ·cases h
 ·cases h⟩
theorem Qx4 (p:TPr):QCQ.enc p=p.enc:=rfl
theorem Qvr (i:Int):QCQ.dec (.fn 93 [] [.dat 1 [[DI i]] 0 0])=some (.none i):=rfl
theorem Qwy (x:Bat):QCQ.dec (.fn 94 [] [.dat 5 [[DS x.name,DI x.grams,DI x.fresh,DB x.lost,.sl 2 (x.takes.map Qb1.enc)]] 0 0])=some (.asc x):=by
 show(QhX.dec _).map TPr.asc=_;rw[QpO]; rfl
theorem Qyl:QCQ.dec (.v (.func (.func 95) #[] #[]))=some .rng:=rfl
def TPr.ok:TPr→List Tak→Prop
 | .none i,_=>0≤i∧i≤1000000
 | .asc x,l=>l.length≤x.takes.length∧x.takes.length≤17592186044416
 | .rng,_=>True
instance (p:TPr) (l:List Tak):Decidable (p.ok l):=by cases p<;>(unfold TPr.ok; infer_instance)
def q3:List (Nat×(List D→Option D)):=[(93,s93),(94,s94),(95,s95)]
theorem dq3:Qay Tryz.prog (Qas q3):=Ql (Ql (Ql QB QEO ok95) QFX ok94) QDY ok93
def Qlc (p:TPr) (l:List Tak):Bool:=(List.range l.length).any fun k=>p.is k (l.getD k default)
def s92:List D→Option D:=sp2 (Qy Qb1) QCQ QaI fun l p=>if l.length≤17592186044416∧p.ok l then some (Qlc p l)else none
theorem QvB (xs:Array Value) (w:World):(callFunc 92 xs).run Tryz.prog w= .ok (.enter 92 xs) w:=by kernel_rfl
set_option maxHeartbeats 2000000 in
theorem ok92:∀ds d,s92 ds=some d→PureC Tryz.prog 92 ds d:=QaR fun l p r hr=>by
 split at hr
 ·rename_i hc;obtain⟨hl,hp⟩:=hc;cases hr;refine Qm (QE dq3 19 QhY []) Tryz.func92 rfl rfl (Nat.le_of_ble_eq_true rfl) (by kernel_rfl) ?_
  rw[Tryz.results92];simp[QhY,Qx4,Qu];generalize hLoopQ:Cx.loop _ _ _=rLoopQ;have hrQ:rLoopQ=some (if(List.range l.length).all (fun j=>!p.is j (l.getD j default))=true then(.exit 0,⟨[(1,.d p.enc),(7,.d (.sl 2 (l.map Qb1.enc))),(8,.d (DI l.length)),(9,.d (DI l.length)),(10,.d (DB false))],[],[],[]⟩)else(.ret,⟨[(4,.d (DB true))],[],[],[]⟩)):=by
   refine Qa7 hLoopQ (fun j=>⟨[(1,.d p.enc),(7,.d (.sl 2 (l.map Qb1.enc))),(8,.d (DI l.length)),(9,.d (DI j))],[],[],[]⟩) _ _ _ _ (by simp) (by show _ < 281474976710656; omega) (by simp) (by simp) ?_ ?_
   ·intro j hj;have hjl:(j:Int) < l.length:=by omega
    have w1:=Qa ((j:Int)+1) (by omega) (by omega)
    rw[Qj l j _ hj];cases p with
    | none i=>
     have h93:s93 [DI j,.agg [DI l[j].fr,DI l[j].gr],.dat 1 [[DI i]] 0 0]=some (DB (!inR l[j].fr 0 (i - 1))):=by
      simp only[s93,sp3,Qam,Qbq,QiP,Qgd];rw[if_pos (show 0≤i∧i≤1000000 from hp)]; rfl
     show _=some (if(!(!inR l[j].fr 0 (i - 1)))=true then _ else _);cases hb:inR l[j].fr 0 (i - 1)with
     | true=>
      rw[hb]at h93;simp[QhY,q3,TPr.enc,Qu,Qo,hj,hjl,h93,w1]
     | false=>
      rw[hb]at h93;simp[QhY,q3,TPr.enc,Qu,Qo,hj,hjl,h93,w1]
    | asc x=>
     have h94:s94 [DI j,.agg [DI l[j].fr,DI l[j].gr],.dat 5 [QO.enc x] 0 0]=some (DB (Qzk x j l[j])):=by
      have c:(0:Int)≤(j:Int)∧(j:Int)≤x.takes.length∧x.takes.length≤17592186044416:=by have:=hp.1; have:=hp.2; omega
      simp only[s94,sp3,Qam,Qbq,QiP,Qs2];rw[if_pos c]; rfl
     show _=some (if(!Qzk x j l[j])=true then _ else _);cases hb:Qzk x j l[j]with
     | true=>
      rw[hb]at h94;simp[QhY,q3,TPr.enc,Qu,Qo,hj,hjl,h94,w1]
     | false=>
      rw[hb]at h94;simp[QhY,q3,TPr.enc,Qu,Qo,hj,hjl,h94,w1]
    | rng=>
     have h95:s95 [DI j,.agg [DI l[j].fr,DI l[j].gr]]=some (DB (!inR l[j].gr 1 100000)):=by
      simp only[s95,sp2,Qam,Qbq,QiP]; rfl
     show _=some (if(!(!inR l[j].gr 1 100000))=true then _ else _);cases hb:inR l[j].gr 1 100000 with
     | true=>
      rw[hb]at h95;simp[QhY,q3,TPr.enc,Qu,Qo,hj,hjl,h95,w1]
     | false=>
      rw[hb]at h95;simp[QhY,q3,TPr.enc,Qu,Qo,hj,hjl,h95,w1]
   ·simp[QhY,Qu]
  rw[hrQ];have e2:Qlc p l=!(List.range l.length).all (fun j=>!p.is j (l.getD j default)):=by
   unfold Qlc;rw[List.all_eq_not_any_not]; simp
  rw[e2];cases(List.range l.length).all (fun j=>!p.is j (l.getD j default))with
  | true=>simp[QhY]
  | false=>simp[QhY]
 ·cases hr
def QAF (x:Bat):Nat→Int
 | 0=>x.fresh
 | k+1=>IntKind.i64.wrap (QAF x k+(x.takes.getD k default).gr)
theorem QsS (x:Bat):QAF x 0=x.fresh:=rfl
attribute [local simp] QsS
theorem QvT {x:Bat} (h0:0≤x.fresh∧x.fresh≤100000) (hl:x.takes.length≤8) (hg:∀t∈x.takes,1≤t.gr∧t.gr≤100000):∀k,k≤x.takes.length→QAF x k=x.fresh+Ql5 x.takes k
 | 0,_=>by simp[QAF]
 | k+1,hk=>by
  have ih:=QvT h0 hl hg k (by omega)
  have hb:=Ql7 (l:=x.takes) k (by omega) fun j hj _=>hg _ (List.getElem_mem hj)
  have h1:=hg _ (List.getElem_mem (by omega:k < x.takes.length))
  rw[QAF,ih,Qj _ _ _ (by omega),Qgp (by omega),Qa _ (by omega) (by omega)]
  omega
theorem Qs5 {x:Bat} {i:Nat} :Qlc (.none i) x.takes=x.takes.any (fun t=>!inR t.fr 0 ((i:Int) - 1)):=by
 unfold Qlc;rw[Bool.eq_iff_iff,List.any_eq_true,List.any_eq_true];constructor
 ·rintro⟨k,hk,h⟩;rw[List.mem_range]at hk;rw[Qj _ _ _ hk]at h;exact⟨_,List.getElem_mem hk,h⟩
 ·rintro⟨t,ht,h⟩;obtain⟨k,hk,rfl⟩:=List.getElem_of_mem ht;exact⟨k,List.mem_range.2 hk,by rw[Qj _ _ _ hk]; exact h⟩
theorem Qxj {x:Bat} :Qlc .rng x.takes=x.takes.any (fun t=>!inR t.gr 1 100000):=by
 unfold Qlc;rw[Bool.eq_iff_iff,List.any_eq_true,List.any_eq_true];constructor
 ·rintro⟨k,hk,h⟩;rw[List.mem_range]at hk;rw[Qj _ _ _ hk]at h;exact⟨_,List.getElem_mem hk,h⟩
 ·rintro⟨t,ht,h⟩;obtain⟨k,hk,rfl⟩:=List.getElem_of_mem ht;exact⟨k,List.mem_range.2 hk,by rw[Qj _ _ _ hk]; exact h⟩
theorem Qxm {x:Bat} :Qlc (.asc x) x.takes=!QpK x.takes:=by
 unfold Qlc QpK;rw[Bool.eq_iff_iff,List.any_eq_true,Bool.not_eq_true',decide_eq_false_iff_not];constructor
 ·rintro⟨k,hk,h⟩ hall;rw[List.mem_range]at hk;simp only[TPr.is,Qzk,Bool.and_eq_true,decide_eq_true_eq]at h;obtain⟨h1,h2⟩:=h;have:=hall k hk (by omega)
  rw[show((k:Int) - 1).toNat=k - 1 by omega]at h2
  omega
 ·intro h;apply Classical.byContradiction;intro hn;refine h fun k hk h0=>?_;apply Classical.byContradiction;intro hlt;refine hn ⟨k,List.mem_range.2 hk,?_⟩;simp only[TPr.is,Qzk,Bool.and_eq_true,decide_eq_true_eq];rw[show((k:Int) - 1).toNat=k - 1 by omega]
  omega
def Qdx (b:List Bat):Prop:=∀x∈b,Qxi x.name
instance (b:List Bat):Decidable (Qdx b):=inferInstanceAs (Decidable (∀x∈b,_))
def g49:List (Nat×(List D→Option D)):=[(89,s89),(90,s90),(48,s48),(92,s92)]
theorem dg49:Qay Tryz.prog (Qas g49):=Ql (Ql (Ql (Ql QB QvB ok92) Qn5 QDi) QEc ok90) QCX ok89
def QmV (r:Nat):List (Nat×Nat):=if r=1 then [(5,10),(8,10)]else []
def s49:List D→Option D:=sp2 (Qy QO) Qbh Qbh fun b n=>if 0≤n∧n < b.length∧b.length≤8∧bkB b=true∧Qdx b then some (Qol b n.toNat (b.getD n.toNat default))else none
theorem QDB (xs:Array Value) (w:World):(callFunc 49 xs).run Tryz.prog w= .ok (.enter 49 xs) w:=by kernel_rfl
set_option maxHeartbeats 4000000 in
theorem ok49:∀ds d,s49 ds=some d→PureC Tryz.prog 49 ds d:=QaR fun b n r hr=>by
 split at hr
 ·rename_i hc;obtain⟨h0,h1,h8,hbk,hnm⟩:=hc;obtain⟨i,rfl⟩:∃i:Nat,n=i:=⟨n.toNat,by omega⟩
  cases hr;have hi:i < b.length:=by omega
  have hil:(i:Int) < b.length:=by omega
  have ht:=QuP hbk hi;have hs:=hnm b[i] (List.getElem_mem hi);rw[Int.toNat_natCast,Qj b i _ hi];refine Qm (QbT dg49 Qct QbC QcU 87 QnM [] QmV (fun _=>0)) Tryz.func49 rfl rfl (Nat.le_of_ble_eq_true rfl) (by kernel_rfl) ?_
  rw[Tryz.results49];have h90:s90 [.sl 5 ((b.take i).map QO.enc),.fn 91 [] [.dat 5 [[DS b[i].name,DI b[i].grams,DI b[i].fresh,DB b[i].lost,.sl 2 (b[i].takes.map Qb1.enc)]] 0 0]]=some (DB ((b.take i).any (Qkb b[i]))):=by
   simp only[s90,sp2,QR,Qn2];rw[if_pos (by simp; omega)]; rfl
  have htk:(b.map QO.enc).take i=(b.take i).map QO.enc:=(List.map_take).symm;generalize hx:b[i]=x at*;have h92a:s92 [.sl 2 (x.takes.map Qb1.enc),.fn 93 [] [.dat 1 [[DI i]] 0 0]]=some (DB (x.takes.any (fun t=>!inR t.fr 0 ((i:Int) - 1)))):=by
   simp only[s92,sp2,QdQ,Qvr];rw[if_pos ⟨ht,(show(0:Int)≤(i:Int)∧(i:Int)≤1000000 by omega)⟩,Qs5]; rfl
  have h92b:s92 [.sl 2 (x.takes.map Qb1.enc),.fn 94 [] [.dat 5 [[DS x.name,DI x.grams,DI x.fresh,DB x.lost,.sl 2 (x.takes.map Qb1.enc)]] 0 0]]=some (DB (!QpK x.takes)):=by
   simp only[s92,sp2,QdQ,Qwy];rw[if_pos ⟨ht,(show x.takes.length≤x.takes.length∧x.takes.length≤17592186044416 from⟨Nat.le_refl _,ht⟩)⟩,Qxm]; rfl
  have h92c:s92 [.sl 2 (x.takes.map Qb1.enc),.v (.func (.func 95) #[] #[])]=some (DB (x.takes.any (fun t=>!inR t.gr 1 100000))):=by
   simp only[s92,sp2,QdQ,Qyl];rw[if_pos ⟨ht,trivial⟩,Qxj]; rfl
  have h48a:=QjM 1 100000 x.grams;have h48b:=QjM 0 x.grams x.fresh;simp[QnM,QmV,g49,Qe,Qh,Qu,Qo,hi,hil,hx]
  (generalize hLoopQ:Cx.loop _ _ _=rLoopQ; apply Qi hLoopQ (fun k=>⟨[(0,.d (.sl 5 (b.map QO.enc))),(3,.loc 3 0),(5,.loc 5 0),(6,.d (DI (QAF x k))),(19,.d (.sl 2 (x.takes.map Qb1.enc))),(20,.d (DI x.takes.length)),(21,.d (DI k))],[(3,[.d (DI i)]),(5,[.d (DS x.name),.d (DI x.grams),.d (DI x.fresh),.d (DB x.lost),.d (.sl 2 (x.takes.map Qb1.enc))])],[],[]⟩) x.takes.length (by first | (simp; done) | (simp; rfl) | (simp; simp[*])); rotate_left; (show _ < 281474976710656; omega); rfl; rotate_left; all_goals clear hLoopQ)
  ·intro k hk;have hkl:(k:Int) < x.takes.length:=by omega
   have w1:=Qa ((k:Int)+1) (by omega) (by omega)
   rw[QAF,Qj _ _ _ hk];simp[QnM,QmV,g49,Qe,Qh,Qu,Qo,hk,hkl,w1]
  ·unfold Qol;have h89:s89 [DS x.name]=some (DB (Qbe x.name)):=by simp only[s89,sp1,Qp8]; rw[if_pos hs]; rfl
   have hile:i≤b.length:=by omega
   cases e1:Qbe x.name with
   | false=>rw[e1]at h89; simp[QnM,QmV,g49,Qe,Qh,Qu,Qo,h89]
   | true=>
    rw[e1]at h89;cases hA2:(b.take i).any (fun y=>y.name.toList==x.name.toList)with
    | true=>
     have h90':=h90.trans (congrArg (fun b=>some (DB b)) (show(b.take i).any (Qkb x)=true from hA2));rw[←htk]at h90';simp[QnM,QmV,g49,Qe,Qh,Qu,Qo,h89,hi,hil,hile,h90'];done
    | false=>
     have h90':=h90.trans (congrArg (fun b=>some (DB b)) (show(b.take i).any (Qkb x)=false from hA2));rw[←htk]at h90';cases e3:inR x.grams 1 100000 with
     | false=>
      rw[e3]at h48a;simp[QnM,QmV,g49,Qe,Qh,Qu,Qo,h89,hi,hil,hile,h90',h48a];done
     | true=>
      rw[e3]at h48a;cases e4:inR x.fresh 0 x.grams with
      | false=>
       rw[e4]at h48b;simp[QnM,QmV,g49,Qe,Qh,Qu,Qo,h89,hi,hil,hile,h90',h48a,h48b];done
      | true=>
       rw[e4]at h48b;have hb3:=Qau.1 e3;have hb4:=Qau.1 e4;obtain⟨nm,gm,fr,lo,tk⟩:=x;dsimp only at*;cases hA4:tk.any (fun t=>!inR t.fr 0 ((i:Int) - 1))with
       | true=>
        rw[hA4]at h92a;have h0l:0 < tk.length:=by
         rcases tk with _ | ⟨t,tk⟩
         ·cases hA4
         ·simp
        have h0i:(0:Int) < tk.length:=by omega
        cases lo with
        | true=>
         simp[QnM,QmV,g49,Qe,Qh,Qu,Qo,h89,hi,hil,hile,h90',h48a,h48b,h0l,h0i];done
        | false=>
         simp[QnM,QmV,g49,Qe,Qh,Qu,Qo,h89,hi,hil,hile,h90',h48a,h48b,h92a];done
       | false=>
        rw[hA4]at h92a;cases hA5:QpK tk with
        | false=>
         rw[hA5]at h92b;have h0l:0 < tk.length:=by
          rcases tk with _ | ⟨t,tk⟩
          ·cases hA5
          ·simp
         have h0i:(0:Int) < tk.length:=by omega
         cases lo with
         | true=>
          simp[QnM,QmV,g49,Qe,Qh,Qu,Qo,h89,hi,hil,hile,h90',h48a,h48b,h0l,h0i];done
         | false=>
          simp[QnM,QmV,g49,Qe,Qh,Qu,Qo,h89,hi,hil,hile,h90',h48a,h48b,h92a,h92b];done
        | true=>
         rw[hA5]at h92b;cases hA7:tk.any (fun t=>!inR t.gr 1 100000)with
         | true=>
          rw[hA7]at h92c;have h0l:0 < tk.length:=by
           rcases tk with _ | ⟨t,tk⟩
           ·cases hA7
           ·simp
          have h0i:(0:Int) < tk.length:=by omega
          cases lo with
          | true=>
           simp[QnM,QmV,g49,Qe,Qh,Qu,Qo,h89,hi,hil,hile,h90',h48a,h48b,h0l,h0i];done
          | false=>
           simp[QnM,QmV,g49,Qe,Qh,Qu,Qo,h89,hi,hil,hile,h90',h48a,h48b,h92a,h92b,h92c];done
         | false=>
          rw[hA7]at h92c;cases lo with
          | true=>
           by_cases h0l:0 < tk.length
           ·have h0i:(0:Int) < tk.length:=by omega
            simp[QnM,QmV,g49,Qe,Qh,Qu,Qo,h89,hi,hil,hile,h90',h48a,h48b,h0l,h0i];done
           ·have h0i:¬(0:Int) < tk.length:=by omega
            simp[QnM,QmV,g49,Qe,Qh,Qu,Qo,h89,hi,hil,hile,h90',h48a,h48b,h0l,h0i,h92a,h92b,h92c];done
          | false=>
           have hl8:tk.length≤i:=Qdy hA5 fun t ht=>by
            rw[List.any_eq_false]at hA4;have:=Qau.1 (by simpa using hA4 t ht)
            omega
           have hS:=QvT (x:=⟨nm,gm,fr,false,tk⟩) (by dsimp only; omega) (by dsimp only; omega) (fun t ht=>by
            rw[List.any_eq_false]at hA7;exact Qau.1 (by simpa using hA7 t ht)) tk.length (Nat.le_refl _)
           rw[show Ql5 (Bat.takes ⟨nm,gm,fr,false,tk⟩) tk.length=QaS tk by rw[Ql5,List.take_length]]at hS
           rw[hS];by_cases h9:fr+QaS tk=gm
           ·simp[QnM,QmV,g49,Qe,Qh,Qu,Qo,h89,hi,hil,hile,h90',h48a,h48b,h92a,h92b,h92c,h9];done
           ·have h9':(fr+QaS tk != gm)=true:=by simpa using h9
            simp[QnM,QmV,g49,Qe,Qh,Qu,Qo,h89,hi,hil,hile,h90',h48a,h48b,h92a,h92b,h92c,h9,h9'];done
 ·cases hr
end Go.Proofs.YtnfeakhkfehkhaaGreatDoor
