/-
  Library functions of strings as plain functions: Itoa, Split, Join, TrimSuffix. Conditions: none.
-/
import Derived.Test.YticoemblgkemiaaGreatDoorZShelf
import Derived.Test.YticoemblgkemiaaGreatDoorZWxPrB
import Derived.Test.YticoemblgkemiaaGreatDoorZWxRefC
import Derived.Lib.AppendIntMem
import Derived.Lib.SplitLaws
set_option linter.unusedSimpArgs false
set_option linter.unusedVariables false
namespace Go.Proofs.YticoemblgkemiaaGreatDoor
open Go.RowKit Go.Lib
theorem QVN {m:Nat→Nat→Prop} {w:World} (h:GlobIn m w):Lib.TabIs Tryz.prog w "internal/strconv.uint64pow10" .u64 Lib.pow10Tab:=by
 obtain⟨_,cs,ty,fr,h1,_,rfl⟩:=h _ (List.mem_cons_of_mem _ (List.mem_cons_self ..));unfold Lib.TabIs World.var?;have e:Tryz.prog.globalNamed "internal/strconv.uint64pow10" =some 1:=by kernel_rfl
 rw[e];simp only[Option.bind_some];simp only at h1;rw[h1]
instance (n:Int):Decidable (Qou n):=inferInstanceAs (Decidable (_∧_))
def QWO:List D→Option D:=sp1 QaY Qoe fun n=>if Qou n then some ⟨(Lib.itoa n).toArray⟩else none
theorem Q1u:∀ds d,QWO ds=some d→PureC Tryz.prog 124 ds d:=Qbr fun n r hr=>by
 split at hr
 ·rename_i hc;cases hr;refine Qf1 fun m w vs hm hG hr=>⟨.string ⟨(Lib.itoa n).toArray⟩,?_,fun m' w'=>by simp[Qdr,Rel]⟩
  simp only[QmH,RelL,Rel]at hr;obtain⟨v,t,rfl,rfl,rfl⟩:=hr;refine(Tryz.strconv_Itoa n hc.1 hc.2 w (QVN hG)).mono ?_;rintro e w' ⟨rfl,k,os,rfl⟩;exact⟨rfl,below_grow _ w (Nat.le_refl _) k os⟩
 ·cases hr
def s72:List D→Option D:=sp2 Qoe Qoe (QJ Qg0) fun s sep=>if s.size < 100000∧1≤sep.size then some (QiO s sep)else none
theorem ok72:∀ds d,s72 ds=some d→PureC Tryz.prog 130 ds d:=Qay fun s sep r hr=>by
 split at hr
 ·rename_i hc;cases hr;obtain⟨hs,h1⟩:=hc;have hlen:(QiO s sep).length=countB s sep+1:=splitB_all sep h1 0 _ s rfl;have hle:=countB_le sep h1 s.size s (Nat.le_refl _);intro m w vs hm hG hr;simp only[Qdr,RelL,Rel]at hr;obtain⟨v,t,rfl,rfl,v2,t2,rfl,rfl,rfl⟩:=hr;obtain⟨k,hk⟩:=Qso hG;refine(Tryz.strings_Split s sep k w (by omega) hk h1).mono ?_
  rintro e w' ⟨rfl,rfl⟩;refine⟨_,fun b o=>b=w.heap.size,rfl,(Below.refl _ w).alloc (Nat.le_refl _) _,fun b o h=>by subst h; simp,?_⟩
  rw[QbL];simp only[Rel,List.length_map];rw[←hlen];refine⟨by show(QiO s sep).length≤_; omega,_,_,rfl,Nat.le_refl _,.inr ⟨_,_,rfl,RelRows.of fun i r hi=>?_⟩⟩
  rw[List.getElem?_map]at hi;cases hp:(QiO s sep)[i]? with
  | none=>rw[hp]at hi; cases hi
  | some p=>
   rw[hp]at hi;simp only[Option.map_some,Option.some.injEq]at hi;subst hi;refine⟨rfl,?_⟩;simp only[Qa7,RelCells,Rel];refine⟨⟨.string p,.inr trivial,?_,rfl,rfl⟩,trivial⟩;have hb:=Qbi w (.cells ((QiO s sep).map Value.string).toArray 9);have e:(0+i*Qg0.k)=i:=by rw[Qgx]; omega
   rw[e];have hb':(w.alloc (.cells ((splitB sep 0 (countB s sep) s).map Value.string).toArray 9)).heap[w.heap.size]?=some (.cells ((QiO s sep).map Value.string).toArray 9 (0,0)):=hb;simp only[World.cell?,hb'];simp[hp]
 ·cases hr
theorem Q0W (xs:Array Value) (w:World):(callFunc 130 xs).run Tryz.prog w= .ok (.enter 130 xs) w:=by kernel_rfl
theorem QYQ (xs:Array Value) (w:World):(callFunc 124 xs).run Tryz.prog w= .ok (.enter 124 xs) w:=by kernel_rfl
theorem QY7 (xs:Array Value) (w:World):(callFunc 126 xs).run Tryz.prog w= .ok (.enter 126 xs) w:=by kernel_rfl
def QYW:List D→Option D:=sp2 (QJ Qg0) Qoe Qoe fun l sep=>if 0 < l.length∧l.length≤100000∧(Qfp l sep).size≤100000 then some (Qfp l sep)else none
theorem Q11:∀ds d,QYW ds=some d→PureC Tryz.prog 126 ds d:=Qay fun l sep r hr=>by
 split at hr
 ·rename_i hc;cases hr;obtain⟨h0,h1,h2⟩:=hc;refine Qf1 fun m w vs hm hG hr=>⟨.string (Qfp l sep),?_,fun m' w'=>by simp[Qdr,Rel]⟩
  simp only[QbL,Qdr,RelL,Rel,List.length_map]at hr;obtain⟨v,t,rfl,⟨_,a,c,rfl,hlc,hx⟩,v2,t2,rfl,rfl,rfl⟩:=hr;have hne:l.map Qg0.enc≠[]:=by
   intro e;have:=congrArg List.length e;simp at this;rw[this]at h0;simp at h0
  obtain⟨b,o,rfl,hrows⟩:=hx.resolve_left hne;have hcell:∀(j:Nat) x,l[j]?=some x→m b (o+j)∧w.cell? ⟨b,o+j,none⟩=some (.string x):=fun j x hj=>by
   obtain⟨_,hc⟩:=hrows.get j (Qg0.enc x) (by rw[List.getElem?_map,hj]; rfl)
   simp only[Qa7,RelCells,Rel]at hc;obtain⟨⟨v,q1,q2,_,q3⟩,_⟩:=hc;subst q3;rw[show o+j*Qg0.k=o+j by rw[Qgx]; omega]at q1 q2
   exact⟨q1,q2⟩
  have hb:b < w.heap.size:=hm _ _ (hcell 0 _ (List.getElem?_eq_getElem h0)).1;refine(Tryz.strings_Join b o c l sep w (fun j x hj=>(hcell j x hj).2) hb (by omega) hlc ?_).mono ?_
  ·have:(Qfp l sep).size=(Lib.join (l.map (·.data.toList)) sep.data.toList).length:=by simp[Qfp,ByteArray.size]
   omega
  ·rintro e w' ⟨rfl,h⟩;exact⟨rfl,h⟩
 ·cases hr
def QTW (s p:ByteArray):ByteArray:=⟨(Lib.trimSuffix s.data.toList p.data.toList).toArray⟩
def Q0t:List D→Option D:=sp2 Qoe Qoe Qoe fun s p=>if s.size < 100000 then some (QTW s p)else none
theorem Q12:∀ds d,Q0t ds=some d→PureC Tryz.prog 153 ds d:=Qay fun s p r hr=>by
 split at hr
 ·rename_i hc;cases hr;refine Qf1 fun m w vs hm hG hr=>⟨.string (QTW s p),?_,fun m' w'=>by simp[Qdr,Rel]⟩
  simp only[Qdr,RelL,Rel]at hr;obtain⟨v,t,rfl,rfl,v2,t2,rfl,rfl,rfl⟩:=hr;refine(Tryz.strings_TrimSuffix s p w (by omega)).mono ?_
  rintro e w' ⟨rfl,rfl⟩;exact⟨rfl,Below.refl _ _⟩
 ·cases hr
theorem QX7 (xs:Array Value) (w:World):(callFunc 153 xs).run Tryz.prog w= .ok (.enter 153 xs) w:=by kernel_rfl
end Go.Proofs.YticoemblgkemiaaGreatDoor
namespace Go.Proofs.YticoemblgkemiaaGreatDoor
open Go.RowKit Go.Lib
def QBa (r:Nat):List (Nat×Option Nat):=match r with
 | 0=>[(1,none)]
 | 1=>[(1,none),(3,some 1)]
 | 2=>[(1,none),(3,some 1),(13,none),(14,none),(15,none)]
 | 3=>[(1,none),(3,some 1),(13,none),(14,none),(15,none),(16,none)]
 | 4=>[(1,none),(3,some 1),(5,none),(13,none),(14,none),(15,none)]
 | 5=>[(1,none),(3,some 1),(13,none),(14,none),(15,none)]
 | 6=>[(1,none),(3,some 1),(13,none),(14,none),(15,none)]
 | 7=>kpn [1,6]
 | 8=>kpn [6,37,38,39]
 | 9=>kpn [6,37,38,39,40]
 | 10=>kpn [6,8,37,38,39]
 | 11=>[(3,some 1),(6,none),(8,none),(37,none),(38,none),(39,none)]
 | 12=>[(3,some 1),(6,none),(37,none),(38,none),(39,none),(47,none),(48,none),(49,none)]
 | 13=>[(3,some 1),(6,none),(37,none),(38,none),(39,none),(47,none),(48,none),(49,none),(50,none)]
 | 14=>[(3,some 1),(6,none),(10,none),(37,none),(38,none),(39,none),(47,none),(48,none),(49,none)]
 | 15=>[(3,some 1),(6,none),(37,none),(38,none),(39,none),(47,none),(48,none),(49,none)]
 | 16=>[(3,some 1),(6,none),(37,none),(38,none),(39,none),(47,none),(48,none),(49,none)]
 | 17=>kpn [6,37,38,39]
 | 18=>kpn [6,37,38,39]
 | 19=>[(2,none)]
 | _=>[]
def Q2A (r:Nat):List (Nat×Option Nat):=match r with
 | 0=>[(1,none)]
 | 1=>kpn [1,6]
 | 2=>kpn [1,6,14]
 | 3=>kpn [2,3]
 | 4=>kpn [2,3]
 | _=>[]
theorem QjV {a b:ByteArray} (h:a.data.toList=b.data.toList):a=b:=by
 apply ByteArray.ext;exact Array.toList_inj.1 h
theorem Qn8 {n:Int} (h:0≤n):(⟨(Lib.itoa n).toArray⟩:ByteArray)=QDz n.toNat:=by
 unfold QDz Lib.itoa;rw[if_neg (by omega)]
def QTb (l:List ByteArray):ByteArray:=⟨(joinTail [32] (l.map (·.data.toList))).toArray⟩
theorem QQN (h:ByteArray) (r:List ByteArray):Qfp (h::r) spB=h++QTb r:=by
 apply QjV;simp only[Qfp,QTb,List.map_cons,ByteArray.data_append,Array.toList_append,List.toList_toArray];exact join_cons _ _ _
theorem QUh (r s:List ByteArray):QTb (r++s)=QTb r++QTb s:=by
 apply QjV;simp[QTb,joinTail,ByteArray.data_append]
theorem QUw (a b:ByteArray):QTb [a,b]=spB++a++spB++b:=by
 apply QjV;simp[QTb,joinTail,ByteArray.data_append,spB]
theorem QUO:QTb []=⟨#[]⟩:=rfl
theorem QZm (a:ByteArray):a++⟨#[]⟩=a:=by
 apply QjV;simp[ByteArray.data_append]
def QQK (x:Tbl):Nat→List ByteArray
 | 0=>[]
 | p+1=>QQK x p++[(x.props.getD p default).name,QDz (QQ5 x p).toNat]
def QQE (x:Tbl) (k:Nat):Nat→List ByteArray
 | 0=>[]
 | p+1=>QQE x k p++[QDz (QQe x k p).lo.toNat,QDz (QQe x k p).hi.toNat]
@[simp] theorem wordsP_zero (x : Tbl) : QQK x 0 = [] := rfl
@[simp] theorem wordsQ_zero (x : Tbl) (k : Nat) : QQE x k 0 = [] := rfl
theorem QQY (x:Tbl):∀p,(QQK x p).length=2*p
 | 0=>rfl
 | p+1=>by rw[QQK,List.length_append,QQY x p]; simp; omega
theorem QQX (x:Tbl) (k:Nat):∀p,(QQE x k p).length=2*p
 | 0=>rfl
 | p+1=>by rw[QQE,List.length_append,QQX x k p]; simp; omega
theorem QSh (x:Tbl):∀p,Qfp (tsB::QQK x p) spB=QS7 x p
 | 0=>by rw[QQN,QQK,QUO,QZm]; rfl
 | p+1=>by
  have ih:=QSh x p;rw[QQN]at ih;rw[QQN,QQK,QUh,QUw,QS7,←ih];apply QjV;simp[ByteArray.data_append]
theorem QTE (x:Tbl) (k:Nat) (o h:ByteArray):∀p,o++Qfp (h::QQE x k p) spB=QU7 x k (o++h) p
 | 0=>by rw[QQN,QQE,QUO,QZm]; rfl
 | p+1=>by
  have ih:=QTE x k o h p;rw[QQN]at ih;rw[QQN,QQE,QUh,QUw,QU7,←ih];apply QjV;simp[ByteArray.data_append]
theorem QTs (x:Tbl) {k:Nat} (hk:k < x.kinds.length):QQC x (k+1)=QQC x k++(Qfp (x.kinds[k].name::QQE x k x.props.length) spB++nlB):=by
 rw[QQC,Ql _ _ _ hk,←QTE];apply QjV;simp[ByteArray.data_append]
theorem QVB (a:ByteArray) (l:List ByteArray):(QJ Qg0).dec (.sl 1 ([DS a]::l.map Qg0.enc))=some (a::l):=Qcy (a::l)
def QZI (r:Nat):Nat:=if r=5 then 1007 else if r=15 then 1008 else 0
def g69:List (Nat×(List D→Option D)):=(124,QWO)::(126,QYW)::[]
theorem dg69:QaE Tryz.prog (Qaw g69):=Qh (Qh Qs QY7 Q11) QYQ Q1u
theorem cx69:CxOk Tryz.prog (QSL g69 [] 70 QBa [] (fun _=>[]) QZI [] []):=QQW dg69 Qb6 Qbn (sq:=[]) (fun _ _ _ h=>by cases h) 70 QBa [] (fun _=>[]) QZI
def s69:List D→Option D:=sp1 (Qcf QRf) Qoe fun x=>if okT x then some (QQy x)else none
set_option maxHeartbeats 8000000 in
theorem ok69:∀ds d,s69 ds=some d→PureC Tryz.prog 151 ds d:=Qbr fun x r hr=>by
 split at hr
 ·rename_i hT;cases hr;have f:=QQv hT;have hp5:=f.p5;have hk8:=f.k8;have c1:spB=⟨#[32]⟩:=rfl;have c2:nlB=⟨#[10]⟩:=rfl;have c3:tsB=⟨#[116,101,115,116,115]⟩:=rfl;have c4:puB=⟨#[10,112,117,114,101,32]⟩:=rfl;have z2:(⟨#[10]⟩:ByteArray).size=1:=rfl;have z4:(⟨#[10,112,117,114,101,32]⟩:ByteArray).size=6:=rfl;refine Qf cx69 Tryz.func151 rfl rfl (Nat.le_of_ble_eq_true rfl) (by kernel_rfl) ?_
  rw[Tryz.results151];simp[QBa,QZI,QPZ,QP9]
  (generalize hLoopQ:Cx.loop _ _ _=rLoopQ; apply Qi hLoopQ (fun k=>⟨[(1,.loc 1 0),(3,.sl 1 ((tsB::QQK x k).map Qg0.enc) (.tok 3)),(13,.d (.sl 2 (x.props.map QQt.enc))),(14,.d (DI x.props.length)),(15,.d (DI k))],[(1,[.d (.sl 2 (x.props.map QQt.enc)),.d (.sl 2 (x.kinds.map QQw.enc)),.d (DI x.purity)])],[3],[]⟩) x.props.length (by first | (simp; done) | (simp; rfl) | (simp; simp[*])); rotate_left; (show _ < 281474976710656; omega); rfl; rotate_left; all_goals clear hLoopQ)
  ·intro j hj;have w1:=Qa ((j:Int)+1) (by omega) (by omega)
   have hjl:(j:Int) < x.props.length:=by omega
   have he:=QS5 hj;have hev:=f.errv hj;have hi:Qou (QQ5 x j):=⟨by omega,by omega⟩
   have hit:=Qn8 hev.1;have hwl:=QQY x j;rw[QQK,Ql _ _ _ hj,←hit];generalize QQK x j=W at*;have q1:W.length+1+2≤140737488355328:=by omega
   have q2:(W.length+1+2)*16≤140737488355328:=by omega
   simp[QBa,QZI,g69,QWO,QP2,Qa7,hj,hjl,he,hi,w1,q1,q2];done
  ·have hz:=QSd f x.props.length (Nat.le_refl _);have hd:=QOf (n:=x.purity) (by have:=f.u2; omega)
   have hu0:0≤x.purity:=by have:=f.u1; omega
   have hi:Qou x.purity:=⟨by omega,by have:=f.u2; omega⟩
   have hit:=Qn8 hu0;have hJ:=QSh x x.props.length;have hwl:=QQY x x.props.length;have hK0:QQC x 0=QS7 x x.props.length++puB++QDz x.purity.toNat++nlB:=rfl;rw[c4,c2]at hK0;rw[c1,c3]at hJ;rw[c3];generalize QQK x x.props.length=W at*;generalize QS7 x x.props.length=o at*;have k0:W.length+1≤100000:=by omega
   have k5:o.size≤100000:=by omega
   have k1:o.size+6≤9223372036854775807:=by omega
   have k1':o.size≤9223372036854775801:=by omega
   have k2:o.size+6+(QDz x.purity.toNat).size≤9223372036854775807:=by omega
   have k3:o.size+6+(QDz x.purity.toNat).size+1≤9223372036854775807:=by omega
   have k3':o.size+6+(QDz x.purity.toNat).size≤9223372036854775806:=by omega
   simp[QBa,QZI,g69,QWO,QYW,Qa7,QVB,hJ,hi,hit,k0,k5,z2,z4,k1,k1',k2,k3,k3',ByteArray.size_append,QP5];rw[←hK0];clear hK0 hJ k0 k5 k1 k1' k2 k3 k3' hwl hz
   (generalize hLoopQ:Cx.loop _ _ _=rLoopQ; apply Qi hLoopQ (fun k=>⟨[(6,.d (DS (QQC x k))),(37,.d (.sl 2 (x.kinds.map QQw.enc))),(38,.d (DI x.kinds.length)),(39,.d (DI k))],[],[],[]⟩) x.kinds.length rfl; rotate_left; (show _ < 281474976710656; omega); rfl; rotate_left; all_goals clear hLoopQ)
   ·intro j hj;have w1:=Qa ((j:Int)+1) (by omega) (by omega)
    have hjl:(j:Int) < x.kinds.length:=by omega
    have hz:=QRy f j (by omega)
    have hz1:=QRy f (j+1) (by omega)
    have hspan:=f.span j hj;rw[QTs x hj]at hz1⊢;rw[ByteArray.size_append,ByteArray.size_append,c2,z2,c1]at hz1;rw[c1,c2];generalize QQC x j=o at*;obtain⟨nm,hnm⟩:∃nm,nm=x.kinds[j].name:=⟨_,rfl⟩;rw[←hnm]at hz1⊢;simp[QBa,QZI,QP3,QP6,hj,hjl,←hnm,hspan.1]
    (generalize hLoopQ:Cx.loop _ _ _=rLoopQ; apply Qi hLoopQ (fun p=>⟨[(3,.sl 1 ((nm::QQE x j p).map Qg0.enc) (.tok 3)),(6,.d (DS o)),(37,.d (.sl 2 (x.kinds.map QQw.enc))),(38,.d (DI x.kinds.length)),(39,.d (DI j)),(47,.d (.sl 2 (x.kinds[j].props.map QP7.enc))),(48,.d (DI x.props.length)),(49,.d (DI p))],[],[3],[]⟩) x.props.length (by first | (simp; done) | (simp; rfl) | (simp; simp[*])); rotate_left; (show _ < 281474976710656; omega); rfl; rotate_left; all_goals clear hLoopQ)
    ·intro p hp;have wp:=Qa ((p:Int)+1) (by omega) (by omega)
     have hpl:(p:Int) < x.props.length:=by omega
     obtain⟨hpa,ea,r1,r2,r3⟩:=f.rng hj hp;have hpaI:(p:Int) < x.kinds[j].props.length:=by omega
     have i1:Qou (QQe x j p).lo:=⟨by omega,by omega⟩
     have i2:Qou (QQe x j p).hi:=⟨by omega,by omega⟩
     have t1:=Qn8 r1;have t2:=Qn8 (n:=(QQe x j p).hi) (by omega)
     have hwl:=QQX x j p;rw[QQE,←t1,←t2];generalize QQE x j p=W at*;have q1:W.length+1+2≤140737488355328:=by omega
     have q2:(W.length+1+2)*16≤140737488355328:=by omega
     simp[QBa,QZI,g69,QWO,QP0,Qa7,hp,hpl,hpa,hpaI,ea,i1,i2,wp,q1,q2]
    ·have hwl:=QQX x j x.props.length;generalize QQE x j x.props.length=W at*;generalize hS:Qfp (nm::W) ⟨#[32]⟩=S at*;have k0:W.length+1≤100000:=by omega
     have k5:S.size≤100000:=by omega
     have k1:S.size+1≤9223372036854775807:=by omega
     have k2:o.size+(S.size+1)≤9223372036854775807:=by omega
     simp[QBa,QZI,g69,QYW,Qa7,QVB,hS,k0,k5,z2,k1,k2,w1,ByteArray.size_append];done
   ·simp[QBa,QQy]
 ·cases hr
theorem QDh (xs:Array Value) (w:World):(callFunc 151 xs).run Tryz.prog w= .ok (.enter 151 xs) w:=by kernel_rfl
def g32:List (Nat×(List D→Option D)):=(149,s16)::(151,s69)::[]
theorem dg32:QaE Tryz.prog (Qaw g32):=Qh (Qh Qs QDh ok69) QVn Q18
def s32:List D→Option D:=sp1 (Qcf QRf) (Qgw Qoe QaY) fun x=>if QQh x then some (QiQ x)else none
theorem ok32:∀ds d,s32 ds=some d→PureC Tryz.prog 75 ds d:=Qbr fun x r hr=>by
 split at hr
 ·rename_i hnm;cases hr;refine Qf (QP1 dg32 18 Q2A []) Tryz.func75 rfl rfl (Nat.le_of_ble_eq_true rfl) (by kernel_rfl) ?_
  rw[Tryz.results75];unfold QiQ;by_cases h:okT x
  ·have h1:(chk x).2.2=0:=h;simp[Q2A,QPZ,QP8,g32,s16,s69,hnm,h,h1]
  ·have h1:¬(chk x).2.2=0:=h;have h2:((chk x).2.2 != 0)=true:=by simpa using h1
   simp[Q2A,QPZ,QP8,g32,s16,hnm,h,h1,h2]
 ·cases hr
theorem Q1K (xs:Array Value) (w:World):(callFunc 75 xs).run Tryz.prog w= .ok (.enter 75 xs) w:=by kernel_rfl
end Go.Proofs.YticoemblgkemiaaGreatDoor
