/-
  Stubs: by how much each weight can be above each other one (close). Conditions: the sums are small (looked at by the plain function).
-/
import Derived.Test.YticoemblgkemiaaGreatDoorZStP
import Derived.Test.YticoemblgkemiaaGreatDoorZAmF
set_option linter.unusedSimpArgs false
set_option linter.unusedVariables false
namespace Go.Proofs.YticoemblgkemiaaGreatDoor
open Go.RowKit
def Qdi (r:Nat):List (Nat×Option Nat):=match r with
 | 0=>kpn [1,2,3]
 | 1=>kpn [1,2,3,14]
 | 2=>kpn [1,2,3,14,15]
 | 3=>kpn [1,2,3,4,14]
 | 4=>kpn [1,2,3,4,14,17]
 | 5=>kpn [1,2,3,4,14,17,18]
 | 6=>kpn [1,2,3,4,5,14,17]
 | 7=>kpn [1,2,3,4,5,14,17,22]
 | 8=>kpn [1,2,3,4,14,17]
 | 9=>kpn [1,2,3,4,14,17]
 | 10=>kpn [1,2,3,14]
 | 11=>kpn [1,2,3,30]
 | 12=>kpn [1,2,3,6,32]
 | 13=>kpn [1,2,3,6,7]
 | 14=>kpn [1,2,3]
 | 15=>kpn [1,2,46,47,48]
 | 16=>kpn [1,2,46,47,48,49]
 | 17=>kpn [1,2,8,9,46,47,48]
 | 18=>kpn [1,2,46,47,48]
 | 19=>kpn [1,2,46,47,48]
 | 20=>kpn [1,2,71]
 | 21=>kpn [1,2,71,72]
 | 22=>kpn [1,2,10,71]
 | 23=>kpn [1,2,10,71,74]
 | 24=>kpn [1,2,10,71,74,75]
 | 25=>kpn [1,2,10,11,71,74]
 | 26=>kpn [1,2,10,11,71,74,86]
 | 27=>kpn [1,2,10,11,71,74,87]
 | 28=>kpn [1,2,10,11,71,74,87,88]
 | 29=>kpn [1,2,10,11,12,71,74,87]
 | 30=>kpn [1,2,10,11,71,74,87]
 | 31=>kpn [1,2,10,11,71,74,87]
 | 32=>kpn [1,2,10,71,74]
 | 33=>kpn [1,2,71]
 | 34=>kpn [2,110]
 | 35=>kpn [2,110,111]
 | 36=>kpn [2,13,110]
 | 37=>kpn [2,110,118]
 | 38=>kpn [2,3]
 | 39=>kpn [2,110]
 | 40=>kpn [2,3]
 | _=>[]
def QMO (r:Nat):List (Nat×Option Nat):=match r with
 | 0=>[(1,none)]
 | 1=>[(2,none)]
 | _=>[]
def Qdj (r:Nat):Nat:=if r=30 then 1 else 0
def Qdh (r:Nat):List (Nat×Nat):=if r=14 then [(5,9)]else if r=18 then [(11,15)]else []
def QzN:Nat→Sq
 | 0=>⟨List.replicate 64 0,by simp⟩
 | n+1=>if n / 8=n % 8 then QzN n else(QzN n).put n 2000000
def loV (L:Ln) (j:Nat):Int:=if L.rd.getD j 0= -1 then 0 else max 0 (L.rd.getD j 0 - wrN L (j+1))
def hiV (L:Ln) (j:Nat):Int:=if L.rd.getD j 0= -1 then 1000000 else min 1000000 (L.rd.getD j 0+wrN L (j+1))
theorem QHa (L:Ln) (j:Nat):Qto L j=[.int .i64 j,.agg #[.int .i64 (loV L j),.int .i64 (hiV L j)]]:=by
 unfold Qto loV hiV; split<;>rfl
def QJg (L:Ln):Nat→Sq
 | 0=>QzN 64
 | j+1=>((QJg L j).put (j*8+7) (hiV L j)).put (56+j) (-(loV L j))
def QFk (L:Ln):Nat→Sq
 | 0=>QJg L L.rd.length
 | j+1=>((QFk L j).put (j*8+(j+1)) (L.steps.getD j default).hi).put ((j+1)*8+j) (-(L.steps.getD j default).lo)
def QzL (Q:Sq) (n:Nat):Int:=Q.nth (n / 8 % 8*8+n / 64)+Q.nth (n / 64*8+n % 8)
def Qf9 (L:Ln):Nat→Sq
 | 0=>QFk L L.steps.length
 | n+1=>if L.steps.length < n / 8 % 8∧n / 8 % 8 < 7 then Qf9 L n else(Qf9 L n).put (n / 8 % 8*8+n % 8) (if QzL (Qf9 L n) n < (Qf9 L n).nth (n / 8 % 8*8+n % 8)then QzL (Qf9 L n) n else(Qf9 L n).nth (n / 8 % 8*8+n % 8))
def cSq:Cod Sq:=⟨fun Q=> .agg ((List.range 64).map fun k=>DI (Q.nth k)),fun _=>none,fun _ _ h=>by cases h⟩
noncomputable def Qx1:List D→Option D:=sp1 (Qcf rLn) QNy fun x=>some (.fn 188 [] [.dat 3 [rLn.enc x] 0 0])
theorem QC8:∀ds d,Qx1 ds=some d→PureC Tryz.prog 107 ds d:=Qbr fun x r hr=>by
 cases hr;refine Qf (Qw Qs 4 QMO []) Tryz.func107 rfl rfl (Nat.le_of_ble_eq_true rfl) (by kernel_rfl) ?_
 rw[Tryz.results107];simp[QMO,Qef]; rfl
theorem QrF (xs:Array Value) (w:World):(callFunc 107 xs).run Tryz.prog w= .ok (.enter 107 xs) w:=by kernel_rfl
noncomputable def jc1:List (Nat×(List D→Option D)):=[(107,Qx1)]
theorem djc1:QaE Tryz.prog (Qaw jc1):=Qh Qs QrF QC8
noncomputable def QEp:List (Nat×QfF):=[(187,QDi)]
theorem QLt:Qnm Tryz.prog (Qj6 QEp):=QeK Qb6 QBv QNY
theorem QIY {Γ:Tys} (hΓ:Γ 198=some Qb7) (eqs:List (TypeId×Nat)) (Δ:Nat→List D→Option D) (ev:Operand→X) (boxes:List (Nat×List X)) (toks:List Nat):aop Γ eqs Δ (.alloc 198) ev boxes toks=some (.new ⟨sqC (QzN 0),none⟩):=by
 simp only[aop,hΓ]; rfl
theorem Q3:Qb7.desc= .array 8 121:=rfl
theorem Qmr:Qb7.size=64:=rfl
theorem QzQ (Q:Sq):(sqC Q).length=64:=Qb _ _
theorem Qjg (Q:Sq) (P:X→Prop) (h:∀d,P (.d d)):(∀c,c∈sqC Q→P c)=True:=Qaj 64 _ P h
theorem QbI (Q:Sq) (b i:Nat) (av nw:List Nat):Qaz [] b i (sqC Q) av nw=(sqC Q,av,nw):=QA 64 _ b i av nw
theorem QCW (Q:Sq) {p:Nat} (h:p < 64):(sqC Q)[p]?=some (.d (DI (Q.nth p))):=Qc h
theorem atS (Q:Sq) {p:Nat} (h:p < (sqC Q).length):(sqC Q)[p]= .d (DI (Q.nth p)):=Qg h
theorem wrS (Q:Sq) {p:Nat} {v:Int} (h:p < 64):(sqC Q).take p++X.d (DI v)::(sqC Q).drop (p+1)=sqC (Q.put p v):=(Qo h).trans (congrArg (Qk 64) (QJP Q h v))
theorem QDS (Q:Sq) (l:List Nat):(sqC Q).map (X.keepP l)=sqC Q:=by simp[sqC,Qk,X.keepP]
theorem QLA (Q:Sq):QdL (sqC Q)=[]:=QbC 64 _
theorem ownS (l:List Nat) (Q:Sq):QuO l (sqC Q)=none:=QbT l 64 _
theorem renS (ls:List Nat) (t0:Option Nat) (Q:Sq):(sqC Q).map (X.ren ls t0)=sqC Q:=Qdg ls t0 64 _
theorem QMM (ls:List Nat) (i:Nat) (tl:List Nat) (Q:Sq):(sqC Q).map (X.back ls i tl)=sqC Q:=QaT ls i tl 64 _
theorem QBB (Q:Sq):(sqC Q).take 64=sqC Q:=QaG 64 _
theorem QOO {L:Ln} (h:lnB L=true) {j:Nat} (hj:j < L.rd.length):0≤loV L j∧loV L j≤20000000:=by
 unfold lnB at h;simp only[Bool.and_eq_true,decide_eq_true_eq,List.all_eq_true]at h;obtain⟨⟨⟨_,hst,her⟩,hrd⟩,hse⟩:=h;have her:=QeW her;have hr:=QeW (hrd _ (List.getElem_mem hj));have hw: -10000000≤wrN L (j+1)∧wrN L (j+1)≤10000000:=by
  rw[show wrN L (j+1)=if j=0 then L.err else(L.steps.getD (j - 1) default).err from rfl];by_cases h0:j=0
  ·rw[if_pos h0]; exact her
  ·have hl:j - 1 < L.steps.length:=by omega
   rw[if_neg h0,Ql _ _ _ hl]; exact QeW (hse _ (List.getElem_mem hl))
 unfold loV;rw[Ql _ _ _ hj];split<;>omega
theorem Qs9 {x:Ln} {j i:Nat} (hi:i < 8) (h:x.steps.length < i∧i < 7):∀k,k≤8→Qf9 x (j*64+i*8+k)=Qf9 x (j*64+i*8)
 | 0,_=>rfl
 | k+1,hk=>by
  have ih:=Qs9 (j:=j) hi h k (by omega)
  have d:(j*64+i*8+k) / 8 % 8=i:=by omega
  rw[show j*64+i*8+(k+1)=(j*64+i*8+k)+1 from rfl,Qf9,d,if_pos h];exact ih
theorem Qsc {x:Ln} {j i k:Nat} (hj:j < 8) (hi:i < 8) (hk:k < 8) (h:¬(x.steps.length < i∧i < 7)) {Q:Sq} (hQ:Qf9 x (j*64+i*8+k)=Q):Qf9 x (j*64+i*8+(k+1))=Q.put (i*8+k) (if Q.nth (i*8+j)+Q.nth (j*8+k) < Q.nth (i*8+k)then Q.nth (i*8+j)+Q.nth (j*8+k)else Q.nth (i*8+k))∧QzL Q (j*64+i*8+k)=Q.nth (i*8+j)+Q.nth (j*8+k):=by
 have d1:(j*64+i*8+k) / 8 % 8=i:=by omega
 have d2:(j*64+i*8+k) / 64=j:=by omega
 have d3:(j*64+i*8+k) % 8=k:=by omega
 have e:QzL Q (j*64+i*8+k)=Q.nth (i*8+j)+Q.nth (j*8+k):=by
  unfold QzL; rw[d1,d2,d3]
 refine⟨?_,e⟩;rw[show j*64+i*8+(k+1)=(j*64+i*8+k)+1 from rfl,Qf9,d1,if_neg h,hQ,e,d3]
theorem QJV (Q:Sq):List.map (X.d ∘ fun k=>DI (Q.nth k)) (List.range 64)=sqC Q:=rfl
theorem QLV (Q:Sq):List.drop 64 (sqC Q)=[]:=List.drop_eq_nil_of_le (by rw[QzQ]; exact Nat.le_refl _)
def QON (Q:Sq):Bool:=(List.range 8).all fun k=>decide (0≤Q.nth (k*8+k))
theorem QJ1 (Q:Sq):Qbp (sqC Q)=some ((List.range 64).map fun k=>DI (Q.nth k)):=Qv 64 _
set_option maxHeartbeats 4000000 in
theorem QLu {x:Ln} (hx:lnB x=true) (h7:x.rd.length≤7) (hsl:x.steps.length+1=x.rd.length) (hsm:∀s∈x.steps,QkW s.lo=true) (hsum:∀n,n < 512→ -1000000000000000≤QzL (Qf9 x n) n∧QzL (Qf9 x n) n≤1000000000000000):PureC Tryz.prog 106 [.agg (rLn.enc x)] (.tup [cSq.enc (Qf9 x 512),DB (QON (Qf9 x 512))]):=by
 refine Qf (Qby djc1 QLt Qbn Qy2 122 Qdi [] Qdh Qdj) Tryz.func106 rfl rfl (Nat.le_of_ble_eq_true rfl) (by kernel_rfl) ?_
 rw[Tryz.results106,Qef];have hz:=QIY (Γ:=tys) rfl [] (fun _ _=>none) (fun _=> .d .top) [] [];simp[-Qb7]at hz;simp[-Qb7,Q3,hz,Qdi,Qdh,Qdj,Qjg,QbI]
 (generalize hLoopQ:Cx.loop _ _ _=rLoopQ; apply Qi hLoopQ (fun i=>⟨[(1,.loc 1 0),(2,.loc 2 0),(3,.d (DB false)),(14,.d (DI i))],[(1,[.d (DI x.err),.d (.sl 4 (x.steps.map Qkh.enc)),.d (.sl 1 (x.rd.map QH.enc))]),(2,sqC (QzN (i*8)))],[],[]⟩) 8 (by first | (simp; done) | (simp; rfl) | (simp; simp[*])); rotate_left; (show _ < 281474976710656; omega); rfl; rotate_left; all_goals clear hLoopQ)
 ·intro i hi;have hiI:(i:Int) < 8:=by omega
  have w1:=Qa ((i:Int)+1) (by omega) (by omega)
  simp[-Qb7,Q3,hz,Qdi,Qdh,Qdj,Qjg,QbI,hi,hiI]
  (generalize hLoopQ:Cx.loop _ _ _=rLoopQ; apply Qi hLoopQ (fun k=>⟨[(1,.loc 1 0),(2,.loc 2 0),(3,.d (DB false)),(4,.d (DI i)),(14,.d (DI i)),(17,.d (DI k))],[(1,[.d (DI x.err),.d (.sl 4 (x.steps.map Qkh.enc)),.d (.sl 1 (x.rd.map QH.enc))]),(2,sqC (QzN (i*8+k)))],[],[]⟩) 8 (by first | (simp; done) | (simp; rfl) | (simp; simp[*])); rotate_left; (show _ < 281474976710656; omega); rfl; rotate_left; all_goals clear hLoopQ)
  ·intro k hk;have hkI:(k:Int) < 8:=by omega
   have w2:=Qa ((k:Int)+1) (by omega) (by omega)
   have d1:(i*8+k) / 8=i:=by omega
   have d2:(i*8+k) % 8=k:=by omega
   have e:QzN (i*8+(k+1))=if i=k then QzN (i*8+k)else(QzN (i*8+k)).put (i*8+k) 2000000:=by
    rw[show i*8+(k+1)=(i*8+k)+1 from rfl,QzN,d1,d2]
   rw[e];by_cases hik:i=k
   ·have hb:((i:Int) != (k:Int))=false:=by simp[hik]
    rw[if_pos hik];simp[-Qb7,Q3,hz,Qdi,Qdh,Qdj,Qjg,QbI,hi,hiI,hk,hkI,hb,w2]
   ·have hb:((i:Int) != (k:Int))=true:=bne_iff_ne.2 (by omega)
    rw[if_neg hik];simp[-Qb7,Q3,hz,Qdi,Qdh,Qdj,Qjg,QbI,QzQ,QCW,atS,wrS,hi,hiI,hk,hkI,hb,w2,show i*8+k≤63 by omega,show i*8+k < 64 by omega]
  ·simp[-Qb7,Q3,hz,Qdi,Qdh,Qdj,Qjg,QbI,hi,hiI,w1];rw[show(i+1)*8=i*8+8 by omega]
 ·have h107:Qx1 [.agg [DI x.err,.sl 4 (x.steps.map Qkh.enc),.sl 1 (x.rd.map QH.enc)]]=some (.fn 188 [] [.dat 3 [[DI x.err,.sl 4 (x.steps.map Qkh.enc),.sl 1 (x.rd.map QH.enc)]] 0 0]):=by
   have e:=rLn.de x;rw[Qef]at e;simp only[Qx1,sp1,QaQ,e]; rfl
  have h188:QIb [.dat 3 [[DI x.err,.sl 4 (x.steps.map Qkh.enc),.sl 1 (x.rd.map QH.enc)]] 0 0]=some (QcT x):=by
   have e:=rLn.de x;rw[Qef]at e;simp only[QIb,e];rw[if_pos hx]
  simp[-Qb7,Q3,hz,Qdi,Qdh,Qdj,Qjg,QbI,QDS,jc1,h107,h188];have hva:∀j v,(QcT x)[j]?=some v→j < x.rd.length∧v=Qto x j:=fun j v h=>by
   have hj:j < x.rd.length:=by
    have:=(List.getElem?_eq_some_iff.1 h).1;simpa[QcT]using this
   rw[Qzx hj]at h;exact⟨hj,(Option.some.inj h).symm⟩
  have hpl:(QcT x).length=x.rd.length:=by simp[QcT]
  (generalize hLoopQ:Cx.rounds _ _ _ _ _ _ _ _=rLoopQ; have hEndQ:=QfA hLoopQ (fun j=>⟨[(1,.loc 1 0),(2,.loc 2 0),(3,.d (DB false)),(30,.d (.fn 188 [] [.dat 3 [[DI x.err,.sl 4 (x.steps.map Qkh.enc),.sl 1 (x.rd.map QH.enc)]] 0 0]))],[(1,[.d (DI x.err),.d (.sl 4 (x.steps.map Qkh.enc)),.d (.sl 1 (x.rd.map QH.enc))]),(2,sqC (QJg x j))],[],[]⟩) (by first | rfl | (simp; done) | (simp; rfl)) ?_; rotate_left; all_goals clear hLoopQ)
  ·intro j v hvj;obtain⟨hj,rfl⟩:=hva j v hvj;rw[QHa];have hlo:=QOO hx hj;have w1:=Qa (-(loV x j)) (by omega) (by omega)
   have hj8:(j:Int) < 8:=by omega
   have e:QJg x (j+1)=((QJg x j).put (j*8+7) (hiV x j)).put (56+j) (-(loV x j)):=rfl;rw[e];generalize loV x j=lo at*;generalize hiV x j=hi at*;simp[-Qb7,Q3,hz,Qdi,Qdh,Qdj,Qjg,QbI,QDS,QzQ,QCW,atS,wrS,hj8,show j < 8 by omega,w1,show j*8≤56 by omega,show j*8+7≤63 by omega,show j*8+7 < 64 by omega,show 56+j≤63 by omega,show 56+j < 64 by omega]
  ·rw[hEndQ,hpl];simp[-Qb7,Q3,hz,Qdi,Qdh,Qdj,Qjg,QbI,QDS]
   (generalize hLoopQ:Cx.loop _ _ _=rLoopQ; apply Qi hLoopQ (fun j=>⟨[(1,.loc 1 0),(2,.loc 2 0),(46,.d (.sl 4 (x.steps.map Qkh.enc))),(47,.d (DI x.steps.length)),(48,.d (DI j))],[(1,[.d (DI x.err),.d (.sl 4 (x.steps.map Qkh.enc)),.d (.sl 1 (x.rd.map QH.enc))]),(2,sqC (QFk x j))],[],[]⟩) x.steps.length (by first | (simp; done) | (simp; rfl) | (simp; simp[*])); rotate_left; (show _ < 281474976710656; omega); rfl; rotate_left; all_goals clear hLoopQ)
   ·intro j hj;have hjI:(j:Int) < x.steps.length:=by omega
    have w1:=Qa ((j:Int)+1) (by omega) (by omega)
    have hlo:=QeW (hsm _ (List.getElem_mem hj));have e:QFk x (j+1)=((QFk x j).put (j*8+(j+1)) x.steps[j].hi).put ((j+1)*8+j) (-x.steps[j].lo):=by
     show((QFk x j).put (j*8+(j+1)) (x.steps.getD j default).hi).put ((j+1)*8+j) (-(x.steps.getD j default).lo)=_;rw[Ql _ _ _ hj]
    rw[e];have w2:=Qa (-x.steps[j].lo) (by omega) (by omega)
    have hj8:(j:Int) < 8:=by omega
    have hj9:(j:Int)+1 < 8:=by omega
    have hj0:(0:Int)≤(j:Int)+1:=by omega
    have hjn:((j:Int)+1).toNat=j+1:=by omega
    simp[-Qb7,Q3,hz,Qdi,Qdh,Qdj,Qjg,QbI,QzQ,QCW,atS,wrS,Qtg,Qsk,hj,hjI,hj8,hj9,hj0,hjn,w1,w2,show j < 8 by omega,show j*8+(j+1)≤63 by omega,show j*8+(j+1) < 64 by omega,show(j+1)*8+j≤63 by omega,show(j+1)*8+j < 64 by omega]
   ·simp[-Qb7,Q3,hz,Qdi,Qdh,Qdj,Qjg,QbI]
    (generalize hLoopQ:Cx.loop _ _ _=rLoopQ; apply Qi hLoopQ (fun j=>⟨[(1,.loc 1 0),(2,.loc 2 0),(71,.d (DI j))],[(1,[.d (DI x.err),.d (.sl 4 (x.steps.map Qkh.enc)),.d (.sl 1 (x.rd.map QH.enc))]),(2,sqC (Qf9 x (j*64)))],[],[]⟩) 8 (by first | (simp; done) | (simp; rfl) | (simp; simp[*])); rotate_left; (show _ < 281474976710656; omega); rfl; rotate_left; all_goals clear hLoopQ)
    ·intro j hj;have hj8:(j:Int) < 8:=by omega
     have w1:=Qa ((j:Int)+1) (by omega) (by omega)
     simp[-Qb7,Q3,hz,Qdi,Qdh,Qdj,Qjg,QbI,hj,hj8]
     (generalize hLoopQ:Cx.loop _ _ _=rLoopQ; apply Qi hLoopQ (fun i=>⟨[(1,.loc 1 0),(2,.loc 2 0),(10,.d (DI j)),(71,.d (DI j)),(74,.d (DI i))],[(1,[.d (DI x.err),.d (.sl 4 (x.steps.map Qkh.enc)),.d (.sl 1 (x.rd.map QH.enc))]),(2,sqC (Qf9 x (j*64+i*8)))],[],[]⟩) 8 (by first | (simp; done) | (simp; rfl) | (simp; simp[*])); rotate_left; (show _ < 281474976710656; omega); rfl; rotate_left; all_goals clear hLoopQ)
     ·intro i hi;have hi8:(i:Int) < 8:=by omega
      have w2:=Qa ((i:Int)+1) (by omega) (by omega)
      by_cases hs:x.steps.length < i∧i < 7
      ·have e:=Qs9 (x:=x) (j:=j) hi hs 8 (by omega)
       rw[show j*64+(i+1)*8=j*64+i*8+8 by omega,e]
       simp[-Qb7,Q3,hz,Qdi,Qdh,Qdj,Qjg,QbI,hi,hi8,w2,Qtg,hs.1,hs.2,show(i:Int) < 7 by omega,show(x.steps.length:Int) < i by omega]
      ·by_cases h1:x.steps.length < i
       ·have h7:¬i < 7:=fun h=>hs ⟨h1,h⟩;simp[-Qb7,Q3,hz,Qdi,Qdh,Qdj,Qjg,QbI,hi,hi8,Qtg,h1,h7,show ¬(i:Int) < 7 by omega,show(x.steps.length:Int) < i by omega]
        (generalize hLoopQ:Cx.loop _ _ _=rLoopQ; apply Qi hLoopQ (fun k=>⟨[(1,.loc 1 0),(2,.loc 2 0),(10,.d (DI j)),(11,.d (DI i)),(71,.d (DI j)),(74,.d (DI i)),(87,.d (DI k))],[(1,[.d (DI x.err),.d (.sl 4 (x.steps.map Qkh.enc)),.d (.sl 1 (x.rd.map QH.enc))]),(2,sqC (Qf9 x (j*64+i*8+k)))],[],[]⟩) 8 (by first | (simp; done) | (simp; rfl) | (simp; simp[*])); rotate_left; (show _ < 281474976710656; omega); rfl; rotate_left; all_goals clear hLoopQ)
        ·intro k hk;have hk8:(k:Int) < 8:=by omega
         have w3:=Qa ((k:Int)+1) (by omega) (by omega)
         have hsq:=hsum (j*64+i*8+k) (by omega)
         generalize hQ:Qf9 x (j*64+i*8+k)=Q at*;obtain⟨e,eS⟩:=Qsc hj hi hk hs hQ;rw[eS]at hsq;rw[e];have w4:=Qa (Q.nth (i*8+j)+Q.nth (j*8+k)) (by omega) (by omega)
         have QDi:=Qy6 Q (p:=i*8+k) (by omega) (Q.nth (i*8+j)+Q.nth (j*8+k))
         simp[-Qb7,Q3,hz,Qdi,Qdh,Qdj,Qjg,QbI,QzQ,QCW,atS,hi,hi8,hj,hj8,hk,hk8,w3,w4,QEp,QDi,QLA,ownS,renS,QMM,QBB,show i*8+k≤63 by omega,show i*8+k < 64 by omega,show i*8+j≤63 by omega,show i*8+j < 64 by omega,show j*8+k≤63 by omega,show j*8+k < 64 by omega]
        ·simp[-Qb7,Q3,hz,Qdi,Qdh,Qdj,Qjg,QbI,w2];rw[show j*64+(i+1)*8=j*64+i*8+8 by omega]
       ·have h1I:¬(x.steps.length:Int) < i:=by omega
        simp[-Qb7,Q3,hz,Qdi,Qdh,Qdj,Qjg,QbI,hi,hi8,Qtg,h1,h1I]
        (generalize hLoopQ:Cx.loop _ _ _=rLoopQ; apply Qi hLoopQ (fun k=>⟨[(1,.loc 1 0),(2,.loc 2 0),(10,.d (DI j)),(11,.d (DI i)),(71,.d (DI j)),(74,.d (DI i)),(87,.d (DI k))],[(1,[.d (DI x.err),.d (.sl 4 (x.steps.map Qkh.enc)),.d (.sl 1 (x.rd.map QH.enc))]),(2,sqC (Qf9 x (j*64+i*8+k)))],[],[]⟩) 8 (by first | (simp; done) | (simp; rfl) | (simp; simp[*])); rotate_left; (show _ < 281474976710656; omega); rfl; rotate_left; all_goals clear hLoopQ)
        ·intro k hk;have hk8:(k:Int) < 8:=by omega
         have w3:=Qa ((k:Int)+1) (by omega) (by omega)
         have hsq:=hsum (j*64+i*8+k) (by omega)
         generalize hQ:Qf9 x (j*64+i*8+k)=Q at*;obtain⟨e,eS⟩:=Qsc hj hi hk hs hQ;rw[eS]at hsq;rw[e];have w4:=Qa (Q.nth (i*8+j)+Q.nth (j*8+k)) (by omega) (by omega)
         have QDi:=Qy6 Q (p:=i*8+k) (by omega) (Q.nth (i*8+j)+Q.nth (j*8+k))
         simp[-Qb7,Q3,hz,Qdi,Qdh,Qdj,Qjg,QbI,QzQ,QCW,atS,hi,hi8,hj,hj8,hk,hk8,w3,w4,QEp,QDi,QLA,ownS,renS,QMM,QBB,show i*8+k≤63 by omega,show i*8+k < 64 by omega,show i*8+j≤63 by omega,show i*8+j < 64 by omega,show j*8+k≤63 by omega,show j*8+k < 64 by omega]
        ·simp[-Qb7,Q3,hz,Qdi,Qdh,Qdj,Qjg,QbI,w2];rw[show j*64+(i+1)*8=j*64+i*8+8 by omega]
     ·simp[-Qb7,Q3,hz,Qdi,Qdh,Qdj,Qjg,QbI,hj,hj8,w1];rw[show(j+1)*64=j*64+64 by omega]
    ·simp[-Qb7,Q3,hz,Qdi,Qdh,Qdj,Qjg,QbI];unfold QON;generalize Qf9 x 512=Q;rcases Qbf (fun k=>decide (0≤Q.nth (k*8+k))) 8 with hall | ⟨k,hk,hbad,hgood⟩
     ·have e:(List.range 8).all (fun k=>decide (0≤Q.nth (k*8+k)))=true:=List.all_eq_true.2 fun i hi=>hall i (List.mem_range.1 hi);rw[e]
      (generalize hLoopQ:Cx.loop _ _ _=rLoopQ; apply Qi hLoopQ (fun k=>⟨[(2,.loc 2 0),(110,.d (DI k))],[(2,sqC Q)],[],[]⟩) 8 (by first | (simp; done) | (simp; rfl) | (simp; simp[*])); rotate_left; (show _ < 281474976710656; omega); rfl; rotate_left; all_goals clear hLoopQ)
      ·intro k hk;have hk8:(k:Int) < 8:=by omega
       have w1:=Qa ((k:Int)+1) (by omega) (by omega)
       have hg:¬Q.nth (k*8+k) < 0:=by have:=hall k hk; simpa using this
       simp[-Qb7,Q3,hz,Qdi,Qdh,Qdj,Qjg,QbI,QzQ,QCW,atS,hk,hk8,w1,hg,show k*8+k≤63 by omega,show k*8+k < 64 by omega]
      ·simp[-Qb7,Q3,hz,Qdi,Qdh,Qdj,Qjg,QbI,QBB,QJ1,QzQ,cSq,Qmr,QJV,QLV]
     ·have e:(List.range 8).all (fun k=>decide (0≤Q.nth (k*8+k)))=false:=by
       rw[List.all_eq_false]; exact⟨k,List.mem_range.2 hk,by rw[hbad]; simp⟩
      rw[e]
      (generalize hLoopQ:Cx.loop _ _ _=rLoopQ; apply Qi hLoopQ (fun k=>⟨[(2,.loc 2 0),(110,.d (DI k))],[(2,sqC Q)],[],[]⟩) k (by first | (simp; done) | (simp; rfl) | (simp; simp[*])); rotate_left; (show _ < 281474976710656; omega); rfl; rotate_left; all_goals clear hLoopQ)
      ·intro k1 hk1;have hk8:(k1:Int) < 8:=by omega
       have w1:=Qa ((k1:Int)+1) (by omega) (by omega)
       have hg:¬Q.nth (k1*8+k1) < 0:=by have:=hgood k1 hk1; simpa using this
       simp[-Qb7,Q3,hz,Qdi,Qdh,Qdj,Qjg,QbI,QzQ,QCW,atS,hk1,hk8,w1,hg,show k1 < 8 by omega,show k1*8+k1≤63 by omega,show k1*8+k1 < 64 by omega]
      ·have hk8:(k:Int) < 8:=by omega
       have hb:Q.nth (k*8+k) < 0:=by simpa using hbad
       simp[-Qb7,Q3,hz,Qdi,Qdh,Qdj,Qjg,QbI,QzQ,QCW,atS,hk,hk8,hb,QBB,QJ1,cSq,Qmr,QJV,QLV,show k*8+k≤63 by omega,show k*8+k < 64 by omega]
end Go.Proofs.YticoemblgkemiaaGreatDoor
namespace Go.Proofs.YticoemblgkemiaaGreatDoor
open Go.RowKit
def Qs2 {α:Type} (n:Nat) (f:Nat→α):α:=match n with
 | 0=>f 0
 | k+1=>f (Nat.succ k)
theorem Qoi {α:Type} (n:Nat) (f:Nat→α):Qs2 n f=f n:=by cases n<;>rfl
def QsH {α:Type} (z:Int) (f:Int→α):α:=match z with
 | .ofNat n=>Qs2 n fun n=>f (.ofNat n)
 | .negSucc n=>Qs2 n fun n=>f (.negSucc n)
theorem Qoo {α:Type} (z:Int) (f:Int→α):QsH z f=f z:=by
 cases z<;>simp only[QsH,Qoi]
def QoH {α:Type} :List Int→(List Int→α)→α
 | [],f=>f []
 | z::l,f=>QsH z fun z=>QoH l fun l=>f (z::l)
theorem Qk2 {α:Type} :∀(l:List Int) (f:List Int→α),QoH l f=f l
 | [],f=>rfl
 | z::l,f=>by simp only[QoH,Qoo,Qk2 l]
def QIl (st:Nat):Nat→Nat→List Int→Option (List Int)
 | 0,_,l=>some l
 | k+1,n,l=>Qs2 (n+1) fun n1=>QsH (l.getD (n / 8 % 8*8+n / 64) 0+l.getD (n / 64*8+n % 8) 0) fun s=>
  if -1000000000000000≤s∧s≤1000000000000000 then
   if st < n / 8 % 8∧n / 8 % 8 < 7 then QIl st k n1 l
   else QoH (l.set (n / 8 % 8*8+n % 8) (if s < l.getD (n / 8 % 8*8+n % 8) 0 then s else l.getD (n / 8 % 8*8+n % 8) 0)) fun l=>QIl st k n1 l
  else none
theorem Qwb (x:Ln):∀(k n:Nat) (l r:List Int),l=(Qf9 x n).1→QIl x.steps.length k n l=some r→(∀i,n≤i→i < n+k→ -1000000000000000≤QzL (Qf9 x i) i∧QzL (Qf9 x i) i≤1000000000000000)∧r=(Qf9 x (n+k)).1
 | 0,n,l,r,hl,h=>by
  cases h;exact⟨fun i h1 h2=>by omega,hl⟩
 | k+1,n,l,r,hl,h=>by
  unfold QIl at h;simp only[Qoi,Qoo,Qk2]at h;have es:l.getD (n / 8 % 8*8+n / 64) 0+l.getD (n / 64*8+n % 8) 0=QzL (Qf9 x n) n:=by subst hl; rfl
  rw[es]at h;split at h
  ·rename_i hb;have key:∃m,m=(Qf9 x (n+1)).1∧QIl x.steps.length k (n+1) m=some r:=by
    split at h
    ·rename_i hs;exact⟨l,by rw[hl,Qf9,if_pos hs],h⟩
    ·rename_i hs;refine⟨_,?_,h⟩;rw[Qf9,if_neg hs];subst hl; rfl
   obtain⟨m,hm,hr⟩:=key;obtain⟨h1,h2⟩:=Qwb x k (n+1) m r hm hr;refine⟨fun i hi1 hi2=>?_,by rw[h2,show n+1+k=n+(k+1) by omega]⟩
   by_cases hin:i=n
   ·rw[hin]; exact hb
   ·exact h1 i (by omega) (by omega)
  ·cases h
def QOI (x:Ln):Option (List Int):=QoH (QFk x x.steps.length).1 fun l=>QIl x.steps.length 512 0 l
def QOK (l:List Int):Bool:=(List.range 8).all fun k=>decide (0≤l.getD (k*8+k) 0)
theorem encS (Q:Sq):cSq.enc Q= .agg (Q.1.map DI):=by
 obtain⟨l,hl⟩:=Q;show D.agg ((List.range 64).map fun k=>DI (l.getD k 0))=_;refine congrArg D.agg (List.ext_getElem (by simp[hl]) fun k h1 h2=>?_)
 have hk:k < l.length:=by simpa using h2
 simp[Ql _ _ _ hk,hk]
def okLn (x:Ln):Bool:=lnB x&&decide (x.rd.length≤7∧x.steps.length+1=x.rd.length)&&x.steps.all fun s=>QkW s.lo
noncomputable def QMk:List D→Option D:=sp1 (Qcf rLn) QNy fun x=>if okLn x=true then(QOI x).map fun l=> .tup [.agg (l.map DI),DB (QOK l)]else none
theorem QGy:∀ds d,QMk ds=some d→PureC Tryz.prog 106 ds d:=Qbr fun x r hr=>by
 split at hr
 ·rename_i hx;unfold okLn at hx;simp only[Bool.and_eq_true,decide_eq_true_eq,List.all_eq_true]at hx;obtain⟨⟨h1,h2,h3⟩,h4⟩:=hx;cases e:QOI x with
  | none=>rw[e]at hr; cases hr
  | some l=>
   rw[e]at hr;cases hr;unfold QOI at e;rw[Qk2]at e;obtain⟨h5,h6⟩:=Qwb x 512 0 _ l rfl e;have:=QLu h1 h2 h3 h4 fun n hn=>h5 n (Nat.zero_le _) (by omega)
   rw[encS,show Qf9 x 512=Qf9 x (0+512)from rfl,←h6]at this;show PureC _ _ [.agg (rLn.enc x)] (.tup [.agg (l.map DI),DB (QOK l)]);rw[show QOK l=QON (Qf9 x 512) by subst h6; rfl]
   exact this
 ·cases hr
theorem QAA (xs:Array Value) (w:World):(callFunc 106 xs).run Tryz.prog w= .ok (.enter 106 xs) w:=by kernel_rfl
end Go.Proofs.YticoemblgkemiaaGreatDoor
namespace Go.Proofs.YticoemblgkemiaaGreatDoor
open Go.RowKit
def QjJ (r:Nat):List (Nat×Option Nat):=match r with
 | 0=>kpn [1,2,4]
 | 1=>kpn [1,2,4,5]
 | 2=>kpn [1,2,4,5]
 | 3=>kpn [2,4,5]
 | 4=>kpn [2,4]
 | 5=>[(4,none)]
 | _=>[]
noncomputable def QIq:List D→Option D:=sp2 (Qcf rLn) QaY (Qcf rLn) fun x p=>match x.rd with
 | [a,b,c,d]=>if 0≤p∧p < 4 then some { x with rd:=[a,b,c,d].set p.toNat (-1)} else none
 | _=>none
theorem QIH:∀ds d,QIq ds=some d→PureC Tryz.prog 110 ds d:=Qay fun x p r hr=>by
 split at hr
 ·rename_i q1 q2 q3 q4 hrd;split at hr
  ·rename_i hp;cases hr;obtain⟨err,steps,rd⟩:=x;dsimp only at hrd;subst hrd;have hcx:=Qw Qs 20 QjJ [];have hp4:p=0∨p=1∨p=2∨p=3:=by omega
   refine QcR Tryz.func110 rfl rfl (Nat.le_of_ble_eq_true rfl) fun m w a I ha0=>?_;refine Qdm hcx 1 _ rfl (by kernel_rfl) (by kernel_rfl) (fun _ _=>rfl) _ _ _ _ I ?_
   simp[Qeh,QjJ,Qef,QG];intro g1 a1 w1 I1;show Code.wpIn _ _ _ (QiP 1 _) _ _ _;refine wpIn_seq ?_;refine Qyp hcx 3 rfl rfl (by kernel_rfl) rfl I1 I1.deferred rfl rfl ?_
   simp[QjJ,Qho];intro g2 a2 w2 I2 hd2 _ _;refine QGJ (.inl rfl) I2 (d:=13) (td:=10) (ts:=12) (b:=9) (n:=4) rfl rfl (by decide) Tryz.underlying34 (by kernel_rfl) rfl rfl rfl rfl (by decide) (by decide) ?_
   intro a3 w3 I3;simp[QCj]at I3;simp only[Exit.then];rcases hp4 with rfl | rfl | rfl | rfl
   ·refine Qdm hcx 0 _ rfl (by kernel_rfl) (by kernel_rfl) (fun _ _=>rfl) _ _ _ _ I3 ?_
    simp[Qeh,QjJ,QG];intro g4 a4 w4 I4;show Code.wpIn _ _ _ (QiP 0 _) _ _ _;obtain⟨g5,I5⟩:=QeC hcx (b:=9) (t:=5) (n:=4) (k:=1) (rows:=[[DI (-1)],[DI q2],[DI q3],[DI q4]]) (tail:=[]) rfl rfl (by simp) rfl (by decide) rfl I4 I4.deferred
    refine Qdk hcx (by kernel_rfl) (by kernel_rfl) I5 (fun _ _=>rfl) ?_
    simp[QiP,QjJ,QG];intro g6 a6 w6 I6;refine Qdq hcx I6 (r:=[(Qcf rLn).enc { err:=err,steps:=steps,rd:=[-1,q2,q3,q4]}]) ?_ rfl;rw[Tryz.results110];simp[Qef]
   ·refine Qdm hcx 0 _ rfl (by kernel_rfl) (by kernel_rfl) (fun _ _=>rfl) _ _ _ _ I3 ?_
    simp[Qeh,QjJ,QG];intro g4 a4 w4 I4;show Code.wpIn _ _ _ (QiP 0 _) _ _ _;obtain⟨g5,I5⟩:=QeC hcx (b:=9) (t:=5) (n:=4) (k:=1) (rows:=[[DI q1],[DI (-1)],[DI q3],[DI q4]]) (tail:=[]) rfl rfl (by simp) rfl (by decide) rfl I4 I4.deferred
    refine Qdk hcx (by kernel_rfl) (by kernel_rfl) I5 (fun _ _=>rfl) ?_
    simp[QiP,QjJ,QG];intro g6 a6 w6 I6;refine Qdq hcx I6 (r:=[(Qcf rLn).enc { err:=err,steps:=steps,rd:=[q1,-1,q3,q4]}]) ?_ rfl;rw[Tryz.results110];simp[Qef]
   ·refine Qdm hcx 0 _ rfl (by kernel_rfl) (by kernel_rfl) (fun _ _=>rfl) _ _ _ _ I3 ?_
    simp[Qeh,QjJ,QG];intro g4 a4 w4 I4;show Code.wpIn _ _ _ (QiP 0 _) _ _ _;obtain⟨g5,I5⟩:=QeC hcx (b:=9) (t:=5) (n:=4) (k:=1) (rows:=[[DI q1],[DI q2],[DI (-1)],[DI q4]]) (tail:=[]) rfl rfl (by simp) rfl (by decide) rfl I4 I4.deferred
    refine Qdk hcx (by kernel_rfl) (by kernel_rfl) I5 (fun _ _=>rfl) ?_
    simp[QiP,QjJ,QG];intro g6 a6 w6 I6;refine Qdq hcx I6 (r:=[(Qcf rLn).enc { err:=err,steps:=steps,rd:=[q1,q2,-1,q4]}]) ?_ rfl;rw[Tryz.results110];simp[Qef]
   ·refine Qdm hcx 0 _ rfl (by kernel_rfl) (by kernel_rfl) (fun _ _=>rfl) _ _ _ _ I3 ?_
    simp[Qeh,QjJ,QG];intro g4 a4 w4 I4;show Code.wpIn _ _ _ (QiP 0 _) _ _ _;obtain⟨g5,I5⟩:=QeC hcx (b:=9) (t:=5) (n:=4) (k:=1) (rows:=[[DI q1],[DI q2],[DI q3],[DI (-1)]]) (tail:=[]) rfl rfl (by simp) rfl (by decide) rfl I4 I4.deferred
    refine Qdk hcx (by kernel_rfl) (by kernel_rfl) I5 (fun _ _=>rfl) ?_
    simp[QiP,QjJ,QG];intro g6 a6 w6 I6;refine Qdq hcx I6 (r:=[(Qcf rLn).enc { err:=err,steps:=steps,rd:=[q1,q2,q3,-1]}]) ?_ rfl;rw[Tryz.results110];simp[Qef]
  ·cases hr
 ·cases hr
theorem QA9 (xs:Array Value) (w:World):(callFunc 110 xs).run Tryz.prog w= .ok (.enter 110 xs) w:=by kernel_rfl
end Go.Proofs.YticoemblgkemiaaGreatDoor
