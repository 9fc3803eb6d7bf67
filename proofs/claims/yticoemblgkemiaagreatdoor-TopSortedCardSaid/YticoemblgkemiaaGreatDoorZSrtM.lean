/-
  TopSorted: samples of bags, and a sort. Conditions: none.
-/
import Derived.Test.YticoemblgkemiaaGreatDoorZSrtP
import Derived.Test.YticoemblgkemiaaGreatDoorZWxLawC
import Derived.Test.YticoemblgkemiaaGreatDoorZWxAwake
set_option linter.unusedSimpArgs false
set_option linter.unusedVariables false
namespace Go.Proofs.YticoemblgkemiaaGreatDoor
open Go.RowKit
def kj4 (r:Nat):List (Nat×Option Nat):=match r with
 | 0=>kpn [2,3]
 | 1=>kpn [2,3,7]
 | 2=>kpn [2,3,36]
 | 3=>[(4,none)]
 | 4=>[(2,none),(3,none),(8,some 3)]
 | 5=>[(2,none),(3,none),(8,some 3),(9,none),(10,none)]
 | 6=>[(2,none),(3,none),(8,some 3),(9,none),(10,none),(11,none)]
 | 7=>[(2,none),(3,none),(8,some 3),(9,none),(10,none),(11,none),(49,none)]
 | 8=>[(2,none),(3,none),(8,some 3),(9,none),(10,none),(11,none)]
 | 9=>[(2,none),(3,none),(8,some 3),(9,none),(10,none),(11,none),(12,none),(13,none),(14,none),(15,none)]
 | 10=>[(2,none),(3,none),(8,some 3),(9,none),(10,none),(11,none),(12,none),(13,none),(14,none),(17,none),(18,none)]
 | 11=>[(2,none),(3,none),(8,some 3),(9,none),(10,none),(11,none),(12,none),(13,none),(14,none),(17,none),(72,none)]
 | 12=>[(4,none)]
 | 13=>[(2,none),(3,none),(8,some 3),(9,none),(10,none),(11,none),(12,none),(13,none),(14,none),(17,none),(19,none)]
 | 14=>[(2,none),(3,none),(8,some 3),(9,none),(10,none),(11,none),(12,none),(13,none),(14,none),(17,none),(19,none),(20,none)]
 | 15=>[(2,none),(3,none),(8,some 3),(9,none),(10,none),(11,none),(12,none),(13,none),(14,none),(17,none),(19,none),(20,none),(77,none)]
 | 16=>[(2,none),(3,none),(8,some 3),(9,none),(10,none),(11,none),(12,none),(13,none),(14,none),(17,none),(19,none),(20,none)]
 | 17=>[(2,none),(3,none),(8,some 3),(9,none),(10,none),(11,none),(12,none),(13,none),(14,none),(17,none),(19,none),(20,none),(94,none)]
 | 18=>[(4,none)]
 | 19=>[(2,none),(3,none),(8,some 3),(9,none),(10,none),(11,none),(12,none),(13,none),(14,none),(17,none),(19,none),(20,none)]
 | 20=>[(2,none),(3,none),(8,some 3),(9,none),(10,none),(11,none),(12,none),(13,none),(14,none),(19,none),(21,none)]
 | 21=>[(2,none),(3,none),(8,some 3),(9,none),(10,none),(11,none),(12,none),(13,none),(14,none),(19,none),(21,none),(107,none)]
 | 22=>[(2,none),(3,none),(8,some 3),(9,none),(10,none),(11,none),(12,none),(13,none),(14,none),(19,none),(21,none)]
 | 23=>[(2,none),(3,none),(8,some 3),(9,none),(10,none),(11,none),(12,none),(13,none),(14,none),(19,none),(21,none)]
 | 24=>[(2,none),(3,none),(8,some 3),(9,none),(10,none),(11,none),(12,none),(13,none),(14,none),(19,none),(21,none)]
 | 25=>[(2,none),(3,none),(8,some 3),(9,none),(10,none),(11,none),(12,none),(13,none),(14,none),(21,none)]
 | 26=>[(2,none),(3,none),(8,some 3),(9,none),(10,none),(11,none),(12,none),(13,none),(14,none),(21,none),(141,none)]
 | 27=>[(2,none),(3,none),(8,some 3),(9,none),(10,none),(11,none),(12,none),(13,none),(14,none),(21,none)]
 | 28=>[(2,none),(3,none),(8,some 3),(9,none),(10,none),(11,none),(14,none),(21,none),(157,none)]
 | 29=>[(2,none),(3,none),(8,some 3),(9,none),(10,none),(11,none)]
 | 30=>kpn [3,7,9,10,22]
 | 31=>kpn [3,9,10,22,172]
 | 32=>[(4,none)]
 | 33=>[(4,none)]
 | _=>[]
structure Std where
 s:Srt
 melts:List Mlt
 grams:List Int
theorem QQR:QTF.k=6:=rfl
theorem QQm (x:Mlt):(QTF.enc x).length=6:=rfl
theorem QQz (x:Mlt):(QTF.enc x).take 6=QTF.enc x:=rfl
theorem QW6 (l:List Mlt):(QJ QTF).dec (.sl 6 (l.map QTF.enc))=some l:=Qbd QTF l 6 rfl
def Q0u:Row Std:=⟨4,fun x=>[DI x.s.kinds,DI x.s.fo,.sl 6 (x.melts.map QTF.enc),.sl 1 (x.grams.map (rK .u16).enc)],fun d=>match d with
 | [.v (.int .i64 a),.v (.int .i64 b),y,z]=>(match(QJ QTF).dec y,(QJ (rK .u16)).dec z with | some s,some r=>some ⟨⟨a,b⟩,s,r⟩ | _,_=>none)
 | _=>none,fun x=>by simp[DI,Qnf,QW6],fun d x h=>by
 split at h
 ·split at h
  ·rename_i h1 h2;cases h;exact QaX (DImp.refl _) (QaX (DImp.refl _) (QaX ((QJ QTF).ed _ _ h1) (QaX ((QJ (rK .u16)).ed _ _ h2) (LImp.refl _))))
  ·cases h
 ·cases h⟩
theorem QQn (x:Std):Q0u.enc x=[DI x.s.kinds,DI x.s.fo,.sl 6 (x.melts.map QTF.enc),.sl 1 (x.grams.map (rK .u16).enc)]:=rfl
theorem QLh (s:Srt) (k:Nat):sj7 [.agg [DI s.kinds,DI s.fo],.sl k []]=some (DI (QIh s)):=by
 simp only[sj7,sp2,QaQ,Qjv,Qb9]; rfl
theorem QEN {s:Srt} {l:List Bag} (hs:Qj3 s) (hl:Qe9 l):QMW [.agg [DI s.kinds,DI s.fo],.sl 3 (l.map QiJ.enc)]=some (.tup [DI (Qlx s l),DI 0]):=by
 simp only[QMW,sp2,QaQ,Qjv,QfK];rw[if_pos ⟨hs,hl⟩]; rfl
theorem QZ4 (x:Tbl):QWG [.agg [.sl 2 (x.props.map QQt.enc),.sl 2 (x.kinds.map QQw.enc),DI x.purity]]=some (.tup [DI (chk x).1,DI (chk x).2.1,DI (chk x).2.2]):=by
 simp only[QWG,sp1,QaQ,QP8]; rfl
theorem QZX {x:Tbl} (hT:okT x) {m:Mlt} (hm:QRx m):QYY [.agg [.sl 2 (x.props.map QQt.enc),.sl 2 (x.kinds.map QQw.enc),DI x.purity],.agg (QTF.enc m)]=some (.tup [DI (QQ6 x m),DI (QQ7 x m),DI (QQB x m),.sl 1 ((QRN x m x.props.length).map QH.enc)]):=by
 simp only[QYY,sp2,QaQ,QP8,QTF.de];rw[if_pos ⟨hT,hm⟩]; rfl
theorem Q0a {x:Tbl} (hn:QQh x) {l:List Int} {a b:List Int} {e:Int} (h:QUC x l=(a,b,e)):s28 [.agg [.sl 2 (x.props.map QQt.enc),.sl 2 (x.kinds.map QQw.enc),DI x.purity],.sl 1 (l.map QH.enc)]=some (.tup [.sl 1 (a.map QH.enc),.sl 1 (b.map QH.enc),DI e]):=by
 simp only[s28,sp2,QaQ,QP8,Qap];rw[if_pos hn,QZL,h]; rfl
theorem Q0g {k:Nat} (h:k≤40):s42 [DI k]=some (DI (QRJ k)):=by
 simp only[s42,sp1,Qak];rw[if_pos ⟨by omega,by omega⟩,Int.toNat_natCast]; rfl
noncomputable def QRt:List (Nat×(List D→Option D)):=[(18,QWG),(7,sj7),(19,s20),(8,sj8),(20,QYY),(21,s28),(22,s42),(13,QMW),(16,QNi)]
theorem Q10:QaE Tryz.prog (Qaw QRt):=Qh (Qh (Qh (Qh (Qh (Qh (Qh (Qh (Qh Qs QHH QOa) QGN QOy) Q0Q ok42) QZA ok28) QY1 Q1X) QLd okj8) Q1N ok20) QL9 okj7) QXR Q1c
theorem QXn {L:List Int} {n:Nat} (h:∀t,t < L.length→∃k:Nat,L.getD t 0=k∧k < 8):∀j,j≤L.length→0≤QWg L j∧QWg L j≤128*j
 | 0,_=>⟨Int.le_refl _,Int.le_refl _⟩
 | j+1,hj=>by
  have ih:=QXn (n:=n) h j (by omega)
  have e:QWg L (j+1)=QWg L j+QRJ (L.getD j 0).toNat:=rfl;obtain⟨k,hk,h8⟩:=h j (by omega)
  rw[e,hk,Int.toNat_natCast];have:∀k:Nat,k < 8→1≤QRJ k∧QRJ k≤128:=by decide
  have:=this k h8;omega
noncomputable def sj4:List D→Option D:=sp2 (Qcf QRf) (Qcf Q0u) QaW fun x y=>if QQh x∧(∀m∈y.melts,QRx m)∧QQZ y.grams then some true else none
def QWI (x:Tbl) (S:Int) (M:List Mlt) (G:List Int) (n:Nat):Int:=QK n fun i=>QZj x S (M.getD i default) (QRh G i)
set_option maxHeartbeats 8000000 in
theorem okj4:∀ds d,sj4 ds=some d→PureC Tryz.prog 4 ds d:=Qay fun x y r hr=>by
 split at hr
 ·rename_i hc;obtain⟨hnm,hM,hG⟩:=hc;cases hr;obtain⟨s,M,G⟩:=y;dsimp only at hM hG;refine Qf (QP1 Q10 190 kj4 []) Tryz.func4 rfl rfl (Nat.le_of_ble_eq_true rfl) (by kernel_rfl) ?_
  rw[Tryz.results4];have e18:=QZ4 x;have e7:=fun k=>QLh s k;have e8:sj8 []=some (DB true):=rfl;have e19:s20 []=some (DB true):=rfl;by_cases hv:(chk x).2.2=0
  ·by_cases hso:Qj3 s
   ·have h7:QIh s=0:=if_pos hso;rw[h7]at e7;rw[hv]at e18;have hT:okT x:=hv;have f:=QQv hT;have hk8:=f.k8;have hk1:=f.k1;have hbk:=hso;obtain⟨so1,so2,so3,so4⟩:=hbk;obtain⟨N,hN⟩:∃N:Nat,N=min M.length 10:=⟨_,rfl⟩;have hNM:N≤M.length:=by omega
    have hN10:N≤10:=by omega
    have hmo:∀i,i < N→QRx (M.getD i default):=fun i hi=>by
     rw[Ql _ _ _ (by omega:i < M.length)]
     exact hM _ (List.getElem_mem _)
    have hbags:∀n,n≤N→Qe9 (QRe x M G n):=fun n hn=>by
     refine⟨by rw[QR7]; omega,fun b hb=>?_⟩
     obtain⟨i,hi,rfl⟩:=List.mem_map.1 hb;rw[List.mem_range]at hi;have:=QTh hG i;exact QZ8 hT (hmo i (by omega)) this.1 this.2
    have hlaw:=QXE hT hM hG hNM hso;have e13:=QEN hso (hbags N (Nat.le_refl _));have b1:∀n,0≤QK n (QRh G)∧QK n (QRh G)≤65535*n:=by
     intro n
     induction n with
     | zero=>exact⟨Int.le_refl _,Int.le_refl _⟩
     | succ n ih=>
      have h2:=QTh hG n;rw[QK];unfold QRh;unfold QRh at ih;omega
    have hterm:∀i,i < N→(0≤QQB x (M.getD i default)*QRh G i∧QQB x (M.getD i default)*QRh G i≤65535000)∧(0≤(1000 - QQB x (M.getD i default))*QRh G i∧(1000 - QQB x (M.getD i default))*QRh G i≤65535000):=fun i hi=>by
     have hnb:=QVb x (hmo i hi);have hg:=QTh hG i;have hnt:0≤QRh G i∧QRh G i≤65535:=by unfold QRh; omega
     have p1:0≤QQB x (M.getD i default)*QRh G i:=Int.mul_nonneg (by omega) hnt.1
     have p2:0≤(1000 - QQB x (M.getD i default))*QRh G i:=Int.mul_nonneg (by omega) hnt.1
     have p3:QQB x (M.getD i default)*QRh G i+(1000 - QQB x (M.getD i default))*QRh G i=1000*QRh G i:=by rw[←Int.add_mul]; congr 1; omega
     omega
    have b2:∀n,n≤N→0≤QWI x s.kinds M G n∧QWI x s.kinds M G n≤200000000*n:=by
     intro n
     induction n with
     | zero=>intro _; exact⟨Int.le_refl _,Int.le_refl _⟩
     | succ n ih=>
      intro hn;have h1:=ih (by omega)
      have h2:=hterm n (by omega)
      have e:QWI x s.kinds M G (n+1)=QWI x s.kinds M G n+QZj x s.kinds (M.getD n default) (QRh G n):=rfl;rw[e];unfold QZj;split<;>split<;>omega
    have hs0:∀f:Nat→Int,QK 0 f=0:=fun _=>rfl;have hF0:QWI x s.kinds M G 0=0:=rfl;have hB0:QRe x M G 0=[]:=rfl;simp[kj4,QRt,QPZ,QQn,QP9,QP5,Qe2,QbN,Qar,Qa1,Qan,Qn,Qd,QQR,QQm,QQz,e18,e7]
    (generalize hLoopQ:Cx.loop _ _ _=rLoopQ; apply Qi hLoopQ (fun i=>⟨[(2,.loc 2 0),(3,.loc 3 0),(8,.sl 3 ((QRe x M G i).map QiJ.enc) (.tok 8)),(9,.d (DI (QWI x s.kinds M G i))),(10,.d (DI (QK i (QRh G)))),(11,.d (DI i))],[(2,[.d (.sl 2 (x.props.map QQt.enc)),.d (.sl 2 (x.kinds.map QQw.enc)),.d (DI x.purity)]),(3,[.d (DI s.kinds),.d (DI s.fo),.d (.sl 6 (M.map QTF.enc)),.d (.sl 1 (G.map (rK .u16).enc))])],[8],[]⟩) N (by first | (simp; done) | (simp; rfl) | (simp; simp[*])); rotate_left; (show _ < 281474976710656; omega); rfl; rotate_left; all_goals clear hLoopQ)
    ·intro i hi;have hiM:i < M.length:=by omega
     have hiI:(i:Int) < M.length:=by omega
     have hi10:(i:Int) < 10:=by omega
     have hi10n:i < 10:=by omega
     have w1:=Qa ((i:Int)+1) (by omega) (by omega)
     have hmi:=hmo i hi;have e20:=QZX hT hmi;obtain⟨must,hw,hma,hmb⟩:=QT4 hT hmi;have e21:=Q0a hnm hw;have hkin:=Q0p x (M.getD i default) hk8;have hA:=QVR f (M.getD i default);have hB:=QWp f (M.getD i default);have hnb:=QVb x hmi;have hgb:=QTh hG i;have ht:=hterm i hi;have c1:=b1 i;have c2:=b2 i (by omega)
     have q1:QK (i+1) (QRh G)=QK i (QRh G)+QRh G i:=rfl;have q2:QWI x s.kinds M G (i+1)=QWI x s.kinds M G i+QZj x s.kinds (M.getD i default) (QRh G i):=rfl;rw[q1,q2,QV3];have hLm:∀t,t < (QQu (QRj (QT3 x (QRN x (M.getD i default) x.props.length))) x.kinds.length).length→∃k:Nat,(QQu (QRj (QT3 x (QRN x (M.getD i default) x.props.length))) x.kinds.length).getD t 0=k∧k < x.kinds.length:=fun t ht=>by
      rw[Ql _ _ _ ht];obtain⟨k,h1,_,h3⟩:=QRB.1 (List.getElem_mem ht);exact⟨k,h3,h1⟩
     have hLl:=QRH (QRj (QT3 x (QRN x (M.getD i default) x.props.length))) x.kinds.length;have hbag:QVS x (M.getD i default) (gmN G i)=⟨gmN G i - gmN G i / 10,gmN G i,(QVS x (M.getD i default) 0).kinds⟩:=rfl;have hbl:=QR7 x M G i;generalize QRe x M G i=BG at*;rw[hbag,List.map_append];have hfo:QZj x s.kinds (M.getD i default) (QRh G i)=(if QzO s.kinds (QQ6 x (M.getD i default))=true then 0 else QQB x (M.getD i default)*QRh G i)+if QQ6 x (M.getD i default)≠QQ7 x (M.getD i default)∧QzO s.kinds (QQ7 x (M.getD i default))=false then(1000 - QQB x (M.getD i default))*QRh G i else 0:=rfl;rw[hfo,←Int.add_assoc];have hMi:M.getD i default=M[i]:=Ql _ _ _ hiM;clear hbag hfo;rw[hMi]at hmi e20 hw hma hmb e21 hkin hA hB hnb ht hLm hLl⊢;generalize QQu (QRj (QT3 x (QRN x M[i] x.props.length))) x.kinds.length=L at*;generalize(QVS x M[i] 0).kinds=kk at*;generalize QRN x M[i] x.props.length=rl at*;generalize QQ6 x M[i]=ma at*;generalize QQ7 x M[i]=mb at*;generalize QQB x M[i]=mn at*;generalize QWI x s.kinds M G i=F at*;generalize QK i (QRh G)=A at*;have e16a:=QEG (S:=s.kinds) (by omega) so2 (k:=ma) (by omega)
     have e16b:=QEG (S:=s.kinds) (by omega) so2 (k:=mb) (by omega)
     have hkb:=QXn (n:=0) (fun t ht=>by obtain⟨k,h1,h2⟩:=hLm t ht; exact⟨k,h1,by omega⟩)
     simp[kj4,QRt,QPZ,QQn,QP9,QP5,Qe2,QbN,Qar,Qa1,Qan,Qn,Qd,QQR,QQm,QQz,hi,hiM,hiI,hi10,hi10n,e20,e21];have hk0:QWg L 0=0:=rfl
     (generalize hLoopQ:Cx.loop _ _ _=rLoopQ; apply Qi hLoopQ (fun j=>⟨[(2,.loc 2 0),(3,.loc 3 0),(8,.sl 3 (BG.map QiJ.enc) (.tok 8)),(9,.d (DI F)),(10,.d (DI A)),(11,.d (DI i)),(12,.d (DI ma)),(13,.d (DI mb)),(14,.d (DI mn)),(17,.d (.sl 1 (L.map QH.enc))),(19,.loc 19 0),(20,.d (DI j))],[(2,[.d (.sl 2 (x.props.map QQt.enc)),.d (.sl 2 (x.kinds.map QQw.enc)),.d (DI x.purity)]),(3,[.d (DI s.kinds),.d (DI s.fo),.d (.sl 6 (M.map QTF.enc)),.d (.sl 1 (G.map (rK .u16).enc))]),(19,[.d (DI 0),.d (DI 0),.d (DI (QWg L j))])],[8],[]⟩) L.length (by first | (simp; done) | (simp; rfl) | (simp; simp[*])); rotate_left; (show _ < 281474976710656; omega); rfl; rotate_left; all_goals clear hLoopQ)
     ·intro j hj;have hjI:(j:Int) < L.length:=by omega
      have w2:=Qa ((j:Int)+1) (by omega) (by omega)
      obtain⟨k,hk,hkx⟩:=hLm j hj;have hkp:=hkb j (by omega)
      have e:QWg L (j+1)=QWg L j+QRJ (L.getD j 0).toNat:=rfl;rw[e,hk,Int.toNat_natCast];rw[Ql _ _ _ hj]at hk;have e22:=Q0g (k:=k) (by omega)
      have hbv:=QXd (k:=k) (by omega)
      have w3:=Qa (QWg L j+QRJ k) (by omega) (by omega)
      have hkn:¬(k:Int) < 0:=by omega
      have hkl:¬(x.kinds.length:Int)≤k:=by omega
      have hkl':¬x.kinds.length≤k:=by omega
      simp[kj4,QRt,QPZ,QQn,QP9,QP5,Qe2,QbN,Qar,Qa1,Qan,Qn,Qd,QQR,QQm,QQz,hj,hjI,hk,hkn,hkl,hkl',e22,w2,w3]
     ·rw[hkin];have hc1:BG.length+1≤140737488355328:=by omega
      have hc2:(BG.length+1)*24≤140737488355328:=by omega
      generalize hP1:(if QzO s.kinds ma=true then 0 else mn*QRh G i)=P1;generalize hP2:(if ma≠mb∧QzO s.kinds mb=false then(1000 - mn)*QRh G i else 0)=P2;have hnt:gmN G i - gmN G i / 20=QRh G i:=rfl;have wF:=Qa F (by omega) (by omega)
      have wA:=Qa A (by omega) (by omega)
      generalize QRh G i=nt at*;by_cases hG0:G=[]
      ·have hg0:gmN G i=0:=by subst hG0; rfl
       rw[hg0]at hnt⊢;obtain rfl:nt=0:=by omega
       simp at hP1 hP2;subst hP1;subst hP2;subst hG0;cases qa:QzO s.kinds ma<;>rw[qa]at e16a<;>cases qb:QzO s.kinds mb<;>rw[qb]at e16b<;>by_cases kab:ma=mb<;>first
        | (have kab1:((ma:Int) != (mb:Int))=false:=by(rw[kab]; simp)
           simp[kj4,QRt,QPZ,QQn,QP9,QP5,Qe2,QbN,Qar,Qa1,Qan,Qn,Qd,QQR,QQm,QQz,e16a,e16b,kab1,hc1,hc2,w1,wF,wA])
        | (have kab1:((ma:Int) != (mb:Int))=true:=bne_iff_ne.2 (by omega)
           simp[kj4,QRt,QPZ,QQn,QP9,QP5,Qe2,QbN,Qar,Qa1,Qan,Qn,Qd,QQR,QQm,QQz,e16a,e16b,kab1,hc1,hc2,w1,wF,wA])
      ·have hGl:0 < G.length:=List.length_pos_iff.2 hG0;have hGlI:0 < (G.length:Int):=by omega
       have hGnI:¬(G.length:Int)=0:=by omega
       have hq1:(i:Int).tmod G.length=((i % G.length:Nat):Int):=by
        rw[Int.tmod_eq_emod_of_nonneg (by omega)]; rfl
       have hq2:i % G.length < G.length:=Nat.mod_lt _ hGl;have hgm:G[i % G.length]=gmN G i:=by
        unfold gmN;rw[if_neg (by omega),Ql _ _ _ hq2]
       generalize i % G.length=q at hq1 hq2 hgm;have hqI:(q:Int) < G.length:=by omega
       generalize gmN G i=g at*;have w4:=Qa g (by omega) (by omega)
       have t10:g.tdiv 10=g / 10:=Int.tdiv_eq_ediv_of_nonneg (by omega)
       have t20:g.tdiv 20=g / 20:=Int.tdiv_eq_ediv_of_nonneg (by omega)
       have w5:=Qa (g / 10) (by omega) (by omega)
       have w6:=Qa (g - g / 10) (by omega) (by omega)
       have w7:=Qa (g / 20) (by omega) (by omega)
       have w8:=Qa nt (by omega) (by omega)
       have w9:=Qa (A+nt) (by omega) (by omega)
       have wa:=Qa (mn*nt) (by omega) (by omega)
       have wb:=Qa (1000 - mn) (by omega) (by omega)
       have wc:=Qa ((1000 - mn)*nt) (by omega) (by omega)
       have wd:=Qa (F+mn*nt) (by omega) (by omega)
       have we:=Qa (F+mn*nt+(1000 - mn)*nt) (by omega) (by omega)
       have wf:=Qa (F+(1000 - mn)*nt) (by omega) (by omega)
       cases qa:QzO s.kinds ma with
       | true=>
        rw[qa]at e16a hP1;rw[if_pos rfl]at hP1;by_cases kab:ma=mb
        ·have kab1:((ma:Int) != (mb:Int))=false:=by rw[kab]; simp
         rw[if_neg (fun h=>h.1 kab)]at hP2;subst hP1;subst hP2;simp[kj4,QRt,QPZ,QQn,QP9,QP5,Qe2,QbN,Qar,Qa1,Qan,Qn,Qd,QQR,QQm,QQz,hG0,hGl,hGlI,hGnI,hq1,hq2,hqI,hgm,hnt,w1,w4,t10,t20,w5,w6,w7,w8,w9,wa,wb,wc,wd,we,wf,hc1,hc2,e16a,kab1]
        ·have kab1:((ma:Int) != (mb:Int))=true:=bne_iff_ne.2 (by omega)
         cases qb:QzO s.kinds mb with
         | true=>
          rw[qb]at e16b hP2;rw[if_neg (fun h=>by cases h.2)]at hP2
          subst hP1;subst hP2;simp[kj4,QRt,QPZ,QQn,QP9,QP5,Qe2,QbN,Qar,Qa1,Qan,Qn,Qd,QQR,QQm,QQz,hG0,hGl,hGlI,hGnI,hq1,hq2,hqI,hgm,hnt,w1,w4,t10,t20,w5,w6,w7,w8,w9,wa,wb,wc,wd,we,wf,hc1,hc2,e16a,e16b,kab1]
         | false=>
          rw[qb]at e16b hP2;rw[if_pos ⟨kab,rfl⟩]at hP2;subst hP1;subst hP2;simp[kj4,QRt,QPZ,QQn,QP9,QP5,Qe2,QbN,Qar,Qa1,Qan,Qn,Qd,QQR,QQm,QQz,hG0,hGl,hGlI,hGnI,hq1,hq2,hqI,hgm,hnt,w1,w4,t10,t20,w5,w6,w7,w8,w9,wa,wb,wc,wd,we,wf,hc1,hc2,e16a,e16b,kab1]
       | false=>
        rw[qa]at e16a hP1;rw[if_neg (by simp)]at hP1
        by_cases kab:ma=mb
        ·have kab1:((ma:Int) != (mb:Int))=false:=by rw[kab]; simp
         rw[if_neg (fun h=>h.1 kab)]at hP2;subst hP1;subst hP2;simp[kj4,QRt,QPZ,QQn,QP9,QP5,Qe2,QbN,Qar,Qa1,Qan,Qn,Qd,QQR,QQm,QQz,hG0,hGl,hGlI,hGnI,hq1,hq2,hqI,hgm,hnt,w1,w4,t10,t20,w5,w6,w7,w8,w9,wa,wb,wc,wd,we,wf,hc1,hc2,e16a,kab1]
        ·have kab1:((ma:Int) != (mb:Int))=true:=bne_iff_ne.2 (by omega)
         cases qb:QzO s.kinds mb with
         | true=>
          rw[qb]at e16b hP2;rw[if_neg (fun h=>by cases h.2)]at hP2
          subst hP1;subst hP2;simp[kj4,QRt,QPZ,QQn,QP9,QP5,Qe2,QbN,Qar,Qa1,Qan,Qn,Qd,QQR,QQm,QQz,hG0,hGl,hGlI,hGnI,hq1,hq2,hqI,hgm,hnt,w1,w4,t10,t20,w5,w6,w7,w8,w9,wa,wb,wc,wd,we,wf,hc1,hc2,e16a,e16b,kab1]
         | false=>
          rw[qb]at e16b hP2;rw[if_pos ⟨kab,rfl⟩]at hP2;subst hP1;subst hP2;simp[kj4,QRt,QPZ,QQn,QP9,QP5,Qe2,QbN,Qar,Qa1,Qan,Qn,Qd,QQR,QQm,QQz,hG0,hGl,hGlI,hGnI,hq1,hq2,hqI,hgm,hnt,w1,w4,t10,t20,w5,w6,w7,w8,w9,wa,wb,wc,wd,we,wf,hc1,hc2,e16a,e16b,kab1]
    ·have hlaw':Qlx s (QRe x M G N)=1→QWI x s.kinds M G N≤s.fo*QK N (QRh G):=hlaw;have c1:=b1 N;have c2:=b2 N (Nat.le_refl _);generalize Qlx s (QRe x M G N)=v at*;generalize QWI x s.kinds M G N=F at*;generalize QK N (QRh G)=A at*;have hA:s.fo*A≤1000*655350:=Int.le_trans (Int.mul_le_mul_of_nonneg_right so4 c1.1) (by omega)
     have hA0:0≤s.fo*A:=Int.mul_nonneg so3 c1.1;have w4:=Qa (s.fo*A) (by omega) (by omega)
     by_cases hNl:(N:Int) < M.length
     ·have hN1:¬(N:Int) < 10:=by omega
      have hN1n:¬N < 10:=by omega
      have hNln:N < M.length:=by omega
      by_cases hv1:v=1
      ·have hl:=hlaw' hv1;subst hv1;simp[kj4,QRt,QPZ,QQn,QP9,QP5,Qe2,QbN,Qar,Qa1,Qan,Qn,Qd,QQR,QQm,QQz,hNl,hNln,hN1,hN1n,e13,w4,hl,e8,e19]
      ·have hv2:(v != 1)=true:=bne_iff_ne.2 hv1;simp[kj4,QRt,QPZ,QQn,QP9,QP5,Qe2,QbN,Qar,Qa1,Qan,Qn,Qd,QQR,QQm,QQz,hNl,hNln,hN1,hN1n,e13,hv2,e8,e19]
     ·have hNln:¬N < M.length:=by omega
      by_cases hv1:v=1
      ·have hl:=hlaw' hv1;subst hv1;simp[kj4,QRt,QPZ,QQn,QP9,QP5,Qe2,QbN,Qar,Qa1,Qan,Qn,Qd,QQR,QQm,QQz,hNl,hNln,e13,w4,hl,e8,e19]
      ·have hv2:(v != 1)=true:=bne_iff_ne.2 hv1;simp[kj4,QRt,QPZ,QQn,QP9,QP5,Qe2,QbN,Qar,Qa1,Qan,Qn,Qd,QQR,QQm,QQz,hNl,hNln,e13,hv2,e8,e19]
   ·have h7:QIh s=7:=if_neg hso;rw[h7]at e7;rw[hv]at e18;simp[kj4,QRt,QPZ,QQn,QP9,QP5,Qe2,QbN,Qar,Qa1,Qan,Qn,Qd,QQR,QQm,QQz,e18,e7,e8,e19]
  ·have hv':((chk x).2.2 != 0)=true:=bne_iff_ne.2 hv;simp[kj4,QRt,QPZ,QQn,QP9,QP5,Qe2,QbN,Qar,Qa1,Qan,Qn,Qd,QQR,QQm,QQz,e18,hv',e8,e19]
 ·cases hr
end Go.Proofs.YticoemblgkemiaaGreatDoor
