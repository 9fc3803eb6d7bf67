/-
  The program of the wax chapter: Read. Conditions: none.
-/
import Derived.Test.YticoemblgkemiaaGreatDoorZWxRdB
set_option linter.unusedSimpArgs false
set_option linter.unusedVariables false
namespace Go.Proofs.YticoemblgkemiaaGreatDoor
open Go.RowKit Go.Lib
def QSo (r:Nat):List (Nat×Option Nat):=match r with
 | 0=>kpn [0,2,3]
 | 1=>kpn [0,2,3,12]
 | 2=>kpn [2,3]
 | 3=>kpn [0,2,3]
 | 4=>kpn [0,2,3,17,18,19]
 | 5=>kpn [0,2,3,17,18,19,20]
 | 6=>kpn [0,2,3,4,5,17,18,19]
 | 7=>kpn [0,2,3,4,6,17,18,19]
 | 8=>kpn [0,2,3,4,6,17,18,19,26]
 | 9=>kpn [0,2,3,6,17,18,19]
 | 10=>kpn [0,2,3,17,18,19]
 | 11=>kpn [0,2,3,4,6,17,18,19,38]
 | 12=>kpn [0,2,3,4,6,17,18,19]
 | 13=>kpn [0,2,3,4,6,7,17,18,19]
 | 14=>kpn [0,2,3,4,6,7,8,17,18,19]
 | 15=>kpn [0,2,3,4,6,7,8,17,18,19,51]
 | 16=>kpn [0,2,3,4,6,7,8,17,18,19]
 | 17=>kpn [0,2,3,4,6,7,8,9,17,18,19]
 | 18=>kpn [0,2,3,4,6,7,8,9,17,18,19,61]
 | 19=>kpn [0,2,3,4,6,7,8,17,18,19]
 | 20=>kpn [0,2,3,4,6,7,8,17,18,19]
 | 21=>kpn [0,2,3,7,17,18,19,86]
 | 22=>kpn [0,2,3,17,18,19]
 | 23=>kpn [0,2,3,17,18,19]
 | 24=>kpn [0,2,3]
 | 25=>kpn [2,3]
 | 26=>kpn [2,3]
 | _=>[]
theorem QUx {W:List ByteArray} (h:∀p∈W,p.size≤2000) (i:Nat):QAO (W.getD i ⟨#[]⟩):=by
 unfold QAO;by_cases hi:i < W.length
 ·rw[Ql _ _ _ hi];have:=h _ (List.getElem_mem hi); omega
 ·have e:W.getD i ⟨#[]⟩=⟨#[]⟩:=by simp[List.getD,List.getElem?_eq_none (show W.length≤i by omega)]
  rw[e];have:(⟨#[]⟩:ByteArray).size=0:=rfl;omega
theorem QSn {W:List ByteArray} (h:∀p∈W,p.size≤2000):∀{k:Nat} {l:List Prp},QQM W k=some l→∀p∈l,QAO p.name
 | 0,l,hl=>by cases hl; intro p hp; cases hp
 | k+1,l,hl=>by
  unfold QQM at hl;split at hl
  ·rename_i l' n h1 _;cases hl;intro p hp;rcases List.mem_append.1 hp with hp | hp
   ·exact QSn h h1 p hp
   ·rw[List.mem_singleton.1 hp]; exact QUx h _
  ·cases hl
theorem QZC (s:ByteArray) (hs:s.size≤2000) {n:Nat} (h:∀k,k≤n→runP (QQa s) k=some (QSq (QQa s) k)) (hn:n≤(QQa s).length):∀k,k≤n→((QSq (QQa s) k).props.length≤2000*k∧(QSq (QQa s) k).kinds.length≤k)∧QQh (QSq (QQa s) k)
 | 0,_=>⟨⟨Nat.zero_le _,Nat.zero_le _⟩,fun p hp=>(by cases hp),fun p hp=>(by cases hp)⟩
 | k+1,hk=>by
  obtain⟨⟨h1,h2⟩,h3,h4⟩:=QZC s hs h hn k (by omega)
  have hst:=QVG h (show k < n by omega)
  have hkL:k < (QQa s).length:=by omega
  have hwm:∀p∈QQF (QQa s) k,p.size≤2000:=fun p hp=>Nat.le_trans (QkP hkL p hp) hs;have hwl:=QkN hkL;generalize QQF (QQa s) k=W at*;generalize QSq (QQa s) k=t0 at*;generalize QSq (QQa s) (k+1)=t1 at*;have hhf:QPj W≤1000:=by unfold QPj; omega
  unfold Qkj at hst;split at hst
  ·split at hst
   ·obtain⟨v,hv,rfl⟩:=Option.map_eq_some_iff.1 hst;exact⟨⟨by simp only; omega,by simp only; omega⟩,h3,h4⟩
   ·cases hst
  ·split at hst
   ·cases hst
   ·split at hst
    ·obtain⟨ps,hps,rfl⟩:=Option.map_eq_some_iff.1 hst;have hl:=QRF hps;refine⟨⟨by simp only[List.length_append]; omega,by simp only; omega⟩,fun p hp=>?_,h4⟩
     rcases List.mem_append.1 hp with hp | hp
     ·exact h3 p hp
     ·exact QSn hwm hps p hp
    ·obtain⟨sp,hsp,rfl⟩:=Option.map_eq_some_iff.1 hst;refine⟨⟨by simp only; omega,by simp only[List.length_append,List.length_singleton]; omega⟩,h3,fun p hp=>?_⟩
     rcases List.mem_append.1 hp with hp | hp
     ·exact h4 p hp
     ·rw[List.mem_singleton.1 hp]; exact QUx hwm _
theorem Q2s:(⟨#[10]⟩:ByteArray).size=1:=rfl
theorem QUp:(⟨#[32]⟩:ByteArray).size=1:=rfl
def g34:List (Nat×(List D→Option D)):=(149,s16)::(151,s69)::(130,s72)::(153,Q0t)::(154,s74)::(155,QSR)::[]
theorem dg34:QaE Tryz.prog (Qaw g34):=Qh (Qh (Qh (Qh (Qh (Qh Qs QVl Q1e) QJj ok74) QX7 Q12) Q0W ok72) QDh ok69) QVn Q18
def Q2X:List (Nat×Nat×Nat):=[(2,0,2),(2,1,2),(7,1,2)]
attribute [local simp] Q2X
def Q2K (r:Nat):List (Nat×List Nat):=match r with
 | 20=>[(6,[8,9,10,12])]
 | _=>[]
abbrev Q2F:Cx:=QUV g34 [(154,p74),(155,p75)] 110 QSo Q2X (fun _=>[]) Q2K
theorem QS1:CxOk Tryz.prog Q2F:=QWd dg34 Q2I 110 QSo Q2X (fun _=>[]) Q2K
def s34:List D→Option D:=sp1 Qoe (Qgw (Qcf QRf) QaY) fun s=>some (QkC s)
set_option maxHeartbeats 8000000 in
theorem ok34:∀ds d,s34 ds=some d→PureC Tryz.prog 76 ds d:=Qbr fun s r hr=>by
 cases hr;refine QcR Tryz.func76 rfl rfl (Nat.le_of_ble_eq_true rfl) fun m w a I ha=>?_;refine Qdm QS1 1 _ rfl (by kernel_rfl) (by kernel_rfl) (fun _ _=>rfl) _ _ _ _ I ?_
 generalize hQ:(bodyPostD Tryz.prog Tryz.f76 (RetR m w ((Qgw (Qcf QRf) QaY).enc (QkC s))))=Q;by_cases h2:2000 < s.size
 ·have h2':(2000:Int) < s.size:=by omega
  simp[Qeh,QSo,h2',QG];intro g' a' w' I';show Q .ret a' w';subst hQ;have hR:QkC s=(noT,3):=by unfold QkC; rw[if_pos h2]
  rw[hR];refine Qo8 (Qgw (Qcf QRf) QaY) (noT,3) QS1 I' (rs:=[.agg (QRf.enc noT),DI 3]) ?_ ?_
  ·rw[Tryz.results76]; simp[QPZ,noT]
  ·simp[QPZ,QP8]
 ·have h2':¬(2000:Int) < s.size:=by omega
  simp[Qeh,QSo,h2',QG];intro g1 a1 w1 I1;show Code.wpIn _ _ _ (QiP 1 _) _ _ _;refine wpIn_seq ?_;have hd1:=I1.deferred;obtain⟨b2,o2,QR9⟩:=I1.tmps 2 (.loc 2 0) (by simp[Qt])
  obtain⟨b3,o3,QUb⟩:=I1.tmps 3 (.loc 3 0) (by simp[Qt])
  refine wpIn_region_list ?_;unfold wpListIn;rw[if_pos (by simp[Region.wanted])]
  refine Qck (.inl rfl) (v:= .func (.func 152) #[] #[.pointer (some ⟨b2,0,none⟩),.pointer (some ⟨b3,0,none⟩)]) (w':=w1) ?_ ?_
  ·simp[execOp,Act.eval,QR9,QUb];rfl
  unfold wpListIn;rw[if_pos (by simp[Region.wanted])]
  have I2:=I1.put (d:=some 14) (v:= .func (.func 152) #[] #[.pointer (some ⟨b2,0,none⟩),.pointer (some ⟨b3,0,none⟩)]) (fun x h=>by cases h; decide) (x:= .d .top) (by simp only[RelX,Rel])
  generalize hD:({ target:= .fn (.func 152) #[.pointer (some ⟨b2,0,none⟩),.pointer (some ⟨b3,0,none⟩)],args:= #[]} :Deferred)=D;refine QA3 (d:=D) ?_ ?_
  ·have:(a1.put (some 14) (.func (.func 152) #[] #[.pointer (some ⟨b2,0,none⟩),.pointer (some ⟨b3,0,none⟩)])).tmps.getD 14 undef= .func (.func 152) #[] #[.pointer (some ⟨b2,0,none⟩),.pointer (some ⟨b3,0,none⟩)]:=by
    rw[Qcm _ _ _ _ (by rw[I1.size]; decide),if_pos rfl]
   subst hD;simp[execOp,resolve,Deferred.ofValue,Act.eval,this]
  unfold wpListIn;simp only[Exit.then];have hb2:=(I1.boxb 2 b2 o2).1.resolve_right (QeT w [] b2);have hb3:=(I1.boxb 3 b3 o3).1.resolve_right (QeT w [] b3);have hob:∀i b,QDm b2 b3 i=some b→w.heap.size≤b:=by
   intro i b h;unfold QDm at h;split at h
   ·cases h; exact hb2
   ·split at h
    ·cases h; exact hb3
    ·cases h
  have I3:=I2.pushO (QDm b2 b3) (fun i b h=>by
   unfold QDm at h;split at h
   ·rename_i e; cases h; subst e; exact o2
   ·split at h
    ·rename_i e; cases h; subst e; exact o3
    ·cases h) [D] ({ (a1.put (some 14) (.func (.func 152) #[] #[.pointer (some ⟨b2,0,none⟩),.pointer (some ⟨b3,0,none⟩)]))with defers:=D::(a1.put (some 14) (.func (.func 152) #[] #[.pointer (some ⟨b2,0,none⟩),.pointer (some ⟨b3,0,none⟩)])).defers}) rfl (by show D::(a1.put _ _).defers=[D]; rw[Qa0,hd1])
  have caught:∀(σ':St) (x2 y2 z2 x3:X) (g':Gh) (a':Act) (w':World),Inv 110 m (QnT w (QDm b2 b3) [D]) g' σ' a' w'→Qt σ'.tmps 2=some (.loc 2 0)→Qt σ'.tmps 3=some (.loc 3 0)→Qt σ'.boxes 2=some [x2,y2,z2]→Qt σ'.boxes 3=some [x3]→QkC s=(noT,6)→Q (.panic [{ v:=Qlo,recovered:=false}]) a' w':=by
   intro σ' x2 y2 z2 x3 g' a' w' I' t2 t3 y2 y3 hR;have hd':a'.defers=[D]:=I'.noMark (c:=Q2F) (fun h=>h);subst hQ;rw[hR];show Leaves _ _ _ _ a'.defers _ _;rw[hd'];refine Qpw hD.symm QIR (Q0n I' hd' t2 t3 y2 y3) ?_;rintro w'' ⟨g'',I''⟩;exact QgM (Qgw (Qcf QRf) QaY) (noT,6) QS1 (I''.dropO hob) (rs:=[.agg [.sl 0 [],.sl 0 [],DI 0],DI 6]) (by rw[Tryz.results76]; simp) (by simp[Q0h])
  have back:∀(σ':St) (t:Tbl) (g':Gh) (a':Act) (w':World),Inv 110 m (QnT w (QDm b2 b3) [D]) g' σ' a' w'→Qgs QQp σ' Tryz.f76.results.toList=some [.agg (QRf.enc t),DI 0]→QkC s=(t,0)→Q .ret a' w':=by
   intro σ' t g' a' w' I' hres hR;have hd':a'.defers=[D]:=I'.noMark (c:=Q2F) (fun h=>h);subst hQ;rw[hR];show Leaves _ _ _ _ a'.defers _ _;rw[hd'];refine Qqj hD.symm QIR (Q1x _ _ _) ?_;refine QgM (Qgw (Qcf QRf) QaY) (t,0) QS1 (I'.dropO hob) (rs:=[.agg (QRf.enc t),DI 0]) hres (by simp[QPZ,QP8])
  refine Qdk QS1 (by kernel_rfl) (by kernel_rfl) I3 (QIS (by kernel_rfl)) ?_
  have hs1:s.size < 100000:=by omega
  have hs2:(QTW s ⟨#[10]⟩).size < 100000:=Nat.lt_of_le_of_lt (QSH _ _) hs1;simp[QSo,g34,Q0t,s72,hs1,hs2,Q2s];have hLL:QiO (QTW s ⟨#[10]⟩) ⟨#[10]⟩=QQa s:=rfl;rw[hLL];obtain⟨n,hn,hrun,hend⟩:=QUn (QQa s) (QQa s).length;have hwm:∀k,k < (QQa s).length→∀p∈QQF (QQa s) k,p.size≤2000:=fun k hk p hp=>Nat.le_trans (QkP hk p hp) (by omega)
  have hwl:∀k,k < (QQa s).length→1≤(QQF (QQa s) k).length∧(QQF (QQa s) k).length≤2001:=fun k hk=>by have:=QkN hk; omega
  have hlm:∀k (hk:k < (QQa s).length),(QQa s)[k].size < 100000:=fun k hk=>by have:=QS2 s _ (List.getElem_mem hk); omega
  have hll:=QWA s;have hrd:QkC s=match runP (QQa s) (QQa s).length with
   | some t=>if okT t∧(QQy t).toList=s.toList then(t,0)else(noT,6)
   | none=>(noT,6):=by unfold QkC; rw[if_neg h2]; rfl
  have htab:=QZC s (by omega) hrun hn
  have hsz:∀k,k≤n→(QSq (QQa s) k).props.length≤2000*k∧(QSq (QQa s) k).kinds.length≤k:=fun k hk=>(htab k hk).1;have hnames:∀k,k≤n→QQh (QSq (QQa s) k):=fun k hk=>(htab k hk).2;clear htab;have hW':∀k (hk:k < (QQa s).length),QiO (QQa s)[k] ⟨#[32]⟩=QQF (QQa s) k:=fun k hk=>by unfold QQF; rw[Ql _ _ _ hk]; rfl
  generalize QQa s=L at*;have hl0:QSq L 0=noT:=rfl;generalize hLoopQ:Cx.loop _ _ _=rLoopQ;apply QcQ hLoopQ (fun k=>⟨[(0,.d (DS s)),(2,.loc 2 0),(3,.loc 3 0),(17,.d (.sl 1 (L.map Qg0.enc))),(18,.d (DI L.length)),(19,.d (DI k))],[(2,[.sl 2 ((QSq L k).props.map QQt.enc) (.tok 100200),.sl 2 ((QSq L k).kinds.map QQw.enc) (.tok 100201),.d (DI (QSq L k).purity)]),(3,[.d (DI 0)])],[100201,100200],[]⟩) n (by simp only[hl0]; rfl)
  rotate_left
  ·show _ < 281474976710656; omega
  ·exact fun h=>h
  rotate_left
  all_goals clear hLoopQ
  ·intro j hj;have hjL:j < L.length:=by omega
   have hst:=QVG hrun hj;obtain⟨hp1,hk1⟩:=hsz j (by omega)
   have hW:=hW' j hjL;have hz:=hlm j hjL;obtain⟨wl1,wl2⟩:=hwl j hjL;have hwm:=hwm j hjL;generalize QQF L j=W at*;generalize QSq L j=t0 at*;generalize QSq L (j+1)=t1 at*;obtain⟨P0,K0,u0⟩:=t0;simp only at hp1 hk1;have hjI:(j:Int) < L.length:=by omega
   have w1:=Qa ((j:Int)+1) (by omega) (by omega)
   have g0:0 < W.length:=by omega
   have i0:(0:Int) < W.length:=by omega
   have hhf:QPj W≤1000:=by unfold QPj; omega
   unfold Qkj at hst;by_cases hj1:j=1
   ·subst hj1;rw[if_pos rfl]at hst;split at hst
    ·rename_i hw2;obtain⟨v,hv,rfl⟩:=Option.map_eq_some_iff.1 hst;have g1:1 < W.length:=by omega
     rw[Ql _ _ _ g1]at hv;have y1:W[1].size≤100000:=by have:=hwm _ (List.getElem_mem g1); omega
     have hjI':(1:Int) < L.length:=by omega
     have w2:IntKind.i64.wrap 2=2:=Qa 2 (by omega) (by omega)
     simp[QSo,g34,s72,s74,QSR,hjL,hjI',hz,hW,hw2,g1,hv,y1,Qa7,QUp,w2];done
    ·cases hst
   ·rw[if_neg hj1]at hst;have hj1I:((j:Int)==1)=false:=beq_eq_false_iff_ne.2 (by omega)
    split at hst
    ·cases hst
    rename_i hodd;have hodd2:((W.length:Int).tmod 2==0)=false:=by
     rw[Int.tmod_eq_emod_of_nonneg (by omega)]
     exact beq_eq_false_iff_ne.2 (by omega)
    by_cases hj0:j=0
    ·subst hj0;rw[if_pos rfl]at hst;obtain⟨ps,hps,rfl⟩:=Option.map_eq_some_iff.1 hst;obtain⟨n',hn',hpall,hcase⟩:=QRR W (QPj W);obtain rfl:n'=QPj W:=by
      rcases hcase with h | ⟨_,_,h⟩
      ·exact h
      ·rw[hps]at h; cases h
     have hpsK:ps=QSS W (QPj W):=by have:=hpall _ (Nat.le_refl _); rw[hps]at this; exact Option.some.inj this
     subst hpsK;have hjI':(0:Int) < L.length:=by omega
     simp[QSo,g34,s72,hjL,hjI',hz,hW,hodd2,g0,i0,Qa7,QUp]
     (generalize hLoopQ:Cx.loop _ _ _=rLoopQ; apply Qi hLoopQ (fun k=>⟨[(0,.d (DS s)),(2,.loc 2 0),(3,.loc 3 0),(4,.d (DI 0)),(6,.d (.sl 1 (W.map Qg0.enc))),(7,.loc 7 0),(8,.d (DI (2*(k:Int)+1))),(17,.d (.sl 1 (L.map Qg0.enc))),(18,.d (DI L.length)),(19,.d (DI 0))],[(2,[.sl 2 ((P0++QSS W k).map QQt.enc) (.tok 100200),.sl 2 (K0.map QQw.enc) (.tok 100201),.d (DI u0)]),(3,[.d (DI 0)]),(7,[.d (DS W[0]),.sl 2 (([]:List Spn).map QP7.enc) (.tok 100701)])],[100701,100201,100200],[]⟩) (QPj W) (by first | (simp; done) | (simp; rfl) | (simp; simp[*])); rotate_left; (show _ < 281474976710656; omega); rfl; rotate_left; all_goals clear hLoopQ)
     ·intro k hk;have hj2:2*k+2 < W.length:=by unfold QPj at hk; omega
      have g1:2*k+1 < W.length:=by omega
      have i1:2*(k:Int)+1 < W.length:=by omega
      have i2:2*(k:Int)+1+1 < W.length:=by omega
      have e1:(2*(k:Int)+1).toNat=2*k+1:=by omega
      have e2:(2*(k:Int)+1+1).toNat=2*k+2:=by omega
      have wa:=Qa (2*(k:Int)+1+1) (by omega) (by omega)
      have wb:=Qa (2*(k:Int)+1+2) (by omega) (by omega)
      have p0:0≤2*(k:Int)+1:=by omega
      have p1Wx:0≤2*(k:Int)+1+1:=by omega
      have e3:2*((k:Int)+1)+1=2*(k:Int)+1+2:=by omega
      obtain⟨v,hv,hnx⟩:=QTD hpall hk;rw[hnx];rw[Ql _ _ _ hj2]at hv;rw[Ql _ _ _ g1];have y2:W[2*k+2].size≤100000:=by have:=hwm _ (List.getElem_mem hj2); omega
      have QQ1:=QRF (hpall k (by omega))
      generalize QSS W k=PJ at*;have c1:P0.length+PJ.length+1≤140737488355328:=by omega
      have c2:(P0.length+PJ.length+1)*24≤140737488355328:=by omega
      simp[QSo,g34,QSR,Qa7,QP2,i1,i2,e1,e2,e3,p0,p1Wx,g1,hj2,wa,wb,c1,c2,hv,y2];done
     ·have hend:¬2*(QPj W:Int)+1 < W.length:=by unfold QPj; omega
      simp[QSo,hend];done
    ·rw[if_neg hj0]at hst;obtain⟨sp,hsp,rfl⟩:=Option.map_eq_some_iff.1 hst;obtain⟨n',hn',hpall,hcase⟩:=QRV W (QPj W);obtain rfl:n'=QPj W:=by
      rcases hcase with h | ⟨_,_,h⟩
      ·exact h
      ·rw[hsp]at h; cases h
     have hpsK:sp=QSs W (QPj W):=by have:=hpall _ (Nat.le_refl _); rw[hsp]at this; exact Option.some.inj this
     subst hpsK;have hj0I:((j:Int)==0)=false:=beq_eq_false_iff_ne.2 (by omega)
     have hj1P:(1:Int) < j:=by omega
     have hj1N:1 < j:=by omega
     simp[QSo,g34,s72,hjL,hjI,hz,hW,hj1I,hodd2,g0,i0,Qa7,QUp]
     (generalize hLoopQ:Cx.loop _ _ _=rLoopQ; apply Qi hLoopQ (fun k=>⟨[(0,.d (DS s)),(2,.loc 2 0),(3,.loc 3 0),(4,.d (DI j)),(6,.d (.sl 1 (W.map Qg0.enc))),(7,.loc 7 0),(8,.d (DI (2*(k:Int)+1))),(17,.d (.sl 1 (L.map Qg0.enc))),(18,.d (DI L.length)),(19,.d (DI j))],[(2,[.sl 2 (P0.map QQt.enc) (.tok 100200),.sl 2 (K0.map QQw.enc) (.tok 100201),.d (DI u0)]),(3,[.d (DI 0)]),(7,[.d (DS W[0]),.sl 2 ((QSs W k).map QP7.enc) (.tok 100701)])],[100701,100201,100200],[]⟩) (QPj W) (by first | (simp; done) | (simp; rfl) | (simp; simp[*])); rotate_left; (show _ < 281474976710656; omega); rfl; rotate_left; all_goals clear hLoopQ)
     ·intro k hk;have hj2:2*k+2 < W.length:=by unfold QPj at hk; omega
      have g1:2*k+1 < W.length:=by omega
      have i1:2*(k:Int)+1 < W.length:=by omega
      have i2:2*(k:Int)+1+1 < W.length:=by omega
      have e1:(2*(k:Int)+1).toNat=2*k+1:=by omega
      have e2:(2*(k:Int)+1+1).toNat=2*k+2:=by omega
      have wa:=Qa (2*(k:Int)+1+1) (by omega) (by omega)
      have wb:=Qa (2*(k:Int)+1+2) (by omega) (by omega)
      have p0:0≤2*(k:Int)+1:=by omega
      have p1Wx:0≤2*(k:Int)+1+1:=by omega
      have e3:2*((k:Int)+1)+1=2*(k:Int)+1+2:=by omega
      obtain⟨u,v,hv,hu,hnx⟩:=QTm hpall hk;rw[hnx];rw[Ql _ _ _ hj2]at hv;rw[Ql _ _ _ g1]at hu;have y1:W[2*k+1].size≤100000:=by have:=hwm _ (List.getElem_mem g1); omega
      have y2:W[2*k+2].size≤100000:=by have:=hwm _ (List.getElem_mem hj2); omega
      have QQ1:=QRG (hpall k (by omega))
      generalize QSs W k=SJ at*;have c1:SJ.length+1≤140737488355328:=by omega
      have c2:(SJ.length+1)*16≤140737488355328:=by omega
      simp[QSo,g34,QSR,Qa7,QP0,hj0I,hj0,i1,i2,e1,e2,e3,p0,p1Wx,g1,hj2,wa,wb,c1,c2,hv,hu,y1,y2];done
     ·have hend:¬2*(QPj W:Int)+1 < W.length:=by unfold QPj; omega
      have c1:K0.length+1≤140737488355328:=by omega
      have c2:(K0.length+1)*40≤140737488355328:=by omega
      simp[QSo,hend,hj1P,hj1N,w1,c1,c2,QP3];done
  ·have e74:p74 [DB false]=some Qlo:=rfl;have e75:∀z:ByteArray,z.size≤100000→QQs z=none→p75 [DS z]=some Qlo:=fun z h1 h2=>by simp only[p75]; rw[if_pos ⟨h1,h2⟩]
   rcases hend with rfl | ⟨hnL,hst,hnone⟩
   ·have ht:=hrun L.length (Nat.le_refl _);rw[ht]at hrd;simp only at hrd;have hnm:=hnames L.length (Nat.le_refl _);clear hsz hW' hrun hnames;generalize QSq L L.length=t0 at*;by_cases h1:okT t0
    ·have h1':(chk t0).2.2=0:=h1;by_cases h3:(QQy t0).toList=s.toList
     ·rw[if_pos ⟨h1,h3⟩]at hrd;simp[QSo,g34,s16,s69,s74,QPZ,QP8,hnm,h1,h1',h3,QG];intro g' a' w' I';exact back _ t0 g' a' w' I' (by rw[Tryz.results76]; simp[QPZ]) hrd
     ·have h3':((QQy t0).toList==s.toList)=false:=by simpa using h3
      rw[if_neg (fun q=>h3 q.2)]at hrd;simp[QSo,g34,s16,s69,s74,QPZ,QP8,hnm,h1,h1',h3,h3',e74,QG];intro g' a' w' I';exact caught _ _ _ _ _ g' a' w' I' (by simp[Qt]) (by simp[Qt]) rfl rfl hrd
    ·have h1':((chk t0).2.2==0)=false:=by
      have:¬(chk t0).2.2=0:=h1;simpa using this
     rw[if_neg (fun q=>h1 q.1)]at hrd;simp[QSo,g34,s16,s69,s74,QPZ,QP8,hnm,h1,h1',e74,QG];intro g' a' w' I';exact caught _ _ _ _ _ g' a' w' I' (by simp[Qt]) (by simp[Qt]) rfl rfl hrd
   ·have hread:QkC s=(noT,6):=by rw[hrd,hnone]
    obtain⟨hp1,hk1⟩:=hsz n (Nat.le_refl _);have hW:=hW' n hnL;have hz:=hlm n hnL;obtain⟨wl1,wl2⟩:=hwl n hnL;have hwm:=hwm n hnL;have hz0:n=0→QSq L n=noT:=fun e=>by subst e; exact hl0
    clear hrd hsz hW' hrun;generalize QQF L n=W at*;generalize QSq L n=t0 at*;obtain⟨P0,K0,u0⟩:=t0;simp only at hp1 hk1;have hnI:(n:Int) < L.length:=by omega
    have g0:0 < W.length:=by omega
    have i0:(0:Int) < W.length:=by omega
    have hhf:QPj W≤1000:=by unfold QPj; omega
    unfold Qkj at hst;by_cases hj1:n=1
    ·subst hj1;have hnI':(1:Int) < L.length:=by omega
     rw[if_pos rfl]at hst;split at hst
     ·rename_i hw2;have hv:=Option.map_eq_none_iff.1 hst;have g1:1 < W.length:=by omega
      rw[Ql _ _ _ g1]at hv;have y1:W[1].size≤100000:=by have:=hwm _ (List.getElem_mem g1); omega
      have hp:=e75 _ y1 hv;simp[QSo,g34,s72,s74,QSR,hnL,hnI',hz,hW,hw2,g1,hv,y1,hp,Qa7,QUp,QG];intro g' a' w' I';exact caught _ _ _ _ _ g' a' w' I' (by simp[Qt]) (by simp[Qt]) rfl rfl hread
     ·rename_i hw2;have hw3:((W.length:Int)==2)=false:=beq_eq_false_iff_ne.2 (by omega)
      simp[QSo,g34,s72,s74,hnL,hnI',hz,hW,hw3,e74,Qa7,QUp,QG];intro g' a' w' I';exact caught _ _ _ _ _ g' a' w' I' (by simp[Qt]) (by simp[Qt]) rfl rfl hread
    ·rw[if_neg hj1]at hst;have hj1I:((n:Int)==1)=false:=beq_eq_false_iff_ne.2 (by omega)
     split at hst
     ·rename_i hev;have hev2:((W.length:Int).tmod 2==0)=true:=by
       rw[Int.tmod_eq_emod_of_nonneg (by omega)]
       exact beq_iff_eq.2 (by omega)
      simp[QSo,g34,s72,s74,hnL,hnI,hz,hW,hj1,hj1I,hev2,e74,Qa7,QUp,QG];intro g' a' w' I';exact caught _ _ _ _ _ g' a' w' I' (by simp[Qt]) (by simp[Qt]) rfl rfl hread
     ·rename_i hodd;have hodd2:((W.length:Int).tmod 2==0)=false:=by
       rw[Int.tmod_eq_emod_of_nonneg (by omega)]
       exact beq_eq_false_iff_ne.2 (by omega)
      by_cases hj0:n=0
      ·subst hj0;rw[if_pos rfl]at hst;have hps:=Option.map_eq_none_iff.1 hst;obtain⟨q,hq,hpall,hcase⟩:=QRR W (QPj W);rcases hcase with h | ⟨hql,hqn,_⟩
       ·subst h; rw[hpall _ (Nat.le_refl _)]at hps; cases hps
       ·have hnI':(0:Int) < L.length:=by omega
        have hp0:P0=[]:=by have:=hz0 rfl; simpa[noT]using congrArg Tbl.props this
        subst hp0;simp[QSo,g34,s72,hnL,hnI',hz,hW,hodd2,g0,i0,Qa7,QUp]
        (generalize hLoopQ:Cx.loop _ _ _=rLoopQ; apply QcQ hLoopQ (fun k=>⟨[(0,.d (DS s)),(2,.loc 2 0),(3,.loc 3 0),(4,.d (DI 0)),(6,.d (.sl 1 (W.map Qg0.enc))),(7,.loc 7 0),(8,.d (DI (2*(k:Int)+1))),(17,.d (.sl 1 (L.map Qg0.enc))),(18,.d (DI L.length)),(19,.d (DI 0))],[(2,[.sl 2 (([]++QSS W k).map QQt.enc) (.tok 100200),.sl 2 (K0.map QQw.enc) (.tok 100201),.d (DI u0)]),(3,[.d (DI 0)]),(7,[.d (DS W[0]),.sl 2 (([]:List Spn).map QP7.enc) (.tok 100701)])],[100701,100201,100200],[]⟩) q rfl; rotate_left; (show _ < 281474976710656; omega); (exact fun h=>h); rotate_left; all_goals clear hLoopQ)
        ·intro k hk;have hj2:2*k+2 < W.length:=by have hh:=hql; unfold QPj at hh; omega
         have g1:2*k+1 < W.length:=by omega
         have i1:2*(k:Int)+1 < W.length:=by omega
         have i2:2*(k:Int)+1+1 < W.length:=by omega
         have e1:(2*(k:Int)+1).toNat=2*k+1:=by omega
         have e2:(2*(k:Int)+1+1).toNat=2*k+2:=by omega
         have wa:=Qa (2*(k:Int)+1+1) (by omega) (by omega)
         have wb:=Qa (2*(k:Int)+1+2) (by omega) (by omega)
         have p0:0≤2*(k:Int)+1:=by omega
         have p1Wx:0≤2*(k:Int)+1+1:=by omega
         have e3:2*((k:Int)+1)+1=2*(k:Int)+1+2:=by omega
         obtain⟨v,hv,hnx⟩:=QTD hpall hk;rw[hnx];rw[Ql _ _ _ hj2]at hv;rw[Ql _ _ _ g1];have y2:W[2*k+2].size≤100000:=by have:=hwm _ (List.getElem_mem hj2); omega
         have QQ1:=QRF (hpall k (by omega))
         generalize QSS W k=PJ at*;have c1:PJ.length+1≤140737488355328:=by omega
         have c2:(PJ.length+1)*24≤140737488355328:=by omega
         simp[QSo,g34,QSR,Qa7,QP2,i1,i2,e1,e2,e3,p0,p1Wx,g1,hj2,wa,wb,c1,c2,hv,y2]
        ·skip;have hj2:2*q+2 < W.length:=by have hh:=hql; unfold QPj at hh; omega
         have g1:2*q+1 < W.length:=by omega
         have i1:2*(q:Int)+1 < W.length:=by omega
         have i2:2*(q:Int)+1+1 < W.length:=by omega
         have e1:(2*(q:Int)+1).toNat=2*q+1:=by omega
         have e2:(2*(q:Int)+1+1).toNat=2*q+2:=by omega
         have wa:=Qa (2*(q:Int)+1+1) (by omega) (by omega)
         have wb:=Qa (2*(q:Int)+1+2) (by omega) (by omega)
         have p0:0≤2*(q:Int)+1:=by omega
         have p1Wx:0≤2*(q:Int)+1+1:=by omega
         have e3:2*((q:Int)+1)+1=2*(q:Int)+1+2:=by omega
         rw[Ql _ _ _ hj2]at hqn;have y2:W[2*q+2].size≤100000:=by have:=hwm _ (List.getElem_mem hj2); omega
         have hp:=e75 _ y2 hqn;simp[QSo,g34,QSR,Qa7,i1,i2,e1,e2,p0,p1Wx,g1,hj2,wa,hqn,y2,hp,QG];intro g' a' w' I';exact caught _ _ _ _ _ g' a' w' I' (by simp[Qt]) (by simp[Qt]) rfl rfl hread
      ·rw[if_neg hj0]at hst;have hps:=Option.map_eq_none_iff.1 hst;obtain⟨q,hq,hpall,hcase⟩:=QRV W (QPj W);have hj0I:((n:Int)==0)=false:=beq_eq_false_iff_ne.2 (by omega)
       rcases hcase with h | ⟨hql,hqn,_⟩
       ·subst h; rw[hpall _ (Nat.le_refl _)]at hps; cases hps
       ·simp[QSo,g34,s72,hnL,hnI,hz,hW,hj1I,hodd2,g0,i0,Qa7,QUp]
        (generalize hLoopQ:Cx.loop _ _ _=rLoopQ; apply QcQ hLoopQ (fun k=>⟨[(0,.d (DS s)),(2,.loc 2 0),(3,.loc 3 0),(4,.d (DI n)),(6,.d (.sl 1 (W.map Qg0.enc))),(7,.loc 7 0),(8,.d (DI (2*(k:Int)+1))),(17,.d (.sl 1 (L.map Qg0.enc))),(18,.d (DI L.length)),(19,.d (DI n))],[(2,[.sl 2 (P0.map QQt.enc) (.tok 100200),.sl 2 (K0.map QQw.enc) (.tok 100201),.d (DI u0)]),(3,[.d (DI 0)]),(7,[.d (DS W[0]),.sl 2 ((QSs W k).map QP7.enc) (.tok 100701)])],[100701,100201,100200],[]⟩) q rfl; rotate_left; (show _ < 281474976710656; omega); (exact fun h=>h); rotate_left; all_goals clear hLoopQ)
        ·intro k hk;have hj2:2*k+2 < W.length:=by have hh:=hql; unfold QPj at hh; omega
         have g1:2*k+1 < W.length:=by omega
         have i1:2*(k:Int)+1 < W.length:=by omega
         have i2:2*(k:Int)+1+1 < W.length:=by omega
         have e1:(2*(k:Int)+1).toNat=2*k+1:=by omega
         have e2:(2*(k:Int)+1+1).toNat=2*k+2:=by omega
         have wa:=Qa (2*(k:Int)+1+1) (by omega) (by omega)
         have wb:=Qa (2*(k:Int)+1+2) (by omega) (by omega)
         have p0:0≤2*(k:Int)+1:=by omega
         have p1Wx:0≤2*(k:Int)+1+1:=by omega
         have e3:2*((k:Int)+1)+1=2*(k:Int)+1+2:=by omega
         obtain⟨u,v,hv,hu,hnx⟩:=QTm hpall hk;rw[hnx];rw[Ql _ _ _ hj2]at hv;rw[Ql _ _ _ g1]at hu;have y1:W[2*k+1].size≤100000:=by have:=hwm _ (List.getElem_mem g1); omega
         have y2:W[2*k+2].size≤100000:=by have:=hwm _ (List.getElem_mem hj2); omega
         have QQ1:=QRG (hpall k (by omega))
         generalize QSs W k=SJ at*;have c1:SJ.length+1≤140737488355328:=by omega
         have c2:(SJ.length+1)*16≤140737488355328:=by omega
         simp[QSo,g34,QSR,Qa7,QP0,hj0I,hj0,i1,i2,e1,e2,e3,p0,p1Wx,g1,hj2,wa,wb,c1,c2,hv,hu,y1,y2]
        ·skip;have hj2:2*q+2 < W.length:=by have hh:=hql; unfold QPj at hh; omega
         have g1:2*q+1 < W.length:=by omega
         have i1:2*(q:Int)+1 < W.length:=by omega
         have i2:2*(q:Int)+1+1 < W.length:=by omega
         have e1:(2*(q:Int)+1).toNat=2*q+1:=by omega
         have e2:(2*(q:Int)+1+1).toNat=2*q+2:=by omega
         have wa:=Qa (2*(q:Int)+1+1) (by omega) (by omega)
         have wb:=Qa (2*(q:Int)+1+2) (by omega) (by omega)
         have p0:0≤2*(q:Int)+1:=by omega
         have p1Wx:0≤2*(q:Int)+1+1:=by omega
         have e3:2*((q:Int)+1)+1=2*(q:Int)+1+2:=by omega
         rw[Ql _ _ _ hj2,Ql _ _ _ g1]at hqn;have y1:W[2*q+1].size≤100000:=by have:=hwm _ (List.getElem_mem g1); omega
         have y2:W[2*q+2].size≤100000:=by have:=hwm _ (List.getElem_mem hj2); omega
         have QQ1:=QRG (hpall q (by omega))
         generalize QSs W q=SJ at*;have c1:SJ.length+1≤140737488355328:=by omega
         have c2:(SJ.length+1)*16≤140737488355328:=by omega
         rcases hqn with hqn | ⟨⟨v,hv⟩,hqn⟩
         ·have hp:=e75 _ y2 hqn;simp[QSo,g34,QSR,Qa7,i1,i2,e1,e2,p0,p1Wx,g1,hj2,wa,hqn,y2,hp,QG];intro g' a' w' I';exact caught _ _ _ _ _ g' a' w' I' (by simp[Qt]) (by simp[Qt]) rfl rfl hread
         ·have hp:=e75 _ y1 hqn;simp[QSo,g34,QSR,Q2K,Qa7,hj0I,hj0,i1,i2,e1,e2,p0,p1Wx,g1,hj2,wa,c1,c2,hv,hqn,y1,y2,hp,QG];intro g' a' w' I';exact caught _ _ _ _ _ g' a' w' I' (by simp[Qt]) (by simp[Qt]) rfl rfl hread
theorem QKB (xs:Array Value) (w:World):(callFunc 76 xs).run Tryz.prog w= .ok (.enter 76 xs) w:=by kernel_rfl
end Go.Proofs.YticoemblgkemiaaGreatDoor
