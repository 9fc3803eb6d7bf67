/-
  The program's Read: its walk. Conditions: none.
-/
import Derived.Test.YticoemblgkemiaaGreatDoorZRdB
import Derived.Test.YticoemblgkemiaaGreatDoorZPrF
set_option linter.unusedSimpArgs false
set_option linter.unusedVariables false
namespace Go.Proofs.YticoemblgkemiaaGreatDoor
open Go.RowKit Go.Lib Go.Maps
def Qk4 (r:Nat):List (Nat×Option Nat):=match r with
 | 0=>kpn [0,2,3]
 | 1=>kpn [0,2,3,14]
 | 2=>kpn [2,3]
 | 3=>kpn [0,2,3]
 | 4=>kpn [0,2,3,4]
 | 5=>kpn [0,2,3,4,18]
 | 6=>kpn [2,3,4,5,6,7]
 | 7=>kpn [2,3,4,6,7,8]
 | 8=>kpn [2,3,4,6,8]
 | 9=>kpn [2,3,4,6,8,9]
 | 10=>kpn [2,3,4,6,8,9]
 | 11=>kpn [2,3,4,6,8,9,56]
 | 12=>kpn [2,3,4,6,8,9]
 | 13=>kpn [2,3,4,6,8,9]
 | 14=>kpn [2,3,4,6,8,9,65]
 | 15=>kpn [2,3,4,6,8,9,10,11]
 | 16=>kpn [2,3,4,6,8,9,10]
 | 17=>kpn [2,3,4,6,8,9]
 | 18=>kpn [2,3,4,6,9]
 | 19=>kpn [0,2,3,4]
 | 20=>kpn [2,3]
 | 21=>kpn [2,3]
 | 22=>kpn [2,3]
 | _=>[]
theorem QLi {v:Value} (h:shK v=3):∃a,v= .string a:=by
 cases v with
 | agg cs=>simp only[shK]at h; omega
 | int q a=>cases q<;>simp[shK,sh1]at h
 | string a=>exact⟨a,rfl⟩
 | _=>simp[shK,sh1]at h
theorem QK8:KeyOk Tryz.prog 9 3 where
 law:=string_keyed Tryz.underlying9
 key:=λv h1 h2=>by
  obtain⟨a,rfl⟩:=QLi h1;exact⟨_,WideMaps.keyOf_string_mk Tryz.underlying9 h2⟩
theorem QO6:∀(K:TypeId) (sh:Nat),Qt [(9,3)] K=some sh->KeyOk Tryz.prog K sh:=λK sh h=>by
 simp only[Qt]at h;split at h
 .rename_i e; simp only[Zs]at h; subst h; subst e; exact QK8
 .cases h
def QHc (l:List (Nat×(List D->Option D))) (lp:List (Nat×(List D->Option Value))) (N:Nat) (kp:Nat->List (Nat×Option Nat)) (kb:List (Nat×Nat×Nat)) (df:Nat->List (Nat×Nat)) (pq:Nat->List (Nat×List Nat)) (ks:List (TypeId×Nat)):Cx:= { Γ:=tys,eqs:=QA7,Δ:=Qaw l,N:=N,F:=QbK,kp:=kp,kb:=kb,diff:=df,Δp:=Qlr lp,pan:=true,pq:=pq,keys:=ks}
attribute [simp] QHc
theorem QBd {l:List (Nat×(List D->Option D))} (h:QaE Tryz.prog (Qaw l)) {lp:List (Nat×(List D->Option Value))} (hp:Qql Tryz.prog (Qlr lp)) (N:Nat) (kp:Nat->List (Nat×Option Nat)) (kb:List (Nat×Nat×Nat)) (df:Nat->List (Nat×Nat)) (pq:Nat->List (Nat×List Nat)) {ks:List (TypeId×Nat)} (hk:∀K sh,Qt ks K=some sh->KeyOk Tryz.prog K sh):CxOk Tryz.prog (QHc l lp N kp kb df pq ks):=
 ⟨QoQ,Qo0,h,(λ_ _ _ _ _ _ _ h=>by cases h),by kernel_rfl,hk,hp,QmV⟩
noncomputable def g31:List (Nat×(List D->Option D)):=(123,s17)::(129,s79)::(130,s80)::(131,s81)::(132,s82)::[]
theorem dg31:QaE Tryz.prog (Qaw g31):=Qh (Qh (Qh (Qh (Qh Qs QDr ok82) Qvq ok81) QID ok80) QJ5 ok79) QxE QPm
def QNX:List (Nat×Nat×Nat):=[(2,0,5),(9,4,2)]
attribute [local simp] QNX
def QMG (r:Nat):List (Nat×List Nat):=match r with
 | 9=>[(6,[10,11,13]),(10,[11,13])]
 | 17=>[(6,[7,8,9,12,13,14])]
 | _=>[]
noncomputable abbrev QNW:Cx:=QHc g31 [(131,p81),(132,p82)] 109 Qk4 QNX (λ_=>[]) QMG [(9,3)]
theorem QjQ:CxOk Tryz.prog QNW:=QBd dg31 po2 109 Qk4 QNX (λ_=>[]) QMG QO6
theorem QAy {L:List Bat} {n:Nat} (h:∀x∈L,x.name.size<=3000/\x.takes.length<=3001):bkB L=true/\Qee L:=by
 refine⟨?_,λx hx=>?_⟩
 .unfold bkB;rw[Zl];intro x hx;have:=(h x hx).2;simp; omega
 .have:=(h x hx).1;unfold QAO; omega
theorem QsC {l:List ByteArray} (h:3<=l.length):∃a b c V,l=a::b::c::V:=by
 match l,h with
 | a::b::c::V,_=>exact⟨a,b,c,V,rfl⟩
theorem Qww {V:List ByteArray} {k:Nat} (h:2*k+1 < V.length):∃p z,V.drop (2*k)=p::z::V.drop (2*(k+1))/\V.getD (2*k) ⟨#[]⟩=p/\V.getD (2*k+1) ⟨#[]⟩=z:=by
 refine⟨V[2*k],V[2*k+1],?_,Ql _ _ _ _,Ql _ _ _ _⟩;rw[List.drop_eq_getElem_cons (by omega:2*k < V.length),List.drop_eq_getElem_cons (by omega:2*k+1 < V.length),show 2*k+1+1=2*(k+1) by omega]
noncomputable def s31:List D->Option D:=sp1 Qoe (Qgw (QJ QQ) QaY) λs=>some (QkC s)
set_option maxHeartbeats 8000000 in
theorem ok31:∀ds d,s31 ds=some d->PureC Tryz.prog 50 ds d:=Qbr λt r hr=>by
 cases hr;refine QcR Tryz.func50 rfl rfl (Zb rfl) λm w a I ha=>?_;refine Qdm QjQ 1 _ rfl (by kernel_rfl) (by kernel_rfl) (λ_ _=>rfl) _ _ _ _ I ?_
 generalize hQ:(bodyPostD Tryz.prog Tryz.f50 (RetR m w ((Qgw (QJ QQ) QaY).enc (QkC t))))=Q;by_cases h2:3000 < t.size
 .have h2':(3000:Int) < t.size:=by omega
  simp[Qeh,Qk4,h2',QG];intro g' a' w' I';show Q .ret a' w';subst hQ;have hR:QkC t=([],3):=by unfold QkC; rw[if_pos h2]
  rw[hR];refine Qo8 (Qgw (QJ QQ) QaY) ([],3) QjQ I' (rs:=[.sl 5 [],DI 3]) ?_ ?_
  .rw[Tryz.results50]; simp
  .simp
 .have h2':¬(3000:Int) < t.size:=by omega
  simp[Qeh,Qk4,h2',QG];intro g1 a1 w1 I1;show Code.wpIn _ _ _ (QiP 1 _) _ _ _;refine wpIn_seq ?_;have k9:=I1.deferred;obtain⟨b2,o2,p2⟩:=I1.tmps 2 (.loc 2 0) (by simp[Qt])
  obtain⟨b3,o3,p3⟩:=I1.tmps 3 (.loc 3 0) (by simp[Qt])
  refine wpIn_region_list ?_;unfold wpListIn;rw[if_pos (by simp[Region.wanted])]
  refine Qck (.inl rfl) (v:= .func (.func 128) #[] #[.pointer (some ⟨b2,0,none⟩),.pointer (some ⟨b3,0,none⟩)]) (w':=w1) ?_ ?_
  .simp[execOp,Act.eval,p2,p3];rfl
  unfold wpListIn;rw[if_pos (by simp[Region.wanted])]
  have I2:=I1.put (d:=some 15) (v:= .func (.func 128) #[] #[.pointer (some ⟨b2,0,none⟩),.pointer (some ⟨b3,0,none⟩)]) (λx h=>by cases h; decide) (x:= .d .top) (by simp only[RelX,Rel])
  generalize hD:({ target:= .fn (.func 128) #[.pointer (some ⟨b2,0,none⟩),.pointer (some ⟨b3,0,none⟩)],args:= #[]} :Deferred)=D;refine QA3 (d:=D) ?_ ?_
  .have:(a1.put (some 15) (.func (.func 128) #[] #[.pointer (some ⟨b2,0,none⟩),.pointer (some ⟨b3,0,none⟩)])).tmps.getD 15 undef= .func (.func 128) #[] #[.pointer (some ⟨b2,0,none⟩),.pointer (some ⟨b3,0,none⟩)]:=by
    rw[Qcm _ _ _ _ (by rw[I1.size]; decide),if_pos rfl]
   subst hD;simp[execOp,resolve,Deferred.ofValue,Act.eval,this]
  unfold wpListIn;simp only[Exit.then];have eV:=(I1.boxb 2 b2 o2).1.resolve_right (QeT w [] b2);have wB:=(I1.boxb 3 b3 o3).1.resolve_right (QeT w [] b3);have hob:∀i b,QDm b2 b3 i=some b->w.heap.size<=b:=by
   intro i b h;unfold QDm at h;split at h
   .cases h; exact eV
   .split at h
    .cases h; exact wB
    .cases h
  have I3:=I2.pushO (QDm b2 b3) (λi b h=>by
   unfold QDm at h;split at h
   .rename_i e; cases h; subst e; exact o2
   .split at h
    .rename_i e; cases h; subst e; exact o3
    .cases h) [D] ({ (a1.put (some 15) (.func (.func 128) #[] #[.pointer (some ⟨b2,0,none⟩),.pointer (some ⟨b3,0,none⟩)]))with defers:=D::(a1.put (some 15) (.func (.func 128) #[] #[.pointer (some ⟨b2,0,none⟩),.pointer (some ⟨b3,0,none⟩)])).defers}) rfl (by show D::(a1.put _ _).defers=[D]; rw[Qa0,k9])
  have cT:∀(σ':St) (x2 x3:X) (g':Gh) (a':Act) (w':World),Inv 109 m (QnT w (QDm b2 b3) [D]) g' σ' a' w'->Qt σ'.tmps 2=some (.loc 2 0)->Qt σ'.tmps 3=some (.loc 3 0)->Qt σ'.boxes 2=some [x2]->Qt σ'.boxes 3=some [x3]->QkC t=([],6)->Q (.panic [{ v:=Qlo,recovered:=false}]) a' w':=by
   intro σ' x2 x3 g' a' w' I' t2 t3 y2 y3 hR;have bY:a'.defers=[D]:=I'.noMark (c:=QNW) (λh=>h);subst hQ;rw[hR];show Leaves _ _ _ _ a'.defers _ _;rw[bY];refine Qpw hD.symm QCV (QHS I' bY t2 t3 y2 y3) ?_;rintro gP ⟨cX,I''⟩;exact QgM (Qgw (QJ QQ) QaY) ([],6) QjQ (I''.dropO hob) (rs:=[.sl 0 [],DI 6]) (by rw[Tryz.results50]; simp) (by simp)
  have back:∀(σ':St) (l:List Bat) (g':Gh) (a':Act) (w':World),Inv 109 m (QnT w (QDm b2 b3) [D]) g' σ' a' w'->Qgs tys σ' Tryz.f50.results.toList=some [.sl 5 (l.map QQ.enc),DI 0]->QkC t=(l,0)->Q .ret a' w':=by
   intro σ' l g' a' w' I' bP hR;have bY:a'.defers=[D]:=I'.noMark (c:=QNW) (λh=>h);subst hQ;rw[hR];show Leaves _ _ _ _ a'.defers _ _;rw[bY];refine Qqj hD.symm QCV (QKZ _ _ _) ?_;refine QgM (Qgw (QJ QQ) QaY) (l,0) QjQ (I'.dropO hob) (rs:=[.sl 5 (l.map QQ.enc),DI 0]) bP (by simp[Q9])
  refine Qdk QjQ (by kernel_rfl) (by kernel_rfl) I3 (QIS (by kernel_rfl)) ?_
  simp[Qk4];obtain⟨n,s,l,aH,cY,rC⟩:=Qjj t;have oL:=QfG t n s l aH;obtain⟨T,L,dd,hT0,hL0,hTn,sR,hTL⟩:=Qyg aH;have hLr:∀j,j<=n->runP t j=some (T j,L j):=by
   intro j
   induction j with
   | zero=>intro _; rw[hT0,hL0]; rfl
   | succ j ih=>
    intro hj;obtain⟨q1,q2,q3⟩:=hTL j (by omega)
    simp only[runP,ih (by omega),if_neg q1,q2,q3]
  have bJ:∀j,j<=n->(T j).size<=3000:=λj hj=>by have:=QfG t j _ _ (hLr j hj); omega
  have nH:∀j,j<=n->(L j).length=j:=λj hj=>Qsf t j _ _ (hLr j hj);have cJ:=QrO h2 aH rC;generalize aC:Cx.loop _ _ _=aE;apply QcQ aC (λk=>⟨[(0,.d (DS (T k))),(2,.loc 2 0),(3,.loc 3 0),(4,.mp 16)],[(2,[.sl 5 ((L k).map QQ.enc) (.tok 100200)]),(3,[.d (DI 0)])],[100200],[(16,(3,mapM (L k) k))]⟩) n (by simp only[hT0,hL0]; rfl)
  rotate_left
  .show _ < 281474976710656; omega
  .exact λh=>h
  rotate_left
  all_goals clear aC
  .intro j hj;obtain⟨aS,bT,hLj⟩:=hTL j hj;obtain⟨hh,h3,wg,wf,ts,hg,hf,iD,pC,hd,hr⟩:=Qih bT;obtain⟨A,B,hc,hB,hW,hA1,hB1⟩:=QrX (T j);have hTs:=bJ j (by omega)
   have oB:(T j).size < 100000:=by omega
   have rD:=QkP (T j);have x8:=QkN (T j);have aI:=nH j (by omega)
   rw[hh]at hc;rw[hr,hB,hLj,hd];have iA:mapM (L j++[(⟨(Qaq (T j)).getD 0 ⟨#[]⟩,wg,wf,Qft (Qaq (T j)),ts⟩:Bat)]) (j+1)=(.string ((Qaq (T j)).getD 0 ⟨#[]⟩),.int .i64 j)::mapM (L j) j:=by
    have:=QyV (L j) ⟨(Qaq (T j)).getD 0 ⟨#[]⟩,wg,wf,Qft (Qaq (T j)),ts⟩;rw[aI]at this; exact this
   rw[iA];have cD:((T j).toList==[])=false:=by
    rw[ByteArray.toList_eq];cases hq:((T j).data.toList==([]:List UInt8))
    .rfl
    .exfalso
     have:(T j).data.toList=[]:=by simpa using hq
     apply aS;have h5:(T j).data.toList.length=0:=by rw[this]; rfl
     simpa using h5
   have oC:(⟨A.toArray⟩:ByteArray).size < 100000:=by rw[QkS]; omega
   have z1:(⟨#[32]⟩:ByteArray).size=1:=rfl;have qK:(L j).length+1<=140737488355328:=by omega
   have hL2:((L j).length+1)*64<=140737488355328:=by omega
   rw[aI]at qK hL2;generalize hWW:Qaq (T j)=ws at*;obtain⟨w0,v1,v2,V,rfl⟩:=QsC h3;have y1:v1.size<=100000:=by have:=rD v1 (by simp); omega
   have y0:w0.size<=maxLen:=by have:=rD w0 (by simp); unfold maxLen; omega
   have y2:v2.size<=100000:=by have:=rD v2 (by simp); omega
   have yV:∀z∈V,z.size<=100000:=λz hz=>by have:=rD z (by simp[hz]); omega
   have hVl:V.length<=3000:=by simp only[List.length_cons]at x8; omega
   have rE:(3:Int)<=(V.length:Int)+1+1+1:=by omega
   have h3N:3<=V.length+1+1+1:=by omega
   have q0:(0:Int) < (V.length:Int)+1+1+1:=by omega
   have q1:(1:Int) < (V.length:Int)+1+1+1:=by omega
   have q2:(2:Int) < (V.length:Int)+1+1+1:=by omega
   have eA:Qgc v1=some wg:=hg;have gJ:Qgc v2=some wf:=hf;have hes:∀w,QcG (mapM (L j) j) (.string w)=(QkA (L j) w (L j).length).map λ(i:Nat)=>Value.int .i64 (i:Int):=λw=>by rw[aI]; exact QmS (L j) w j
   generalize mapM (L j) j=es at*;rw[show(w0::v1::v2::V).getD 0 ⟨#[]⟩=w0 from rfl];cases fE:Qft (w0::v1::v2::V)
   .have dG:Qfe (w0::v1::v2::V)=V:=by unfold Qfe; rw[fE]; rfl
    rw[dG]at pC iD;have mX:=hTs;obtain⟨n',gC,eZ,fY⟩:=Qkn (L j) V (V.length / 2);obtain rfl:n'=V.length / 2:=by
     rcases fY with h | ⟨_,_,h⟩
     .exact h
     .rw[pC]at h; cases h
    have htsK:ts=QtL (L j) V (V.length / 2):=by have:=eZ _ (Zr _); rw[pC]at this; exact Option.some.inj this
    subst htsK;have tG:(((V.length:Nat):Int).tmod 2==0)=true:=by
     rw[Int.tmod_eq_emod_of_nonneg (by omega)]
     exact beq_iff_eq.2 (by omega)
    have pV:((V.length:Int)==1)=true->∀(h:0 < V.length),(V[0].toList==[108,111,115,116])=false:=λh1 h0=>by
     have h1':V.length=1:=by have:=beq_iff_eq.1 h1; omega
     unfold Qft at fE;simp only[List.length_cons,h1',Bool.and_eq_false_iff]at fE;rcases fE with h | h
     .cases h
     .obtain⟨z,rfl⟩:=List.length_eq_one_iff.1 h1';have h':(z.toList==Qjz.toList)=false:=h;simpa[Qjz]using h'
    have hodd:((V.length:Int)==1)=false:=beq_eq_false_iff_ne.2 (by omega)
    have e3:((V.length:Int)+1+1+1).toNat - 3=V.length:=by omega
    have e4:List.take V.length (List.map Qg0.enc V)=List.map Qg0.enc V:=List.take_of_length_le (by simp)
    simp[Qk4,g31,s79,s80,s81,s82,cD,oB,hc,hW,oC,z1,rE,q0,q1,q2,e3,e4,eA,gJ,y1,y2,Qgx,Qa7,Qe,hodd,tG]
    (generalize aC:Cx.loop _ _ _=aE; apply Qi aC (λk=>⟨[(2,.loc 2 0),(3,.loc 3 0),(4,.mp 16),(6,.d (DS ⟨B.toArray⟩)),(8,.d (.sl 1 ((V.drop (2*k)).map Qg0.enc))),(9,.loc 9 0)],[(2,[.sl 5 ((L j).map QQ.enc) (.tok 100200)]),(3,[.d (DI 0)]),(9,[.d (DS w0),.d (DI wg),.d (DI wf),.d (DB false),.sl 2 ((QtL (L j) V k).map Qce.enc) (.tok 100904)])],[100904,100200],[(16,(3,es))]⟩) (V.length / 2) (by first | (simp; done) | (simp; rfl) | (simp; simp[*])); rotate_left; (show _ < 281474976710656; omega); rfl; rotate_left; all_goals clear aC)
    .intro k hk;obtain⟨ii,q,tH,hq,kH⟩:=Qs6 eZ hk;obtain⟨p,z,hp,e1,e2⟩:=Qww (V:=V) (k:=k) (by omega)
     rw[kH,hp];rw[e1]at tH;rw[e2]at hq;have fC:=hes p;rw[tH]at fC;have y3:z.size<=100000:=yV z (by rw[<-e2,Ql _ _ _ (show 2*k+1 < V.length by omega)]; exact Ze _)
     have y4:p.size<=maxLen:=by
      have:=yV p (by rw[<-e1,Ql _ _ _ (show 2*k < V.length by omega)]; exact Ze _)
      unfold maxLen; omega
     have l1:=Qhu (eZ k (by omega))
     generalize QtL (L j) V k=TJ at*;have c1:TJ.length+1<=140737488355328:=by omega
     have c2:(TJ.length+1)*16<=140737488355328:=by omega
     generalize V.drop (2*(k+1))=V' at*;have p1:(0:Int) < (V'.length:Int)+1+1:=by omega
     have p2:(1:Int) < (V'.length:Int)+1+1:=by omega
     have p3:(2:Int)<=(V'.length:Int)+1+1:=by omega
     have p4:((V'.length:Int)+1+1).toNat - 2=V'.length:=by omega
     have p5:List.take V'.length (List.map Qg0.enc V')=List.map Qg0.enc V':=List.take_of_length_le (by simp)
     simp[Qk4,s81,Qa7,Qr,fC,hq,y3,y4,c1,c2,p1,p2,p3,p4,p5];done
    .have cY:V.drop (2*(V.length / 2))=[]:=List.drop_eq_nil_of_le (by omega)
     simp[Qk4,cY,qK,hL2,aI,y0];done
   .have hq:=fE;unfold Qft at hq;simp only[Za,beq_iff_eq,List.length_cons]at hq;obtain⟨q4,q5⟩:=hq;obtain⟨z,rfl⟩:=List.length_eq_one_iff.1 (show V.length=1 by omega)
    have q5':(z.toList==[108,111,115,116])=true:=by
     have:z.toList=Qjz.toList:=q5;simpa[Qjz]using this
    have dG:Qfe (w0::v1::v2::[z])=[]:=if_pos fE;rw[dG]at pC;have hts':ts=[]:=by cases pC; rfl
    subst hts';simp[Qk4,g31,s79,s80,s81,s82,cD,oB,hc,hW,oC,z1,eA,gJ,y1,y2,Qgx,Qa7,Qe,q5']
    (generalize aC:Cx.loop _ _ _=aE; apply Qi aC (λk=>⟨[(2,.loc 2 0),(3,.loc 3 0),(4,.mp 16),(6,.d (DS ⟨B.toArray⟩)),(8,.d (.sl 0 [])),(9,.loc 9 0)],[(2,[.sl 5 ((L j).map QQ.enc) (.tok 100200)]),(3,[.d (DI 0)]),(9,[.d (DS w0),.d (DI wg),.d (DI wf),.d (DB true),.sl 2 [] (.tok 100904)])],[100904,100200],[(16,(3,es))]⟩) 0 rfl; rotate_left; (show _ < 281474976710656; omega); rfl; rotate_left; all_goals clear aC)
    .intro k hk;exact absurd hk (Nat.not_lt_zero _)
    .simp[Qk4,qK,hL2,aI,y0];done
  .have tF:p81 [DB false]=some Qlo:=rfl;have e82:∀z:ByteArray,z.size<=100000->Qgc z=none->p82 [DS z]=some Qlo:=λz h1 h2=>by simp only[p82]; rw[if_pos ⟨h1,h2⟩]
   have n82:∀(z:ByteArray) v,Qgc z=some v->p82 [DS z]=none:=λz v h=>by simp only[p82]; rw[if_neg (by simp[h])]
   have hTs:=bJ n (Zr _);have aI:=nH n (Zr _);rcases cY with jT | ⟨aS,bT⟩
   .have cD:((T n).toList==[])=true:=by
     rw[ByteArray.toList_eq,hTn];have h5:s.data.toList.length=0:=by simpa using jT
     simp[List.length_eq_zero_iff.1 h5]
    have pE:=QAy (n:=n) (Ql7 t (by omega) n s l aH)
    rw[<-sR]at pE cJ;have lI:s17 [.sl 5 ((L n).map QQ.enc)]=some (.tup [DI (Qaf (L n)).1,DI (Qaf (L n)).2.1,DI (Qaf (L n)).2.2]):=by
     simp only[s17,sp1,Q9]; rw[if_pos pE]; rfl
    by_cases hk:(Qaf (L n)).2.2=0
    .rw[if_pos ⟨jT,hk⟩]at cJ;rw[hk]at lI;simp[Qk4,g31,s81,cD,lI,QG];intro g' a' w' I';exact back _ (L n) g' a' w' I' (by rw[Tryz.results50]; simp) cJ
    .rw[if_neg (λh=>hk h.2)]at cJ;have dR:((Qaf (L n)).2.2==0)=false:=beq_eq_false_iff_ne.2 hk;simp[Qk4,g31,s81,cD,lI,dR,tF,QG];intro g' a' w' I';exact cT _ _ _ g' a' w' I' (by simp[Qt]) (by simp[Qt]) rfl rfl cJ
   .rw[if_neg (λh=>aS h.1)]at cJ;rw[<-hTn]at bT aS;rw[<-sR]at bT;obtain⟨A,B,hc,hB,hW,hA1,hB1⟩:=QrX (T n);have oB:(T n).size < 100000:=by omega
    have rD:=QkP (T n);have x8:=QkN (T n);have cD:((T n).toList==[])=false:=by
     rw[ByteArray.toList_eq];cases hq:((T n).data.toList==([]:List UInt8))
     .rfl
     .exfalso
      have:(T n).data.toList=[]:=by simpa using hq
      apply aS;have h5:(T n).data.toList.length=0:=by rw[this]; rfl
      simpa using h5
    have oC:(⟨A.toArray⟩:ByteArray).size < 100000:=by rw[QkS]; omega
    have z1:(⟨#[32]⟩:ByteArray).size=1:=rfl;have hes:∀w,QcG (mapM (L n) n) (.string w)=(QkA (L n) w (L n).length).map λ(i:Nat)=>Value.int .i64 (i:Int):=λw=>by rw[aI]; exact QmS (L n) w n
    generalize mapM (L n) n=es at*;clear hTL hLr nH bJ aH rC sR hTn hT0 hL0;rcases QtI bT with hh | ⟨hh,h3⟩ | ⟨hh,h3,aM⟩
    .rw[hh]at hc;simp[Qk4,g31,s79,s80,s81,cD,oB,hc,hW,oC,z1,tF,QG];intro g' a' w' I';exact cT _ _ _ g' a' w' I' (by simp[Qt]) (by simp[Qt]) rfl rfl cJ
    .rw[hh]at hc;generalize Qaq (T n)=ws at*;have rE:¬(3:Int)<=ws.length:=by omega
     simp[Qk4,g31,s79,s80,s81,cD,oB,hc,hW,oC,z1,rE,tF,QG];intro g' a' w' I';exact cT _ _ _ g' a' w' I' (by simp[Qt]) (by simp[Qt]) rfl rfl cJ
    .rw[hh]at hc;generalize Qaq (T n)=ws at*;obtain⟨w0,v1,v2,V,rfl⟩:=QsC h3;have y1:v1.size<=100000:=by have:=rD v1 (by simp); omega
     have y2:v2.size<=100000:=by have:=rD v2 (by simp); omega
     have yV:∀z∈V,z.size<=100000:=λz hz=>by have:=rD z (by simp[hz]); omega
     have hVl:V.length<=3000:=by simp only[List.length_cons]at x8; omega
     have rE:(3:Int)<=(V.length:Int)+1+1+1:=by omega
     have h3N:3<=V.length+1+1+1:=by omega
     have q0:(0:Int) < (V.length:Int)+1+1+1:=by omega
     have q1:(1:Int) < (V.length:Int)+1+1+1:=by omega
     have q2:(2:Int) < (V.length:Int)+1+1+1:=by omega
     have e3:((V.length:Int)+1+1+1).toNat - 3=V.length:=by omega
     have e4:List.take V.length (List.map Qg0.enc V)=List.map Qg0.enc V:=List.take_of_length_le (by simp)
     rcases aM with cN | ⟨⟨wg,hg⟩,eV⟩ | ⟨wg,wf,hg,hf,aM⟩
     .have cN:Qgc v1=none:=cN;have hp:=e82 _ y1 cN;simp[Qk4,g31,QMG,s79,s80,s81,s82,cD,oB,hc,hW,oC,z1,rE,q0,q1,q2,y1,Qgx,Qa7,cN,hp,QG];intro g' a' w' I';exact cT _ _ _ g' a' w' I' (by simp[Qt]) (by simp[Qt]) rfl rfl cJ
     .have hg:Qgc v1=some wg:=hg;have eV:Qgc v2=none:=eV;have hn:=n82 _ _ hg;have hp:=e82 _ y2 eV;simp[Qk4,g31,QMG,s79,s80,s81,s82,cD,oB,hc,hW,oC,z1,rE,q0,q1,q2,y1,y2,Qgx,Qa7,hg,eV,hn,hp,QG];intro g' a' w' I';exact cT _ _ _ g' a' w' I' (by simp[Qt]) (by simp[Qt]) rfl rfl cJ
     .have eA:Qgc v1=some wg:=hg;have gJ:Qgc v2=some wf:=hf;have fE:Qft (w0::v1::v2::V)=false:=by
       cases fE:Qft (w0::v1::v2::V)with
       | false=>rfl
       | true=>
        have dG:Qfe (w0::v1::v2::V)=[]:=if_pos fE;rw[dG]at aM;rcases aM with h | ⟨_,h⟩<;>cases h
      have dG:Qfe (w0::v1::v2::V)=V:=by unfold Qfe; rw[fE]; rfl
      rw[dG]at aM;rcases aM with hod | ⟨iD,rB⟩
      .have hod2:(((V.length:Nat):Int).tmod 2==0)=false:=by
        rw[Int.tmod_eq_emod_of_nonneg (by omega)]
        exact beq_eq_false_iff_ne.2 (by omega)
       by_cases h1:V.length=1
       .obtain⟨z,rfl⟩:=List.length_eq_one_iff.1 h1;have hz:(z.toList==[108,111,115,116])=false:=by
         unfold Qft at fE;simp only[List.length_cons,h1,Bool.and_eq_false_iff]at fE;rcases fE with h | h
         .cases h
         .have h':(z.toList==Qjz.toList)=false:=h;simpa[Qjz]using h'
        simp[Qk4,g31,s79,s80,s81,s82,cD,oB,hc,hW,oC,z1,y1,y2,Qgx,Qa7,eA,gJ,hz,tF,QG];intro g' a' w' I';exact cT _ _ _ g' a' w' I' (by simp[Qt]) (by simp[Qt]) rfl rfl cJ
       .have xZ:((V.length:Int)==1)=false:=beq_eq_false_iff_ne.2 (by omega)
        simp[Qk4,g31,s79,s80,s81,s82,cD,oB,hc,hW,oC,z1,rE,q0,q1,q2,e3,e4,y1,y2,Qgx,Qa7,eA,gJ,xZ,hod2,tF,QG];intro g' a' w' I';exact cT _ _ _ g' a' w' I' (by simp[Qt]) (by simp[Qt]) rfl rfl cJ
      .have xZ:((V.length:Int)==1)=false:=beq_eq_false_iff_ne.2 (by omega)
       have tG:(((V.length:Nat):Int).tmod 2==0)=true:=by
        rw[Int.tmod_eq_emod_of_nonneg (by omega)]
        exact beq_iff_eq.2 (by omega)
       obtain⟨q,hq,eZ,fY⟩:=Qkn (L n) V (V.length / 2);rcases fY with h | ⟨gZ,hqn,_⟩
       .subst h; rw[eZ _ (Zr _)]at rB; cases rB
       simp[Qk4,g31,s79,s80,s81,s82,cD,oB,hc,hW,oC,z1,rE,q0,q1,q2,e3,e4,eA,gJ,y1,y2,Qgx,Qa7,xZ,tG]
       (generalize aC:Cx.loop _ _ _=aE; apply QcQ aC (λk=>⟨[(2,.loc 2 0),(3,.loc 3 0),(4,.mp 16),(6,.d (DS ⟨B.toArray⟩)),(8,.d (.sl 1 ((V.drop (2*k)).map Qg0.enc))),(9,.loc 9 0)],[(2,[.sl 5 ((L n).map QQ.enc) (.tok 100200)]),(3,[.d (DI 0)]),(9,[.d (DS w0),.d (DI wg),.d (DI wf),.d (DB false),.sl 2 ((QtL (L n) V k).map Qce.enc) (.tok 100904)])],[100904,100200],[(16,(3,es))]⟩) q (by first | (simp; done) | (simp; rfl) | (simp[*]; done) | (simp; simp[*])); rotate_left; (show _ < 281474976710656; omega); (exact λh=>h); rotate_left; all_goals clear aC)
       .intro k hk;obtain⟨ii,q,tH,hq,kH⟩:=Qs6 eZ hk;obtain⟨p,z,hp,e1,e2⟩:=Qww (V:=V) (k:=k) (by omega)
        rw[kH,hp];rw[e1]at tH;rw[e2]at hq;have fC:=hes p;rw[tH]at fC;have y3:z.size<=100000:=yV z (by rw[<-e2,Ql _ _ _ (show 2*k+1 < V.length by omega)]; exact Ze _)
        have y4:p.size<=maxLen:=by
         have:=yV p (by rw[<-e1,Ql _ _ _ (show 2*k < V.length by omega)]; exact Ze _)
         unfold maxLen; omega
        have l1:=Qhu (eZ k (by omega))
        generalize QtL (L n) V k=TJ at*;have c1:TJ.length+1<=140737488355328:=by omega
        have c2:(TJ.length+1)*16<=140737488355328:=by omega
        generalize V.drop (2*(k+1))=V' at*;have p1:(0:Int) < (V'.length:Int)+1+1:=by omega
        have p2:(1:Int) < (V'.length:Int)+1+1:=by omega
        have p3:(2:Int)<=(V'.length:Int)+1+1:=by omega
        have p4:((V'.length:Int)+1+1).toNat - 2=V'.length:=by omega
        have p5:List.take V'.length (List.map Qg0.enc V')=List.map Qg0.enc V':=List.take_of_length_le (by simp)
        simp[Qk4,s81,Qa7,Qr,fC,hq,y3,y4,c1,c2,p1,p2,p3,p4,p5]
       .obtain⟨p,z,hp,e1,e2⟩:=Qww (V:=V) (k:=q) (by omega)
        rw[e1,e2]at hqn;rw[hp];have fC:=hes p;have y3:z.size<=100000:=yV z (by rw[<-e2,Ql _ _ _ (show 2*q+1 < V.length by omega)]; exact Ze _)
        have y4:p.size<=maxLen:=by
         have:=yV p (by rw[<-e1,Ql _ _ _ (show 2*q < V.length by omega)]; exact Ze _)
         unfold maxLen; omega
        have l1:=Qhu (eZ q (by omega))
        generalize QtL (L n) V q=TJ at*;have c1:TJ.length+1<=140737488355328:=by omega
        have c2:(TJ.length+1)*16<=140737488355328:=by omega
        generalize V.drop (2*(q+1))=V' at*;have p1:(0:Int) < (V'.length:Int)+1+1:=by omega
        have p2:(1:Int) < (V'.length:Int)+1+1:=by omega
        have p3:(2:Int)<=(V'.length:Int)+1+1:=by omega
        have p4:((V'.length:Int)+1+1).toNat - 2=V'.length:=by omega
        have p5:List.take V'.length (List.map Qg0.enc V')=List.map Qg0.enc V':=List.take_of_length_le (by simp)
        rcases hqn with bC | ⟨⟨ii,tH⟩,bC⟩
        .rw[bC]at fC;simp[Qk4,s81,Qa7,fC,y4,p1,tF,QG];intro g' a' w' I';exact cT _ _ _ g' a' w' I' (by simp[Qt]) (by simp[Qt]) rfl rfl cJ
        .rw[tH]at fC;have hpz:=e82 _ y3 bC;simp[Qk4,QMG,s81,Qa7,fC,bC,hpz,y3,y4,p1,p2,p3,p4,p5,QG];intro g' a' w' I';exact cT _ _ _ g' a' w' I' (by simp[Qt]) (by simp[Qt]) rfl rfl cJ
theorem QMb (xs:Array Value) (w:World):(callFunc 50 xs).run Tryz.prog w= .ok (.enter 50 xs) w:=by kernel_rfl
end Go.Proofs.YticoemblgkemiaaGreatDoor
