/-
  The program's Read: its walk. Conditions: none.
-/
import Derived.Test.YtnfeakhkfehkhaaGreatDoorZRdB
import Derived.Test.YtnfeakhkfehkhaaGreatDoorZPrF
set_option linter.unusedSimpArgs false
set_option linter.unusedVariables false
namespace Go.Proofs.YtnfeakhkfehkhaaGreatDoor
open Go.RowKit Go.Lib Go.Maps
def QjT (r:Nat):List (Nat×Option Nat):=match r with
 | 0=>kpn [0,2,3]
 | 1=>kpn [0,2,3,14]
 | 2=>kpn [2,3]
 | 3=>kpn [0,2,3]
 | 4=>kpn [0,2,3,4]
 | 5=>kpn [0,2,3,4,18]
 | 6=>kpn [2,3,4,5,6,7]
 | 7=>kpn [2,3,4,6,7,8]
 | 8=>kpn [2,3,4,6,8]
 | 9=>kpn [2,3,4,6,8,9]
 | 10=>kpn [2,3,4,6,8,9]
 | 11=>kpn [2,3,4,6,8,9,56]
 | 12=>kpn [2,3,4,6,8,9]
 | 13=>kpn [2,3,4,6,8,9]
 | 14=>kpn [2,3,4,6,8,9,65]
 | 15=>kpn [2,3,4,6,8,9,10,11]
 | 16=>kpn [2,3,4,6,8,9,10]
 | 17=>kpn [2,3,4,6,8,9]
 | 18=>kpn [2,3,4,6,9]
 | 19=>kpn [0,2,3,4]
 | 20=>kpn [2,3]
 | 21=>kpn [2,3]
 | 22=>kpn [2,3]
 | _=>[]
theorem QFi {v:Value} (h:shK v=3):∃a,v= .string a:=by
 cases v with
 | agg cs=>simp only[shK]at h; omega
 | int q a=>cases q<;>simp[shK,sh1]at h
 | string a=>exact⟨a,rfl⟩
 | _=>simp[shK,sh1]at h
theorem QFw:KeyOk Tryz.prog 9 3 where
 law:=string_keyed Tryz.underlying9
 key:=λv h1 h2=>by
  obtain⟨a,rfl⟩:=QFi h1;exact⟨_,WideMaps.keyOf_string_mk Tryz.underlying9 h2⟩
theorem QG8:∀(K:TypeId) (sh:Nat),Qv [(9,3)] K=some sh->KeyOk Tryz.prog K sh:=λK sh h=>by
 simp only[Qv]at h;split at h
 .rename_i e; simp only[Zs]at h; subst h; subst e; exact QFw
 .cases h
def QBL (l:List (Nat×(List D->Option D))) (lp:List (Nat×(List D->Option Value))) (N:Nat) (kp:Nat->List (Nat×Option Nat)) (kb:List (Nat×Nat×Nat)) (df:Nat->List (Nat×Nat)) (pq:Nat->List (Nat×List Nat)) (ks:List (TypeId×Nat)):Cx:= { Γ:=tys,eqs:=Qwu,Δ:=Qas l,N:=N,F:=Qbx,kp:=kp,kb:=kb,diff:=df,Δp:=Qkc lp,pan:=true,pq:=pq,keys:=ks}
attribute [simp] QBL
theorem Qyf {l:List (Nat×(List D->Option D))} (h:Qay Tryz.prog (Qas l)) {lp:List (Nat×(List D->Option Value))} (hp:QoG Tryz.prog (Qkc lp)) (N:Nat) (kp:Nat->List (Nat×Option Nat)) (kb:List (Nat×Nat×Nat)) (df:Nat->List (Nat×Nat)) (pq:Nat->List (Nat×List Nat)) {ks:List (TypeId×Nat)} (hk:∀K sh,Qv ks K=some sh->KeyOk Tryz.prog K sh):CxOk Tryz.prog (QBL l lp N kp kb df pq ks):=
 ⟨Qnr,Qnb,h,(λ_ _ _ _ _ _ _ h=>by cases h),by kernel_rfl,hk,hp,Qmh⟩
noncomputable def g31:List (Nat×(List D->Option D)):=(17,s17)::(79,s79)::(80,s80)::(81,s81)::(82,s82)::[]
theorem dg31:Qay Tryz.prog (Qas g31):=Ql (Ql (Ql (Ql (Ql QB QyG ok82) Qum ok81) QEw ok80) QDs ok79) Qrn QGi
def QHb:List (Nat×Nat×Nat):=[(2,0,5),(9,4,2)]
attribute [local simp] QHb
def QDG (r:Nat):List (Nat×List Nat):=match r with
 | 9=>[(6,[10,11,13]),(10,[11,13])]
 | 17=>[(6,[7,8,9,12,13,14])]
 | _=>[]
noncomputable abbrev QIa:Cx:=QBL g31 [(81,p81),(82,p82)] 109 QjT QHb (λ_=>[]) QDG [(9,3)]
theorem Qis:CxOk Tryz.prog QIa:=Qyf dg31 po2 109 QjT QHb (λ_=>[]) QDG QG8
theorem Qx5 {L:List Bat} {n:Nat} (h:∀x∈L,x.name.size<=3000/\x.takes.length<=3001):bkB L=true/\Qdx L:=by
 refine⟨?_,λx hx=>?_⟩
 .unfold bkB;rw[Zl];intro x hx;have:=(h x hx).2;simp; omega
 .have:=(h x hx).1;unfold Qxi; omega
theorem QqA {l:List ByteArray} (h:3<=l.length):∃a b c V,l=a::b::c::V:=by
 match l,h with
 | a::b::c::V,_=>exact⟨a,b,c,V,rfl⟩
theorem Quw {V:List ByteArray} {k:Nat} (h:2*k+1 < V.length):∃p z,V.drop (2*k)=p::z::V.drop (2*(k+1))/\V.getD (2*k) ⟨#[]⟩=p/\V.getD (2*k+1) ⟨#[]⟩=z:=by
 refine⟨V[2*k],V[2*k+1],?_,Qj _ _ _ _,Qj _ _ _ _⟩;rw[List.drop_eq_getElem_cons (by omega:2*k < V.length),List.drop_eq_getElem_cons (by omega:2*k+1 < V.length),show 2*k+1+1=2*(k+1) by omega]
noncomputable def s31:List D->Option D:=sp1 QmM (Qex (Qy QO) Qbh) λs=>some (Qir s)
set_option maxHeartbeats 8000000 in
theorem ok31:∀ds d,s31 ds=some d->PureC Tryz.prog 31 ds d:=Qb2 λt r hr=>by
 cases hr;refine QdD Tryz.func31 rfl rfl (Zb rfl) λm w a I ha=>?_;refine QgG Qis 1 _ rfl (by kernel_rfl) (by kernel_rfl) (λ_ _=>rfl) _ _ _ _ I ?_
 generalize hQ:(bodyPostD Tryz.prog Tryz.f31 (RetR m w ((Qex (Qy QO) Qbh).enc (Qir t))))=Q;by_cases h2:3000 < t.size
 .have h2':(3000:Int) < t.size:=by omega
  simp[QeQ,QjT,h2',QT];intro g' a' w' I';show Q .ret a' w';subst hQ;have hR:Qir t=([],3):=by unfold Qir; rw[if_pos h2]
  rw[hR];refine QmT (Qex (Qy QO) Qbh) ([],3) Qis I' (rs:=[.sl 5 [],DI 3]) ?_ ?_
  .rw[Tryz.results31]; simp
  .simp
 .have h2':¬(3000:Int) < t.size:=by omega
  simp[QeQ,QjT,h2',QT];intro g1 a1 w1 I1;show Code.wpIn _ _ _ (Qon 1 _) _ _ _;refine wpIn_seq ?_;have kX:=I1.deferred;obtain⟨b2,o2,p2⟩:=I1.tmps 2 (.loc 2 0) (by simp[Qv])
  obtain⟨b3,o3,p3⟩:=I1.tmps 3 (.loc 3 0) (by simp[Qv])
  refine wpIn_region_list ?_;unfold wpListIn;rw[if_pos (by simp[Region.wanted])]
  refine Qcl (.inl rfl) (v:= .func (.func 78) #[] #[.pointer (some ⟨b2,0,none⟩),.pointer (some ⟨b3,0,none⟩)]) (w':=w1) ?_ ?_
  .simp[execOp,Act.eval,p2,p3];rfl
  unfold wpListIn;rw[if_pos (by simp[Region.wanted])]
  have I2:=I1.put (d:=some 15) (v:= .func (.func 78) #[] #[.pointer (some ⟨b2,0,none⟩),.pointer (some ⟨b3,0,none⟩)]) (λx h=>by cases h; decide) (x:= .d .top) (by simp only[RelX,Rel])
  generalize hD:({ target:= .fn (.func 78) #[.pointer (some ⟨b2,0,none⟩),.pointer (some ⟨b3,0,none⟩)],args:= #[]} :Deferred)=D;refine QwT (d:=D) ?_ ?_
  .have:(a1.put (some 15) (.func (.func 78) #[] #[.pointer (some ⟨b2,0,none⟩),.pointer (some ⟨b3,0,none⟩)])).tmps.getD 15 undef= .func (.func 78) #[] #[.pointer (some ⟨b2,0,none⟩),.pointer (some ⟨b3,0,none⟩)]:=by
    rw[Qb3 _ _ _ _ (by rw[I1.size]; decide),if_pos rfl]
   subst hD;simp[execOp,resolve,Deferred.ofValue,Act.eval,this]
  unfold wpListIn;simp only[Exit.then];have eR:=(I1.boxb 2 b2 o2).1.resolve_right (Qd8 w [] b2);have tW:=(I1.boxb 3 b3 o3).1.resolve_right (Qd8 w [] b3);have hob:∀i b,QyI b2 b3 i=some b->w.heap.size<=b:=by
   intro i b h;unfold QyI at h;split at h
   .cases h; exact eR
   .split at h
    .cases h; exact tW
    .cases h
  have I3:=I2.pushO (QyI b2 b3) (λi b h=>by
   unfold QyI at h;split at h
   .rename_i e; cases h; subst e; exact o2
   .split at h
    .rename_i e; cases h; subst e; exact o3
    .cases h) [D] ({ (a1.put (some 15) (.func (.func 78) #[] #[.pointer (some ⟨b2,0,none⟩),.pointer (some ⟨b3,0,none⟩)]))with defers:=D::(a1.put (some 15) (.func (.func 78) #[] #[.pointer (some ⟨b2,0,none⟩),.pointer (some ⟨b3,0,none⟩)])).defers}) rfl (by show D::(a1.put _ _).defers=[D]; rw[QaC,kX])
  have cU:∀(σ':St) (x2 x3:X) (g':Gh) (a':Act) (w':World),Inv 109 m (Ql0 w (QyI b2 b3) [D]) g' σ' a' w'->Qv σ'.tmps 2=some (.loc 2 0)->Qv σ'.tmps 3=some (.loc 3 0)->Qv σ'.boxes 2=some [x2]->Qv σ'.boxes 3=some [x3]->Qir t=([],6)->Q (.panic [{ v:=QjV,recovered:=false}]) a' w':=by
   intro σ' x2 x3 g' a' w' I' t2 t3 y2 y3 hR;have cA:a'.defers=[D]:=I'.noMark (c:=QIa) (λh=>h);subst hQ;rw[hR];show Leaves _ _ _ _ a'.defers _ _;rw[cA];refine Qob hD.symm QyD (QAP I' cA t2 t3 y2 y3) ?_;rintro gF ⟨cX,I''⟩;exact Qf0 (Qex (Qy QO) Qbh) ([],6) Qis (I''.dropO hob) (rs:=[.sl 0 [],DI 6]) (by rw[Tryz.results31]; simp) (by simp)
  have back:∀(σ':St) (l:List Bat) (g':Gh) (a':Act) (w':World),Inv 109 m (Ql0 w (QyI b2 b3) [D]) g' σ' a' w'->Qfx tys σ' Tryz.f31.results.toList=some [.sl 5 (l.map QO.enc),DI 0]->Qir t=(l,0)->Q .ret a' w':=by
   intro σ' l g' a' w' I' bS hR;have cA:a'.defers=[D]:=I'.noMark (c:=QIa) (λh=>h);subst hQ;rw[hR];show Leaves _ _ _ _ a'.defers _ _;rw[cA];refine QoC hD.symm QyD (QCL _ _ _) ?_;refine Qf0 (Qex (Qy QO) Qbh) (l,0) Qis (I'.dropO hob) (rs:=[.sl 5 (l.map QO.enc),DI 0]) bS (by simp[QR])
  refine QfO Qis (by kernel_rfl) (by kernel_rfl) I3 (QDa (by kernel_rfl)) ?_
  simp[QjT];obtain⟨n,s,l,aH,cY,qF⟩:=Qh1 t;have n6:=QeN t n s l aH;obtain⟨T,L,dd,hT0,hL0,hTn,sI,hTL⟩:=QvM aH;have hLr:∀j,j<=n->runP t j=some (T j,L j):=by
   intro j
   induction j with
   | zero=>intro _; rw[hT0,hL0]; rfl
   | succ j ih=>
    intro hj;obtain⟨q1,q2,q3⟩:=hTL j (by omega)
    simp only[runP,ih (by omega),if_neg q1,q2,q3]
  have cC:∀j,j<=n->(T j).size<=3000:=λj hj=>by have:=QeN t j _ _ (hLr j hj); omega
  have mZ:∀j,j<=n->(L j).length=j:=λj hj=>Qqu t j _ _ (hLr j hj);have cN:=QqT h2 aH qF;generalize aC:Cx.loop _ _ _=aE;apply Qc2 aC (λk=>⟨[(0,.d (DS (T k))),(2,.loc 2 0),(3,.loc 3 0),(4,.mp 16)],[(2,[.sl 5 ((L k).map QO.enc) (.tok 100200)]),(3,[.d (DI 0)])],[100200],[(16,(3,mapM (L k) k))]⟩) n (by simp only[hT0,hL0]; rfl)
  rotate_left
  .show _ < 281474976710656; omega
  .exact λh=>h
  rotate_left
  all_goals clear aC
  .intro j hj;obtain⟨aS,bV,hLj⟩:=hTL j hj;obtain⟨hh,h3,wg,wf,ts,hg,hf,gR,oP,hd,hr⟩:=Qg5 bV;obtain⟨A,B,hc,hB,hW,hA1,hB1⟩:=Qqz (T j);have hTs:=cC j (by omega)
   have nR:(T j).size < 100000:=by omega
   have qG:=QjG (T j);have xD:=Qjf (T j);have aI:=mZ j (by omega)
   rw[hh]at hc;rw[hr,hB,hLj,hd];have gP:mapM (L j++[(⟨(Qag (T j)).getD 0 ⟨#[]⟩,wg,wf,QeJ (Qag (T j)),ts⟩:Bat)]) (j+1)=(.string ((Qag (T j)).getD 0 ⟨#[]⟩),.int .i64 j)::mapM (L j) j:=by
    have:=QtS (L j) ⟨(Qag (T j)).getD 0 ⟨#[]⟩,wg,wf,QeJ (Qag (T j)),ts⟩;rw[aI]at this; exact this
   rw[gP];have cI:((T j).toList==[])=false:=by
    rw[ByteArray.toList_eq];cases hq:((T j).data.toList==([]:List UInt8))
    .rfl
    .exfalso
     have:(T j).data.toList=[]:=by simpa using hq
     apply aS;have h5:(T j).data.toList.length=0:=by rw[this]; rfl
     simpa using h5
   have nS:(⟨A.toArray⟩:ByteArray).size < 100000:=by rw[Qjx]; omega
   have z1:(⟨#[32]⟩:ByteArray).size=1:=rfl;have pQ:(L j).length+1<=140737488355328:=by omega
   have hL2:((L j).length+1)*64<=140737488355328:=by omega
   rw[aI]at pQ hL2;generalize hWW:Qag (T j)=ws at*;obtain⟨w0,v1,v2,V,rfl⟩:=QqA h3;have y1:v1.size<=100000:=by have:=qG v1 (by simp); omega
   have y0:w0.size<=maxLen:=by have:=qG w0 (by simp); unfold maxLen; omega
   have y2:v2.size<=100000:=by have:=qG v2 (by simp); omega
   have yV:∀z∈V,z.size<=100000:=λz hz=>by have:=qG z (by simp[hz]); omega
   have hVl:V.length<=3000:=by simp only[List.length_cons]at xD; omega
   have qH:(3:Int)<=(V.length:Int)+1+1+1:=by omega
   have h3N:3<=V.length+1+1+1:=by omega
   have q0:(0:Int) < (V.length:Int)+1+1+1:=by omega
   have q1:(1:Int) < (V.length:Int)+1+1+1:=by omega
   have q2:(2:Int) < (V.length:Int)+1+1+1:=by omega
   have d9:QeZ v1=some wg:=hg;have hf1:QeZ v2=some wf:=hf;have zH:∀w,Qch (mapM (L j) j) (.string w)=(QiJ (L j) w (L j).length).map λ(i:Nat)=>Value.int .i64 (i:Int):=λw=>by rw[aI]; exact Qmj (L j) w j
   generalize mapM (L j) j=es at*;rw[show(w0::v1::v2::V).getD 0 ⟨#[]⟩=w0 from rfl];cases fU:QeJ (w0::v1::v2::V)
   .have dJ:Qet (w0::v1::v2::V)=V:=by unfold Qet; rw[fU]; rfl
    rw[dJ]at oP gR;have mQ:=hTs;obtain⟨n',jI,eZ,fW⟩:=QjA (L j) V (V.length / 2);obtain rfl:n'=V.length / 2:=by
     rcases fW with h | ⟨_,_,h⟩
     .exact h
     .rw[oP]at h; cases h
    have htsK:ts=Qsa (L j) V (V.length / 2):=by have:=eZ _ (Zr _); rw[oP]at this; exact Option.some.inj this
    subst htsK;have sR:(((V.length:Nat):Int).tmod 2==0)=true:=by
     rw[Int.tmod_eq_emod_of_nonneg (by omega)]
     exact beq_iff_eq.2 (by omega)
    have pE:((V.length:Int)==1)=true->∀(h:0 < V.length),(V[0].toList==[108,111,115,116])=false:=λh1 h0=>by
     have h1':V.length=1:=by have:=beq_iff_eq.1 h1; omega
     unfold QeJ at fU;simp only[List.length_cons,h1',Bool.and_eq_false_iff]at fU;rcases fU with h | h
     .cases h
     .obtain⟨z,rfl⟩:=List.length_eq_one_iff.1 h1';have h':(z.toList==QjI.toList)=false:=h;simpa[QjI]using h'
    have hodd:((V.length:Int)==1)=false:=beq_eq_false_iff_ne.2 (by omega)
    have e3:((V.length:Int)+1+1+1).toNat - 3=V.length:=by omega
    have e4:List.take V.length (List.map Qf7.enc V)=List.map Qf7.enc V:=List.take_of_length_le (by simp)
    simp[QjT,g31,s79,s80,s81,s82,cI,nR,hc,hW,nS,z1,qH,q0,q1,q2,e3,e4,d9,hf1,y1,y2,QfJ,QaO,Qh,hodd,sR]
    (generalize aC:Cx.loop _ _ _=aE; apply Qi aC (λk=>⟨[(2,.loc 2 0),(3,.loc 3 0),(4,.mp 16),(6,.d (DS ⟨B.toArray⟩)),(8,.d (.sl 1 ((V.drop (2*k)).map Qf7.enc))),(9,.loc 9 0)],[(2,[.sl 5 ((L j).map QO.enc) (.tok 100200)]),(3,[.d (DI 0)]),(9,[.d (DS w0),.d (DI wg),.d (DI wf),.d (DB false),.sl 2 ((Qsa (L j) V k).map Qb1.enc) (.tok 100904)])],[100904,100200],[(16,(3,es))]⟩) (V.length / 2) (by first | (simp; done) | (simp; rfl) | (simp; simp[*])); rotate_left; (show _ < 281474976710656; omega); rfl; rotate_left; all_goals clear aC)
    .intro k hk;obtain⟨ii,q,sS,hq,kC⟩:=Qp2 eZ hk;obtain⟨p,z,hp,e1,e2⟩:=Quw (V:=V) (k:=k) (by omega)
     rw[kC,hp];rw[e1]at sS;rw[e2]at hq;have fB:=zH p;rw[sS]at fB;have y3:z.size<=100000:=yV z (by rw[<-e2,Qj _ _ _ (show 2*k+1 < V.length by omega)]; exact Ze _)
     have y4:p.size<=maxLen:=by
      have:=yV p (by rw[<-e1,Qj _ _ _ (show 2*k < V.length by omega)]; exact Ze _)
      unfold maxLen; omega
     have l1:=QgE (eZ k (by omega))
     generalize Qsa (L j) V k=TJ at*;have c1:TJ.length+1<=140737488355328:=by omega
     have c2:(TJ.length+1)*16<=140737488355328:=by omega
     generalize V.drop (2*(k+1))=V' at*;have p1:(0:Int) < (V'.length:Int)+1+1:=by omega
     have p2:(1:Int) < (V'.length:Int)+1+1:=by omega
     have p3:(2:Int)<=(V'.length:Int)+1+1:=by omega
     have p4:((V'.length:Int)+1+1).toNat - 2=V'.length:=by omega
     have p5:List.take V'.length (List.map Qf7.enc V')=List.map Qf7.enc V':=List.take_of_length_le (by simp)
     simp[QjT,s81,QaO,Qo,fB,hq,y3,y4,c1,c2,p1,p2,p3,p4,p5];done
    .have cY:V.drop (2*(V.length / 2))=[]:=List.drop_eq_nil_of_le (by omega)
     simp[QjT,cY,pQ,hL2,aI,y0];done
   .have hq:=fU;unfold QeJ at hq;simp only[Za,beq_iff_eq,List.length_cons]at hq;obtain⟨q4,q5⟩:=hq;obtain⟨z,rfl⟩:=List.length_eq_one_iff.1 (show V.length=1 by omega)
    have q5':(z.toList==[108,111,115,116])=true:=by
     have:z.toList=QjI.toList:=q5;simpa[QjI]using this
    have dJ:Qet (w0::v1::v2::[z])=[]:=if_pos fU;rw[dJ]at oP;have hts':ts=[]:=by cases oP; rfl
    subst hts';simp[QjT,g31,s79,s80,s81,s82,cI,nR,hc,hW,nS,z1,d9,hf1,y1,y2,QfJ,QaO,Qh,q5']
    (generalize aC:Cx.loop _ _ _=aE; apply Qi aC (λk=>⟨[(2,.loc 2 0),(3,.loc 3 0),(4,.mp 16),(6,.d (DS ⟨B.toArray⟩)),(8,.d (.sl 0 [])),(9,.loc 9 0)],[(2,[.sl 5 ((L j).map QO.enc) (.tok 100200)]),(3,[.d (DI 0)]),(9,[.d (DS w0),.d (DI wg),.d (DI wf),.d (DB true),.sl 2 [] (.tok 100904)])],[100904,100200],[(16,(3,es))]⟩) 0 rfl; rotate_left; (show _ < 281474976710656; omega); rfl; rotate_left; all_goals clear aC)
    .intro k hk;exact absurd hk (Nat.not_lt_zero _)
    .simp[QjT,pQ,hL2,aI,y0];done
  .have rG:p81 [DB false]=some QjV:=rfl;have e82:∀z:ByteArray,z.size<=100000->QeZ z=none->p82 [DS z]=some QjV:=λz h1 h2=>by simp only[p82]; rw[if_pos ⟨h1,h2⟩]
   have n82:∀(z:ByteArray) v,QeZ z=some v->p82 [DS z]=none:=λz v h=>by simp only[p82]; rw[if_neg (by simp[h])]
   have hTs:=cC n (Zr _);have aI:=mZ n (Zr _);rcases cY with nC | ⟨aS,bV⟩
   .have cI:((T n).toList==[])=true:=by
     rw[ByteArray.toList_eq,hTn];have h5:s.data.toList.length=0:=by simpa using nC
     simp[List.length_eq_zero_iff.1 h5]
    have lG:=Qx5 (n:=n) (QkH t (by omega) n s l aH)
    rw[<-sI]at lG cN;have k8:s17 [.sl 5 ((L n).map QO.enc)]=some (.tup [DI (Q5 (L n)).1,DI (Q5 (L n)).2.1,DI (Q5 (L n)).2.2]):=by
     simp only[s17,sp1,QR]; rw[if_pos lG]; rfl
    by_cases hk:(Q5 (L n)).2.2=0
    .rw[if_pos ⟨nC,hk⟩]at cN;rw[hk]at k8;simp[QjT,g31,s81,cI,k8,QT];intro g' a' w' I';exact back _ (L n) g' a' w' I' (by rw[Tryz.results31]; simp) cN
    .rw[if_neg (λh=>hk h.2)]at cN;have cZ:((Q5 (L n)).2.2==0)=false:=beq_eq_false_iff_ne.2 hk;simp[QjT,g31,s81,cI,k8,cZ,rG,QT];intro g' a' w' I';exact cU _ _ _ g' a' w' I' (by simp[Qv]) (by simp[Qv]) rfl rfl cN
   .rw[if_neg (λh=>aS h.1)]at cN;rw[<-hTn]at bV aS;rw[<-sI]at bV;obtain⟨A,B,hc,hB,hW,hA1,hB1⟩:=Qqz (T n);have nR:(T n).size < 100000:=by omega
    have qG:=QjG (T n);have xD:=Qjf (T n);have cI:((T n).toList==[])=false:=by
     rw[ByteArray.toList_eq];cases hq:((T n).data.toList==([]:List UInt8))
     .rfl
     .exfalso
      have:(T n).data.toList=[]:=by simpa using hq
      apply aS;have h5:(T n).data.toList.length=0:=by rw[this]; rfl
      simpa using h5
    have nS:(⟨A.toArray⟩:ByteArray).size < 100000:=by rw[Qjx]; omega
    have z1:(⟨#[32]⟩:ByteArray).size=1:=rfl;have zH:∀w,Qch (mapM (L n) n) (.string w)=(QiJ (L n) w (L n).length).map λ(i:Nat)=>Value.int .i64 (i:Int):=λw=>by rw[aI]; exact Qmj (L n) w n
    generalize mapM (L n) n=es at*;clear hTL hLr mZ cC aH qF sI hTn hT0 hL0;rcases Qsv bV with hh | ⟨hh,h3⟩ | ⟨hh,h3,aL⟩
    .rw[hh]at hc;simp[QjT,g31,s79,s80,s81,cI,nR,hc,hW,nS,z1,rG,QT];intro g' a' w' I';exact cU _ _ _ g' a' w' I' (by simp[Qv]) (by simp[Qv]) rfl rfl cN
    .rw[hh]at hc;generalize Qag (T n)=ws at*;have qH:¬(3:Int)<=ws.length:=by omega
     simp[QjT,g31,s79,s80,s81,cI,nR,hc,hW,nS,z1,qH,rG,QT];intro g' a' w' I';exact cU _ _ _ g' a' w' I' (by simp[Qv]) (by simp[Qv]) rfl rfl cN
    .rw[hh]at hc;generalize Qag (T n)=ws at*;obtain⟨w0,v1,v2,V,rfl⟩:=QqA h3;have y1:v1.size<=100000:=by have:=qG v1 (by simp); omega
     have y2:v2.size<=100000:=by have:=qG v2 (by simp); omega
     have yV:∀z∈V,z.size<=100000:=λz hz=>by have:=qG z (by simp[hz]); omega
     have hVl:V.length<=3000:=by simp only[List.length_cons]at xD; omega
     have qH:(3:Int)<=(V.length:Int)+1+1+1:=by omega
     have h3N:3<=V.length+1+1+1:=by omega
     have q0:(0:Int) < (V.length:Int)+1+1+1:=by omega
     have q1:(1:Int) < (V.length:Int)+1+1+1:=by omega
     have q2:(2:Int) < (V.length:Int)+1+1+1:=by omega
     have e3:((V.length:Int)+1+1+1).toNat - 3=V.length:=by omega
     have e4:List.take V.length (List.map Qf7.enc V)=List.map Qf7.enc V:=List.take_of_length_le (by simp)
     rcases aL with eD | ⟨⟨wg,hg⟩,eR⟩ | ⟨wg,wf,hg,hf,aL⟩
     .have eD:QeZ v1=none:=eD;have hp:=e82 _ y1 eD;simp[QjT,g31,QDG,s79,s80,s81,s82,cI,nR,hc,hW,nS,z1,qH,q0,q1,q2,y1,QfJ,QaO,eD,hp,QT];intro g' a' w' I';exact cU _ _ _ g' a' w' I' (by simp[Qv]) (by simp[Qv]) rfl rfl cN
     .have hg:QeZ v1=some wg:=hg;have eR:QeZ v2=none:=eR;have hn:=n82 _ _ hg;have hp:=e82 _ y2 eR;simp[QjT,g31,QDG,s79,s80,s81,s82,cI,nR,hc,hW,nS,z1,qH,q0,q1,q2,y1,y2,QfJ,QaO,hg,eR,hn,hp,QT];intro g' a' w' I';exact cU _ _ _ g' a' w' I' (by simp[Qv]) (by simp[Qv]) rfl rfl cN
     .have d9:QeZ v1=some wg:=hg;have hf1:QeZ v2=some wf:=hf;have fU:QeJ (w0::v1::v2::V)=false:=by
       cases fU:QeJ (w0::v1::v2::V)with
       | false=>rfl
       | true=>
        have dJ:Qet (w0::v1::v2::V)=[]:=if_pos fU;rw[dJ]at aL;rcases aL with h | ⟨_,h⟩<;>cases h
      have dJ:Qet (w0::v1::v2::V)=V:=by unfold Qet; rw[fU]; rfl
      rw[dJ]at aL;rcases aL with hod | ⟨gR,qI⟩
      .have hod2:(((V.length:Nat):Int).tmod 2==0)=false:=by
        rw[Int.tmod_eq_emod_of_nonneg (by omega)]
        exact beq_eq_false_iff_ne.2 (by omega)
       by_cases h1:V.length=1
       .obtain⟨z,rfl⟩:=List.length_eq_one_iff.1 h1;have hz:(z.toList==[108,111,115,116])=false:=by
         unfold QeJ at fU;simp only[List.length_cons,h1,Bool.and_eq_false_iff]at fU;rcases fU with h | h
         .cases h
         .have h':(z.toList==QjI.toList)=false:=h;simpa[QjI]using h'
        simp[QjT,g31,s79,s80,s81,s82,cI,nR,hc,hW,nS,z1,y1,y2,QfJ,QaO,d9,hf1,hz,rG,QT];intro g' a' w' I';exact cU _ _ _ g' a' w' I' (by simp[Qv]) (by simp[Qv]) rfl rfl cN
       .have h1I:((V.length:Int)==1)=false:=beq_eq_false_iff_ne.2 (by omega)
        simp[QjT,g31,s79,s80,s81,s82,cI,nR,hc,hW,nS,z1,qH,q0,q1,q2,e3,e4,y1,y2,QfJ,QaO,d9,hf1,h1I,hod2,rG,QT];intro g' a' w' I';exact cU _ _ _ g' a' w' I' (by simp[Qv]) (by simp[Qv]) rfl rfl cN
      .have h1I:((V.length:Int)==1)=false:=beq_eq_false_iff_ne.2 (by omega)
       have sR:(((V.length:Nat):Int).tmod 2==0)=true:=by
        rw[Int.tmod_eq_emod_of_nonneg (by omega)]
        exact beq_iff_eq.2 (by omega)
       obtain⟨q,hq,eZ,fW⟩:=QjA (L n) V (V.length / 2);rcases fW with h | ⟨gT,hqn,_⟩
       .subst h; rw[eZ _ (Zr _)]at qI; cases qI
       simp[QjT,g31,s79,s80,s81,s82,cI,nR,hc,hW,nS,z1,qH,q0,q1,q2,e3,e4,d9,hf1,y1,y2,QfJ,QaO,h1I,sR]
       (generalize aC:Cx.loop _ _ _=aE; apply Qc2 aC (λk=>⟨[(2,.loc 2 0),(3,.loc 3 0),(4,.mp 16),(6,.d (DS ⟨B.toArray⟩)),(8,.d (.sl 1 ((V.drop (2*k)).map Qf7.enc))),(9,.loc 9 0)],[(2,[.sl 5 ((L n).map QO.enc) (.tok 100200)]),(3,[.d (DI 0)]),(9,[.d (DS w0),.d (DI wg),.d (DI wf),.d (DB false),.sl 2 ((Qsa (L n) V k).map Qb1.enc) (.tok 100904)])],[100904,100200],[(16,(3,es))]⟩) q (by first | (simp; done) | (simp; rfl) | (simp[*]; done) | (simp; simp[*])); rotate_left; (show _ < 281474976710656; omega); (exact λh=>h); rotate_left; all_goals clear aC)
       .intro k hk;obtain⟨ii,q,sS,hq,kC⟩:=Qp2 eZ hk;obtain⟨p,z,hp,e1,e2⟩:=Quw (V:=V) (k:=k) (by omega)
        rw[kC,hp];rw[e1]at sS;rw[e2]at hq;have fB:=zH p;rw[sS]at fB;have y3:z.size<=100000:=yV z (by rw[<-e2,Qj _ _ _ (show 2*k+1 < V.length by omega)]; exact Ze _)
        have y4:p.size<=maxLen:=by
         have:=yV p (by rw[<-e1,Qj _ _ _ (show 2*k < V.length by omega)]; exact Ze _)
         unfold maxLen; omega
        have l1:=QgE (eZ k (by omega))
        generalize Qsa (L n) V k=TJ at*;have c1:TJ.length+1<=140737488355328:=by omega
        have c2:(TJ.length+1)*16<=140737488355328:=by omega
        generalize V.drop (2*(k+1))=V' at*;have p1:(0:Int) < (V'.length:Int)+1+1:=by omega
        have p2:(1:Int) < (V'.length:Int)+1+1:=by omega
        have p3:(2:Int)<=(V'.length:Int)+1+1:=by omega
        have p4:((V'.length:Int)+1+1).toNat - 2=V'.length:=by omega
        have p5:List.take V'.length (List.map Qf7.enc V')=List.map Qf7.enc V':=List.take_of_length_le (by simp)
        simp[QjT,s81,QaO,Qo,fB,hq,y3,y4,c1,c2,p1,p2,p3,p4,p5]
       .obtain⟨p,z,hp,e1,e2⟩:=Quw (V:=V) (k:=q) (by omega)
        rw[e1,e2]at hqn;rw[hp];have fB:=zH p;have y3:z.size<=100000:=yV z (by rw[<-e2,Qj _ _ _ (show 2*q+1 < V.length by omega)]; exact Ze _)
        have y4:p.size<=maxLen:=by
         have:=yV p (by rw[<-e1,Qj _ _ _ (show 2*q < V.length by omega)]; exact Ze _)
         unfold maxLen; omega
        have l1:=QgE (eZ q (by omega))
        generalize Qsa (L n) V q=TJ at*;have c1:TJ.length+1<=140737488355328:=by omega
        have c2:(TJ.length+1)*16<=140737488355328:=by omega
        generalize V.drop (2*(q+1))=V' at*;have p1:(0:Int) < (V'.length:Int)+1+1:=by omega
        have p2:(1:Int) < (V'.length:Int)+1+1:=by omega
        have p3:(2:Int)<=(V'.length:Int)+1+1:=by omega
        have p4:((V'.length:Int)+1+1).toNat - 2=V'.length:=by omega
        have p5:List.take V'.length (List.map Qf7.enc V')=List.map Qf7.enc V':=List.take_of_length_le (by simp)
        rcases hqn with bA | ⟨⟨ii,sS⟩,bA⟩
        .rw[bA]at fB;simp[QjT,s81,QaO,fB,y4,p1,rG,QT];intro g' a' w' I';exact cU _ _ _ g' a' w' I' (by simp[Qv]) (by simp[Qv]) rfl rfl cN
        .rw[sS]at fB;have hpz:=e82 _ y3 bA;simp[QjT,QDG,s81,QaO,fB,bA,hpz,y3,y4,p1,p2,p3,p4,p5,QT];intro g' a' w' I';exact cU _ _ _ g' a' w' I' (by simp[Qv]) (by simp[Qv]) rfl rfl cN
theorem QDN (xs:Array Value) (w:World):(callFunc 31 xs).run Tryz.prog w= .ok (.enter 31 xs) w:=by kernel_rfl
end Go.Proofs.YtnfeakhkfehkhaaGreatDoor
