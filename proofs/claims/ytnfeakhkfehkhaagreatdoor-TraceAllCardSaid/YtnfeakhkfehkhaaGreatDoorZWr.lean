/-
  The program's Write, walked by hand around the builder. Conditions: none.
-/
import Derived.Test.YtnfeakhkfehkhaaGreatDoorZBld
import Derived.Test.YtnfeakhkfehkhaaGreatDoorZPrF
set_option linter.unusedSimpArgs false
set_option linter.unusedVariables false
namespace Go.Proofs.YtnfeakhkfehkhaaGreatDoor
open Go.RowKit Go.Lib
def Qj8 (r:Nat):List (Nat×Option Nat):=match r with
 | 0=>[(0,none)]
 | 1=>kpn [0,6]
 | 2=>kpn [0,6,20]
 | 3=>kpn [2,3]
 | 4=>kpn [0,7]
 | 5=>kpn [0,7,22,23,24]
 | 6=>kpn [0,7,22,23,24,25]
 | 7=>kpn [0,7,9,22,23,24]
 | 8=>[(0,none),(7,none),(9,none),(10,some 1),(22,none),(23,none),(24,none)]
 | 9=>[(0,none),(7,none),(9,none),(10,some 1),(22,none),(23,none),(24,none),(38,none)]
 | 10=>[(0,none),(7,none),(9,none),(10,some 1),(22,none),(23,none),(24,none)]
 | 11=>[(0,none),(7,none),(10,some 1),(22,none),(23,none),(24,none),(43,none),(44,none),(45,none)]
 | 12=>[(0,none),(7,none),(10,some 1),(22,none),(23,none),(24,none),(43,none),(44,none),(45,none),(46,none)]
 | 13=>[(0,none),(7,none),(10,some 1),(12,none),(22,none),(23,none),(24,none),(43,none),(44,none),(45,none)]
 | 14=>[(0,none),(7,none),(10,some 1),(22,none),(23,none),(24,none),(43,none),(44,none),(45,none)]
 | 15=>[(0,none),(7,none),(10,some 1),(22,none),(23,none),(24,none),(43,none),(44,none),(45,none)]
 | 16=>kpn [0,7,22,23,24]
 | 17=>kpn [0,7,22,23,24]
 | 18=>kpn [2,3]
 | _=>[]
noncomputable def Qzb:List (Nat×(List D->Option D)):=[(75,s75),(73,s73),(17,s17)]
theorem Qx0:Qay Tryz.prog (Qas Qzb):=Ql (Ql (Ql QB Qrn QGi) Qy6 ok73) QFO ok75
structure WrAt (m:Nat->Nat->Prop) (W:World) (b:Nat) (bs:List Value) (σ:St) (g:Gh) (v:Value) (a:Act) (w:World):Prop where
 inv:Inv 68 m (Qdz W []) g σ a w
 defs:a.defers=[]
 bld:BldAt b v bs w
 hb:W.heap.size<=b
 ab:Away g b
 av:∀q,v.ownBlock=some q->Away g q/\W.heap.size<=q
theorem BldAt.ltv {b:Nat} {v:Value} {bs:List Value} {w:World} (h:BldAt b v bs w):∀q,v.ownBlock=some q->q < w.heap.size:=by
 intro q hq;rcases h.own.2 with⟨rfl,_⟩ | ⟨g,bR,fZ,rfl,q1,q2,q3⟩
 .cases hq
 .simp only[Value.ownBlock,Zs]at hq;subst hq;exact(Zj.1 q2).1
theorem WrAt.next {m:Nat->Nat->Prop} {W:World} {b:Nat} {bs:List Value} {σ σ':St} {g g':Gh} {v:Value} {a a':Act} {w w':World} (h:WrAt m W b bs σ g v a w) (I:Inv 68 m (Qdz W []) g' σ' a' w') (hd:a'.defers=[]) (hf:∀b,b < w.heap.size->Away g b->Away g' b/\w'.heap[b]?=w.heap[b]?):WrAt m W b bs σ' g' v a' w':=
 ⟨I,hd,h.bld.keep (hf b h.bld.lt h.ab).2 λq hq=>(hf q (h.bld.ltv q hq) (h.av q hq).1).2,h.hb,(hf b h.bld.lt h.ab).1,λq hq=>⟨(hf q (h.bld.ltv q hq) (h.av q hq).1).1,(h.av q hq).2⟩⟩
theorem Qoa (a b:ByteArray):strCells (a++b)=strCells a++strCells b:=by
 simp[strCells,ByteArray.data_append,Array.toList_append]
theorem WrAt.wrote {m:Nat->Nat->Prop} {W:World} {b:Nat} {bs bs':List Value} {σ:St} {g:Gh} {v v':Value} {a:Act} {w w':World} (h:WrAt m W b bs σ g v a w) (hB:BldAt b v' bs' w') (hk:KeepsW w (λk=>k=b\/v.ownBlock=some k) w') (hn:∀k,v'.ownBlock=some k->v.ownBlock=some k\/w.heap.size<=k) (d:Nat) (hd:d < 68) {y:Value} :WrAt m W b bs' { σ with tmps:=(d,.d .top)::σ.tmps} g v' (a.put (some d) y) w':=by
 have kn:KeepN w w':=KeepN.of_cells (λk=>k=b\/v.ownBlock=some k) (λk h1 h2=>hk.block k h1 h2) λk hk=>by
  rcases hk with rfl | hk
  .rcases h.bld.blk with h1 | h1<;>exact⟨_,_,_,h1⟩
  .rcases h.bld.own.2 with⟨rfl,_⟩ | ⟨g,bR,fZ,rfl,q1,q2,q3⟩
   .cases hk
   .simp only[Value.ownBlock,Zs]at hk;subst hk;exact⟨_,_,_,q2⟩
 have I:=h.inv.laterA hk kn λq hq=>by
  rcases hq with rfl | hq
  .exact⟨h.hb,h.ab⟩
  .exact⟨(h.av q hq).2,(h.av q hq).1⟩
 refine⟨I.put (d:=some d) (λx hx=>by cases hx; exact hd) (x:= .d .top) (by simp only[RelX,Rel]),by rw[QaC]; exact h.defs,hB,h.hb,h.ab,λq hq=>?_⟩
 rcases hn q hq with h1 | h1
 .exact h.av q h1
 .exact⟨h.inv.awayNew h1,Nat.le_trans h.inv.below.size h1⟩
def Qvx:TyI:=⟨.struct #[{ name:= "addr",type:=106,offset:=0,embedded:=false,tag:= "",pkgPath:= "strings",byteOffset:=0},{ name:= "buf",type:=107,offset:=1,embedded:=false,tag:= "",pkgPath:= "strings",byteOffset:=8}],2,32,.agg #[.pointer none,.slice none 0 0]⟩
theorem QCg:TyOk Tryz.prog 109 Qvx:=Qbd Tryz.underlying109 (by kernel_rfl) rfl rfl rfl ⟨_,rfl⟩
def QHR (T:TypeId):Option TyI:=if T=109 then some Qvx else tys T
theorem QBn:∀T i,QHR T=some i->TyOk Tryz.prog T i:=λT i h=>by
 unfold QHR at h;split at h
 .rename_i e; subst e; cases h; exact QCg
 .exact Qnr T i h
def QHh (l:List (Nat×(List D->Option D))) (N:Nat) (kp:Nat->List (Nat×Option Nat)):Cx:= { Γ:=QHR,eqs:=Qwu,Δ:=Qas l,N:=N,F:=Qbx,kp:=kp,kb:=[]}
theorem Qxu {l:List (Nat×(List D->Option D))} (h:Qay Tryz.prog (Qas l)) (N:Nat) (kp:Nat->List (Nat×Option Nat)):CxOk Tryz.prog (QHh l N kp):=
 ⟨QBn,Qnb,h,(λ_ _ _ _ _ _ _ h=>by cases h),by kernel_rfl,(λ_ _ h=>by cases h),Qib,Qmh⟩
noncomputable def s29:List D->Option D:=sp1 (Qy QO) (Qex QmM Qbh) λb=>if bkB b=true/\Qdx b then some (QhL b)else none
set_option maxHeartbeats 4000000 in
theorem ok29:∀ds d,s29 ds=some d->PureC Tryz.prog 29 ds d:=Qb2 λx r hr=>by
 split at hr
 .rename_i hc;cases hr;refine QdD Tryz.func29 rfl rfl (Zb rfl) λm w a I ha=>?_;have k8:s17 [.sl 5 (x.map QO.enc)]=some (.tup [DI (Q5 x).1,DI (Q5 x).2.1,DI (Q5 x).2.2]):=by
   simp only[s17,sp1,QR]; rw[if_pos hc]; rfl
  refine QgG (QE Qx0 68 Qj8 []) 1 _ rfl (by kernel_rfl) (by kernel_rfl) (λ_ _=>rfl) _ _ _ _ I ?_
  generalize hQ:(bodyPostD Tryz.prog Tryz.f29 (RetR m w ((Qex QmM Qbh).enc (QhL x))))=Q;by_cases h:(Q5 x).2.2=0
  .rw[h]at k8;have hv:=(Qbl x).1 h;have aQ:=hv.ok;have hx8:=aQ.le;simp[QeQ,Qj8,Qe,Qzb,k8,QT];intro g1 a1 w1 I1;refine wpIn_seq ?_;refine QF3 (Qxu Qx0 68 Qj8) (T:=109) (i:=Qvx) rfl (by decide) I1 λa2 ha2 I2=>?_
   have iH:a2.defers=[]:=by rw[ha2]; exact I1.deferred
   have wW:Away g1 w1.heap.size:=I1.awayNew (Zr _);have vI:BldAt w1.heap.size (.slice none 0 0) [] (w1.alloc (.cells Qvx.zero.cells 109)):=by
    refine⟨.inl ?_,⟨by simp,.inl ⟨rfl,rfl⟩⟩,by simp[Value.ownBlock]⟩
    rw[QaZ]; rfl
   have iE:w.heap.size<=w1.heap.size:=I1.below.size;generalize w1.heap.size=b at*;generalize w1.alloc (.cells Qvx.zero.cells 109)=w2 at*;refine wpIn_seq ?_;refine wpIn_seq ?_;refine Qhr (QE Qx0 68 Qj8 []) (by kernel_rfl) (by kernel_rfl) I2 iH rfl rfl (λ_ _=>rfl) ?_
   simp[Qj8,Qa4];intro g3 a3 w3 I3 tX yC kE;have J0:WrAt m w b (strCells (Qer x 0)) _ g3 (.slice none 0 0) a3 w3:=⟨I3,tX,vI.keep (kE b vI.lt wW).2 (λk hk=>by cases hk),iE,(kE b vI.lt wW).1,λq hq=>by cases hq⟩
   refine wpIn_block (QnA (λk a w'=>∃g v,WrAt m w b (strCells (Qer x k)) ⟨[(0,.d (.sl 5 (x.map QO.enc))),(7,.d (.v (.pointer (some ⟨b,0,none⟩)))),(22,.d (.sl 5 (x.map QO.enc))),(23,.d (DI x.length)),(24,.d (DI k))],[],[],[]⟩ g v a w') x.length ?_ ?_ ⟨g3,_,J0⟩)
   .rintro k hk a4 w4 ⟨g4,v4,J4⟩;have eQ:(k:Int) < x.length:=by omega
    refine QgO (QE Qx0 68 Qj8 []) 1 rfl (by kernel_rfl) (by kernel_rfl) J4.inv J4.defs rfl rfl (λ_ _=>rfl) ?_
    simp[QeQ,Qj8,eQ,Qa4];intro g5 a5 w5 I5 tY zR tZ;have J5:=J4.next I5 tY tZ
    show Code.wpIn _ _ _ (Qon 1 _) _ _ _;refine wpIn_seq (wpIn_block ?_);have hb:=aQ.at hk;have i1:QnE x[k].grams:=⟨by have:=hb.grams; omega,by have:=hb.grams; omega⟩
    have i2:QnE x[k].fresh:=⟨by have:=hb.fresh; omega,by have:=hb.grams; have:=hb.fresh; omega⟩
    have uP:x[k].takes.length<=8:=by have:=Qdy hb.asc hb.fr; omega
    refine QgO (QE Qx0 68 Qj8 []) 3 rfl (by kernel_rfl) (by kernel_rfl) J5.inv J5.defs rfl rfl (λ_ _=>rfl) ?_
    refine Qq8 (e:= .normal) (σ':=⟨[(0,.d (.sl 5 (x.map QO.enc))),(7,.d (.v (.pointer (some ⟨b,0,none⟩)))),(10,.sl 1 ((QaW x x[k] x[k].takes.length).map Qf7.enc) (.tok 10)),(22,.d (.sl 5 (x.map QO.enc))),(23,.d (DI x.length)),(24,.d (DI k)),(43,.d (.sl 2 (x[k].takes.map Qb1.enc))),(44,.d (DI x[k].takes.length)),(45,.d (DI x[k].takes.length)),(46,.d (DB false))],[],[10],[]⟩) ?_ ?_
    .have head:∀(B:Bool),x[k].lost=B->QlB x[k]=[x[k].name,Qdg x[k].grams,Qdg x[k].fresh]++(if B=true then [QjI]else []):=λB e=>by unfold QlB; rw[e]
     cases ht:x[k].lost
     .have h0:(QaW x x[k] 0).map Qf7.enc=[[DS x[k].name],[DS (Qdg x[k].grams)],[DS (Qdg x[k].fresh)]]:=by rw[QaW,head _ ht]; rfl
      simp[QeQ,Qj8,Qh,hk,eQ,Qzb,s73,i1,i2,ht];generalize aC:Cx.loop _ _ _=aE;apply Qi aC (λj=>⟨[(0,.d (.sl 5 (x.map QO.enc))),(7,.d (.v (.pointer (some ⟨b,0,none⟩)))),(10,.sl 1 ((QaW x x[k] j).map Qf7.enc) (.tok 10)),(22,.d (.sl 5 (x.map QO.enc))),(23,.d (DI x.length)),(24,.d (DI k)),(43,.d (.sl 2 (x[k].takes.map Qb1.enc))),(44,.d (DI x[k].takes.length)),(45,.d (DI j))],[],[10],[]⟩) x[k].takes.length (by simp only[h0]; rfl)
      rotate_left
      .show _ < 281474976710656; omega
      .rfl
      rotate_left
      all_goals clear aC
      .intro j hj;have xG:(j:Int) < x[k].takes.length:=by omega
       have hm:=Ze hj;have cH:=hb.fr _ hm;have oQ:=hb.gr _ hm;obtain⟨B,hB⟩:∃B:Nat,x[k].takes[j].fr=B:=⟨x[k].takes[j].fr.toNat,by omega⟩
       have tR:B < x.length:=by omega
       have hBI:(B:Int) < x.length:=by omega
       have i3:QnE x[k].takes[j].gr:=⟨by omega,by omega⟩
       have w1:=Qa ((j:Int)+1) (by omega) (by omega)
       have kC:QaW x x[k] (j+1)=QaW x x[k] j++[x[B].name,Qdg x[k].takes[j].gr]:=by
        rw[QaW,Qj _ _ _ hj,hB,Int.toNat_natCast,Qj _ _ _ tR]
       have xD:=Qe9 x x[k] j;have c1:(QaW x x[k] j).length+2<=140737488355328:=by omega
       have c2:((QaW x x[k] j).length+2)*16<=140737488355328:=by omega
       rw[kC];simp[Qj8,Qh,Qo,QaO,hj,xG,hB,tR,hBI,i3,Qdg,w1,c1,c2]
      .simp[Qj8]
     .have h0:(QaW x x[k] 0).map Qf7.enc=[[DS x[k].name],[DS (Qdg x[k].grams)],[DS (Qdg x[k].fresh)],[DS QjI]]:=by rw[QaW,head _ ht]; rfl
      simp[QeQ,Qj8,Qh,hk,eQ,Qzb,s73,i1,i2,ht];generalize aC:Cx.loop _ _ _=aE;apply Qi aC (λj=>⟨[(0,.d (.sl 5 (x.map QO.enc))),(7,.d (.v (.pointer (some ⟨b,0,none⟩)))),(10,.sl 1 ((QaW x x[k] j).map Qf7.enc) (.tok 10)),(22,.d (.sl 5 (x.map QO.enc))),(23,.d (DI x.length)),(24,.d (DI k)),(43,.d (.sl 2 (x[k].takes.map Qb1.enc))),(44,.d (DI x[k].takes.length)),(45,.d (DI j))],[],[10],[]⟩) x[k].takes.length (by simp only[h0]; rfl)
      rotate_left
      .show _ < 281474976710656; omega
      .rfl
      rotate_left
      all_goals clear aC
      .intro j hj;have xG:(j:Int) < x[k].takes.length:=by omega
       have hm:=Ze hj;have cH:=hb.fr _ hm;have oQ:=hb.gr _ hm;obtain⟨B,hB⟩:∃B:Nat,x[k].takes[j].fr=B:=⟨x[k].takes[j].fr.toNat,by omega⟩
       have tR:B < x.length:=by omega
       have hBI:(B:Int) < x.length:=by omega
       have i3:QnE x[k].takes[j].gr:=⟨by omega,by omega⟩
       have w1:=Qa ((j:Int)+1) (by omega) (by omega)
       have kC:QaW x x[k] (j+1)=QaW x x[k] j++[x[B].name,Qdg x[k].takes[j].gr]:=by
        rw[QaW,Qj _ _ _ hj,hB,Int.toNat_natCast,Qj _ _ _ tR]
       have xD:=Qe9 x x[k] j;have c1:(QaW x x[k] j).length+2<=140737488355328:=by omega
       have c2:((QaW x x[k] j).length+2)*16<=140737488355328:=by omega
       rw[kC];simp[Qj8,Qh,Qo,QaO,hj,xG,hB,tR,hBI,i3,Qdg,w1,c1,c2]
      .simp[Qj8]
    .intro g6 a6 w6 I6 t6 hs6 hf6;have J6:=J5.next I6 t6 hf6
     obtain⟨z1,z2,z3⟩:=Qsf aQ hk;have dZ:=Qu7 aQ hk;generalize QaW x x[k] x[k].takes.length=ws at*;generalize hS:QeX ws spB=J at*;have yL:QeX ws ⟨#[32]⟩=J:=hS;show Code.wpIn _ _ _ (Qon 3 _) _ _ _;refine QAx (QE Qx0 68 Qj8 []) 3 (by rfl) rfl rfl ?_ J6.inv J6.defs rfl rfl ?_
     .rfl
     .have z4:J.size<=100000:=by omega
      have z5:ws.length<=100000:=by omega
      have z6:J.size+1<=9223372036854775807:=by omega
      have z7:(⟨#[10]⟩:ByteArray).size=1:=rfl;simp[Qzb,s75,yL,z3,z4,z5,z6,z7,Qcd,QhJ];intro g7 a7 w7 I7 t7 hs7 t8;have J7:=J6.next I7 t7 t8
      have e8:a7.tmps.getD 7 undef= .pointer (some ⟨b,0,none⟩):=by
       have:=J7.inv.tmps 7 (.d (.v (.pointer (some ⟨b,0,none⟩)))) (by simp[Qv])
       simpa[RelX,Rel]using this
      have e50:a7.tmps.getD 64 undef= .string (J++⟨#[10]⟩):=by
       have:=J7.inv.tmps 64 (.d (.v (.string (J++⟨#[10]⟩)))) (by simp[Qv])
       simpa[RelX,Rel]using this
      have cC:=QkN aQ k (by omega)
      have bK:=QrV b v4 _ (J++⟨#[10]⟩) w7 J7.bld (by rw[strCells_length,ByteArray.size_append,z7]; omega)
      refine Qg2 (.inl rfl) ?_ bK ?_
      .simp[execOp,resolve,Deferred.ofValue,invoke,Act.eval,e8,e50]
      .rintro e w8 ⟨rfl,v',hB8,sW,oY⟩;refine⟨_,rfl,?_⟩;have J8:=J7.wrote hB8 sW oY 65 (by decide) (y:= .tuple #[.int .i64 (J++(⟨#[10]⟩:ByteArray)).size,.nilIface])
       rw[<-Qoa]at J8;have kC:Qer x k++(J++⟨#[10]⟩)=Qer x (k+1):=by rw[dZ]; rfl
       rw[kC]at J8;simp only[Exit.inBlock,Exit.then];refine Qhr (QE Qx0 68 Qj8 []) (by kernel_rfl) (by kernel_rfl) J8.inv J8.defs rfl rfl (λ_ _=>rfl) ?_
       have wk:=Qa ((k:Int)+1) (by omega) (by omega)
       refine Qq8 (e:= .normal) (σ':=⟨[(0,.d (.sl 5 (x.map QO.enc))),(7,.d (.v (.pointer (some ⟨b,0,none⟩)))),(22,.d (.sl 5 (x.map QO.enc))),(23,.d (DI x.length)),(24,.d (DI ((k+1:Nat):Int)))],[],[],[]⟩) ?_ ?_
       .simp[Qj8,wk]
       .intro g9 a9 w9 I9 zW hs9 zX;exact⟨g9,v',J8.next I9 zW zX⟩
   .rintro a4 w4 ⟨g4,v4,J4⟩;refine QgO (QE Qx0 68 Qj8 []) 1 rfl (by kernel_rfl) (by kernel_rfl) J4.inv J4.defs rfl rfl (λ_ _=>rfl) ?_
    simp[QeQ,Qj8,Qa4];intro g5 a5 w5 I5 tY zR tZ;have J5:=J4.next I5 tY tZ
    simp only[AEx.out,Exit.then,Exit.inBlock,if_true];have e8:a5.tmps.getD 7 undef= .pointer (some ⟨b,0,none⟩):=by
     have:=J5.inv.tmps 7 (.d (.v (.pointer (some ⟨b,0,none⟩)))) (by simp[Qv])
     simpa[RelX,Rel]using this
    refine wpIn_seq ?_;refine wpIn_region_list ?_;unfold wpListIn;rw[if_pos (by simp[Region.wanted])]
    have hbc:strCells (Qer x x.length)=byteCells (Qeu x).data.toList:=rfl;have hisb:IsBuilder 109 5 w.heap.size b (byteCells (Qeu x).data.toList) w5:=by
     rw[<-hbc];have dR:w5.ownsRow w.heap.size 5 1 v4 (strCells (Qer x x.length)).length (strCells (Qer x x.length)):=by
      refine⟨J5.bld.own.1,?_⟩;rcases J5.bld.own.2 with h1 | ⟨gq,bR,fZ,h0,q1,q2⟩
      .exact .inl h1
      .exact .inr ⟨gq,bR,fZ,h0,(J5.av gq (by rw[h0]; rfl)).2,q2⟩
     rcases J5.bld.blk with h1 | h1
     .exact .inl ⟨iE,v4,h1,dR,J5.bld.ne⟩
     .exact .inr ⟨iE,v4,h1,dR,J5.bld.ne⟩
    refine Qg2 (.inl rfl) (f:=76) (args:= #[.pointer (some ⟨b,0,none⟩)]) ?_ (Tryz.Builder_String_any w.heap.size b (Qeu x).data.toList w5 hisb J5.inv.below.size) ?_
    .simp[execOp,resolve,Deferred.ofValue,invoke,Act.eval,e8]
    .rintro e w6 ⟨rfl,hb6⟩;refine⟨_,rfl,?_⟩;unfold wpListIn;rw[if_pos (by simp[Region.wanted])]
     refine Qcl (.inl rfl) (v:= .string (Qeu x)) (w':=w6) ?_ ?_
     .have:(a5.put (some 67) (.string ⟨(Qeu x).data.toList.toArray⟩)).tmps.getD 67 undef= .string (Qeu x):=by
       rw[Qb3 _ _ _ _ (by rw[J5.inv.size]; decide),if_pos rfl]
      simp[execOp,Act.eval,this]
     unfold wpListIn;rw[if_pos (by simp[Region.wanted])]
     refine Qcl (.inl rfl) (v:= .int .i64 0) (w':=w6) rfl ?_;unfold wpListIn;simp only[Exit.then];refine wpIn_ret ?_;subst hQ;have sY:=J5.inv.size;show Leaves _ _ _ _ _ _ _;simp only[QaC,J5.defs];have g4:∀(y z:Value),((a5.put (some 67) y).put (some 2) z).tmps.getD 2 undef=z:=λy z=>by
      rw[Qb3 _ _ _ _ (by rw[Qbw,sY]; decide),if_pos rfl]
     have bS:(List.mapM (QcN (((a5.put (some 67) (.string ⟨(Qeu x).data.toList.toArray⟩)).put (some 2) (.string (Qeu x))).put (some 3) (.int .i64 0)).tmps) Tryz.f29.results.toList).run Tryz.prog w6= .ok [.string (Qeu x),.int .i64 0] w6:=by
      rw[Tryz.results29];have h1:((((a5.put (some 67) (.string ⟨(Qeu x).data.toList.toArray⟩)).put (some 2) (.string (Qeu x))).put (some 3) (.int .i64 0)).tmps).getD 2 undef= .string (Qeu x):=by
       rw[Qb3 _ _ _ _ (by rw[Qbw,Qbw,sY]; decide),if_neg (by decide),g4]
      have h2:((((a5.put (some 67) (.string ⟨(Qeu x).data.toList.toArray⟩)).put (some 2) (.string (Qeu x))).put (some 3) (.int .i64 0)).tmps).getD 3 undef= .int .i64 0:=by
       rw[Qb3 _ _ _ _ (by rw[Qbw,Qbw,sY]; decide),if_pos rfl]
      simp only[List.mapM_cons,List.mapM_nil,QcN,h1,h2,Sem.run_bind,Sem.run_pure,Zo]
     obtain⟨v,q1,q2⟩:=QiV (m:=λb o=>m b o\/False) (r:=[DS (Qeu x),DI 0]) bS (by simp[RelL,Rel])
     refine⟨v,q1,v,λ_ _=>False,rfl,?_,λb o h=>h.elim,?_⟩
     .have h1:=J5.inv.below.below (λk hk=>Qd8 _ _ k hk);exact h1.trans hb6
     .rw[show QhL x=(Qeu x,0)from if_pos h];exact q2
  .have h':((Q5 x).2.2 != 0)=true:=bne_iff_ne.2 h;simp[QeQ,Qj8,Qe,Qzb,k8,h',QT];intro g' a' w' I';show Q .ret a' w';subst hQ;refine Qim (QE Qx0 68 Qj8 []) I' (r:=[DS ⟨#[]⟩,DI (Q5 x).2.2]) ?_ ?_
   .rw[Tryz.results29]; simp
   .rw[show QhL x=(⟨#[]⟩,(Q5 x).2.2)from if_neg h]; simp
 .cases hr
theorem QCV (xs:Array Value) (w:World):(callFunc 29 xs).run Tryz.prog w= .ok (.enter 29 xs) w:=by kernel_rfl
end Go.Proofs.YtnfeakhkfehkhaaGreatDoor
