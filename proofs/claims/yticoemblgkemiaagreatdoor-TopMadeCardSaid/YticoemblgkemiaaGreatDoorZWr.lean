/-
  The program's Write, walked by hand around the builder. Conditions: none.
-/
import Derived.Test.YticoemblgkemiaaGreatDoorZBld
import Derived.Test.YticoemblgkemiaaGreatDoorZPrF
set_option linter.unusedSimpArgs false
set_option linter.unusedVariables false
namespace Go.Proofs.YticoemblgkemiaaGreatDoor
open Go.RowKit Go.Lib
def Qlk (r:Nat):List (Nat×Option Nat):=match r with
 | 0=>[(0,none)]
 | 1=>kpn [0,6]
 | 2=>kpn [0,6,20]
 | 3=>kpn [2,3]
 | 4=>kpn [0,7]
 | 5=>kpn [0,7,22,23,24]
 | 6=>kpn [0,7,22,23,24,25]
 | 7=>kpn [0,7,9,22,23,24]
 | 8=>[(0,none),(7,none),(9,none),(10,some 1),(22,none),(23,none),(24,none)]
 | 9=>[(0,none),(7,none),(9,none),(10,some 1),(22,none),(23,none),(24,none),(38,none)]
 | 10=>[(0,none),(7,none),(9,none),(10,some 1),(22,none),(23,none),(24,none)]
 | 11=>[(0,none),(7,none),(10,some 1),(22,none),(23,none),(24,none),(43,none),(44,none),(45,none)]
 | 12=>[(0,none),(7,none),(10,some 1),(22,none),(23,none),(24,none),(43,none),(44,none),(45,none),(46,none)]
 | 13=>[(0,none),(7,none),(10,some 1),(12,none),(22,none),(23,none),(24,none),(43,none),(44,none),(45,none)]
 | 14=>[(0,none),(7,none),(10,some 1),(22,none),(23,none),(24,none),(43,none),(44,none),(45,none)]
 | 15=>[(0,none),(7,none),(10,some 1),(22,none),(23,none),(24,none),(43,none),(44,none),(45,none)]
 | 16=>kpn [0,7,22,23,24]
 | 17=>kpn [0,7,22,23,24]
 | 18=>kpn [2,3]
 | _=>[]
noncomputable def QDw:List (Nat×(List D->Option D)):=[(126,s75),(124,s73),(123,s17)]
theorem QCp:QaE Tryz.prog (Qaw QDw):=Qh (Qh (Qh Qs QxE QPm) QDp ok73) QLB ok75
structure WrAt (m:Nat->Nat->Prop) (W:World) (b:Nat) (bs:List Value) (σ:St) (g:Gh) (v:Value) (a:Act) (w:World):Prop where
 inv:Inv 68 m (Qed W []) g σ a w
 defs:a.defers=[]
 bld:BldAt b v bs w
 hb:W.heap.size<=b
 ab:Away g b
 av:∀q,v.ownBlock=some q->Away g q/\W.heap.size<=q
theorem BldAt.ltv {b:Nat} {v:Value} {bs:List Value} {w:World} (h:BldAt b v bs w):∀q,v.ownBlock=some q->q < w.heap.size:=by
 intro q hq;rcases h.own.2 with⟨rfl,_⟩ | ⟨g,bO,f6,rfl,q1,q2,q3⟩
 .cases hq
 .simp only[Value.ownBlock,Zs]at hq;subst hq;exact(Zj.1 q2).1
theorem WrAt.next {m:Nat->Nat->Prop} {W:World} {b:Nat} {bs:List Value} {σ σ':St} {g g':Gh} {v:Value} {a a':Act} {w w':World} (h:WrAt m W b bs σ g v a w) (I:Inv 68 m (Qed W []) g' σ' a' w') (hd:a'.defers=[]) (hf:∀b,b < w.heap.size->Away g b->Away g' b/\w'.heap[b]?=w.heap[b]?):WrAt m W b bs σ' g' v a' w':=
 ⟨I,hd,h.bld.keep (hf b h.bld.lt h.ab).2 λq hq=>(hf q (h.bld.ltv q hq) (h.av q hq).1).2,h.hb,(hf b h.bld.lt h.ab).1,λq hq=>⟨(hf q (h.bld.ltv q hq) (h.av q hq).1).1,(h.av q hq).2⟩⟩
theorem QpQ (a b:ByteArray):strCells (a++b)=strCells a++strCells b:=by
 simp[strCells,ByteArray.data_append,Array.toList_append]
theorem WrAt.wrote {m:Nat->Nat->Prop} {W:World} {b:Nat} {bs bs':List Value} {σ:St} {g:Gh} {v v':Value} {a:Act} {w w':World} (h:WrAt m W b bs σ g v a w) (hB:BldAt b v' bs' w') (hk:KeepsW w (λk=>k=b\/v.ownBlock=some k) w') (hn:∀k,v'.ownBlock=some k->v.ownBlock=some k\/w.heap.size<=k) (d:Nat) (hd:d < 68) {y:Value} :WrAt m W b bs' { σ with tmps:=(d,.d .top)::σ.tmps} g v' (a.put (some d) y) w':=by
 have kn:KeepN w w':=KeepN.of_cells (λk=>k=b\/v.ownBlock=some k) (λk h1 h2=>hk.block k h1 h2) λk hk=>by
  rcases hk with rfl | hk
  .rcases h.bld.blk with h1 | h1<;>exact⟨_,_,_,h1⟩
  .rcases h.bld.own.2 with⟨rfl,_⟩ | ⟨g,bO,f6,rfl,q1,q2,q3⟩
   .cases hk
   .simp only[Value.ownBlock,Zs]at hk;subst hk;exact⟨_,_,_,q2⟩
 have I:=h.inv.laterA hk kn λq hq=>by
  rcases hq with rfl | hq
  .exact⟨h.hb,h.ab⟩
  .exact⟨(h.av q hq).2,(h.av q hq).1⟩
 refine⟨I.put (d:=some d) (λx hx=>by cases hx; exact hd) (x:= .d .top) (by simp only[RelX,Rel]),by rw[Qa0]; exact h.defs,hB,h.hb,h.ab,λq hq=>?_⟩
 rcases hn q hq with h1 | h1
 .exact h.av q h1
 .exact⟨h.inv.awayNew h1,Nat.le_trans h.inv.below.size h1⟩
def Qwe:TyI:=⟨.struct #[{ name:= "addr",type:=218,offset:=0,embedded:=false,tag:= "",pkgPath:= "strings",byteOffset:=0},{ name:= "buf",type:=25,offset:=1,embedded:=false,tag:= "",pkgPath:= "strings",byteOffset:=8}],2,32,.agg #[.pointer none,.slice none 0 0]⟩
theorem QF1:TyOk Tryz.prog 220 Qwe:=QaC Tryz.underlying220 (by kernel_rfl) rfl rfl rfl ⟨_,rfl⟩
def QO2 (T:TypeId):Option TyI:=if T=220 then some Qwe else tys T
theorem QFg:∀T i,QO2 T=some i->TyOk Tryz.prog T i:=λT i h=>by
 unfold QO2 at h;split at h
 .rename_i e; subst e; cases h; exact QF1
 .exact QoQ T i h
def QOp (l:List (Nat×(List D->Option D))) (N:Nat) (kp:Nat->List (Nat×Option Nat)):Cx:= { Γ:=QO2,eqs:=QA7,Δ:=Qaw l,N:=N,F:=QbK,kp:=kp,kb:=[]}
theorem Qz8 {l:List (Nat×(List D->Option D))} (h:QaE Tryz.prog (Qaw l)) (N:Nat) (kp:Nat->List (Nat×Option Nat)):CxOk Tryz.prog (QOp l N kp):=
 ⟨QFg,Qo0,h,(λ_ _ _ _ _ _ _ h=>by cases h),by kernel_rfl,(λ_ _ h=>by cases h),Qi9,QmV⟩
noncomputable def s29:List D->Option D:=sp1 (QJ QQ) (Qgw Qoe QaY) λb=>if bkB b=true/\Qee b then some (QiQ b)else none
set_option maxHeartbeats 4000000 in
theorem ok29:∀ds d,s29 ds=some d->PureC Tryz.prog 49 ds d:=Qbr λx r hr=>by
 split at hr
 .rename_i hc;cases hr;refine QcR Tryz.func49 rfl rfl (Zb rfl) λm w a I ha=>?_;have lI:s17 [.sl 5 (x.map QQ.enc)]=some (.tup [DI (Qaf x).1,DI (Qaf x).2.1,DI (Qaf x).2.2]):=by
   simp only[s17,sp1,Q9]; rw[if_pos hc]; rfl
  refine Qdm (Qw QCp 68 Qlk []) 1 _ rfl (by kernel_rfl) (by kernel_rfl) (λ_ _=>rfl) _ _ _ _ I ?_
  generalize hQ:(bodyPostD Tryz.prog Tryz.f49 (RetR m w ((Qgw Qoe QaY).enc (QiQ x))))=Q;by_cases h:(Qaf x).2.2=0
  .rw[h]at lI;have hv:=(QbQ x).1 h;have aP:=hv.ok;have hx8:=aP.le;simp[Qeh,Qlk,Qj,QDw,lI,QG];intro g1 a1 w1 I1;refine wpIn_seq ?_;refine QKE (Qz8 QCp 68 Qlk) (T:=220) (i:=Qwe) rfl (by decide) I1 λa2 ha2 I2=>?_
   have kN:a2.defers=[]:=by rw[ha2]; exact I1.deferred
   have xN:Away g1 w1.heap.size:=I1.awayNew (Zr _);have vR:BldAt w1.heap.size (.slice none 0 0) [] (w1.alloc (.cells Qwe.zero.cells 220)):=by
    refine⟨.inl ?_,⟨by simp,.inl ⟨rfl,rfl⟩⟩,by simp[Value.ownBlock]⟩
    rw[Qbi]; rfl
   have iL:w.heap.size<=w1.heap.size:=I1.below.size;generalize w1.heap.size=b at*;generalize w1.alloc (.cells Qwe.zero.cells 220)=w2 at*;refine wpIn_seq ?_;refine wpIn_seq ?_;refine Qiy (Qw QCp 68 Qlk []) (by kernel_rfl) (by kernel_rfl) I2 kN rfl rfl (λ_ _=>rfl) ?_
   simp[Qlk,Qbs];intro g3 a3 w3 I3 wQ zP kM;have J0:WrAt m w b (strCells (Qfh x 0)) _ g3 (.slice none 0 0) a3 w3:=⟨I3,wQ,vR.keep (kM b vR.lt xN).2 (λk hk=>by cases hk),iL,(kM b vR.lt xN).1,λq hq=>by cases hq⟩
   refine wpIn_block (Qpd (λk a w'=>∃g v,WrAt m w b (strCells (Qfh x k)) ⟨[(0,.d (.sl 5 (x.map QQ.enc))),(7,.d (.v (.pointer (some ⟨b,0,none⟩)))),(22,.d (.sl 5 (x.map QQ.enc))),(23,.d (DI x.length)),(24,.d (DI k))],[],[],[]⟩ g v a w') x.length ?_ ?_ ⟨g3,_,J0⟩)
   .rintro k hk a4 w4 ⟨g4,v4,J4⟩;have cZ:(k:Int) < x.length:=by omega
    refine QhV (Qw QCp 68 Qlk []) 1 rfl (by kernel_rfl) (by kernel_rfl) J4.inv J4.defs rfl rfl (λ_ _=>rfl) ?_
    simp[Qeh,Qlk,cZ,Qbs];intro g5 a5 w5 I5 wR hs5 wS;have J5:=J4.next I5 wR wS
    show Code.wpIn _ _ _ (QiP 1 _) _ _ _;refine wpIn_seq (wpIn_block ?_);have hb:=aP.at hk;have i1:Qou x[k].grams:=⟨by have:=hb.grams; omega,by have:=hb.grams; omega⟩
    have i2:Qou x[k].fresh:=⟨by have:=hb.fresh; omega,by have:=hb.grams; have:=hb.fresh; omega⟩
    have xO:x[k].takes.length<=8:=by have:=QeX hb.asc hb.fr; omega
    refine QhV (Qw QCp 68 Qlk []) 3 rfl (by kernel_rfl) (by kernel_rfl) J5.inv J5.defs rfl rfl (λ_ _=>rfl) ?_
    refine QsS (e:= .normal) (σ':=⟨[(0,.d (.sl 5 (x.map QQ.enc))),(7,.d (.v (.pointer (some ⟨b,0,none⟩)))),(10,.sl 1 ((Qbh x x[k] x[k].takes.length).map Qg0.enc) (.tok 10)),(22,.d (.sl 5 (x.map QQ.enc))),(23,.d (DI x.length)),(24,.d (DI k)),(43,.d (.sl 2 (x[k].takes.map Qce.enc))),(44,.d (DI x[k].takes.length)),(45,.d (DI x[k].takes.length)),(46,.d (DB false))],[],[10],[]⟩) ?_ ?_
    .have head:∀(B:Bool),x[k].lost=B->Qnw x[k]=[x[k].name,QdE x[k].grams,QdE x[k].fresh]++(if B=true then [Qjz]else []):=λB e=>by unfold Qnw; rw[e]
     cases ht:x[k].lost
     .have h0:(Qbh x x[k] 0).map Qg0.enc=[[DS x[k].name],[DS (QdE x[k].grams)],[DS (QdE x[k].fresh)]]:=by rw[Qbh,head _ ht]; rfl
      simp[Qeh,Qlk,Qe,hk,cZ,QDw,s73,i1,i2,ht];generalize aC:Cx.loop _ _ _=aE;apply Qi aC (λj=>⟨[(0,.d (.sl 5 (x.map QQ.enc))),(7,.d (.v (.pointer (some ⟨b,0,none⟩)))),(10,.sl 1 ((Qbh x x[k] j).map Qg0.enc) (.tok 10)),(22,.d (.sl 5 (x.map QQ.enc))),(23,.d (DI x.length)),(24,.d (DI k)),(43,.d (.sl 2 (x[k].takes.map Qce.enc))),(44,.d (DI x[k].takes.length)),(45,.d (DI j))],[],[10],[]⟩) x[k].takes.length (by simp only[h0]; rfl)
      rotate_left
      .show _ < 281474976710656; omega
      .rfl
      rotate_left
      all_goals clear aC
      .intro j hj;have n7:(j:Int) < x[k].takes.length:=by omega
       have hm:=Ze hj;have cE:=hb.fr _ hm;have pA:=hb.gr _ hm;obtain⟨B,hB⟩:∃B:Nat,x[k].takes[j].fr=B:=⟨x[k].takes[j].fr.toNat,by omega⟩
       have uJ:B < x.length:=by omega
       have hBI:(B:Int) < x.length:=by omega
       have i3:Qou x[k].takes[j].gr:=⟨by omega,by omega⟩
       have w1:=Qa ((j:Int)+1) (by omega) (by omega)
       have kH:Qbh x x[k] (j+1)=Qbh x x[k] j++[x[B].name,QdE x[k].takes[j].gr]:=by
        rw[Qbh,Ql _ _ _ hj,hB,Int.toNat_natCast,Ql _ _ _ uJ]
       have x8:=Qgd x x[k] j;have c1:(Qbh x x[k] j).length+2<=140737488355328:=by omega
       have c2:((Qbh x x[k] j).length+2)*16<=140737488355328:=by omega
       rw[kH];simp[Qlk,Qe,Qr,Qa7,hj,n7,hB,uJ,hBI,i3,QdE,w1,c1,c2]
      .simp[Qlk]
     .have h0:(Qbh x x[k] 0).map Qg0.enc=[[DS x[k].name],[DS (QdE x[k].grams)],[DS (QdE x[k].fresh)],[DS Qjz]]:=by rw[Qbh,head _ ht]; rfl
      simp[Qeh,Qlk,Qe,hk,cZ,QDw,s73,i1,i2,ht];generalize aC:Cx.loop _ _ _=aE;apply Qi aC (λj=>⟨[(0,.d (.sl 5 (x.map QQ.enc))),(7,.d (.v (.pointer (some ⟨b,0,none⟩)))),(10,.sl 1 ((Qbh x x[k] j).map Qg0.enc) (.tok 10)),(22,.d (.sl 5 (x.map QQ.enc))),(23,.d (DI x.length)),(24,.d (DI k)),(43,.d (.sl 2 (x[k].takes.map Qce.enc))),(44,.d (DI x[k].takes.length)),(45,.d (DI j))],[],[10],[]⟩) x[k].takes.length (by simp only[h0]; rfl)
      rotate_left
      .show _ < 281474976710656; omega
      .rfl
      rotate_left
      all_goals clear aC
      .intro j hj;have n7:(j:Int) < x[k].takes.length:=by omega
       have hm:=Ze hj;have cE:=hb.fr _ hm;have pA:=hb.gr _ hm;obtain⟨B,hB⟩:∃B:Nat,x[k].takes[j].fr=B:=⟨x[k].takes[j].fr.toNat,by omega⟩
       have uJ:B < x.length:=by omega
       have hBI:(B:Int) < x.length:=by omega
       have i3:Qou x[k].takes[j].gr:=⟨by omega,by omega⟩
       have w1:=Qa ((j:Int)+1) (by omega) (by omega)
       have kH:Qbh x x[k] (j+1)=Qbh x x[k] j++[x[B].name,QdE x[k].takes[j].gr]:=by
        rw[Qbh,Ql _ _ _ hj,hB,Int.toNat_natCast,Ql _ _ _ uJ]
       have x8:=Qgd x x[k] j;have c1:(Qbh x x[k] j).length+2<=140737488355328:=by omega
       have c2:((Qbh x x[k] j).length+2)*16<=140737488355328:=by omega
       rw[kH];simp[Qlk,Qe,Qr,Qa7,hj,n7,hB,uJ,hBI,i3,QdE,w1,c1,c2]
      .simp[Qlk]
    .intro g6 a6 w6 I6 wT hs6 hf6;have J6:=J5.next I6 wT hf6
     obtain⟨z1,z2,z3⟩:=Qt0 aP hk;have d4:=QyQ aP hk;generalize Qbh x x[k] x[k].takes.length=ws at*;generalize hS:Qfp ws spB=J at*;have y8:Qfp ws ⟨#[32]⟩=J:=hS;show Code.wpIn _ _ _ (QiP 3 _) _ _ _;refine Qyp (Qw QCp 68 Qlk []) 3 (by rfl) rfl rfl ?_ J6.inv J6.defs rfl rfl ?_
     .rfl
     .have z4:J.size<=100000:=by omega
      have z5:ws.length<=100000:=by omega
      have z6:J.size+1<=9223372036854775807:=by omega
      have z7:(⟨#[10]⟩:ByteArray).size=1:=rfl;simp[QDw,s75,y8,z3,z4,z5,z6,z7,Qcy,Qho];intro g7 a7 w7 I7 wU zN wV;have J7:=J6.next I7 wU wV
      have e8:a7.tmps.getD 7 undef= .pointer (some ⟨b,0,none⟩):=by
       have:=J7.inv.tmps 7 (.d (.v (.pointer (some ⟨b,0,none⟩)))) (by simp[Qt])
       simpa[RelX,Rel]using this
      have e50:a7.tmps.getD 64 undef= .string (J++⟨#[10]⟩):=by
       have:=J7.inv.tmps 64 (.d (.v (.string (J++⟨#[10]⟩)))) (by simp[Qt])
       simpa[RelX,Rel]using this
      have bJ:=QlV aP k (by omega)
      have cI:=QtO b v4 _ (J++⟨#[10]⟩) w7 J7.bld (by rw[strCells_length,ByteArray.size_append,z7]; omega)
      refine Qhl (.inl rfl) ?_ cI ?_
      .simp[execOp,resolve,Deferred.ofValue,invoke,Act.eval,e8,e50]
      .rintro e w8 ⟨rfl,v',uD,nF,pM⟩;refine⟨_,rfl,?_⟩;have J8:=J7.wrote uD nF pM 65 (by decide) (y:= .tuple #[.int .i64 (J++(⟨#[10]⟩:ByteArray)).size,.nilIface])
       rw[<-QpQ]at J8;have kH:Qfh x k++(J++⟨#[10]⟩)=Qfh x (k+1):=by rw[d4]; rfl
       rw[kH]at J8;simp only[Exit.inBlock,Exit.then];refine Qiy (Qw QCp 68 Qlk []) (by kernel_rfl) (by kernel_rfl) J8.inv J8.defs rfl rfl (λ_ _=>rfl) ?_
       have wk:=Qa ((k:Int)+1) (by omega) (by omega)
       refine QsS (e:= .normal) (σ':=⟨[(0,.d (.sl 5 (x.map QQ.enc))),(7,.d (.v (.pointer (some ⟨b,0,none⟩)))),(22,.d (.sl 5 (x.map QQ.enc))),(23,.d (DI x.length)),(24,.d (DI ((k+1:Nat):Int)))],[],[],[]⟩) ?_ ?_
       .simp[Qlk,wk]
       .intro g9 a9 w9 I9 hd9 hs9 hf9;exact⟨g9,v',J8.next I9 hd9 hf9⟩
   .rintro a4 w4 ⟨g4,v4,J4⟩;refine QhV (Qw QCp 68 Qlk []) 1 rfl (by kernel_rfl) (by kernel_rfl) J4.inv J4.defs rfl rfl (λ_ _=>rfl) ?_
    simp[Qeh,Qlk,Qbs];intro g5 a5 w5 I5 wR hs5 wS;have J5:=J4.next I5 wR wS
    simp only[AEx.out,Exit.then,Exit.inBlock,if_true];have e8:a5.tmps.getD 7 undef= .pointer (some ⟨b,0,none⟩):=by
     have:=J5.inv.tmps 7 (.d (.v (.pointer (some ⟨b,0,none⟩)))) (by simp[Qt])
     simpa[RelX,Rel]using this
    refine wpIn_seq ?_;refine wpIn_region_list ?_;unfold wpListIn;rw[if_pos (by simp[Region.wanted])]
    have hbc:strCells (Qfh x x.length)=byteCells (Qfg x).data.toList:=rfl;have hisb:IsBuilder 220 5 w.heap.size b (byteCells (Qfg x).data.toList) w5:=by
     rw[<-hbc];have dS:w5.ownsRow w.heap.size 5 1 v4 (strCells (Qfh x x.length)).length (strCells (Qfh x x.length)):=by
      refine⟨J5.bld.own.1,?_⟩;rcases J5.bld.own.2 with h1 | ⟨gq,bO,f6,h0,q1,q2⟩
      .exact .inl h1
      .exact .inr ⟨gq,bO,f6,h0,(J5.av gq (by rw[h0]; rfl)).2,q2⟩
     rcases J5.bld.blk with h1 | h1
     .exact .inl ⟨iL,v4,h1,dS,J5.bld.ne⟩
     .exact .inr ⟨iL,v4,h1,dS,J5.bld.ne⟩
    refine Qhl (.inl rfl) (f:=127) (args:= #[.pointer (some ⟨b,0,none⟩)]) ?_ (Tryz.Builder_String_any w.heap.size b (Qfg x).data.toList w5 hisb J5.inv.below.size) ?_
    .simp[execOp,resolve,Deferred.ofValue,invoke,Act.eval,e8]
    .rintro e w6 ⟨rfl,hb6⟩;refine⟨_,rfl,?_⟩;unfold wpListIn;rw[if_pos (by simp[Region.wanted])]
     refine Qck (.inl rfl) (v:= .string (Qfg x)) (w':=w6) ?_ ?_
     .have:(a5.put (some 67) (.string ⟨(Qfg x).data.toList.toArray⟩)).tmps.getD 67 undef= .string (Qfg x):=by
       rw[Qcm _ _ _ _ (by rw[J5.inv.size]; decide),if_pos rfl]
      simp[execOp,Act.eval,this]
     unfold wpListIn;rw[if_pos (by simp[Region.wanted])]
     refine Qck (.inl rfl) (v:= .int .i64 0) (w':=w6) rfl ?_;unfold wpListIn;simp only[Exit.then];refine wpIn_ret ?_;subst hQ;have tL:=J5.inv.size;show Leaves _ _ _ _ _ _ _;simp only[Qa0,J5.defs];have g4:∀(y z:Value),((a5.put (some 67) y).put (some 2) z).tmps.getD 2 undef=z:=λy z=>by
      rw[Qcm _ _ _ _ (by rw[QbP,tL]; decide),if_pos rfl]
     have bP:(List.mapM (Qc6 (((a5.put (some 67) (.string ⟨(Qfg x).data.toList.toArray⟩)).put (some 2) (.string (Qfg x))).put (some 3) (.int .i64 0)).tmps) Tryz.f49.results.toList).run Tryz.prog w6= .ok [.string (Qfg x),.int .i64 0] w6:=by
      rw[Tryz.results49];have h1:((((a5.put (some 67) (.string ⟨(Qfg x).data.toList.toArray⟩)).put (some 2) (.string (Qfg x))).put (some 3) (.int .i64 0)).tmps).getD 2 undef= .string (Qfg x):=by
       rw[Qcm _ _ _ _ (by rw[QbP,QbP,tL]; decide),if_neg (by decide),g4]
      have h2:((((a5.put (some 67) (.string ⟨(Qfg x).data.toList.toArray⟩)).put (some 2) (.string (Qfg x))).put (some 3) (.int .i64 0)).tmps).getD 3 undef= .int .i64 0:=by
       rw[Qcm _ _ _ _ (by rw[QbP,QbP,tL]; decide),if_pos rfl]
      simp only[List.mapM_cons,List.mapM_nil,Qc6,h1,h2,Sem.run_bind,Sem.run_pure,Zo]
     obtain⟨v,q1,q2⟩:=QkQ (m:=λb o=>m b o\/False) (r:=[DS (Qfg x),DI 0]) bP (by simp[RelL,Rel])
     refine⟨v,q1,v,λ_ _=>False,rfl,?_,λb o h=>h.elim,?_⟩
     .have h1:=J5.inv.below.below (λk hk=>QeT _ _ k hk);exact h1.trans hb6
     .rw[show QiQ x=(Qfg x,0)from if_pos h];exact q2
  .have h':((Qaf x).2.2 != 0)=true:=bne_iff_ne.2 h;simp[Qeh,Qlk,Qj,QDw,lI,h',QG];intro g' a' w' I';show Q .ret a' w';subst hQ;refine Qdq (Qw QCp 68 Qlk []) I' (r:=[DS ⟨#[]⟩,DI (Qaf x).2.2]) ?_ ?_
   .rw[Tryz.results49]; simp
   .rw[show QiQ x=(⟨#[]⟩,(Qaf x).2.2)from if_neg h]; simp
 .cases hr
theorem QJI (xs:Array Value) (w:World):(callFunc 49 xs).run Tryz.prog w= .ok (.enter 49 xs) w:=by kernel_rfl
end Go.Proofs.YticoemblgkemiaaGreatDoor
