/-
  Small laws of worlds. Conditions: none.
-/
import Derived.WalkSpells
import Derived.WalkLawsBesides
import Derived.Handy
import Derived.BigQuiet
import Derived.Lib.AppendZeros
import Derived.Lib.Walk
import Derived.Test.YtnfeakhkfehkhaaGreatDoorZRefK
set_option linter.unusedSimpArgs false
set_option linter.unusedVariables false
namespace Go.Proofs.YtnfeakhkfehkhaaGreatDoor
open Go.RowKit
theorem Qgr {a b:Bool} (h:a=b):Ending.returned (.bool a)= .returned (.bool b):=by rw[h]
theorem QF1:∃i:TypeInfo,Tryz.prog.info? 3=some i/\i.zero=some (.int .i64 0)/\i.size=1/\i.bytes=8:=by
 have h:(Tryz.prog.info? 3).map (λf=>(f.size,f.bytes,f.zero))=some (1,8,some (.int .i64 0)):=by kernel_rfl
 cases hi:Tryz.prog.info? 3 with
 | none=>rw[hi]at h; cases h
 | some i=>
  rw[hi]at h;simp only[Option.map_some,Zs,Prod.mk.injEq]at h;exact⟨i,rfl,h.2.2,h.1,h.2.1⟩
def Qsg (w:World) (n:Nat):World:=w.drew.alloc (.cells (Builtin.zeroCells #[.int .i64 0] n++Builtin.zeroCells #[.int .i64 0] (grownCap w n 0 3 - n)) 3)
set_option maxRecDepth 100000 in
theorem Qxf (n:Nat) (w:World) (h0:0 < n) (hb:n*8<=281474976710656):Calls Tryz.prog 105 #[.slice none 0 0,.int .i64 n] w λe w'=>e= .returned (.slice (some ⟨w.heap.size,0,none⟩) 0 (grownCap w n 0 3))/\w'=Qsg w n:=by
 obtain⟨i,hi,hz,hs,qR⟩:=QF1;have hr:=Lib.run_append_nil_zeros (P:=Tryz.prog) w 26 3 26 3 i (.int .i64 0) .i64 .i64 Tryz.underlying26 Tryz.underlying3 hi hz n h0 (by omega) (by omega) (by rw[qR]; exact hb)
 have qS:(Value.int IntKind.i64 0).cells= #[.int .i64 0]:=rfl;rw[qS]at hr;have m7:¬(n:Int) < 0:=by omega
 have pA:(0:Int) < n:=by omega
 have hw:IntKind.i64.wrap ((n:Int) - 0)=n:=by rw[Int.sub_zero]; exact IntWalk.i64_in _ ⟨by omega,by omega⟩
 have hge:=grownCap_ge w n 0 3;generalize hC:grownCap w n 0 3=C at*;have hgw:Qsg w n=w.drew.alloc (.cells (Builtin.zeroCells #[.int .i64 0] n++Builtin.zeroCells #[.int .i64 0] (C - n)) 3):=by unfold Qsg; rw[hC]
 go_enter Tryz.func105,Tryz.ntmps105
 go_wp2_with (at_builtin; refine Lib.wpList_append_run _ rfl _ _ _ _ rfl _ _ rfl rfl _ _ hr ?_)
 go_ret
 exact⟨rfl,rfl⟩
set_option maxRecDepth 100000 in
theorem QvO (w:World):Calls Tryz.prog 105 #[.slice none 0 0,.int .i64 0] w λe w'=>e= .returned (.slice none 0 0)/\w'=w:=by
 have hw:IntKind.i64.wrap ((0:Int) - 0)=0:=by decide
 go_enter Tryz.func105,Tryz.ntmps105
 go_wp2_with fail
 go_ret
 exact⟨rfl,rfl⟩
end Go.Proofs.YtnfeakhkfehkhaaGreatDoor
namespace Go.Proofs.YtnfeakhkfehkhaaGreatDoor
open Go.RowKit
def QqZ (r:Nat):List (Nat×Option Nat):=match r with
 | 0=>[(0,none)]
 | 1=>kpn [0,3]
 | 2=>kpn [0,3,9,10,11]
 | 3=>kpn [0,3,9,10,11,12]
 | 4=>kpn [0,3,5,9,10,11]
 | 5=>kpn [0,3,9,10,11]
 | 6=>kpn [0,3,9,10,11,20]
 | 7=>kpn [0,3,9,10,11]
 | 8=>kpn [0,3,9,10,11]
 | 9=>kpn [0,6]
 | 10=>kpn [6,25,26,27]
 | 11=>kpn [6,25,26,27,28]
 | 12=>kpn [6,8,25,26,27]
 | 13=>kpn [6,25,26,27]
 | 14=>kpn [6,25,26,27]
 | 15=>[(2,none)]
 | _=>[]
def Qfz (L:List (List Int)) (k:Nat):Nat:=(L.take k).flatten.length
theorem QtB (L:List (List Int)):Qfz L 0=0:=by simp[Qfz]
theorem Qn0 {L:List (List Int)} {k:Nat} (h:k < L.length):(L.take (k+1)).flatten=(L.take k).flatten++L[k]:=by
 rw[List.take_succ_eq_append_getElem h,List.flatten_append]; simp only[List.flatten_cons,List.flatten_nil,List.append_nil]
theorem Qgm {L:List (List Int)} {k:Nat} (h:k < L.length):Qfz L (k+1)=Qfz L k+L[k].length:=by
 unfold Qfz; rw[Qn0 h,List.length_append]
theorem Qp0 (L:List (List Int)):Qfz L L.length=L.flatten.length:=by unfold Qfz; rw[List.take_length]
theorem Qpo (L:List (List Int)) {k:Nat} :∀j,Qfz L k<=Qfz L (k+j)
 | 0=>Zr _
 | j+1=>by
  have ih:=Qpo L (k:=k) j;by_cases h:k+j < L.length
  .have:=Qgm h;rw[show k+(j+1)=k+j+1 by omega]; omega
  .have e:Qfz L (k+(j+1))=Qfz L (k+j):=by
    unfold Qfz;rw[List.take_of_length_le (by omega),List.take_of_length_le (by omega)]
   omega
def CcB (W:World) (g:Gh) (w:World) (base:Option Addr) (C T:Nat) (fl:List Int):Prop:=
 T<=C/\(T=0\/∃(blk:Nat) (cs:Array Value),base=some ⟨blk,0,none⟩/\W.heap.size<=blk/\blk < w.heap.size/\Away g blk/\w.heap[blk]?=some (.cells cs 3 (0,0))/\T<=cs.size/\∀(j:Nat) (x:Int),fl[j]?=some x->cs[j]?=some (.int .i64 x))
theorem CcB.next {W:World} {g g':Gh} {w w':World} {base:Option Addr} {C T:Nat} {fl:List Int} (h:CcB W g w base C T fl) (hs:w.heap.size<=w'.heap.size) (hf:∀b,b < w.heap.size->Away g b->Away g' b/\w'.heap[b]?=w.heap[b]?):CcB W g' w' base C T fl:=by
 refine⟨h.1,h.2.imp id ?_⟩;rintro⟨blk,cs,h1,h2,h3,h4,h5,h6,h7⟩;obtain⟨k1,k2⟩:=hf blk h3 h4;exact⟨blk,cs,h1,h2,by omega,k1,k2.trans h5,h6,h7⟩
theorem QyU (xs:Array Value) (w:World):(callFunc 66 xs).run Tryz.prog w= .ok (.enter 66 xs) w:=by kernel_rfl
theorem QB3 {P:Program} {fn:Func} {t:Nat} {tm:Array Value} {w:World} (h:fn.results.toList=[.tmp t]):(results fn tm).run P w= .ok (tm.getD t undef) w:=by
 have gP:(fn.results.mapM (QcN tm)).run P w= .ok [tm.getD t undef].toArray w:=by
  rw[Array.mapM_eq_mapM_toList,Sem.run_map,h];simp only[List.mapM_cons,List.mapM_nil,QcN,Sem.run_bind,Sem.run_pure,Zo]
 have hR:results fn tm=(fn.results.mapM (QcN tm) >>=λvs=>pure (if h:vs.size=1 then vs[0]else .tuple vs)):=rfl;rw[hR,Sem.run_bind,gP]; rfl
def s66:List D->Option D:=sp1 (Qy rLi) (Qy Qt) λL=>if L.length<=1000/\L.flatten.length<=35184372088832 then some L.flatten else none
set_option maxHeartbeats 2000000 in
theorem ok66:∀ds d,s66 ds=some d->PureC Tryz.prog 66 ds d:=Qb2 λL r hr=>by
 split at hr
 .rename_i hc;obtain⟨hL,hT⟩:=hc;cases hr;have cS:=QE QB 36 QqZ [];have htk:∀k,k<=L.length->Qfz L k<=35184372088832:=λk hk=>by
   have:=Qpo L (k:=k) (L.length - k);rw[show k+(L.length - k)=L.length by omega,Qp0]at this
   omega
  have qU:=Qp0 L;generalize hTT:L.flatten.length=T at*;generalize fG:(Qy Qt).enc L.flatten=dd;refine QdD Tryz.func66 rfl rfl (Zb rfl) λm w a I tV=>?_;refine QgG cS 2 _ rfl (by kernel_rfl) (by kernel_rfl) (λ_ _=>rfl) _ _ _ _ I ?_
  simp[QeQ,QqZ,Qba]
  (generalize aC:Cx.loop _ _ _=aE; apply Qc2 aC (λk=>⟨[(0,.d (.sl 1 (L.map rLi.enc))),(3,.d (DI ((Qfz L k:Nat):Int))),(9,.d (.sl 1 (L.map rLi.enc))),(10,.d (DI L.length)),(11,.d (DI k))],[],[],[]⟩) L.length (by first | (simp; done) | (simp; rfl) | (simp[*]; done) | (simp; simp[*])); rotate_left; (show _ < 281474976710656; omega); (exact λh=>h); rotate_left; all_goals clear aC)
  .intro k hk;have bB:(k:Int) < L.length:=by omega
   have w1:=Qa ((k:Int)+1) (by omega) (by omega)
   have h1:=htk (k+1) hk;rw[Qgm hk]at h1|-;have w2:=Qa ((Qfz L k:Int)+(L[k].length:Int)) (by omega) (by omega)
   have hn:¬((Qfz L k:Int)+(L[k].length:Int) < 0):=by omega
   simp[QqZ,Qad,hk,bB,w1,w2,hn]
  .rw[qU];simp[QqZ,QT];intro g1 a1 w1 I1;show Code.wpIn _ _ _ (Qon 2 _) _ _ _;refine wpIn_seq ?_;refine QtV cS 1 (by rfl) rfl rfl (by simp[Qan,QcP]) I1 I1.deferred rfl rfl ?_
   simp[QhJ];intro g2 a2 w2 I2 iH kB lD;have nT:w.heap.size<=w2.heap.size:=I2.below.size;have e23:a2.tmps.getD 23 undef= .int .i64 T:=by
    have:=I2.tmps 23 (.d (DI T)) (by simp[Qv])
    simpa[RelX,Rel]using this
   have hgo:∃R:Ending->World->Prop,Calls Tryz.prog 105 #[.slice none 0 0,.int .i64 T] w2 R/\∀e w3,R e w3->∃base C,e= .returned (.slice base 0 C)/\Below w2.heap.size w2 w3/\(T<=C)/\(T=0\/∃cs,base=some ⟨w2.heap.size,0,none⟩/\w2.heap.size < w3.heap.size/\w3.heap[w2.heap.size]?=some (.cells cs 3 (0,0))/\T<=cs.size):=by
    by_cases h0:T=0
    .rw[h0];exact⟨_,QvO w2,λe w3 ⟨h1,h2⟩=>⟨none,0,h1,by rw[h2]; exact Below.refl _ _,Zr _,.inl rfl⟩⟩
    .refine⟨_,Qxf T w2 (by omega) (by omega),λe w3 ⟨h1,h2⟩=>⟨_,_,h1,?_,grownCap_ge w2 _ 0 3,.inr ⟨Builtin.zeroCells #[.int .i64 0] T++Builtin.zeroCells #[.int .i64 0] (grownCap w2 T 0 3 - T),rfl,?_,?_,?_⟩⟩⟩
     .rw[h2]; unfold Qsg;exact((Below.refl _ w2).drew).alloc (Zr _) _
     .rw[h2]; unfold Qsg; simp
     .rw[h2]; unfold Qsg; exact QaZ _ _
     .rw[Array.size_append,size_zeroCells]; simp
   obtain⟨R,hR1,hR2⟩:=hgo;refine Qg2 (.inl rfl) ?_ hR1 ?_
   .simp[execOp,resolve,Deferred.ofValue,invoke,Act.eval,e23]
   .intro e w3 hR;obtain⟨base,C,rfl,tW,hC,eA⟩:=hR2 e w3 hR;refine⟨_,rfl,?_⟩;have I3:=(I2.later tW).put (d:=some 24) (λx hx=>by cases hx; decide) (x:= .d (.v (.slice base 0 C))) (v:= .slice base 0 C) (by simp[RelX,Rel])
    have hB3:CcB w g2 w3 base C T (L.take 0).flatten:=by
     refine⟨hC,eA.imp id ?_⟩;rintro⟨cs,r1,r2,r3,r4⟩;exact⟨w2.heap.size,cs,r1,nT,r2,I2.awayNew (Zr _),r3,r4,λj x hx=>by simp at hx⟩
    have tX:(a2.put (some 24) (.slice base 0 C)).defers=[]:=by rw[QaC]; exact iH
    refine QpZ (id:=9) cS 2 rfl (by simp[Qan,QcP]) I3 tX rfl rfl ?_
    simp[QqZ,QhJ];intro g4 a4 w4 I4 hd4 hs4 zQ;have hB4:=hB3.next hs4 zQ
    show Code.wpIn _ _ _ _ _ _ _;refine wpIn_seq (wpIn_seq ?_);refine Qhr cS (by kernel_rfl) (by kernel_rfl) I4 hd4 rfl rfl (λ_ _=>rfl) ?_
    simp[QqZ,Qa4];intro g5 a5 w5 I5 tY zR tZ;have hB5:=hB4.next zR tZ
    have hT2:∀k,k<=L.length->Qfz L k<=T:=λk hk=>by
     have:=Qpo L (k:=k) (L.length - k);rw[show k+(L.length - k)=L.length by omega,qU]at this
     exact this
    refine wpIn_block (QnA (λk a w'=>∃g base C,Inv 36 m (Qdz w []) g ⟨[(6,.d (.v (.slice base (Qfz L k) C))),(25,.d (.sl 1 (L.map rLi.enc))),(26,.d (DI L.length)),(27,.d (DI k))],[],[],[]⟩ a w'/\a.defers=[]/\CcB w g w' base C T (L.take k).flatten) L.length ?_ ?_ ⟨g5,base,C,by rw[QtB]; exact I5,tY,hB5⟩)
    .rintro k hk a6 w6 ⟨g6,base,C,I6,t6,zS⟩;have eQ:(k:Int) < L.length:=by omega
     have wk:=Qa ((k:Int)+1) (by omega) (by omega)
     refine QgO cS 1 rfl (by kernel_rfl) (by kernel_rfl) I6 t6 rfl rfl (λ_ _=>rfl) ?_
     simp[QeQ,QqZ,eQ,Qa4];intro g7 a7 w7 I7 t7 hs7 t8;have x9:=zS.next hs7 t8
     show Code.wpIn _ _ _ (Qon 1 _) _ _ _;refine wpIn_seq (wpIn_block (wpIn_seq ?_));refine Qhr cS (by kernel_rfl) (by kernel_rfl) I7 t7 rfl rfl (λ_ _=>rfl) ?_
     simp[QqZ,Qad,hk,eQ,Qa4];intro g8 a8 w8 I8 zT zU zV;have hB8:=x9.next zU zV
     show Code.wpIn _ _ _ _ _ _ _;refine QtV cS 2 (by rfl) rfl rfl (by simp[Qan,QcP]) I8 zT rfl rfl ?_
     simp[QhJ];intro g9 a9 w9 I9 zW hs9 zX;have zY:=hB8.next hs9 zX
     have e31:a9.tmps.getD 31 undef= .slice base (Qfz L k) C:=by
      have:=I9.tmps 31 (.d (.v (.slice base (Qfz L k) C))) (by simp[Qv])
      simpa[RelX,Rel]using this
     have e32:=I9.tmps 32 (.d (.sl Qt.k (L[k].map Qt.enc))) (by simp[Qv])
     simp only[RelX,Rel]at e32;obtain⟨_,xa,xc,yA,yB,bG⟩:=e32;rw[List.length_map]at yA;obtain⟨i3,hi3,hz3,yC,hby3⟩:=QF1;have hmT:Qfz L k+L[k].length<=T:=by rw[<-Qgm hk]; exact hT2 (k+1) hk
     have hTC:=zY.1;have fD:∃(w10:World) (q:Nat->Prop),(Builtin.append_ #[26,26] 26 #[.slice base (Qfz L k) C,.slice xa L[k].length xc]).run Tryz.prog w9= .ok (.slice base (Qfz L (k+1)) C) w10/\KeepsW w9 q w10/\KeepN w9 w10/\(∀b,q b->w.heap.size<=b/\Away g9 b)/\CcB w g9 w10 base C T (L.take (k+1)).flatten:=by
      have lM:(L.take k).flatten.length=Qfz L k:=rfl;rw[Qn0 hk,Qgm hk];by_cases pB:L[k].length=0
      .have kQ:L[k]=[]:=List.length_eq_zero_iff.1 pB;rw[pB,kQ,Nat.add_zero,List.append_nil];exact⟨w9,λ_=>False,Qde (P:=Tryz.prog) Tryz.underlying26 hi3 26 base xa (Qfz L k) C xc (by omega) w9,KeepsW.refl _ _,KeepN.refl _,λb h=>h.elim,zY⟩
      .obtain⟨blk,cs,rfl,aG,aR,uA,iI,bP,aW⟩:=zY.2.resolve_left (by omega)
       have aS:¬L[k].map Qt.enc=[]:=λh=>pB (by rw[<-List.length_map (f:=Qt.enc),h]; rfl)
       obtain⟨xb,xo,rfl,jO⟩:=bG.resolve_left aS;obtain⟨aJ,n1,n2,n3,n4⟩:=Qcq jO;rw[List.length_map,Qg,Nat.mul_one]at n1;have pC:=Qdd (P:=Tryz.prog) (w:=w9) Tryz.underlying26 hi3 26 3 blk 0 (Qfz L k) C cs iI ⟨xb,xo,none⟩ L[k].length xc aJ (by rw[yC,n1,Nat.mul_one]) (λj u hj=>by rw[QaB]; exact(n2 j u hj).2.1) (λu hu=>by
        obtain⟨q,hq,rfl⟩:=List.getElem_of_mem hu;exact(n2 q _ (Zg hq)).2.2) (by omega) (by rw[yC,n1]; omega)
       rw[yC,Nat.mul_one,Nat.zero_add,n1]at pC;have cJ:∀(j:Nat) (x:Int),L[k][j]?=some x->aJ[j]?=some (.int .i64 x):=λj x hx=>by
        have aO:j < L[k].length:=(Zi.1 hx).1;have hfj:(L[k].map Qt.enc).flatten[j]?=some (DI x):=by
         have e:(L[k].map Qt.enc).flatten=L[k].map DI:=by
          clear hx aO aS bG jO n3 n4 pB
          induction L[k]with
          | nil=>rfl
          | cons a t ih=>simp only[List.map_cons,List.flatten_cons,ih]; rfl
         rw[e,List.getElem?_map,hx]; rfl
        obtain⟨v,h1,h2⟩:=n3.get j _ hfj;simp only[Rel]at h2;rw[h1,h2]
       refine⟨_,λb=>b=blk,pC,⟨rfl,rfl,rfl,by simp,λb hb hq=>setRow_other w9 blk b _ hq⟩,KeepN.of_cells (λb=>b=blk) (λb hb hq=>setRow_other w9 blk b _ hq) (λb hb=>⟨cs,3,(0,0),by rw[hb]; exact iI⟩),λb hb=>by subst hb; exact⟨aG,uA⟩,hTC,.inr ⟨blk,_,rfl,aG,by simpa using aR,uA,setRow_heap w9 blk cs _ 3 (0,0) iI,?_,λj x hx=>?_⟩⟩
       .simp; omega
       .have aX:Qfz L k<=cs.toList.length:=by rw[Array.length_toList]; omega
        rw[List.getElem?_toArray,List.append_assoc];rw[List.getElem?_append]at hx|-;rw[List.length_take,Nat.min_eq_left aX];rw[lM]at hx;by_cases m8:j < Qfz L k
        .rw[if_pos m8]at hx|-;rw[List.getElem?_take,if_pos m8];simpa using aW j x hx
        .rw[if_neg m8]at hx|-;have aO:j - Qfz L k < L[k].length:=(Zi.1 hx).1;rw[List.getElem?_append,if_pos (by omega)]
         exact cJ _ x hx
     obtain⟨w10,q,aH,zZ,kR,hq,z8⟩:=fD;have I10:=I9.laterA zZ kR hq;refine Qcl (.inl rfl) (v:= .slice base (Qfz L (k+1)) C) (w':=w10) ?_ ?_
     .simp[execOp,resolve,invoke,builtin,Act.eval,e31,yA,aH]
     have I11:=I10.put (d:=some 33) (λx hx=>by cases hx; decide) (x:= .d (.v (.slice base (Qfz L (k+1)) C))) (v:= .slice base (Qfz L (k+1)) C) (by simp[RelX,Rel])
     have hd11:(a9.put (some 33) (.slice base (Qfz L (k+1)) C)).defers=[]:=by rw[QaC]; exact zW
     refine QpZ (id:=13) cS 3 rfl (by simp[Qan,QcP]) I11 hd11 rfl rfl ?_
     simp[QqZ,QhJ];intro g12 a12 w12 I12 hd12 hs12 hf12;have hB12:=z8.next hs12 hf12
     simp only[Exit.inBlock,Exit.then];refine Qhr cS (by kernel_rfl) (by kernel_rfl) I12 hd12 rfl rfl (λ_ _=>rfl) ?_
     simp[QqZ,wk,Qa4];intro g13 a13 w13 I13 hd13 hs13 hf13;exact⟨g13,base,C,I13,hd13,hB12.next hs13 hf13⟩
    .rintro a6 w6 ⟨g6,base,C,I6,t6,zS⟩;refine QgO cS 1 rfl (by kernel_rfl) (by kernel_rfl) I6 t6 rfl rfl (λ_ _=>rfl) ?_
     simp[QeQ,QqZ,Qa4];intro g7 a7 w7 I7 t7 hs7 t8;have x9:=zS.next hs7 t8
     simp only[AEx.out,Exit.then,Exit.inBlock,if_true];rw[qU]at I7;rw[List.take_length]at x9;refine Qhr cS (by kernel_rfl) (by kernel_rfl) I7 t7 rfl rfl (λ_ _=>rfl) ?_
     simp[QqZ,Qa4];intro g8 a8 w8 I8 zT zU zV;have hB8:=x9.next zU zV
     subst fG;show Leaves Tryz.prog Tryz.f66 a8.tmps (RetR m w _) a8.defers .returning w8;rw[zT];have e2:a8.tmps.getD 2 undef= .slice base T C:=by
      have:=I8.tmps 2 (.d (.v (.slice base T C))) (by simp[Qv])
      simpa[RelX,Rel]using this
     have uB:=I8.below.below (λk hk=>Qd8 _ _ k hk);have uC:=QB3 (P:=Tryz.prog) (fn:=Tryz.f66) (t:=2) (tm:=a8.tmps) (w:=w8) rfl;rw[e2]at uC;refine⟨_,uC,?_⟩;have s7:(L.flatten.map Qt.enc).length=T:=by rw[List.length_map,hTT]
     rcases hB8.2 with h0 | ⟨blk,cs,rfl,aG,aR,uA,iI,bP,aW⟩
     .refine⟨_,λ_ _=>False,rfl,uB,λb o h=>h.elim,?_⟩;have kQ:L.flatten=[]:=List.length_eq_zero_iff.1 (by rw[hTT,h0])
      rw[Qbk,kQ,h0];simp[Rel]
     .refine⟨_,λb o=>b=blk,rfl,uB,λb o h=>by subst h; exact⟨aG,aR⟩,?_⟩
      rw[Qbk];simp only[Rel];refine⟨by rw[s7]; omega,some ⟨blk,0,none⟩,C,by rw[s7],by rw[s7]; exact hB8.1,.inr ⟨blk,0,rfl,RelRows.of λi r hr=>?_⟩⟩
      rw[List.getElem?_map]at hr;obtain⟨x,hx,rfl⟩:=Option.map_eq_some_iff.1 hr;refine⟨rfl,RelCells.of λj d hj=>?_⟩;cases j with
      | succ j=>simp[Qc]at hj
      | zero=>
       simp only[Qc,List.getElem?_cons_zero,Zs]at hj;subst hj;refine⟨.int .i64 x,.inr rfl,?_,rfl,by simp[Rel]⟩
       have hc:=aW i x hx;have:=Qds blk (0+i*Qt.k+0) 0 cs 3 iI;rw[Qg]at this|-;simpa[hc]using this
 .cases hr
end Go.Proofs.YtnfeakhkfehkhaaGreatDoor
namespace Go.Proofs.YtnfeakhkfehkhaaGreatDoor
open Go.RowKit
def Qcm:List UInt8->Int->Bool
 | [],bT=>!(bT==45)
 | x::t,bT=>if(x.toNat:Int)=45 then(if bT=45 then false else Qcm t 45)
   else if(x.toNat:Int) < 97\/122 < (x.toNat:Int)then false else Qcm t x.toNat
def Qm4 (s:ByteArray):Bool:=Qcm s.data.toList 45&&decide (s.size<=20)
theorem QtM (s:ByteArray) (bT:Int) (hl:¬bT=45) (h:Qcm [] bT=Qcm s.data.toList 45):(bT != 45&&decide ((s.size:Int)<=20))=Qm4 s:=by
 have h1:(bT==45)=false:=by simpa using hl
 rw[Qm4,<-h];simp[Qcm,bne,h1]
 try omega
theorem QBs (s:ByteArray) (k:Nat) (h:k < s.size):s.data.toList.drop k=s[k]::s.data.toList.drop (k+1):=by
 rw[List.drop_eq_getElem_cons (by simpa using h)]; rfl
theorem Qw4 (s:ByteArray) (k:Nat) (h:¬k < s.size):s.data.toList.drop k=[]:=by
 apply List.drop_eq_nil_of_le; simp; omega
theorem QdB (w:World) (s:ByteArray) (k:Nat):Below w.heap.size w (w.iter s k):=(Below.refl _ w).alloc (Zr _) _
theorem QBX {P:Program} (w:World) (s:ByteArray) (k:Nat) (h:k < s.size):
  ∃(r:Int) (p:Nat),(∀ty,(Instr.next (.pointer (some ⟨w.heap.size,0,none⟩)) true ty).run P (w.iter s k)= .ok (.tuple #[.bool true,.int .i64 k,.int .i32 r]) (w.iter s p))/\
   ((r=(s[k].toNat:Int)/\p=k+1)\/(128<=r/\128<=(s[k].toNat:Int))):=by
 by_cases ha:s[k].toNat < 128
 .exact⟨_,_,λty=>run_next_ascii w s k ty h ha,.inl ⟨rfl,rfl⟩⟩
 .have hd:=decode_high s k h (by omega)
  exact⟨_,_,λty=>run_next_any w s k ty h,.inr ⟨by omega,by omega⟩⟩
theorem Qxr (s:ByteArray) (w:World) (hs:s.size<=140737488355328):
  Calls Tryz.prog 89 #[.string s] w λe w'=>e= .returned (.bool (Qm4 s))/\Below w.heap.size w w':=by
 go_enter Tryz.func89,Tryz.ntmps89
 go_wp2
 go_loopw [3] (λc wr=>∃(k:Nat) (bT:Int),wr=w.iter s k/\k<=s.size/\c= .int .i32 bT/\Qcm (s.data.toList.drop k) bT=Qcm s.data.toList 45) (λ_ wr=>s.size - wr.iterPos w.heap.size)
 case atStart=>exact⟨0,45,rfl,by omega,rfl,rfl⟩
 case round=>
  obtain⟨k,bT,rfl,hk,rfl,hn⟩:=hrel;by_cases hp:k < s.size
  .obtain⟨r,p,kC,hr⟩:=QBX (P:=Tryz.prog) w s k hp;rw[QBs s k hp]at hn;have dV:(r=45/\bT=45)\/(¬r=45/\(r < 97\/122 < r))->Qm4 s=false:=by
    intro h;have:Qcm s.data.toList 45=false:=by
     rw[<-hn];rcases hr with⟨rfl,rfl⟩ | ⟨h1,h2⟩
     .rcases h with⟨h3,h4⟩ | ⟨h3,h4⟩
      .simp only[Qcm]; rw[if_pos h3,if_pos h4]
      .simp only[Qcm]; rw[if_neg h3,if_pos h4]
     .simp only[Qcm]; rw[if_neg (by omega),if_pos (by omega)]
    simp[Qm4,this]
   have hgo:¬((r=45/\bT=45)\/(¬r=45/\(r < 97\/122 < r)))->p=k+1/\Qcm (s.data.toList.drop (k+1)) r=Qcm s.data.toList 45:=by
    intro h;rcases hr with⟨rfl,rfl⟩ | ⟨h1,h2⟩
    .refine⟨rfl,?_⟩;rw[<-hn];simp only[Qcm];by_cases h3:(s[k].toNat:Int)=45
     .rw[if_pos h3,if_neg (by omega),h3]
     .rw[if_neg h3,if_neg (by omega)]
    .omega
   have H_hn:=Lib.hid hn; clear hn; have H_hfin:=Lib.hid dV; clear dV; have H_hgo:=Lib.hid hgo; clear hgo; have H_hr:=Lib.hid hr; clear hr;by_cases h45:r=45
   .subst h45;by_cases hl:bT=45
    .subst hl
     go_wp2
     go_ret
     exact⟨Qgr (H_hfin.out (by simp)).symm,QdB _ _ _⟩
    .have hl':(bT==45)=false:=by simpa using hl
     go_wp2
     go_roundw
     obtain⟨rfl,h2⟩:=H_hgo.out (by omega)
     case rel=>exact⟨k+1,45,rfl,by omega,rfl,h2⟩
     case measure=>obtain⟨rfl,h2⟩:=H_hgo.out (by omega); simp; omega
   .have h45':(r==45)=false:=by simpa using h45
    by_cases h97:r < 97
    .go_wp2
     go_ret
     exact⟨Qgr (H_hfin.out (by omega)).symm,QdB _ _ _⟩
    .by_cases uD:122 < r
     .go_wp2
      go_ret
      exact⟨Qgr (H_hfin.out (by omega)).symm,QdB _ _ _⟩
     .go_wp2
      go_roundw
      case rel=>obtain⟨rfl,h2⟩:=H_hgo.out (by omega); exact⟨k+1,r,rfl,by omega,rfl,h2⟩
      case measure=>obtain⟨rfl,h2⟩:=H_hgo.out (by omega); simp; omega
  .have kC:∀ty,(Instr.next (.pointer (some ⟨w.heap.size,0,none⟩)) true ty).run Tryz.prog (w.iter s k)=_:=λty=>run_next_end w s k ty hp
   rw[Qw4 s k hp]at hn;have H_hn:=Lib.hid hn; clear hn;by_cases hl:bT=45
   .subst hl
    go_wp2
    go_ret
    exact⟨Qgr (by rw[Qm4,<-H_hn.out]; rfl),QdB _ _ _⟩
   .have hl':(bT==45)=false:=by simpa using hl
    go_wp2
    go_ret
    exact⟨Qgr (QtM s bT hl H_hn.out),QdB _ _ _⟩
def QGK (r:Nat):List (Nat×Option Nat):=match r with
 | 0=>kpn [0,1,2]
 | 1=>[(4,none)]
 | _=>[]
def Qww (r:Nat):List (Nat×Option Nat):=match r with
 | 0=>kpn [0,1]
 | 1=>kpn [0,1,7,8]
 | 2=>kpn [0,1,7,8,9]
 | 3=>kpn [0,1,5,7,8]
 | 4=>kpn [0,1,5,7,8,16]
 | 5=>[(4,none)]
 | 6=>kpn [0,1,7,8]
 | 7=>[(4,none)]
 | _=>[]
def kp52 (r:Nat):List (Nat×Option Nat):=match r with
 | 0=>[(0,none)]
 | 1=>[(2,none)]
 | _=>[]
def kp87 (r:Nat):List (Nat×Option Nat):=match r with
 | 0=>kpn [0,1]
 | 1=>[(4,none)]
 | _=>[]
def kp48 (r:Nat):List (Nat×Option Nat):=match r with
 | 0=>kpn [2,3,4]
 | 1=>[(6,none)]
 | _=>[]
def Qw3 {α:Type} (p:α->Bool) (l:List α):Int:=match l.findIdx? p with | some k=>(k:Int) | none=> -1
theorem QdS {α:Type} (p:α->Bool) (l:List α):(Qw3 p l= -1/\l.any p=false/\∀k (h:k < l.length),p l[k]=false)\/∃k,∃h:k < l.length,Qw3 p l=k/\l.any p=true/\p l[k]=true/\∀j (hj:j < l.length),j < k->p l[j]=false:=by
 unfold Qw3;cases h:l.findIdx? p with
 | none=>
  have:=List.findIdx?_eq_none_iff.1 h;refine .inl ⟨rfl,?_,λk hk=>this _ (Ze hk)⟩;rw[List.any_eq_false];intro x hx;simp[this x hx]
 | some k=>
  obtain⟨h1,h2,h3⟩:=List.findIdx?_eq_some_iff_getElem.1 h;refine .inr ⟨k,h1,rfl,?_,h2,λj hj tA=>?_⟩
  .rw[Zy]; exact⟨_,Ze h1,h2⟩
  .have:=h3 j tA;simpa using this
def Quy:Cod Int:=⟨λn=> .dat 1 [[DI n]] 0 0,λd=>match d with | .dat 1 [[.v (.int .i64 n)]] 0 0=>some n | _=>none,λd x h=>by
 split at h
 .cases h; exact DImp.refl _
 .cases h⟩
inductive Prd where
 | out (lo hi:Int)
 | neg
def Prd.is:Prd->Int->Bool
 | .out lo hi,n=>!inR n lo hi
 | .neg,n=>decide (n < 0)
def Prd.enc:Prd->D
 | .out lo hi=> .fn 88 [] [.dat 1 [[DI lo]] 0 0,.dat 1 [[DI hi]] 0 0]
 | .neg=> .v (.func (.func 52) #[] #[])
def QGh (f:Nat):Value->Bool
 | .func (.func g) a b=>g==f&&a.isEmpty&&b.isEmpty
 | _=>false
theorem QvG {f:Nat} {v:Value} (h:QGh f v=true):v= .func (.func f) #[] #[]:=by
 unfold QGh at h;split at h
 .rename_i g a b;simp only[Za,beq_iff_eq,Array.isEmpty_iff]at h;obtain⟨⟨rfl,rfl⟩,rfl⟩:=h; rfl
 .cases h
def QCs:Cod Prd:=⟨Prd.enc,λd=>match d with
 | .fn 88 [] [.dat 1 [[.v (.int .i64 a)]] 0 0,.dat 1 [[.v (.int .i64 b)]] 0 0]=>some (.out a b)
 | .v v=>if QGh 52 v=true then some .neg else none
 | _=>none,λd x h=>by
 split at h
 .cases h; exact DImp.refl _
 .split at h
  .rename_i hf;cases h;rw[QvG hf]; exact DImp.refl _
  .cases h
 .cases h⟩
theorem QgT (n:Int):Quy.enc n= .dat 1 [[DI n]] 0 0:=rfl
theorem Qgd (n:Int):Quy.dec (.dat 1 [[DI n]] 0 0)=some n:=rfl
theorem QqY (p:Prd):QCs.enc p=p.enc:=rfl
theorem Qx3 (a b:Int):QCs.dec (.fn 88 [] [.dat 1 [[DI a]] 0 0,.dat 1 [[DI b]] 0 0])=some (.out a b):=rfl
theorem QwD:QCs.dec (.v (.func (.func 52) #[] #[]))=some .neg:=rfl
theorem QCj (p:Prd):QCs.dec p.enc=some p:=by cases p<;>rfl
def s88:List D->Option D:=sp3 Qbh Quy Quy QaI λn lo hi=>some (!inR n lo hi)
theorem ok88:∀ds d,s88 ds=some d->PureC Tryz.prog 88 ds d:=QcG λn lo hi r hr=>by
 cases hr;refine Qm (QE QB 13 QGK []) Tryz.func88 rfl rfl (Zb rfl) (by kernel_rfl) ?_
 rw[Tryz.results88];unfold inR;by_cases h:n < lo
 .have h':¬lo<=n:=by omega
  simp[QGK,QgT,h,h']
 .have h':lo<=n:=by omega
  by_cases h2:hi < n
  .have h2':¬n<=hi:=by omega
   simp[QGK,QgT,h,h',h2,h2']
  .have h2':n<=hi:=by omega
   simp[QGK,QgT,h,h',h2,h2']
theorem QEj (xs:Array Value) (w:World):(callFunc 88 xs).run Tryz.prog w= .ok (.enter 88 xs) w:=by kernel_rfl
def s52:List D->Option D:=sp1 Qbh QaI λn=>some (decide (n < 0))
theorem ok52:∀ds d,s52 ds=some d->PureC Tryz.prog 52 ds d:=Qb2 λn r hr=>by
 cases hr;refine Qm (QE QB 5 kp52 []) Tryz.func52 rfl rfl (Zb rfl) (by kernel_rfl) ?_
 rw[Tryz.results52];simp[kp52]
theorem QD3 (xs:Array Value) (w:World):(callFunc 52 xs).run Tryz.prog w= .ok (.enter 52 xs) w:=by kernel_rfl
def p1:List (Nat×(List D->Option D)):=[(88,s88),(52,s52)]
theorem dp1:Qay Tryz.prog (Qas p1):=Ql (Ql QB QD3 ok52) QEj ok88
def s51:List D->Option D:=sp2 (Qy Qt) QCs Qbh λl p=>if l.length<=35184372088832 then some (Qw3 p.is l)else none
set_option maxHeartbeats 1000000 in
theorem ok51:∀ds d,s51 ds=some d->PureC Tryz.prog 51 ds d:=QaR λl p r hr=>by
 split at hr
 .rename_i nU;cases hr;refine Qm (QE dp1 19 Qww []) Tryz.func51 rfl rfl (Zb rfl) (by kernel_rfl) ?_
  rw[Tryz.results51];simp[Qww,QqY];rcases QdS p.is l with⟨e1,_,hall⟩ | ⟨k,hk,e1,_,aL,aM⟩
  .rw[e1]
   (generalize aC:Cx.loop _ _ _=aE; apply Qi aC (λk=>⟨[(0,.d (.sl 1 (l.map Qt.enc))),(1,.d p.enc),(7,.d (DI l.length)),(8,.d (DI k))],[],[],[]⟩) l.length (by first | (simp; done) | (simp; rfl) | (simp; simp[*])); rotate_left; (show _ < 281474976710656; omega); rfl; rotate_left; all_goals clear aC)
   .intro j hj;have w1:=Qa ((j:Int)+1) (by omega) (by omega)
    have aO:(j:Int) < l.length:=by omega
    have hn:=hall j hj;cases p with
    | out lo hi=>
     have jI:inR l[j] lo hi=true:=by simpa[Prd.is]using hn
     simp[Qww,p1,s88,Qgd,Prd.enc,hj,aO,jI,w1]
    | neg=>
     have jI:¬l[j] < 0:=by simpa[Prd.is]using hn
     simp[Qww,p1,s52,Prd.enc,hj,aO,jI,w1]
   .simp[Qww]
  .rw[e1]
   (generalize aC:Cx.loop _ _ _=aE; apply Qi aC (λk=>⟨[(0,.d (.sl 1 (l.map Qt.enc))),(1,.d p.enc),(7,.d (DI l.length)),(8,.d (DI k))],[],[],[]⟩) k (by first | (simp; done) | (simp; rfl) | (simp; simp[*])); rotate_left; (show _ < 281474976710656; omega); rfl; rotate_left; all_goals clear aC)
   .intro j cM;have hj:j < l.length:=by omega
    have w1:=Qa ((j:Int)+1) (by omega) (by omega)
    have aO:(j:Int) < l.length:=by omega
    have hn:=aM j hj cM;cases p with
    | out lo hi=>
     have jI:inR l[j] lo hi=true:=by simpa[Prd.is]using hn
     simp[Qww,p1,s88,Qgd,Prd.enc,hj,aO,jI,w1]
    | neg=>
     have jI:¬l[j] < 0:=by simpa[Prd.is]using hn
     simp[Qww,p1,s52,Prd.enc,hj,aO,jI,w1]
   .have bB:(k:Int) < l.length:=by omega
    cases p with
    | out lo hi=>
     have jI:inR l[k] lo hi=false:=by simpa[Prd.is]using aL
     simp[Qww,p1,s88,Qgd,Prd.enc,hk,bB,jI]
    | neg=>
     have jI:l[k] < 0:=by simpa[Prd.is]using aL
     simp[Qww,p1,s52,Prd.enc,hk,bB,jI]
 .cases hr
theorem Qzj (xs:Array Value) (w:World):(callFunc 51 xs).run Tryz.prog w= .ok (.enter 51 xs) w:=by kernel_rfl
theorem Qqr {α:Type} (p:α->Bool) (l:List α):decide (0<=Qw3 p l)=l.any p:=by
 rcases QdS p l with⟨e1,e2,_⟩ | ⟨k,hk,e1,e2,_⟩
 .rw[e1,e2]; rfl
 .rw[e1,e2]; simp
def p2:List (Nat×(List D->Option D)):=(51,s51)::p1
theorem dp2:Qay Tryz.prog (Qas p2):=Ql dp1 Qzj ok51
def s87:List D->Option D:=sp2 (Qy Qt) QCs QaI λl p=>if l.length<=35184372088832 then some (l.any p.is)else none
theorem ok87:∀ds d,s87 ds=some d->PureC Tryz.prog 87 ds d:=QaR λl p r hr=>by
 split at hr
 .rename_i nU;cases hr;refine Qm (QE dp2 9 kp87 []) Tryz.func87 rfl rfl (Zb rfl) (by kernel_rfl) ?_
  rw[Tryz.results87];have hp:=Qqr p.is l;rw[<-hp];simp[kp87,p2,s51,QqY,QCj,Qg,QQ,nU]
 .cases hr
theorem QD7 (xs:Array Value) (w:World):(callFunc 87 xs).run Tryz.prog w= .ok (.enter 87 xs) w:=by kernel_rfl
def p3:List (Nat×(List D->Option D)):=(87,s87)::p2
theorem dp3:Qay Tryz.prog (Qas p3):=Ql dp2 QD7 ok87
def QmI (lo hi:Int) (l:List Int):Bool:=l.any λn=>!inR n lo hi
def s48:List D->Option D:=sp3 Qbh Qbh (Qy Qt) QaI λlo hi l=>if l.length<=35184372088832 then some (QmI lo hi l)else none
theorem QDi:∀ds d,s48 ds=some d->PureC Tryz.prog 48 ds d:=QcG λlo hi l r hr=>by
 split at hr
 .rename_i nU;cases hr;refine Qm (QE dp3 10 kp48 []) Tryz.func48 rfl rfl (Zb rfl) (by kernel_rfl) ?_
  rw[Tryz.results48];have e:QmI lo hi l=l.any (Prd.out lo hi).is:=rfl;rw[e];simp[kp48,p3,s87,Qx3,Qg,QQ,nU]
 .cases hr
theorem Qn5 (xs:Array Value) (w:World):(callFunc 48 xs).run Tryz.prog w= .ok (.enter 48 xs) w:=by kernel_rfl
def Qd6 (l:List UInt8) (bT:Int) (i:Nat):Int:=if i=0 then bT else(l.getD (i - 1) 0).toNat
theorem QkK:∀(l:List UInt8) (bT:Int),Qcm l bT=true↔(∀i,i < l.length->(((l.getD i 0).toNat:Int)=45\/(97<=((l.getD i 0).toNat:Int)/\((l.getD i 0).toNat:Int)<=122))/\¬(((l.getD i 0).toNat:Int)=45/\Qd6 l bT i=45))/\¬Qd6 l bT l.length=45
 | [],bT=>by simp[Qcm,Qd6]
 | x::t,bT=>by
  have cH:∀i,Qd6 (x::t) bT (i+1)=Qd6 t x.toNat i:=by
   intro i;unfold Qd6;cases i with
   | zero=>simp
   | succ i=>simp
  have ih:=QkK t x.toNat;rw[Qcm];by_cases h1:(x.toNat:Int)=45
  .rw[if_pos h1];by_cases h2:bT=45
   .rw[if_pos h2];constructor
    .intro h; cases h
    .intro h; exact absurd ⟨by simpa using h1,by simpa[Qd6]using h2⟩ (h.1 0 (by simp)).2
   .rw[if_neg h2];rw[h1]at ih;rw[ih,List.length_cons,cH,h1];constructor
    .rintro⟨h,h'⟩;refine⟨λi hi=>?_,h'⟩;cases i with
     | zero=>exact⟨.inl (by simpa using h1),λhh=>h2 (by simpa[Qd6]using hh.2)⟩
     | succ i=>rw[cH,h1]; simpa using h i (by simpa using hi)
    .rintro⟨h,h'⟩;refine⟨λi hi=>?_,h'⟩;have:=h (i+1) (by simpa using hi)
     rw[cH,h1]at this; simpa using this
  .rw[if_neg h1];by_cases h2:(x.toNat:Int) < 97\/122 < (x.toNat:Int)
   .rw[if_pos h2];constructor
    .intro h; cases h
    .intro h;have:=(h.1 0 (by simp)).1
     simp at this;omega
   .rw[if_neg h2,ih,List.length_cons,cH];constructor
    .rintro⟨h,h'⟩;refine⟨λi hi=>?_,h'⟩;cases i with
     | zero=>exact⟨.inr (by simp; omega),λhh=>h1 (by simpa using hh.1)⟩
     | succ i=>rw[cH]; simpa using h i (by simpa using hi)
    .rintro⟨h,h'⟩;refine⟨λi hi=>?_,h'⟩;have:=h (i+1) (by simpa using hi)
     rw[cH]at this; simpa using this
theorem QoS (s:ByteArray) (i:Nat):Qaq s i=((s.data.toList.getD i 0).toNat:Int):=by
 unfold Qaq;by_cases h:i < s.size
 .have h2:i < s.data.toList.length:=by simpa using h
  rw[Qj _ _ _ h2];simp[getElem?_pos,h];rfl
 .have h2:s.data.toList.length<=i:=by simpa using h
  simp[List.getD,getElem?_neg,h]
theorem Qrk (s:ByteArray) (i:Nat):Qv7 s i=true↔(Qaq s i=45\/(97<=Qaq s i/\Qaq s i<=122))/\(0 < i->Qaq s i=45->¬Qaq s (i - 1)=45):=by
 unfold Qv7 inR;by_cases h1:Qaq s i=45<;>by_cases h2:0 < i<;>by_cases h3:Qaq s (i - 1)=45<;>simp[h1,h2,h3]
theorem QoU (s:ByteArray):Qbe s=true↔(1<=(s.size:Int)/\(s.size:Int)<=20)/\¬Qaq s 0=45/\¬Qaq s (s.size - 1)=45/\∀i,i < s.size->Qv7 s i=true:=by
 unfold Qbe;simp[inR,and_assoc]
theorem Qsr (s:ByteArray):Qbe s=Qm4 s:=by
 have aI:s.data.toList.length=s.size:=by simp
 rw[Bool.eq_iff_iff,QoU];unfold Qm4;rw[Za,QkK,aI];simp only[<-QoS,decide_eq_true_eq,Qd6];constructor
 .rintro⟨⟨h1,h2⟩,h3,h4,h5⟩;refine⟨⟨λi hi=>?_,?_⟩,by omega⟩
  .have:=(Qrk s i).1 (h5 i hi);refine⟨this.1,?_⟩;by_cases lN:i=0
   .subst lN; intro hh; exact h3 hh.1
   .rw[if_neg lN]; intro hh; exact this.2 (by omega) hh.1 hh.2
  .rw[if_neg (by omega)]; exact h4
 .rintro⟨⟨h1,h2⟩,h3⟩;have hs:¬s.size=0:=λh=>by rw[if_pos h]at h2; exact h2 rfl
  rw[if_neg hs]at h2;refine⟨by omega,λh=>(h1 0 (by omega)).2 ⟨h,by simp⟩,h2,λi hi=>(Qrk s i).2 ⟨(h1 i hi).1,λlN hb eR=>(h1 i hi).2 ⟨hb,by rw[if_neg (by omega)]; exact eR⟩⟩⟩
theorem Qe0 {P:Program} {f:Nat} {ds:List D} {d:D} (h:∀(m:Nat->Nat->Prop) (w:World) (vs:List Value),(∀b o,m b o->b < w.heap.size)->GlobIn m w->RelL m w ds vs->∃v,Calls P f vs.toArray w (λe w'=>e= .returned v/\Below w.heap.size w w')/\∀m' w',Rel m' w' d v):PureC P f ds d:=λm w vs hm hG hr=>by
 obtain⟨v,h1,h2⟩:=h m w vs hm hG hr;exact h1.mono λe w' ⟨he,hb⟩=>⟨v,λ_ _=>False,he,hb,λb o h=>h.elim,h2 _ _⟩
def Qxi (s:ByteArray):Prop:=s.size<=140737488355328
instance (s:ByteArray):Decidable (Qxi s):=inferInstanceAs (Decidable (_<=_))
def s89:List D->Option D:=sp1 QmM QaI λs=>if Qxi s then some (Qbe s)else none
theorem ok89:∀ds d,s89 ds=some d->PureC Tryz.prog 89 ds d:=Qb2 λs r hr=>by
 split at hr
 .rename_i hs;cases hr;refine Qe0 λm w vs hm hG hr=>?_;simp only[RelL,Rel,Qc1]at hr;obtain⟨v,t,rfl,rfl,rfl⟩:=hr;refine⟨_,Qxr s w hs,λm' w'=>?_⟩;rw[Qsr,QeF];simp[Rel]
 .cases hr
theorem QCX (xs:Array Value) (w:World):(callFunc 89 xs).run Tryz.prog w= .ok (.enter 89 xs) w:=by kernel_rfl
end Go.Proofs.YtnfeakhkfehkhaaGreatDoor
namespace Go.Proofs.YtnfeakhkfehkhaaGreatDoor
open Go.RowKit
def kp91 (r:Nat):List (Nat×Option Nat):=match r with
 | 0=>kpn [1,2]
 | 1=>[(3,none)]
 | _=>[]
def QsA (r:Nat):List (Nat×Option Nat):=match r with
 | 0=>kpn [0,1]
 | 1=>kpn [0,1,7,8]
 | 2=>kpn [0,1,7,8,9]
 | 3=>kpn [0,1,5,7,8]
 | 4=>kpn [0,1,5,7,8,16]
 | 5=>[(4,none)]
 | 6=>kpn [0,1,7,8]
 | 7=>[(4,none)]
 | _=>[]
def kp90 (r:Nat):List (Nat×Option Nat):=match r with
 | 0=>kpn [0,1]
 | 1=>[(4,none)]
 | _=>[]
def QhX:Cod Bat:=⟨λx=> .dat 5 [QO.enc x] 0 0,λd=>match d with | .dat 5 [r] 0 0=>QO.dec r | _=>none,λd x h=>by
 split at h
 .rename_i r;intro m w y hy;simp only[Rel]at hy|-;obtain⟨h0,b,o,h1,h2⟩:=hy;refine⟨by simp,b,o,h1,?_⟩
  simp only[RelRows]at h2|-;obtain⟨⟨h3,h4⟩,_⟩:=h2;exact⟨⟨rfl,(QO.ed _ _ h).cells h4⟩,trivial⟩
 .cases h⟩
theorem QiT (x:Bat):QhX.enc x= .dat 5 [QO.enc x] 0 0:=rfl
theorem Qs2 (x:Bat):QhX.dec (.dat 5 [QO.enc x] 0 0)=some x:=QO.de x
theorem QpO (x:Bat):QhX.dec (.dat 5 [[DS x.name,DI x.grams,DI x.fresh,DB x.lost,.sl 2 (x.takes.map Qb1.enc)]] 0 0)=some x:=QO.de x
def Qkb (x y:Bat):Bool:=y.name.toList==x.name.toList
def s91:List D->Option D:=sp2 (QeC QO) QhX QaI λy x=>some (Qkb x y)
theorem ok91:∀ds d,s91 ds=some d->PureC Tryz.prog 91 ds d:=QaR λy x r hr=>by
 cases hr;refine Qm (QE QB 9 kp91 []) Tryz.func91 rfl rfl (Zb rfl) (by kernel_rfl) ?_
 rw[Tryz.results91];unfold Qkb;simp[kp91,Qh,QiT]
theorem QEN (xs:Array Value) (w:World):(callFunc 91 xs).run Tryz.prog w= .ok (.enter 91 xs) w:=by kernel_rfl
def QqK:Cod Bat:=⟨λx=> .fn 91 [] [QhX.enc x],λd=>match d with | .fn 91 [] [y]=>QhX.dec y | _=>none,λd x h=>by
 split at h
 .rename_i y;intro m w v hv;simp only[Rel,RelL]at hv|-;obtain⟨fs,cs,h1,h2,u,t,h3,h4,h5⟩:=hv;exact⟨fs,cs,h1,h2,u,t,h3,QhX.ed _ _ h _ _ _ h4,h5⟩
 .cases h⟩
theorem QkW (x:Bat):QqK.enc x= .fn 91 [] [.dat 5 [QO.enc x] 0 0]:=rfl
theorem Qn2 (x:Bat):QqK.dec (.fn 91 [] [.dat 5 [[DS x.name,DI x.grams,DI x.fresh,DB x.lost,.sl 2 (x.takes.map Qb1.enc)]] 0 0])=some x:=QO.de x
def q1:List (Nat×(List D->Option D)):=[(91,s91)]
theorem dq1:Qay Tryz.prog (Qas q1):=Ql QB QEN ok91
def QHa:List D->Option D:=sp2 (Qy QO) QqK Qbh λl x=>if l.length<=1000000 then some (Qw3 (Qkb x) l)else none
theorem QvV (x y:Bat):s91 [.agg [DS y.name,DI y.grams,DI y.fresh,DB y.lost,.sl 2 (y.takes.map Qb1.enc)],.dat 5 [[DS x.name,DI x.grams,DI x.fresh,DB x.lost,.sl 2 (x.takes.map Qb1.enc)]] 0 0]=some (DB (Qkb x y)):=by
 simp[s91,sp2,QpO,Qbq,Qz3]
set_option maxHeartbeats 1000000 in
theorem QG0:∀ds d,QHa ds=some d->PureC Tryz.prog 117 ds d:=QaR λl x r hr=>by
 split at hr
 .rename_i nU;cases hr;refine Qm (QE dq1 19 QsA []) Tryz.func117 rfl rfl (Zb rfl) (by kernel_rfl) ?_
  rw[Tryz.results117];simp[QsA,QkW,Qe,Qh];rcases QdS (Qkb x) l with⟨e1,_,hall⟩ | ⟨k,hk,e1,_,aL,aM⟩
  .rw[e1]
   (generalize aC:Cx.loop _ _ _=aE; apply Qi aC (λk=>⟨[(0,.d (.sl 5 (l.map QO.enc))),(1,.d (.fn 91 [] [.dat 5 [QO.enc x] 0 0])),(7,.d (DI l.length)),(8,.d (DI k))],[],[],[]⟩) l.length (by first | (simp; done) | (simp; rfl) | (simp; simp[*])); rotate_left; (show _ < 281474976710656; omega); rfl; rotate_left; all_goals clear aC)
   .intro j hj;have w1:=Qa ((j:Int)+1) (by omega) (by omega)
    have aO:(j:Int) < l.length:=by omega
    have hn:=hall j hj;have pD:=QvV x l[j];rw[hn]at pD;simp[QsA,q1,Qh,hj,aO,pD,w1]
   .simp[QsA]
  .rw[e1]
   (generalize aC:Cx.loop _ _ _=aE; apply Qi aC (λk=>⟨[(0,.d (.sl 5 (l.map QO.enc))),(1,.d (.fn 91 [] [.dat 5 [QO.enc x] 0 0])),(7,.d (DI l.length)),(8,.d (DI k))],[],[],[]⟩) k (by first | (simp; done) | (simp; rfl) | (simp; simp[*])); rotate_left; (show _ < 281474976710656; omega); rfl; rotate_left; all_goals clear aC)
   .intro j cM;have hj:j < l.length:=by omega
    have w1:=Qa ((j:Int)+1) (by omega) (by omega)
    have aO:(j:Int) < l.length:=by omega
    have hn:=aM j hj cM;have pD:=QvV x l[j];rw[hn]at pD;simp[QsA,q1,Qh,hj,aO,pD,w1]
   .have bB:(k:Int) < l.length:=by omega
    have pD:=QvV x l[k];rw[aL]at pD;simp[QsA,q1,Qh,hk,bB,pD]
 .cases hr
theorem QBJ (xs:Array Value) (w:World):(callFunc 117 xs).run Tryz.prog w= .ok (.enter 117 xs) w:=by kernel_rfl
def q2:List (Nat×(List D->Option D)):=[(117,QHa)]
theorem dq2:Qay Tryz.prog (Qas q2):=Ql QB QBJ QG0
def s90:List D->Option D:=sp2 (Qy QO) QqK QaI λl x=>if l.length<=1000000 then some (l.any (Qkb x))else none
theorem ok90:∀ds d,s90 ds=some d->PureC Tryz.prog 90 ds d:=QaR λl x r hr=>by
 split at hr
 .rename_i nU;cases hr;refine Qm (QE dq2 9 kp90 []) Tryz.func90 rfl rfl (Zb rfl) (by kernel_rfl) ?_
  rw[Tryz.results90];have hp:=Qqr (Qkb x) l;rw[<-hp];simp[kp90,q2,QHa,QkW,Qn2,Qe,Qh,QR,nU]
 .cases hr
theorem QEc (xs:Array Value) (w:World):(callFunc 90 xs).run Tryz.prog w= .ok (.enter 90 xs) w:=by kernel_rfl
end Go.Proofs.YtnfeakhkfehkhaaGreatDoor
