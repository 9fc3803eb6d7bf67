/-
  Small laws of worlds. Conditions: none.
-/
import Derived.WalkSpells
import Derived.WalkLawsBesides
import Derived.Handy
import Derived.BigQuiet
import Derived.Lib.AppendZeros
import Derived.Lib.Walk
import Derived.Test.YticoemblgkemiaaGreatDoorZRefK
set_option linter.unusedSimpArgs false
set_option linter.unusedVariables false
namespace Go.Proofs.YticoemblgkemiaaGreatDoor
open Go.RowKit
theorem Qha {a b:Bool} (h:a=b):Ending.returned (.bool a)= .returned (.bool b):=by rw[h]
theorem QLP:∃i:TypeInfo,Tryz.prog.info? 3=some i/\i.zero=some (.int .i64 0)/\i.size=1/\i.bytes=8:=by
 have h:(Tryz.prog.info? 3).map (λf=>(f.size,f.bytes,f.zero))=some (1,8,some (.int .i64 0)):=by kernel_rfl
 cases hi:Tryz.prog.info? 3 with
 | none=>rw[hi]at h; cases h
 | some i=>
  rw[hi]at h;simp only[Option.map_some,Zs,Prod.mk.injEq]at h;exact⟨i,rfl,h.2.2,h.1,h.2.1⟩
def QuL (w:World) (n:Nat):World:=w.drew.alloc (.cells (Builtin.zeroCells #[.int .i64 0] n++Builtin.zeroCells #[.int .i64 0] (grownCap w n 0 3 - n)) 3)
set_option maxRecDepth 100000 in
theorem QAT (n:Nat) (w:World) (h0:0 < n) (hb:n*8<=281474976710656):Calls Tryz.prog 191 #[.slice none 0 0,.int .i64 n] w λe w'=>e= .returned (.slice (some ⟨w.heap.size,0,none⟩) 0 (grownCap w n 0 3))/\w'=QuL w n:=by
 obtain⟨i,hi,hz,hs,sY⟩:=QLP;have hr:=Lib.run_append_nil_zeros (P:=Tryz.prog) w 34 3 34 3 i (.int .i64 0) .i64 .i64 Tryz.underlying34 Tryz.underlying3 hi hz n h0 (by omega) (by omega) (by rw[sY]; exact hb)
 have rX:(Value.int IntKind.i64 0).cells= #[.int .i64 0]:=rfl;rw[rX]at hr;have qA:¬(n:Int) < 0:=by omega
 have oW:(0:Int) < n:=by omega
 have hw:IntKind.i64.wrap ((n:Int) - 0)=n:=by rw[Int.sub_zero]; exact IntWalk.i64_in _ ⟨by omega,by omega⟩
 have hge:=grownCap_ge w n 0 3;generalize hC:grownCap w n 0 3=C at*;have hgw:QuL w n=w.drew.alloc (.cells (Builtin.zeroCells #[.int .i64 0] n++Builtin.zeroCells #[.int .i64 0] (C - n)) 3):=by unfold QuL; rw[hC]
 go_enter Tryz.func191,Tryz.ntmps191
 go_wp2_with (at_builtin; refine Lib.wpList_append_run _ rfl _ _ _ _ rfl _ _ rfl rfl _ _ hr ?_)
 go_ret
 exact⟨rfl,rfl⟩
set_option maxRecDepth 100000 in
theorem Qwn (w:World):Calls Tryz.prog 191 #[.slice none 0 0,.int .i64 0] w λe w'=>e= .returned (.slice none 0 0)/\w'=w:=by
 have hw:IntKind.i64.wrap ((0:Int) - 0)=0:=by decide
 go_enter Tryz.func191,Tryz.ntmps191
 go_wp2_with fail
 go_ret
 exact⟨rfl,rfl⟩
end Go.Proofs.YticoemblgkemiaaGreatDoor
namespace Go.Proofs.YticoemblgkemiaaGreatDoor
open Go.RowKit
def QsK (r:Nat):List (Nat×Option Nat):=match r with
 | 0=>[(0,none)]
 | 1=>kpn [0,3]
 | 2=>kpn [0,3,9,10,11]
 | 3=>kpn [0,3,9,10,11,12]
 | 4=>kpn [0,3,5,9,10,11]
 | 5=>kpn [0,3,9,10,11]
 | 6=>kpn [0,3,9,10,11,20]
 | 7=>kpn [0,3,9,10,11]
 | 8=>kpn [0,3,9,10,11]
 | 9=>kpn [0,6]
 | 10=>kpn [6,25,26,27]
 | 11=>kpn [6,25,26,27,28]
 | 12=>kpn [6,8,25,26,27]
 | 13=>kpn [6,25,26,27]
 | 14=>kpn [6,25,26,27]
 | 15=>[(2,none)]
 | _=>[]
def Qgq (L:List (List Int)) (k:Nat):Nat:=(L.take k).flatten.length
theorem QyY (L:List (List Int)):Qgq L 0=0:=by simp[Qgq]
theorem Qpc {L:List (List Int)} {k:Nat} (h:k < L.length):(L.take (k+1)).flatten=(L.take k).flatten++L[k]:=by
 rw[List.take_succ_eq_append_getElem h,List.flatten_append]; simp only[List.flatten_cons,List.flatten_nil,List.append_nil]
theorem Qhr {L:List (List Int)} {k:Nat} (h:k < L.length):Qgq L (k+1)=Qgq L k+L[k].length:=by
 unfold Qgq; rw[Qpc h,List.length_append]
theorem QrM (L:List (List Int)):Qgq L L.length=L.flatten.length:=by unfold Qgq; rw[List.take_length]
theorem Qq8 (L:List (List Int)) {k:Nat} :∀j,Qgq L k<=Qgq L (k+j)
 | 0=>Zr _
 | j+1=>by
  have ih:=Qq8 L (k:=k) j;by_cases h:k+j < L.length
  .have:=Qhr h;rw[show k+(j+1)=k+j+1 by omega]; omega
  .have e:Qgq L (k+(j+1))=Qgq L (k+j):=by
    unfold Qgq;rw[List.take_of_length_le (by omega),List.take_of_length_le (by omega)]
   omega
def CcB (W:World) (g:Gh) (w:World) (base:Option Addr) (C T:Nat) (fl:List Int):Prop:=
 T<=C/\(T=0\/∃(blk:Nat) (cs:Array Value),base=some ⟨blk,0,none⟩/\W.heap.size<=blk/\blk < w.heap.size/\Away g blk/\w.heap[blk]?=some (.cells cs 3 (0,0))/\T<=cs.size/\∀(j:Nat) (x:Int),fl[j]?=some x->cs[j]?=some (.int .i64 x))
theorem CcB.next {W:World} {g g':Gh} {w w':World} {base:Option Addr} {C T:Nat} {fl:List Int} (h:CcB W g w base C T fl) (hs:w.heap.size<=w'.heap.size) (hf:∀b,b < w.heap.size->Away g b->Away g' b/\w'.heap[b]?=w.heap[b]?):CcB W g' w' base C T fl:=by
 refine⟨h.1,h.2.imp id ?_⟩;rintro⟨blk,cs,h1,h2,h3,h4,h5,h6,h7⟩;obtain⟨k1,k2⟩:=hf blk h3 h4;exact⟨blk,cs,h1,h2,by omega,k1,k2.trans h5,h6,h7⟩
theorem QDc (xs:Array Value) (w:World):(callFunc 117 xs).run Tryz.prog w= .ok (.enter 117 xs) w:=by kernel_rfl
theorem QGF {P:Program} {fn:Func} {t:Nat} {tm:Array Value} {w:World} (h:fn.results.toList=[.tmp t]):(results fn tm).run P w= .ok (tm.getD t undef) w:=by
 have iA:(fn.results.mapM (Qc6 tm)).run P w= .ok [tm.getD t undef].toArray w:=by
  rw[Array.mapM_eq_mapM_toList,Sem.run_map,h];simp only[List.mapM_cons,List.mapM_nil,Qc6,Sem.run_bind,Sem.run_pure,Zo]
 have hR:results fn tm=(fn.results.mapM (Qc6 tm) >>=λvs=>pure (if h:vs.size=1 then vs[0]else .tuple vs)):=rfl;rw[hR,Sem.run_bind,iA]; rfl
def s66:List D->Option D:=sp1 (QJ rLi) (QJ QH) λL=>if L.length<=1000/\L.flatten.length<=35184372088832 then some L.flatten else none
set_option maxHeartbeats 2000000 in
theorem ok66:∀ds d,s66 ds=some d->PureC Tryz.prog 117 ds d:=Qbr λL r hr=>by
 split at hr
 .rename_i hc;obtain⟨hL,hT⟩:=hc;cases hr;have bU:=Qw Qs 36 QsK [];have gN:∀k,k<=L.length->Qgq L k<=35184372088832:=λk hk=>by
   have:=Qq8 L (k:=k) (L.length - k);rw[show k+(L.length - k)=L.length by omega,QrM]at this
   omega
  have sZ:=QrM L;generalize hTT:L.flatten.length=T at*;generalize fO:(QJ QH).enc L.flatten=dd;refine QcR Tryz.func117 rfl rfl (Zb rfl) λm w a I uA=>?_;refine Qdm bU 2 _ rfl (by kernel_rfl) (by kernel_rfl) (λ_ _=>rfl) _ _ _ _ I ?_
  simp[Qeh,QsK,Qxs]
  (generalize aC:Cx.loop _ _ _=aE; apply QcQ aC (λk=>⟨[(0,.d (.sl 1 (L.map rLi.enc))),(3,.d (DI ((Qgq L k:Nat):Int))),(9,.d (.sl 1 (L.map rLi.enc))),(10,.d (DI L.length)),(11,.d (DI k))],[],[],[]⟩) L.length (by first | (simp; done) | (simp; rfl) | (simp[*]; done) | (simp; simp[*])); rotate_left; (show _ < 281474976710656; omega); (exact λh=>h); rotate_left; all_goals clear aC)
  .intro k hk;have aX:(k:Int) < L.length:=by omega
   have w1:=Qa ((k:Int)+1) (by omega) (by omega)
   have h1:=gN (k+1) hk;rw[Qhr hk]at h1|-;have w2:=Qa ((Qgq L k:Int)+(L[k].length:Int)) (by omega) (by omega)
   have hn:¬((Qgq L k:Int)+(L[k].length:Int) < 0):=by omega
   simp[QsK,Qwv,hk,aX,w1,w2,hn]
  .rw[sZ];simp[QsK,QG];intro g1 a1 w1 I1;show Code.wpIn _ _ _ (QiP 2 _) _ _ _;refine wpIn_seq ?_;refine Qwx bU 1 (by rfl) rfl rfl (by simp[Qav,Qcz]) I1 I1.deferred rfl rfl ?_
   simp[Qho];intro g2 a2 w2 I2 kN kJ lR;have oI:w.heap.size<=w2.heap.size:=I2.below.size;have e23:a2.tmps.getD 23 undef= .int .i64 T:=by
    have:=I2.tmps 23 (.d (DI T)) (by simp[Qt])
    simpa[RelX,Rel]using this
   have tX:∃R:Ending->World->Prop,Calls Tryz.prog 191 #[.slice none 0 0,.int .i64 T] w2 R/\∀e w3,R e w3->∃base C,e= .returned (.slice base 0 C)/\Below w2.heap.size w2 w3/\(T<=C)/\(T=0\/∃cs,base=some ⟨w2.heap.size,0,none⟩/\w2.heap.size < w3.heap.size/\w3.heap[w2.heap.size]?=some (.cells cs 3 (0,0))/\T<=cs.size):=by
    by_cases h0:T=0
    .rw[h0];exact⟨_,Qwn w2,λe w3 ⟨h1,h2⟩=>⟨none,0,h1,by rw[h2]; exact Below.refl _ _,Zr _,.inl rfl⟩⟩
    .refine⟨_,QAT T w2 (by omega) (by omega),λe w3 ⟨h1,h2⟩=>⟨_,_,h1,?_,grownCap_ge w2 _ 0 3,.inr ⟨Builtin.zeroCells #[.int .i64 0] T++Builtin.zeroCells #[.int .i64 0] (grownCap w2 T 0 3 - T),rfl,?_,?_,?_⟩⟩⟩
     .rw[h2]; unfold QuL;exact((Below.refl _ w2).drew).alloc (Zr _) _
     .rw[h2]; unfold QuL; simp
     .rw[h2]; unfold QuL; exact Qbi _ _
     .rw[Array.size_append,size_zeroCells]; simp
   obtain⟨R,hR1,hR2⟩:=tX;refine Qhl (.inl rfl) ?_ hR1 ?_
   .simp[execOp,resolve,Deferred.ofValue,invoke,Act.eval,e23]
   .intro e w3 hR;obtain⟨base,C,rfl,wB,hC,cV⟩:=hR2 e w3 hR;refine⟨_,rfl,?_⟩;have I3:=(I2.later wB).put (d:=some 24) (λx hx=>by cases hx; decide) (x:= .d (.v (.slice base 0 C))) (v:= .slice base 0 C) (by simp[RelX,Rel])
    have hB3:CcB w g2 w3 base C T (L.take 0).flatten:=by
     refine⟨hC,cV.imp id ?_⟩;rintro⟨cs,r1,r2,r3,r4⟩;exact⟨w2.heap.size,cs,r1,oI,r2,I2.awayNew (Zr _),r3,r4,λj x hx=>by simp at hx⟩
    have wQ:(a2.put (some 24) (.slice base 0 C)).defers=[]:=by rw[Qa0]; exact kN
    refine Qss (id:=9) bU 2 rfl (by simp[Qav,Qcz]) I3 wQ rfl rfl ?_
    simp[QsK,Qho];intro g4 a4 w4 I4 hd4 hs4 hf4;have hB4:=hB3.next hs4 hf4
    show Code.wpIn _ _ _ _ _ _ _;refine wpIn_seq (wpIn_seq ?_);refine Qiy bU (by kernel_rfl) (by kernel_rfl) I4 hd4 rfl rfl (λ_ _=>rfl) ?_
    simp[QsK,Qbs];intro g5 a5 w5 I5 wR hs5 wS;have hB5:=hB4.next hs5 wS
    have zL:∀k,k<=L.length->Qgq L k<=T:=λk hk=>by
     have:=Qq8 L (k:=k) (L.length - k);rw[show k+(L.length - k)=L.length by omega,sZ]at this
     exact this
    refine wpIn_block (Qpd (λk a w'=>∃g base C,Inv 36 m (Qed w []) g ⟨[(6,.d (.v (.slice base (Qgq L k) C))),(25,.d (.sl 1 (L.map rLi.enc))),(26,.d (DI L.length)),(27,.d (DI k))],[],[],[]⟩ a w'/\a.defers=[]/\CcB w g w' base C T (L.take k).flatten) L.length ?_ ?_ ⟨g5,base,C,by rw[QyY]; exact I5,wR,hB5⟩)
    .rintro k hk a6 w6 ⟨g6,base,C,I6,wT,hB6⟩;have cZ:(k:Int) < L.length:=by omega
     have wk:=Qa ((k:Int)+1) (by omega) (by omega)
     refine QhV bU 1 rfl (by kernel_rfl) (by kernel_rfl) I6 wT rfl rfl (λ_ _=>rfl) ?_
     simp[Qeh,QsK,cZ,Qbs];intro g7 a7 w7 I7 wU zN wV;have zO:=hB6.next zN wV
     show Code.wpIn _ _ _ (QiP 1 _) _ _ _;refine wpIn_seq (wpIn_block (wpIn_seq ?_));refine Qiy bU (by kernel_rfl) (by kernel_rfl) I7 wU rfl rfl (λ_ _=>rfl) ?_
     simp[QsK,Qwv,hk,cZ,Qbs];intro g8 a8 w8 I8 hd8 hs8 hf8;have uD:=zO.next hs8 hf8
     show Code.wpIn _ _ _ _ _ _ _;refine Qwx bU 2 (by rfl) rfl rfl (by simp[Qav,Qcz]) I8 hd8 rfl rfl ?_
     simp[Qho];intro g9 a9 w9 I9 hd9 hs9 hf9;have hB9:=uD.next hs9 hf9
     have e31:a9.tmps.getD 31 undef= .slice base (Qgq L k) C:=by
      have:=I9.tmps 31 (.d (.v (.slice base (Qgq L k) C))) (by simp[Qt])
      simpa[RelX,Rel]using this
     have e32:=I9.tmps 32 (.d (.sl QH.k (L[k].map QH.enc))) (by simp[Qt])
     simp only[RelX,Rel]at e32;obtain⟨_,xa,xc,yZ,yX,aZ⟩:=e32;rw[List.length_map]at yZ;obtain⟨i3,hi3,hz3,zP,hby3⟩:=QLP;have hmT:Qgq L k+L[k].length<=T:=by rw[<-Qhr hk]; exact zL (k+1) hk
     have hTC:=hB9.1;have fM:∃(uE:World) (q:Nat->Prop),(Builtin.append_ #[34,34] 34 #[.slice base (Qgq L k) C,.slice xa L[k].length xc]).run Tryz.prog w9= .ok (.slice base (Qgq L (k+1)) C) uE/\KeepsW w9 q uE/\KeepN w9 uE/\(∀b,q b->w.heap.size<=b/\Away g9 b)/\CcB w g9 uE base C T (L.take (k+1)).flatten:=by
      have kK:(L.take k).flatten.length=Qgq L k:=rfl;rw[Qpc hk,Qhr hk];by_cases qC:L[k].length=0
      .have lC:L[k]=[]:=List.length_eq_zero_iff.1 qC;rw[qC,lC,Nat.add_zero,List.append_nil];exact⟨w9,λ_=>False,QdJ (P:=Tryz.prog) Tryz.underlying34 hi3 34 base xa (Qgq L k) C xc (by omega) w9,KeepsW.refl _ _,KeepN.refl _,λb h=>h.elim,hB9⟩
      .obtain⟨blk,cs,rfl,aG,aQ,wW,jH,bM,aK⟩:=hB9.2.resolve_left (by omega)
       have aS:¬L[k].map QH.enc=[]:=λh=>qC (by rw[<-List.length_map (f:=QH.enc),h]; rfl)
       obtain⟨xb,xo,rfl,jY⟩:=aZ.resolve_left aS;obtain⟨aJ,n1,n2,n3,n4⟩:=Qcr jY;rw[List.length_map,Qn,Nat.mul_one]at n1;have qR:=QdH (P:=Tryz.prog) (w:=w9) Tryz.underlying34 hi3 34 3 blk 0 (Qgq L k) C cs jH ⟨xb,xo,none⟩ L[k].length xc aJ (by rw[zP,n1,Nat.mul_one]) (λj u hj=>by rw[QaS]; exact(n2 j u hj).2.1) (λu hu=>by
        obtain⟨q,hq,rfl⟩:=List.getElem_of_mem hu;exact(n2 q _ (Zg hq)).2.2) (by omega) (by rw[zP,n1]; omega)
       rw[zP,Nat.mul_one,Nat.zero_add,n1]at qR;have cH:∀(j:Nat) (x:Int),L[k][j]?=some x->aJ[j]?=some (.int .i64 x):=λj x hx=>by
        have aO:j < L[k].length:=(Zi.1 hx).1;have hfj:(L[k].map QH.enc).flatten[j]?=some (DI x):=by
         have e:(L[k].map QH.enc).flatten=L[k].map DI:=by
          clear hx aO aS aZ jY n3 n4 qC
          induction L[k]with
          | nil=>rfl
          | cons a t ih=>simp only[List.map_cons,List.flatten_cons,ih]; rfl
         rw[e,List.getElem?_map,hx]; rfl
        obtain⟨v,h1,h2⟩:=n3.get j _ hfj;simp only[Rel]at h2;rw[h1,h2]
       refine⟨_,λb=>b=blk,qR,⟨rfl,rfl,rfl,by simp,λb hb hq=>setRow_other w9 blk b _ hq⟩,KeepN.of_cells (λb=>b=blk) (λb hb hq=>setRow_other w9 blk b _ hq) (λb hb=>⟨cs,3,(0,0),by rw[hb]; exact jH⟩),λb hb=>by subst hb; exact⟨aG,wW⟩,hTC,.inr ⟨blk,_,rfl,aG,by simpa using aQ,wW,setRow_heap w9 blk cs _ 3 (0,0) jH,?_,λj x hx=>?_⟩⟩
       .simp; omega
       .have bE:Qgq L k<=cs.toList.length:=by rw[Array.length_toList]; omega
        rw[List.getElem?_toArray,List.append_assoc];rw[List.getElem?_append]at hx|-;rw[List.length_take,Nat.min_eq_left bE];rw[kK]at hx;by_cases lW:j < Qgq L k
        .rw[if_pos lW]at hx|-;rw[List.getElem?_take,if_pos lW];simpa using aK j x hx
        .rw[if_neg lW]at hx|-;have aO:j - Qgq L k < L[k].length:=(Zi.1 hx).1;rw[List.getElem?_append,if_pos (by omega)]
         exact cH _ x hx
     obtain⟨uE,q,aH,hkp,j8,hq,hB10⟩:=fM;have I10:=I9.laterA hkp j8 hq;refine Qck (.inl rfl) (v:= .slice base (Qgq L (k+1)) C) (w':=uE) ?_ ?_
     .simp[execOp,resolve,invoke,builtin,Act.eval,e31,yZ,aH]
     have I11:=I10.put (d:=some 33) (λx hx=>by cases hx; decide) (x:= .d (.v (.slice base (Qgq L (k+1)) C))) (v:= .slice base (Qgq L (k+1)) C) (by simp[RelX,Rel])
     have hd11:(a9.put (some 33) (.slice base (Qgq L (k+1)) C)).defers=[]:=by rw[Qa0]; exact hd9
     refine Qss (id:=13) bU 3 rfl (by simp[Qav,Qcz]) I11 hd11 rfl rfl ?_
     simp[QsK,Qho];intro g12 a12 w12 I12 hd12 hs12 hf12;have hB12:=hB10.next hs12 hf12
     simp only[Exit.inBlock,Exit.then];refine Qiy bU (by kernel_rfl) (by kernel_rfl) I12 hd12 rfl rfl (λ_ _=>rfl) ?_
     simp[QsK,wk,Qbs];intro g13 a13 w13 I13 hd13 hs13 hf13;exact⟨g13,base,C,I13,hd13,hB12.next hs13 hf13⟩
    .rintro a6 w6 ⟨g6,base,C,I6,wT,hB6⟩;refine QhV bU 1 rfl (by kernel_rfl) (by kernel_rfl) I6 wT rfl rfl (λ_ _=>rfl) ?_
     simp[Qeh,QsK,Qbs];intro g7 a7 w7 I7 wU zN wV;have zO:=hB6.next zN wV
     simp only[AEx.out,Exit.then,Exit.inBlock,if_true];rw[sZ]at I7;rw[List.take_length]at zO;refine Qiy bU (by kernel_rfl) (by kernel_rfl) I7 wU rfl rfl (λ_ _=>rfl) ?_
     simp[QsK,Qbs];intro g8 a8 w8 I8 hd8 hs8 hf8;have uD:=zO.next hs8 hf8
     subst fO;show Leaves Tryz.prog Tryz.f117 a8.tmps (RetR m w _) a8.defers .returning w8;rw[hd8];have e2:a8.tmps.getD 2 undef= .slice base T C:=by
      have:=I8.tmps 2 (.d (.v (.slice base T C))) (by simp[Qt])
      simpa[RelX,Rel]using this
     have wX:=I8.below.below (λk hk=>QeT _ _ k hk);have wY:=QGF (P:=Tryz.prog) (fn:=Tryz.f117) (t:=2) (tm:=a8.tmps) (w:=w8) rfl;rw[e2]at wY;refine⟨_,wY,?_⟩;have wZ:(L.flatten.map QH.enc).length=T:=by rw[List.length_map,hTT]
     rcases uD.2 with h0 | ⟨blk,cs,rfl,aG,aQ,wW,jH,bM,aK⟩
     .refine⟨_,λ_ _=>False,rfl,wX,λb o h=>h.elim,?_⟩;have lC:L.flatten=[]:=List.length_eq_zero_iff.1 (by rw[hTT,h0])
      rw[QbL,lC,h0];simp[Rel]
     .refine⟨_,λb o=>b=blk,rfl,wX,λb o h=>by subst h; exact⟨aG,aQ⟩,?_⟩
      rw[QbL];simp only[Rel];refine⟨by rw[wZ]; omega,some ⟨blk,0,none⟩,C,by rw[wZ],by rw[wZ]; exact uD.1,.inr ⟨blk,0,rfl,RelRows.of λi r hr=>?_⟩⟩
      rw[List.getElem?_map]at hr;obtain⟨x,hx,rfl⟩:=Option.map_eq_some_iff.1 hr;refine⟨rfl,RelCells.of λj d hj=>?_⟩;cases j with
      | succ j=>simp[Qd]at hj
      | zero=>
       simp only[Qd,List.getElem?_cons_zero,Zs]at hj;subst hj;refine⟨.int .i64 x,.inr rfl,?_,rfl,by simp[Rel]⟩
       have hc:=aK i x hx;have:=QdN blk (0+i*QH.k+0) 0 cs 3 jH;rw[Qn]at this|-;simpa[hc]using this
 .cases hr
end Go.Proofs.YticoemblgkemiaaGreatDoor
namespace Go.Proofs.YticoemblgkemiaaGreatDoor
open Go.RowKit
def QcL:List UInt8->Int->Bool
 | [],bR=>!(bR==45)
 | x::t,bR=>if(x.toNat:Int)=45 then(if bR=45 then false else QcL t 45)
   else if(x.toNat:Int) < 97\/122 < (x.toNat:Int)then false else QcL t x.toNat
def Qop (s:ByteArray):Bool:=QcL s.data.toList 45&&decide (s.size<=20)
theorem Qzw (s:ByteArray) (bR:Int) (hl:¬bR=45) (h:QcL [] bR=QcL s.data.toList 45):(bR != 45&&decide ((s.size:Int)<=20))=Qop s:=by
 have h1:(bR==45)=false:=by simpa using hl
 rw[Qop,<-h];simp[QcL,bne,h1]
 try omega
theorem QF9 (s:ByteArray) (k:Nat) (h:k < s.size):s.data.toList.drop k=s[k]::s.data.toList.drop (k+1):=by
 rw[List.drop_eq_getElem_cons (by simpa using h)]; rfl
theorem QB9 (s:ByteArray) (k:Nat) (h:¬k < s.size):s.data.toList.drop k=[]:=by
 apply List.drop_eq_nil_of_le; simp; omega
theorem Qel (w:World) (s:ByteArray) (k:Nat):Below w.heap.size w (w.iter s k):=(Below.refl _ w).alloc (Zr _) _
theorem QFJ {P:Program} (w:World) (s:ByteArray) (k:Nat) (h:k < s.size):
  ∃(r:Int) (p:Nat),(∀ty,(Instr.next (.pointer (some ⟨w.heap.size,0,none⟩)) true ty).run P (w.iter s k)= .ok (.tuple #[.bool true,.int .i64 k,.int .i32 r]) (w.iter s p))/\
   ((r=(s[k].toNat:Int)/\p=k+1)\/(128<=r/\128<=(s[k].toNat:Int))):=by
 by_cases ha:s[k].toNat < 128
 .exact⟨_,_,λty=>run_next_ascii w s k ty h ha,.inl ⟨rfl,rfl⟩⟩
 .have hd:=decode_high s k h (by omega)
  exact⟨_,_,λty=>run_next_any w s k ty h,.inr ⟨by omega,by omega⟩⟩
theorem QAp (s:ByteArray) (w:World) (hs:s.size<=140737488355328):
  Calls Tryz.prog 77 #[.string s] w λe w'=>e= .returned (.bool (Qop s))/\Below w.heap.size w w':=by
 go_enter Tryz.func77,Tryz.ntmps77
 go_wp2
 go_loopw [3] (λc wr=>∃(k:Nat) (bR:Int),wr=w.iter s k/\k<=s.size/\c= .int .i32 bR/\QcL (s.data.toList.drop k) bR=QcL s.data.toList 45) (λ_ wr=>s.size - wr.iterPos w.heap.size)
 case atStart=>exact⟨0,45,rfl,by omega,rfl,rfl⟩
 case round=>
  obtain⟨k,bR,rfl,hk,rfl,hn⟩:=hrel;by_cases hp:k < s.size
  .obtain⟨r,p,kH,hr⟩:=QFJ (P:=Tryz.prog) w s k hp;rw[QF9 s k hp]at hn;have d5:(r=45/\bR=45)\/(¬r=45/\(r < 97\/122 < r))->Qop s=false:=by
    intro h;have:QcL s.data.toList 45=false:=by
     rw[<-hn];rcases hr with⟨rfl,rfl⟩ | ⟨h1,h2⟩
     .rcases h with⟨h3,h4⟩ | ⟨h3,h4⟩
      .simp only[QcL]; rw[if_pos h3,if_pos h4]
      .simp only[QcL]; rw[if_neg h3,if_pos h4]
     .simp only[QcL]; rw[if_neg (by omega),if_pos (by omega)]
    simp[Qop,this]
   have tX:¬((r=45/\bR=45)\/(¬r=45/\(r < 97\/122 < r)))->p=k+1/\QcL (s.data.toList.drop (k+1)) r=QcL s.data.toList 45:=by
    intro h;rcases hr with⟨rfl,rfl⟩ | ⟨h1,h2⟩
    .refine⟨rfl,?_⟩;rw[<-hn];simp only[QcL];by_cases h3:(s[k].toNat:Int)=45
     .rw[if_pos h3,if_neg (by omega),h3]
     .rw[if_neg h3,if_neg (by omega)]
    .omega
   have H_hn:=Lib.hid hn; clear hn; have H_hfin:=Lib.hid d5; clear d5; have H_hgo:=Lib.hid tX; clear tX; have H_hr:=Lib.hid hr; clear hr;by_cases h45:r=45
   .subst h45;by_cases hl:bR=45
    .subst hl
     go_wp2
     go_ret
     exact⟨Qha (H_hfin.out (by simp)).symm,Qel _ _ _⟩
    .have t7:(bR==45)=false:=by simpa using hl
     go_wp2
     go_roundw
     obtain⟨rfl,h2⟩:=H_hgo.out (by omega)
     case rel=>exact⟨k+1,45,rfl,by omega,rfl,h2⟩
     case measure=>obtain⟨rfl,h2⟩:=H_hgo.out (by omega); simp; omega
   .have h45':(r==45)=false:=by simpa using h45
    by_cases h97:r < 97
    .go_wp2
     go_ret
     exact⟨Qha (H_hfin.out (by omega)).symm,Qel _ _ _⟩
    .by_cases xA:122 < r
     .go_wp2
      go_ret
      exact⟨Qha (H_hfin.out (by omega)).symm,Qel _ _ _⟩
     .go_wp2
      go_roundw
      case rel=>obtain⟨rfl,h2⟩:=H_hgo.out (by omega); exact⟨k+1,r,rfl,by omega,rfl,h2⟩
      case measure=>obtain⟨rfl,h2⟩:=H_hgo.out (by omega); simp; omega
  .have kH:∀ty,(Instr.next (.pointer (some ⟨w.heap.size,0,none⟩)) true ty).run Tryz.prog (w.iter s k)=_:=λty=>run_next_end w s k ty hp
   rw[QB9 s k hp]at hn;have H_hn:=Lib.hid hn; clear hn;by_cases hl:bR=45
   .subst hl
    go_wp2
    go_ret
    exact⟨Qha (by rw[Qop,<-H_hn.out]; rfl),Qel _ _ _⟩
   .have t7:(bR==45)=false:=by simpa using hl
    go_wp2
    go_ret
    exact⟨Qha (Qzw s bR hl H_hn.out),Qel _ _ _⟩
def QC5 (r:Nat):List (Nat×Option Nat):=match r with
 | 0=>kpn [0,1,2]
 | 1=>[(4,none)]
 | _=>[]
def Qvf (r:Nat):List (Nat×Option Nat):=match r with
 | 0=>kpn [0,1]
 | 1=>kpn [0,1,7,8]
 | 2=>kpn [0,1,7,8,9]
 | 3=>kpn [0,1,5,7,8]
 | 4=>kpn [0,1,5,7,8,16]
 | 5=>[(4,none)]
 | 6=>kpn [0,1,7,8]
 | 7=>[(4,none)]
 | _=>[]
def kp52 (r:Nat):List (Nat×Option Nat):=match r with
 | 0=>[(0,none)]
 | 1=>[(2,none)]
 | _=>[]
def kp87 (r:Nat):List (Nat×Option Nat):=match r with
 | 0=>kpn [0,1]
 | 1=>[(4,none)]
 | _=>[]
def kp48 (r:Nat):List (Nat×Option Nat):=match r with
 | 0=>kpn [2,3,4]
 | 1=>[(6,none)]
 | _=>[]
def QBs {α:Type} (p:α->Bool) (l:List α):Int:=match l.findIdx? p with | some k=>(k:Int) | none=> -1
theorem Qeo {α:Type} (p:α->Bool) (l:List α):(QBs p l= -1/\l.any p=false/\∀k (h:k < l.length),p l[k]=false)\/∃k,∃h:k < l.length,QBs p l=k/\l.any p=true/\p l[k]=true/\∀j (hj:j < l.length),j < k->p l[j]=false:=by
 unfold QBs;cases h:l.findIdx? p with
 | none=>
  have:=List.findIdx?_eq_none_iff.1 h;refine .inl ⟨rfl,?_,λk hk=>this _ (Ze hk)⟩;rw[List.any_eq_false];intro x hx;simp[this x hx]
 | some k=>
  obtain⟨h1,h2,h3⟩:=List.findIdx?_eq_some_iff_getElem.1 h;refine .inr ⟨k,h1,rfl,?_,h2,λj hj t6=>?_⟩
  .rw[Zy]; exact⟨_,Ze h1,h2⟩
  .have:=h3 j t6;simpa using this
def Qp7:Cod Int:=⟨λn=> .dat 1 [[DI n]] 0 0,λd=>match d with | .dat 1 [[.v (.int .i64 n)]] 0 0=>some n | _=>none,λd x h=>by
 split at h
 .cases h; exact DImp.refl _
 .cases h⟩
inductive Prd where
 | out (lo hi:Int)
 | outS (lo hi:Int)
 | neg
def Prd.is:Prd->Int->Bool
 | .out lo hi,n=>!inR n lo hi
 | .outS lo hi,n=>!inR n lo hi
 | .neg,n=>decide (n < 0)
def Prd.enc:Prd->D
 | .out lo hi=> .fn 201 [] [.dat 1 [[DI lo]] 0 0,.dat 1 [[DI hi]] 0 0]
 | .outS lo hi=> .fn 189 [] [.dat 1 [[DI lo]] 0 0,.dat 1 [[DI hi]] 0 0]
 | .neg=> .v (.func (.func 194) #[] #[])
def QGr (f:Nat):Value->Bool
 | .func (.func g) a b=>g==f&&a.isEmpty&&b.isEmpty
 | _=>false
theorem Qkc {f:Nat} {v:Value} (h:QGr f v=true):v= .func (.func f) #[] #[]:=by
 unfold QGr at h;split at h
 .rename_i g a b;simp only[Za,beq_iff_eq,Array.isEmpty_iff]at h;obtain⟨⟨rfl,rfl⟩,rfl⟩:=h; rfl
 .cases h
def QEV:Cod Prd:=⟨Prd.enc,λd=>match d with
 | .fn 201 [] [.dat 1 [[.v (.int .i64 a)]] 0 0,.dat 1 [[.v (.int .i64 b)]] 0 0]=>some (.out a b)
 | .fn 189 [] [.dat 1 [[.v (.int .i64 a)]] 0 0,.dat 1 [[.v (.int .i64 b)]] 0 0]=>some (.outS a b)
 | .v v=>if QGr 194 v=true then some .neg else none
 | _=>none,λd x h=>by
 split at h
 .cases h; exact DImp.refl _
 .cases h; exact DImp.refl _
 .split at h
  .rename_i hf;cases h;rw[Qkc hf]; exact DImp.refl _
  .cases h
 .cases h⟩
theorem QdG (n:Int):Qp7.enc n= .dat 1 [[DI n]] 0 0:=rfl
theorem QdI (n:Int):Qp7.dec (.dat 1 [[DI n]] 0 0)=some n:=rfl
theorem QrT (p:Prd):QEV.enc p=p.enc:=rfl
theorem QCe (a b:Int):QEV.dec (.fn 201 [] [.dat 1 [[DI a]] 0 0,.dat 1 [[DI b]] 0 0])=some (.out a b):=rfl
theorem Qxr (a b:Int):QEV.dec (.fn 189 [] [.dat 1 [[DI a]] 0 0,.dat 1 [[DI b]] 0 0])=some (.outS a b):=rfl
theorem QBO:QEV.dec (.v (.func (.func 194) #[] #[]))=some .neg:=rfl
theorem QHr (p:Prd):QEV.dec p.enc=some p:=by cases p<;>rfl
def s88:List D->Option D:=sp3 QaY Qp7 Qp7 QaW λn lo hi=>some (!inR n lo hi)
theorem ok88:∀ds d,s88 ds=some d->PureC Tryz.prog 201 ds d:=QcN λn lo hi r hr=>by
 cases hr;refine Qf (Qw Qs 13 QC5 []) Tryz.func201 rfl rfl (Zb rfl) (by kernel_rfl) ?_
 rw[Tryz.results201];unfold inR;by_cases h:n < lo
 .have h':¬lo<=n:=by omega
  simp[QC5,QdG,h,h']
 .have h':lo<=n:=by omega
  by_cases h2:hi < n
  .have h2':¬n<=hi:=by omega
   simp[QC5,QdG,h,h',h2,h2']
  .have h2':n<=hi:=by omega
   simp[QC5,QdG,h,h',h2,h2']
theorem QKf (xs:Array Value) (w:World):(callFunc 201 xs).run Tryz.prog w= .ok (.enter 201 xs) w:=by kernel_rfl
def QLE:List D->Option D:=sp3 QaY Qp7 Qp7 QaW λn lo hi=>some (!inR n lo hi)
theorem QOl:∀ds d,QLE ds=some d->PureC Tryz.prog 189 ds d:=QcN λn lo hi r hr=>by
 cases hr;refine Qf (Qw Qs 13 QC5 []) Tryz.func189 rfl rfl (Zb rfl) (by kernel_rfl) ?_
 rw[Tryz.results189];unfold inR;by_cases h:n < lo
 .have h':¬lo<=n:=by omega
  simp[QC5,QdG,h,h']
 .have h':lo<=n:=by omega
  by_cases h2:hi < n
  .have h2':¬n<=hi:=by omega
   simp[QC5,QdG,h,h',h2,h2']
  .have h2':n<=hi:=by omega
   simp[QC5,QdG,h,h',h2,h2']
theorem QGs (xs:Array Value) (w:World):(callFunc 189 xs).run Tryz.prog w= .ok (.enter 189 xs) w:=by kernel_rfl
def s52:List D->Option D:=sp1 QaY QaW λn=>some (decide (n < 0))
theorem ok52:∀ds d,s52 ds=some d->PureC Tryz.prog 194 ds d:=Qbr λn r hr=>by
 cases hr;refine Qf (Qw Qs 5 kp52 []) Tryz.func194 rfl rfl (Zb rfl) (by kernel_rfl) ?_
 rw[Tryz.results194];simp[kp52]
theorem QIP (xs:Array Value) (w:World):(callFunc 194 xs).run Tryz.prog w= .ok (.enter 194 xs) w:=by kernel_rfl
def p1:List (Nat×(List D->Option D)):=[(189,QLE),(201,s88),(194,s52)]
theorem dp1:QaE Tryz.prog (Qaw p1):=Qh (Qh (Qh Qs QIP ok52) QKf ok88) QGs QOl
def s51:List D->Option D:=sp2 (QJ QH) QEV QaY λl p=>if l.length<=35184372088832 then some (QBs p.is l)else none
set_option maxHeartbeats 1000000 in
theorem ok51:∀ds d,s51 ds=some d->PureC Tryz.prog 193 ds d:=Qay λl p r hr=>by
 split at hr
 .rename_i n5;cases hr;refine Qf (Qw dp1 19 Qvf []) Tryz.func193 rfl rfl (Zb rfl) (by kernel_rfl) ?_
  rw[Tryz.results193];simp[Qvf,QrT];rcases Qeo p.is l with⟨e1,_,hall⟩ | ⟨k,hk,e1,_,aM,aT⟩
  .rw[e1]
   (generalize aC:Cx.loop _ _ _=aE; apply Qi aC (λk=>⟨[(0,.d (.sl 1 (l.map QH.enc))),(1,.d p.enc),(7,.d (DI l.length)),(8,.d (DI k))],[],[],[]⟩) l.length (by first | (simp; done) | (simp; rfl) | (simp; simp[*])); rotate_left; (show _ < 281474976710656; omega); rfl; rotate_left; all_goals clear aC)
   .intro j hj;have w1:=Qa ((j:Int)+1) (by omega) (by omega)
    have aO:(j:Int) < l.length:=by omega
    have hn:=hall j hj;cases p with
    | out lo hi=>
     have gC:inR l[j] lo hi=true:=by simpa[Prd.is]using hn
     simp[Qvf,p1,s88,QdI,Prd.enc,hj,aO,gC,w1]
    | outS lo hi=>
     have gC:inR l[j] lo hi=true:=by simpa[Prd.is]using hn
     simp[Qvf,p1,QLE,QdI,Prd.enc,hj,aO,gC,w1]
    | neg=>
     have gC:¬l[j] < 0:=by simpa[Prd.is]using hn
     simp[Qvf,p1,s52,Prd.enc,hj,aO,gC,w1]
   .simp[Qvf]
  .rw[e1]
   (generalize aC:Cx.loop _ _ _=aE; apply Qi aC (λk=>⟨[(0,.d (.sl 1 (l.map QH.enc))),(1,.d p.enc),(7,.d (DI l.length)),(8,.d (DI k))],[],[],[]⟩) k (by first | (simp; done) | (simp; rfl) | (simp; simp[*])); rotate_left; (show _ < 281474976710656; omega); rfl; rotate_left; all_goals clear aC)
   .intro j cM;have hj:j < l.length:=by omega
    have w1:=Qa ((j:Int)+1) (by omega) (by omega)
    have aO:(j:Int) < l.length:=by omega
    have hn:=aT j hj cM;cases p with
    | out lo hi=>
     have gC:inR l[j] lo hi=true:=by simpa[Prd.is]using hn
     simp[Qvf,p1,s88,QdI,Prd.enc,hj,aO,gC,w1]
    | outS lo hi=>
     have gC:inR l[j] lo hi=true:=by simpa[Prd.is]using hn
     simp[Qvf,p1,QLE,QdI,Prd.enc,hj,aO,gC,w1]
    | neg=>
     have gC:¬l[j] < 0:=by simpa[Prd.is]using hn
     simp[Qvf,p1,s52,Prd.enc,hj,aO,gC,w1]
   .have aX:(k:Int) < l.length:=by omega
    cases p with
    | out lo hi=>
     have gC:inR l[k] lo hi=false:=by simpa[Prd.is]using aM
     simp[Qvf,p1,s88,QdI,Prd.enc,hk,aX,gC]
    | outS lo hi=>
     have gC:inR l[k] lo hi=false:=by simpa[Prd.is]using aM
     simp[Qvf,p1,QLE,QdI,Prd.enc,hk,aX,gC]
    | neg=>
     have gC:l[k] < 0:=by simpa[Prd.is]using aM
     simp[Qvf,p1,s52,Prd.enc,hk,aX,gC]
 .cases hr
theorem QDH (xs:Array Value) (w:World):(callFunc 193 xs).run Tryz.prog w= .ok (.enter 193 xs) w:=by kernel_rfl
theorem QrS {α:Type} (p:α->Bool) (l:List α):decide (0<=QBs p l)=l.any p:=by
 rcases Qeo p l with⟨e1,e2,_⟩ | ⟨k,hk,e1,e2,_⟩
 .rw[e1,e2]; rfl
 .rw[e1,e2]; simp
def p2:List (Nat×(List D->Option D)):=(193,s51)::p1
theorem dp2:QaE Tryz.prog (Qaw p2):=Qh dp1 QDH ok51
def s87:List D->Option D:=sp2 (QJ QH) QEV QaW λl p=>if l.length<=35184372088832 then some (l.any p.is)else none
theorem ok87:∀ds d,s87 ds=some d->PureC Tryz.prog 179 ds d:=Qay λl p r hr=>by
 split at hr
 .rename_i n5;cases hr;refine Qf (Qw dp2 9 kp87 []) Tryz.func179 rfl rfl (Zb rfl) (by kernel_rfl) ?_
  rw[Tryz.results179];have hp:=QrS p.is l;rw[<-hp];simp[kp87,p2,s51,QrT,QHr,Qn,Qap,n5]
 .cases hr
theorem QJv (xs:Array Value) (w:World):(callFunc 179 xs).run Tryz.prog w= .ok (.enter 179 xs) w:=by kernel_rfl
def p3:List (Nat×(List D->Option D)):=(179,s87)::p2
theorem dp3:QaE Tryz.prog (Qaw p3):=Qh dp2 QJv ok87
def Qk3 (lo hi:Int) (l:List Int):Bool:=l.any λn=>!inR n lo hi
def s48:List D->Option D:=sp3 QaY QaY (QJ QH) QaW λlo hi l=>if l.length<=35184372088832 then some (Qk3 lo hi l)else none
theorem QMu:∀ds d,s48 ds=some d->PureC Tryz.prog 133 ds d:=QcN λlo hi l r hr=>by
 split at hr
 .rename_i n5;cases hr;refine Qf (Qw dp3 10 kp48 []) Tryz.func133 rfl rfl (Zb rfl) (by kernel_rfl) ?_
  rw[Tryz.results133];have e:Qk3 lo hi l=l.any (Prd.out lo hi).is:=rfl;rw[e];simp[kp48,p3,s87,QCe,Qn,Qap,n5]
 .cases hr
theorem Qot (xs:Array Value) (w:World):(callFunc 133 xs).run Tryz.prog w= .ok (.enter 133 xs) w:=by kernel_rfl
def QeV (l:List UInt8) (bR:Int) (i:Nat):Int:=if i=0 then bR else(l.getD (i - 1) 0).toNat
theorem Qmh:∀(l:List UInt8) (bR:Int),QcL l bR=true↔(∀i,i < l.length->(((l.getD i 0).toNat:Int)=45\/(97<=((l.getD i 0).toNat:Int)/\((l.getD i 0).toNat:Int)<=122))/\¬(((l.getD i 0).toNat:Int)=45/\QeV l bR i=45))/\¬QeV l bR l.length=45
 | [],bR=>by simp[QcL,QeV]
 | x::t,bR=>by
  have cE:∀i,QeV (x::t) bR (i+1)=QeV t x.toNat i:=by
   intro i;unfold QeV;cases i with
   | zero=>simp
   | succ i=>simp
  have ih:=Qmh t x.toNat;rw[QcL];by_cases h1:(x.toNat:Int)=45
  .rw[if_pos h1];by_cases h2:bR=45
   .rw[if_pos h2];constructor
    .intro h; cases h
    .intro h; exact absurd ⟨by simpa using h1,by simpa[QeV]using h2⟩ (h.1 0 (by simp)).2
   .rw[if_neg h2];rw[h1]at ih;rw[ih,List.length_cons,cE,h1];constructor
    .rintro⟨h,h'⟩;refine⟨λi hi=>?_,h'⟩;cases i with
     | zero=>exact⟨.inl (by simpa using h1),λhh=>h2 (by simpa[QeV]using hh.2)⟩
     | succ i=>rw[cE,h1]; simpa using h i (by simpa using hi)
    .rintro⟨h,h'⟩;refine⟨λi hi=>?_,h'⟩;have:=h (i+1) (by simpa using hi)
     rw[cE,h1]at this; simpa using this
  .rw[if_neg h1];by_cases h2:(x.toNat:Int) < 97\/122 < (x.toNat:Int)
   .rw[if_pos h2];constructor
    .intro h; cases h
    .intro h;have:=(h.1 0 (by simp)).1
     simp at this;omega
   .rw[if_neg h2,ih,List.length_cons,cE];constructor
    .rintro⟨h,h'⟩;refine⟨λi hi=>?_,h'⟩;cases i with
     | zero=>exact⟨.inr (by simp; omega),λhh=>h1 (by simpa using hh.1)⟩
     | succ i=>rw[cE]; simpa using h i (by simpa using hi)
    .rintro⟨h,h'⟩;refine⟨λi hi=>?_,h'⟩;have:=h (i+1) (by simpa using hi)
     rw[cE]at this; simpa using this
theorem Qru (s:ByteArray) (i:Nat):QaL s i=((s.data.toList.getD i 0).toNat:Int):=by
 unfold QaL;by_cases h:i < s.size
 .have h2:i < s.data.toList.length:=by simpa using h
  rw[Ql _ _ _ h2];simp[getElem?_pos,h];rfl
 .have h2:s.data.toList.length<=i:=by simpa using h
  simp[List.getD,getElem?_neg,h]
theorem QrW (s:ByteArray) (i:Nat):QzJ s i=true↔(QaL s i=45\/(97<=QaL s i/\QaL s i<=122))/\(0 < i->QaL s i=45->¬QaL s (i - 1)=45):=by
 unfold QzJ inR;by_cases h1:QaL s i=45<;>by_cases h2:0 < i<;>by_cases h3:QaL s (i - 1)=45<;>simp[h1,h2,h3]
theorem Qrg (s:ByteArray):Qbz s=true↔(1<=(s.size:Int)/\(s.size:Int)<=20)/\¬QaL s 0=45/\¬QaL s (s.size - 1)=45/\∀i,i < s.size->QzJ s i=true:=by
 unfold Qbz;simp[inR,and_assoc]
theorem QtA (s:ByteArray):Qbz s=Qop s:=by
 have aI:s.data.toList.length=s.size:=by simp
 rw[Bool.eq_iff_iff,Qrg];unfold Qop;rw[Za,Qmh,aI];simp only[<-Qru,decide_eq_true_eq,QeV];constructor
 .rintro⟨⟨h1,h2⟩,h3,h4,h5⟩;refine⟨⟨λi hi=>?_,?_⟩,by omega⟩
  .have:=(QrW s i).1 (h5 i hi);refine⟨this.1,?_⟩;by_cases m9:i=0
   .subst m9; intro hh; exact h3 hh.1
   .rw[if_neg m9]; intro hh; exact this.2 (by omega) hh.1 hh.2
  .rw[if_neg (by omega)]; exact h4
 .rintro⟨⟨h1,h2⟩,h3⟩;have hs:¬s.size=0:=λh=>by rw[if_pos h]at h2; exact h2 rfl
  rw[if_neg hs]at h2;refine⟨by omega,λh=>(h1 0 (by omega)).2 ⟨h,by simp⟩,h2,λi hi=>(QrW s i).2 ⟨(h1 i hi).1,λm9 hb eV=>(h1 i hi).2 ⟨hb,by rw[if_neg (by omega)]; exact eV⟩⟩⟩
theorem Qf1 {P:Program} {f:Nat} {ds:List D} {d:D} (h:∀(m:Nat->Nat->Prop) (w:World) (vs:List Value),(∀b o,m b o->b < w.heap.size)->GlobIn m w->RelL m w ds vs->∃v,Calls P f vs.toArray w (λe w'=>e= .returned v/\Below w.heap.size w w')/\∀m' w',Rel m' w' d v):PureC P f ds d:=λm w vs hm hG hr=>by
 obtain⟨v,h1,h2⟩:=h m w vs hm hG hr;exact h1.mono λe w' ⟨he,hb⟩=>⟨v,λ_ _=>False,he,hb,λb o h=>h.elim,h2 _ _⟩
def QAO (s:ByteArray):Prop:=s.size<=140737488355328
instance (s:ByteArray):Decidable (QAO s):=inferInstanceAs (Decidable (_<=_))
def s89:List D->Option D:=sp1 Qoe QaW λs=>if QAO s then some (Qbz s)else none
theorem ok89:∀ds d,s89 ds=some d->PureC Tryz.prog 77 ds d:=Qbr λs r hr=>by
 split at hr
 .rename_i hs;cases hr;refine Qf1 λm w vs hm hG hr=>?_;simp only[RelL,Rel,Qdr]at hr;obtain⟨v,t,rfl,rfl,rfl⟩:=hr;refine⟨_,QAp s w hs,λm' w'=>?_⟩;rw[QtA,QkF];simp[Rel]
 .cases hr
theorem QDx (xs:Array Value) (w:World):(callFunc 77 xs).run Tryz.prog w= .ok (.enter 77 xs) w:=by kernel_rfl
end Go.Proofs.YticoemblgkemiaaGreatDoor
namespace Go.Proofs.YticoemblgkemiaaGreatDoor
open Go.RowKit
def kp91 (r:Nat):List (Nat×Option Nat):=match r with
 | 0=>kpn [1,2]
 | 1=>[(3,none)]
 | _=>[]
def QuW (r:Nat):List (Nat×Option Nat):=match r with
 | 0=>kpn [0,1]
 | 1=>kpn [0,1,7,8]
 | 2=>kpn [0,1,7,8,9]
 | 3=>kpn [0,1,5,7,8]
 | 4=>kpn [0,1,5,7,8,16]
 | 5=>[(4,none)]
 | 6=>kpn [0,1,7,8]
 | 7=>[(4,none)]
 | _=>[]
def kp90 (r:Nat):List (Nat×Option Nat):=match r with
 | 0=>kpn [0,1]
 | 1=>[(4,none)]
 | _=>[]
def Qi2:Cod Bat:=⟨λx=> .dat 5 [QQ.enc x] 0 0,λd=>match d with | .dat 5 [r] 0 0=>QQ.dec r | _=>none,λd x h=>by
 split at h
 .rename_i r;intro m w y hy;simp only[Rel]at hy|-;obtain⟨h0,b,o,h1,h2⟩:=hy;refine⟨by simp,b,o,h1,?_⟩
  simp only[RelRows]at h2|-;obtain⟨⟨h3,h4⟩,_⟩:=h2;exact⟨⟨rfl,(QQ.ed _ _ h).cells h4⟩,trivial⟩
 .cases h⟩
theorem Qkm (x:Bat):Qi2.enc x= .dat 5 [QQ.enc x] 0 0:=rfl
theorem QwU (x:Bat):Qi2.dec (.dat 5 [QQ.enc x] 0 0)=some x:=QQ.de x
theorem QrQ (x:Bat):Qi2.dec (.dat 5 [[DS x.name,DI x.grams,DI x.fresh,DB x.lost,.sl 2 (x.takes.map Qce.enc)]] 0 0)=some x:=QQ.de x
def Qll (x y:Bat):Bool:=y.name.toList==x.name.toList
def s91:List D->Option D:=sp2 (Qcf QQ) Qi2 QaW λy x=>some (Qll x y)
theorem ok91:∀ds d,s91 ds=some d->PureC Tryz.prog 234 ds d:=Qay λy x r hr=>by
 cases hr;refine Qf (Qw Qs 9 kp91 []) Tryz.func234 rfl rfl (Zb rfl) (by kernel_rfl) ?_
 rw[Tryz.results234];unfold Qll;simp[kp91,Qe,Qkm]
theorem QIQ (xs:Array Value) (w:World):(callFunc 234 xs).run Tryz.prog w= .ok (.enter 234 xs) w:=by kernel_rfl
def QrI:Cod Bat:=⟨λx=> .fn 234 [] [Qi2.enc x],λd=>match d with | .fn 234 [] [y]=>Qi2.dec y | _=>none,λd x h=>by
 split at h
 .rename_i y;intro m w v hv;simp only[Rel,RelL]at hv|-;obtain⟨fs,cs,h1,h2,u,t,h3,h4,h5⟩:=hv;exact⟨fs,cs,h1,h2,u,t,h3,Qi2.ed _ _ h _ _ _ h4,h5⟩
 .cases h⟩
theorem Qmo (x:Bat):QrI.enc x= .fn 234 [] [.dat 5 [QQ.enc x] 0 0]:=rfl
theorem QoK (x:Bat):QrI.dec (.fn 234 [] [.dat 5 [[DS x.name,DI x.grams,DI x.fresh,DB x.lost,.sl 2 (x.takes.map Qce.enc)]] 0 0])=some x:=QQ.de x
def q1:List (Nat×(List D->Option D)):=[(234,s91)]
theorem dq1:QaE Tryz.prog (Qaw q1):=Qh Qs QIQ ok91
def QOo:List D->Option D:=sp2 (QJ QQ) QrI QaY λl x=>if l.length<=1000000 then some (QBs (Qll x) l)else none
theorem QvZ (x y:Bat):s91 [.agg [DS y.name,DI y.grams,DI y.fresh,DB y.lost,.sl 2 (y.takes.map Qce.enc)],.dat 5 [[DS x.name,DI x.grams,DI x.fresh,DB x.lost,.sl 2 (x.takes.map Qce.enc)]] 0 0]=some (DB (Qll x y)):=by
 simp[s91,sp2,QrQ,QaQ,QFr]
set_option maxHeartbeats 1000000 in
theorem QOs:∀ds d,QOo ds=some d->PureC Tryz.prog 258 ds d:=Qay λl x r hr=>by
 split at hr
 .rename_i n5;cases hr;refine Qf (Qw dq1 19 QuW []) Tryz.func258 rfl rfl (Zb rfl) (by kernel_rfl) ?_
  rw[Tryz.results258];simp[QuW,Qmo,Qj,Qe];rcases Qeo (Qll x) l with⟨e1,_,hall⟩ | ⟨k,hk,e1,_,aM,aT⟩
  .rw[e1]
   (generalize aC:Cx.loop _ _ _=aE; apply Qi aC (λk=>⟨[(0,.d (.sl 5 (l.map QQ.enc))),(1,.d (.fn 234 [] [.dat 5 [QQ.enc x] 0 0])),(7,.d (DI l.length)),(8,.d (DI k))],[],[],[]⟩) l.length (by first | (simp; done) | (simp; rfl) | (simp; simp[*])); rotate_left; (show _ < 281474976710656; omega); rfl; rotate_left; all_goals clear aC)
   .intro j hj;have w1:=Qa ((j:Int)+1) (by omega) (by omega)
    have aO:(j:Int) < l.length:=by omega
    have hn:=hall j hj;have qS:=QvZ x l[j];rw[hn]at qS;simp[QuW,q1,Qe,hj,aO,qS,w1]
   .simp[QuW]
  .rw[e1]
   (generalize aC:Cx.loop _ _ _=aE; apply Qi aC (λk=>⟨[(0,.d (.sl 5 (l.map QQ.enc))),(1,.d (.fn 234 [] [.dat 5 [QQ.enc x] 0 0])),(7,.d (DI l.length)),(8,.d (DI k))],[],[],[]⟩) k (by first | (simp; done) | (simp; rfl) | (simp; simp[*])); rotate_left; (show _ < 281474976710656; omega); rfl; rotate_left; all_goals clear aC)
   .intro j cM;have hj:j < l.length:=by omega
    have w1:=Qa ((j:Int)+1) (by omega) (by omega)
    have aO:(j:Int) < l.length:=by omega
    have hn:=aT j hj cM;have qS:=QvZ x l[j];rw[hn]at qS;simp[QuW,q1,Qe,hj,aO,qS,w1]
   .have aX:(k:Int) < l.length:=by omega
    have qS:=QvZ x l[k];rw[aM]at qS;simp[QuW,q1,Qe,hk,aX,qS]
 .cases hr
theorem QHw (xs:Array Value) (w:World):(callFunc 258 xs).run Tryz.prog w= .ok (.enter 258 xs) w:=by kernel_rfl
def q2:List (Nat×(List D->Option D)):=[(258,QOo)]
theorem dq2:QaE Tryz.prog (Qaw q2):=Qh Qs QHw QOs
def s90:List D->Option D:=sp2 (QJ QQ) QrI QaW λl x=>if l.length<=1000000 then some (l.any (Qll x))else none
theorem ok90:∀ds d,s90 ds=some d->PureC Tryz.prog 233 ds d:=Qay λl x r hr=>by
 split at hr
 .rename_i n5;cases hr;refine Qf (Qw dq2 9 kp90 []) Tryz.func233 rfl rfl (Zb rfl) (by kernel_rfl) ?_
  rw[Tryz.results233];have hp:=QrS (Qll x) l;rw[<-hp];simp[kp90,q2,QOo,Qmo,QoK,Qj,Qe,Q9,n5]
 .cases hr
theorem QJK (xs:Array Value) (w:World):(callFunc 233 xs).run Tryz.prog w= .ok (.enter 233 xs) w:=by kernel_rfl
end Go.Proofs.YticoemblgkemiaaGreatDoor
