/-
  strings.Builder in this program: copyCheck and WriteString, whose texts the shelf's table does not know (turned from the shelf's proofs). Conditions: none.
-/
import Derived.Test.YticoemblgkemiaaGreatDoorZPrA
import Derived.Test.YticoemblgkemiaaGreatDoorZShelf
import Derived.Test.YticoemblgkemiaaGreatDoorZRefS
import Derived.Lib.AppendIntMem
set_option linter.unusedSimpArgs false
set_option linter.unusedVariables false
namespace Go.Proofs.YticoemblgkemiaaGreatDoor
open Go.RowKit
theorem Qzz:(Tryz.prog.info? 220).map (·.size)=some 2:=by kernel_rfl
theorem QGG:liesAt Tryz.prog Tryz.prog.depth 220 (2 / Tryz.prog.cellsOf 220) 0 220 1=true:=by kernel_rfl
set_option maxHeartbeats 1000000 in
set_option maxRecDepth 100000 in
theorem QBi (b:Nat) (w:World) (h0:w.cell? ⟨b,0,none⟩=some (.pointer (some ⟨b,0,none⟩))):
  Calls Tryz.prog 196 #[.pointer (some ⟨b,0,none⟩)] w λe w'=>e= .returned (.tuple #[])/\w'=w:=by
 obtain⟨j,hj,_⟩:=Option.map_eq_some_iff.1 Qzz
 go_enter Tryz.func196,Tryz.ntmps196
 go_wp2
 rw[Lib.run_neq_ptr_same w _ Tryz.underlying218 hj]
 go_wp2
 go_end0
 exact⟨rfl,rfl⟩
set_option maxHeartbeats 1000000 in
set_option maxRecDepth 100000 in
theorem Qy1 (b:Nat) (w:World) (h0:w.cell? ⟨b,0,none⟩=some (.pointer none)) (qE:w.shape? b=some (220,2)) (dV:w.frozen? ⟨b,0,none⟩=false):
  Calls Tryz.prog 196 #[.pointer (some ⟨b,0,none⟩)] w λe w'=>e= .returned (.tuple #[])/\w'=w.setCell ⟨b,0,none⟩ (.pointer (some ⟨b,0,none⟩)):=by
 obtain⟨j,hj,oR⟩:=Option.map_eq_some_iff.1 Qzz
 go_enter Tryz.func196,Tryz.ntmps196
 go_wp2
 rw[Lib.run_to_unsafe w ⟨b,0,none⟩ Tryz.underlying218 Tryz.underlying324 hj (by rw[oR]; decide) qE (Nat.zero_lt_succ 1)]
 simp only[Result.andThen];rw[Oper.upon_value]
 go_wp2
 rw[run_callFunc_extern Tryz.func239 (by kernel_rfl) (by kernel_rfl) (by kernel_rfl) (e:=Extern.AbiNoEscape.same) (by kernel_rfl)]
 rw[Lib.run_noEscape];simp only[Result.andThen];rw[Oper.upon_value]
 go_wp2
 rw[Lib.run_from_unsafe w ⟨b,0,none⟩ Tryz.underlying324 Tryz.underlying218 hj qE QGG];simp only[Result.andThen];rw[Oper.upon_value]
 go_wp2
 go_end0
 exact⟨rfl,rfl⟩
theorem QiU {P:Program} {w:World} (base:Nat) (t u ty e:TypeId) (i:TypeInfo) (ht:P.underlying t=some (.slice e)) (hu:P.underlying u=some .string) (hi:P.info? e=some i) (hz:i.zero=some (.int .u8 0))
  (gX:i.size=1) (sY:i.bytes=1) (v:Value) (n:Nat) (xs:List Value) (dS:w.ownsRow base e 1 v n xs) (s:ByteArray) (kF:n+s.size<=140737488355328) {v':Value} {w':World} (hr:(Builtin.append_ #[t,u] ty #[v,.string s]).run P w= .ok v' w'):∀k,v'.ownBlock=some k->v.ownBlock=some k\/k=w.heap.size:=by
 have mN:xs.length=n:=by simpa using dS.1
 intro k hk;rcases dS.2 with⟨rfl,rfl⟩ | ⟨g,bO,f6,rfl,hbg,hg,oF,hcm,bM,htake⟩
 .by_cases hm:s.size=0
  .have hf:=Lib.run_firstCells_string (P:=P) w 1 s;rw[hm]at hf;have h2:(Builtin.append_ #[t,u] ty #[.slice none 0 0,.string s]).run P w= .ok (.slice none 0 0) w:=by
    simp[Builtin.append_,run_underlying ht,run_underlying hu,sizeOf,typeInfo,hi,gX,Builtin.lenOf,hm,hf]
   rw[h2]at hr; cases hr;cases hk
  .have h2:=run_append_nil_string (P:=P) w t u ty e i (.int .u8 0) ht hu hi hz s (by omega) (by omega) (by rw[sY]; omega)
   rw[h2]at hr; cases hr;simp only[Value.ownBlock,Zs]at hk;exact .inr hk.symm
 .by_cases eT:n+s.size<=bO
  .have hcs':f6.size=bO:=by simpa using bM
   have h2:=Lib.run_append_room_string (P:=P) w t u ty e i ht hu hi gX g n bO f6 hg s eT (by omega)
   rw[h2]at hr; cases hr;exact .inl hk
  .have holds:∀j u,xs[j]?=some u->w.cell? ((⟨g,0,none⟩:Addr).add j)=some u:=dS.cells (g:=g) rfl;have h2:=Lib.run_append_grow_string (P:=P) w t u ty e i (.int .u8 0) ht hu hi hz ⟨g,0,none⟩ n bO xs (by rw[gX]; simpa using mN) holds s (by omega) (by omega) (by rw[sY]; exact growslice_fits (by omega) (by omega))
   rw[h2]at hr; cases hr;simp only[Value.ownBlock,Zs]at hk;exact .inr hk.symm
theorem Qiv {P:Program} {w:World} {ops:Array Oper} {rest:List Oper} {o:Oper} {a:Act} {Q:Exit->Act->World->Prop} (nT:o.guard=none) (sl x:Operand) (t u:TypeId) (ho:o.op= .call { callee:= .builtin .append,args:= #[sl,x],argTypes:= #[t,u]})
  (base:Nat) (e:TypeId) (i:TypeInfo) (ht:P.underlying t=some (.slice e)) (hu:P.underlying u=some .string) (hi:P.info? e=some i) (hz:i.zero=some (.int .u8 0)) (gX:i.size=1) (sY:i.bytes=1)
  (v:Value) (n:Nat) (xs:List Value) (hs:a.eval sl=v) (dS:w.ownsRow base e 1 v n xs) (s:ByteArray) (hx:a.eval x= .string s) (h63:n+s.size<=maxLen) (kF:n+s.size<=140737488355328) (x6:base<=w.heap.size)
  (h:∀v' w',w'.ownsRow base e 1 v' (n+s.size) (xs++Lib.strCells s)->w.grownBy w' v.ownBlock->(∀k,v'.ownBlock=some k->v.ownBlock=some k\/k=w.heap.size)->wpList P ops Q rest (a.put o.dst v') w'):wpList P ops Q (o::rest) a w:=by
 refine wpList_plain nT λK hK=>?_;obtain⟨v',w',hr,h2,h3,h4⟩:=Lib.run_append_own_string (P:=P) w base t u o.type e i ht hu hi hz gX sY v n xs dS s h63 kF x6;have h5:=QiU base t u o.type e i ht hu hi hz gX sY v n xs dS s kF hr;unfold Oper.wp execOp;simp only[ho,resolve,invoke,builtin,Sem.run_bind,Sem.run_pure,Zo,List.map_toArray,List.map_cons,List.map_nil,hs,hx,hr];exact hK _ _ (h v' w' h2 h3 h5)
structure BldAt (b:Nat) (v:Value) (bs:List Value) (w:World):Prop where
 blk:w.heap[b]?=some (.cells #[.pointer none,v] 220 (0,0))\/w.heap[b]?=some (.cells #[.pointer (some ⟨b,0,none⟩),v] 220 (0,0))
 own:w.ownsRow 0 5 1 v bs.length bs
 ne:v.ownBlock≠some b
theorem BldAt.is {b:Nat} {v:Value} {bs:List Value} {w:World} (h:BldAt b v bs w):Lib.IsBuilder 220 5 0 b bs w:=by
 rcases h.blk with h1 | h1
 .exact .inl ⟨Nat.zero_le _,v,h1,h.own,h.ne⟩
 .exact .inr ⟨Nat.zero_le _,v,h1,h.own,h.ne⟩
theorem BldAt.lt {b:Nat} {v:Value} {bs:List Value} {w:World} (h:BldAt b v bs w):b < w.heap.size:=by
 rcases h.blk with h1 | h1<;>exact(Zj.1 h1).1
theorem BldAt.keep {b:Nat} {v:Value} {bs:List Value} {w w':World} (h:BldAt b v bs w) (h1:w'.heap[b]?=w.heap[b]?) (h2:∀k,v.ownBlock=some k->w'.heap[k]?=w.heap[k]?):BldAt b v bs w':=by
 refine⟨by rw[h1]; exact h.blk,⟨h.own.1,?_⟩,h.ne⟩
 rcases h.own.2 with h3 | ⟨g,bO,f6,rfl,q1,q2,q3⟩
 .exact .inl h3
 .exact .inr ⟨g,bO,f6,rfl,q1,(h2 g rfl).trans q2,q3⟩
set_option maxHeartbeats 1000000 in
set_option maxRecDepth 100000 in
theorem QtO (b:Nat) (v:Value) (bs:List Value) (s:ByteArray) (w:World) (h:BldAt b v bs w) (aI:bs.length+s.size<=140737488355328):
  Calls Tryz.prog 125 #[.pointer (some ⟨b,0,none⟩),.string s] w λe w'=>e= .returned (.tuple #[.int .i64 s.size,.nilIface])/\∃v',BldAt b v' (bs++Lib.strCells s) w'/\KeepsW w (λk=>k=b\/v.ownBlock=some k) w'/\∀k,v'.ownBlock=some k->v.ownBlock=some k\/w.heap.size<=k:=by
 obtain⟨i0,hi,jT,rX,jZ⟩:=info_parts Tryz.Builder_Extra_169.infoByte;have e240:∀args w,(callFunc 196 args).run Tryz.prog w= .ok (.enter 196 args) w:=enters_of Tryz.func196 (by kernel_rfl) rfl
 have hck:Calls Tryz.prog 196 #[.pointer (some ⟨b,0,none⟩)] w λe w1=>e= .returned (.tuple #[])/\w1.heap[b]?=some (.cells #[.pointer (some ⟨b,0,none⟩),v] 220 (0,0))/\KeepsW w (λk=>k=b) w1/\w1.heap.size=w.heap.size:=by
  rcases h.blk with h1 | h1
  .have hB:Lib.BuilderAt 220 5 0 b (.pointer none) bs w:=⟨Nat.zero_le _,v,h1,h.own,h.ne⟩;refine(Qy1 b w hB.cell0 hB.shape hB.frozen0).mono ?_;rintro e w1 ⟨rfl,rfl⟩;exact⟨rfl,by simp[World.setCell,Array.getElem?_modify,h1],⟨rfl,rfl,rfl,by simp[World.setCell],λk _ hk=>Below.heap_setCell _ _ _ _ hk⟩,by simp[World.setCell]⟩
  .have hB:Lib.BuilderAt 220 5 0 b (.pointer (some ⟨b,0,none⟩)) bs w:=⟨Nat.zero_le _,v,h1,h.own,h.ne⟩;refine(QBi b w hB.cell0).mono ?_;rintro e w1 ⟨rfl,rfl⟩;exact⟨rfl,h1,KeepsW.refl _ _,rfl⟩
 go_enter Tryz.func125,Tryz.ntmps125
 go_wp2_with (go_at_fn 196; refine hck.mono ?_)
 rintro e w1 ⟨rfl,cL,m8,nA⟩;have dS:w1.ownsRow 0 5 1 v bs.length bs:=by
  refine⟨h.own.1,?_⟩;rcases h.own.2 with h3 | ⟨g,bO,f6,rfl,q1,q2,q3⟩
  .exact .inl h3
  .exact .inr ⟨g,bO,f6,rfl,q1,(m8.block g (Zj.1 q2).1 (λe=>h.ne (by simp[Value.ownBlock,e]))).trans q2,q3⟩
 have c0:w1.cell? ⟨b,0,none⟩=some (.pointer (some ⟨b,0,none⟩)):=by rw[Lib.cell_of_heap cL]; rfl
 have c1:w1.cell? ⟨b,1,none⟩=some v:=by rw[Lib.cell_of_heap cL]; rfl
 have aS:=h.ne;have hH:=Lib.hid h; clear h
 go_wp2_with (at_builtin; refine Qiv rfl _ _ 25 9 rfl 0 5 i0 Tryz.underlying25 Tryz.underlying9 hi jT rX jZ _ _ _ rfl dS s rfl ?c3 ?c4 ?c5 ?_)
 case c3=>unfold maxLen; omega
 case c4=>omega
 case c5=>omega
 intro v' w2 kX eY eB;have aQ:b < w1.heap.size:=by
  rcases Nat.lt_or_ge b w1.heap.size with h' | h'
  .exact h'
  .simp[Array.getElem?_eq_none h']at cL
 have eV:w2.heap[b]?=some (.cells #[.pointer (some ⟨b,0,none⟩),v] 220 (0,0)):=by
  rw[eY.block b aQ (λe=>aS e.symm)];exact cL
 have d0:w2.cell? ⟨b,0,none⟩=some (.pointer (some ⟨b,0,none⟩)):=by rw[Lib.cell_of_heap eV]; rfl
 have d1:w2.cell? ⟨b,1,none⟩=some v:=by rw[Lib.cell_of_heap eV]; rfl
 have f1:w2.frozen? ⟨b,1,none⟩=false:=Lib.frozen_of_heap eV 1;have tE:v'.ownBlock≠some b:=λe=>by
  rcases eB b e with h | h
  .exact aS h
  .omega
 obtain⟨ao,n',bO,rfl⟩:∃ao n' bO,v'= .slice ao n' bO:=by
  rcases kX.2 with⟨hv,_⟩ | ⟨g,bO,f6,hv,_⟩
  .exact⟨_,_,_,hv⟩
  .exact⟨_,_,_,hv⟩
 go_wp2
 go_ret2
 have bX:(w2.setCell ⟨b,1,none⟩ (.slice ao n' bO)).heap[b]?=some (.cells #[.pointer (some ⟨b,0,none⟩),.slice ao n' bO] 220 (0,0)):=by
  simp[World.setCell,Array.getElem?_modify,eV]
 have bD:∀k,k≠b->(w2.setCell ⟨b,1,none⟩ (.slice ao n' bO)).heap[k]?=w2.heap[k]?:=λk hk=>Below.heap_setCell _ _ _ _ hk;refine⟨rfl,.slice ao n' bO,⟨.inr bX,⟨by simp[Lib.strCells_length],?_⟩,tE⟩,⟨eY.os.trans m8.os,eY.tape.trans m8.tape,eY.output.trans m8.output,?_,λk hk hn=>?_⟩,λk hk=>?_⟩
 .rcases kX.2 with h3 | ⟨g,x7,f6,hv,q1,q2,q3⟩
  .exact .inl ⟨h3.1,by simpa[Lib.strCells_length]using h3.2⟩
  .refine .inr ⟨g,x7,f6,by simpa[Lib.strCells_length]using hv,q1,(bD g (λe=>tE (by rw[hv,e]; rfl))).trans q2,by simpa[Lib.strCells_length]using q3⟩
 .have:=eY.size;simp only[World.setCell,Array.size_modify];omega
 .rw[bD k (λe=>hn (.inl e)),eY.block k (by omega) (λe=>hn (.inr e.symm))]
  exact m8.block k hk λe=>hn (.inl e)
 .rcases eB k hk with h | h
  .exact .inl h
  .exact .inr (by omega)
end Go.Proofs.YticoemblgkemiaaGreatDoor
namespace Go.Proofs.YticoemblgkemiaaGreatDoor
open Go.RowKit Go.Lib
theorem Qso {m:Nat->Nat->Prop} {w:World} (h:GlobIn m w):∃k,w.cell? ⟨0,0,none⟩=some (.int .i64 k):=by
 obtain⟨_,cs,ty,fr,h1,_,k,rfl⟩:=h _ (List.mem_cons_self ..);exact⟨k,by simp[World.cell?,h1]⟩
theorem Qtb {m:Nat->Nat->Prop} {w:World} (h:GlobIn m w):Lib.TabIs Tryz.prog w "internal/strconv.uint64pow10" .u64 Lib.pow10Tab:=by
 obtain⟨_,cs,ty,fr,h1,_,rfl⟩:=h _ (List.mem_cons_of_mem _ (List.mem_cons_self ..));unfold Lib.TabIs World.var?;have e:Tryz.prog.globalNamed "internal/strconv.uint64pow10" =some 1:=by kernel_rfl
 rw[e];simp only[Option.bind_some];simp only at h1;rw[h1]
def Qou (n:Int):Prop:= -9223372036854775808<=n/\n<=9223372036854775807
instance (n:Int):Decidable (Qou n):=inferInstanceAs (Decidable (_/\_))
def s73:List D->Option D:=sp1 QaY Qoe λn=>if Qou n then some ⟨(Lib.itoa n).toArray⟩else none
theorem ok73:∀ds d,s73 ds=some d->PureC Tryz.prog 124 ds d:=Qbr λn r hr=>by
 split at hr
 .rename_i hc;cases hr;refine Qf1 λm w vs hm hG hr=>⟨.string ⟨(Lib.itoa n).toArray⟩,?_,λm' w'=>by simp[Qdr,Rel]⟩
  simp only[QmH,RelL,Rel]at hr;obtain⟨v,t,rfl,rfl,rfl⟩:=hr;refine(Tryz.strconv_Itoa n hc.1 hc.2 w (Qtb hG)).mono ?_;rintro e w' ⟨rfl,k,os,rfl⟩;exact⟨rfl,below_grow _ w (Zr _) k os⟩
 .cases hr
def s79:List D->Option D:=sp2 Qoe Qoe (Qmy Qoe Qoe QaW) λs bH=>if s.size < 100000 then some (⟨(Lib.cut s.data.toList bH.data.toList).1.toArray⟩,⟨(Lib.cut s.data.toList bH.data.toList).2.1.toArray⟩,(Lib.cut s.data.toList bH.data.toList).2.2)else none
theorem ok79:∀ds d,s79 ds=some d->PureC Tryz.prog 129 ds d:=Qay λs bH r hr=>by
 split at hr
 .rename_i hc;cases hr;refine Qf1 λm w vs hm hG hr=>⟨.tuple #[.string ⟨(Lib.cut s.data.toList bH.data.toList).1.toArray⟩,.string ⟨(Lib.cut s.data.toList bH.data.toList).2.1.toArray⟩,.bool (Lib.cut s.data.toList bH.data.toList).2.2],?_,λm' w'=>by simp[QoP,Qdr,QkF,Rel,RelL]⟩
  simp only[Qdr,RelL,Rel]at hr;obtain⟨v,t,rfl,rfl,v2,t2,rfl,rfl,rfl⟩:=hr;obtain⟨k,hk⟩:=Qso hG;refine(Tryz.strings_Cut s bH k w (by omega) hk).mono ?_
  rintro e w' ⟨rfl,n,rfl⟩;exact⟨rfl,⟨rfl,rfl,rfl,Zr _,λ_ _=>rfl⟩⟩
 .cases hr
def QiO (s bH:ByteArray):List ByteArray:=splitB bH 0 (countB s bH) s
def s80:List D->Option D:=sp2 Qoe Qoe (QJ Qg0) λs bH=>if s.size < 100000/\1<=bH.size then some (QiO s bH)else none
theorem ok80:∀ds d,s80 ds=some d->PureC Tryz.prog 130 ds d:=Qay λs bH r hr=>by
 split at hr
 .rename_i hc;cases hr;obtain⟨hs,h1⟩:=hc;have aI:(QiO s bH).length=countB s bH+1:=splitB_all bH h1 0 _ s rfl;have bE:=countB_le bH h1 s.size s (Zr _);intro m w vs hm hG hr;simp only[Qdr,RelL,Rel]at hr;obtain⟨v,t,rfl,rfl,v2,t2,rfl,rfl,rfl⟩:=hr;obtain⟨k,hk⟩:=Qso hG;refine(Tryz.strings_Split s bH k w (by omega) hk h1).mono ?_
  rintro e w' ⟨rfl,rfl⟩;refine⟨_,λb o=>b=w.heap.size,rfl,(Below.refl _ w).alloc (Zr _) _,λb o h=>by subst h; simp,?_⟩
  rw[QbL];simp only[Rel,List.length_map];rw[<-aI];refine⟨by show(QiO s bH).length<=_; omega,_,_,rfl,Zr _,.inr ⟨_,_,rfl,RelRows.of λi r hi=>?_⟩⟩
  rw[List.getElem?_map]at hi;cases hp:(QiO s bH)[i]? with
  | none=>rw[hp]at hi; cases hi
  | some p=>
   rw[hp]at hi;simp only[Option.map_some,Zs]at hi;subst hi;refine⟨rfl,?_⟩;simp only[Qa7,RelCells,Rel];refine⟨⟨.string p,.inr trivial,?_,rfl,rfl⟩,trivial⟩;have hb:=Qbi w (.cells ((QiO s bH).map Value.string).toArray 9);have e:(0+i*Qg0.k)=i:=by rw[Qgx]; omega
   rw[e];have dO:(w.alloc (.cells ((splitB bH 0 (countB s bH) s).map Value.string).toArray 9)).heap[w.heap.size]?=some (.cells ((QiO s bH).map Value.string).toArray 9 (0,0)):=hb;simp only[World.cell?,dO];simp[hp]
 .cases hr
theorem QID (xs:Array Value) (w:World):(callFunc 130 xs).run Tryz.prog w= .ok (.enter 130 xs) w:=by kernel_rfl
theorem QJ5 (xs:Array Value) (w:World):(callFunc 129 xs).run Tryz.prog w= .ok (.enter 129 xs) w:=by kernel_rfl
theorem QDp (xs:Array Value) (w:World):(callFunc 124 xs).run Tryz.prog w= .ok (.enter 124 xs) w:=by kernel_rfl
theorem QLB (xs:Array Value) (w:World):(callFunc 126 xs).run Tryz.prog w= .ok (.enter 126 xs) w:=by kernel_rfl
def Qfp (l:List ByteArray) (bH:ByteArray):ByteArray:=⟨(Lib.join (l.map (·.data.toList)) bH.data.toList).toArray⟩
def s75:List D->Option D:=sp2 (QJ Qg0) Qoe Qoe λl bH=>if 0 < l.length/\l.length<=100000/\(Qfp l bH).size<=100000 then some (Qfp l bH)else none
theorem ok75:∀ds d,s75 ds=some d->PureC Tryz.prog 126 ds d:=Qay λl bH r hr=>by
 split at hr
 .rename_i hc;cases hr;obtain⟨h0,h1,h2⟩:=hc;refine Qf1 λm w vs hm hG hr=>⟨.string (Qfp l bH),?_,λm' w'=>by simp[Qdr,Rel]⟩
  simp only[QbL,Qdr,RelL,Rel,List.length_map]at hr;obtain⟨v,t,rfl,⟨_,a,c,rfl,dX,hx⟩,v2,t2,rfl,rfl,rfl⟩:=hr;have aS:l.map Qg0.enc≠[]:=by
   intro e;have:=congrArg List.length e;simp at this;rw[this]at h0;simp at h0
  obtain⟨b,o,rfl,aZ⟩:=hx.resolve_left aS;have aK:∀(j:Nat) x,l[j]?=some x->m b (o+j)/\w.cell? ⟨b,o+j,none⟩=some (.string x):=λj x hj=>by
   obtain⟨_,hc⟩:=aZ.get j (Qg0.enc x) (by rw[List.getElem?_map,hj]; rfl)
   simp only[Qa7,RelCells,Rel]at hc;obtain⟨⟨v,q1,q2,_,q3⟩,_⟩:=hc;subst q3;rw[show o+j*Qg0.k=o+j by rw[Qgx]; omega]at q1 q2
   exact⟨q1,q2⟩
  have hb:b < w.heap.size:=hm _ _ (aK 0 _ (Zg h0)).1;refine(Tryz.strings_Join b o c l bH w (λj x hj=>(aK j x hj).2) hb (by omega) dX ?_).mono ?_
  .have:(Qfp l bH).size=(Lib.join (l.map (·.data.toList)) bH.data.toList).length:=by simp[Qfp,ByteArray.size]
   omega
  .rintro e w' ⟨rfl,h⟩;exact⟨rfl,h⟩
 .cases hr
def Qlo:Value:= .iface 29 (.int .i64 6)
def s81:List D->Option D:=λds=>match ds with | [.v (.bool true)]=>some (.tup []) | _=>none
def p81:List D->Option Value:=λds=>match ds with | [.v (.bool false)]=>some Qlo | _=>none
theorem Qvq (xs:Array Value) (w:World):(callFunc 131 xs).run Tryz.prog w= .ok (.enter 131 xs) w:=by kernel_rfl
theorem QEL (xs:Array Value) (w:World):(callFunc 200 xs).run Tryz.prog w= .ok (.enter 200 xs) w:=by kernel_rfl
theorem QsM (w:World):Calls Tryz.prog 131 #[.bool true] w λe w'=>e= .returned (.tuple #[])/\w'=w:=by
 go_enter Tryz.func131,Tryz.ntmps131
 go_wp2
 go_end0
 exact⟨rfl,rfl⟩
theorem Qq6 (w:World):Calls Tryz.prog 131 #[.bool false] w λe w'=>e= .panicked [{ v:=Qlo,recovered:=false}]/\w'=w:=by
 go_enter Tryz.func131,Tryz.ntmps131
 go_wp2
 exact⟨rfl,rfl,rfl⟩
theorem ok81:∀ds d,s81 ds=some d->PureC Tryz.prog 131 ds d:=by
 intro ds d h;unfold s81 at h;split at h
 .cases h;intro m w vs hm hG hr;simp only[RelL,Rel]at hr;obtain⟨v,t,rfl,rfl,rfl⟩:=hr;refine(QsM w).mono ?_;rintro e w' ⟨rfl,rfl⟩;exact⟨_,λ_ _=>False,rfl,Below.refl _ _,λb o h=>h.elim,by simp only[Rel]; exact⟨[],rfl,by simp[RelL]⟩⟩
 .cases h
theorem po81:∀ds v,p81 ds=some v->Qsb Tryz.prog 131 ds v:=by
 intro ds d h;unfold p81 at h;split at h
 .cases h;intro m w vs hm hG hr;simp only[RelL,Rel]at hr;obtain⟨v,t,rfl,rfl,rfl⟩:=hr;refine(Qq6 w).mono ?_;rintro e w' ⟨rfl,rfl⟩;exact⟨rfl,Below.refl _ _⟩
 .cases h
def Qgc (s:ByteArray):Option Int:=match Lib.atoiAll s.data.toList with
 | .ok n=>if Lib.itoa n=s.data.toList then some n else none
 | _=>none
theorem QCr {m:Nat->Nat->Prop} {w:World} (h:GlobIn m w):(∃t p,w.cell? ⟨2,0,none⟩=some (.iface t p))/\∃t p,w.cell? ⟨3,0,none⟩=some (.iface t p):=by
 obtain⟨_,cs,ty,fr,h1,_,t,p,rfl⟩:=h _ (List.mem_cons_of_mem _ (List.mem_cons_of_mem _ (List.mem_cons_self ..)));obtain⟨_,bK,oE,fr',h1',_,t',p',rfl⟩:=h _ (List.mem_cons_of_mem _ (List.mem_cons_of_mem _ (List.mem_cons_of_mem _ (List.mem_cons_self ..))));exact⟨⟨t,p,by simp[World.cell?,h1]⟩,t',p',by simp[World.cell?,h1']⟩
theorem QHj {l:List UInt8} {n:Int} (h:Lib.atoiAll l= .ok n):Qou n:=by
 unfold Lib.atoiAll at h;split at h
 .cases h
 .simp only at h;split at h
  .cases h
  .cases h
  .split at h
   .cases h
   .rename_i h1;split at h
    .cases h
    .rename_i h2;simp only[Lib.NumEnd.ok.injEq]at h;subst h;unfold Qou;split<;>omega
theorem QCd (s:ByteArray) (hs:s.size<=100000) {m:Nat->Nat->Prop} (w:World) (hG:GlobIn m w):Calls Tryz.prog 200 #[.string s] w λe w'=>Below w.heap.size w w'/\((∃n,Lib.atoiAll s.data.toList= .ok n/\e= .returned (.tuple #[.int .i64 n,.nilIface]))\/((∀n,Lib.atoiAll s.data.toList≠ .ok n)/\∃k t p,e= .returned (.tuple #[.int .i64 k,.iface t p]))):=by
 obtain⟨⟨t2,p2,h2⟩,t3,p3,h3⟩:=QCr hG;cases h:Lib.atoiAll s.data.toList
 .rename_i n;refine(Tryz.strconv_Atoi_ok s (by omega) n h w).mono ?_
  rintro e w' ⟨rfl,hw⟩;refine⟨?_,.inl ⟨n,rfl,rfl⟩⟩;rcases hw with rfl | ⟨t,rfl⟩
  .exact Below.refl _ _
  .exact Lib.bytesWorld_below w 5 t
 .refine(Tryz.strconv_Atoi_syntax s (by omega) h _ w h2 (.inr ⟨_,_,rfl⟩)).mono ?_
  rintro e w' ⟨N,rfl,_,_,hb⟩;exact⟨hb,.inr ⟨(λn e=>by cases e),_,_,_,rfl⟩⟩
 .refine(Tryz.strconv_Atoi_range s (by omega) h _ w h3 (.inr ⟨_,_,rfl⟩)).mono ?_
  rintro e w' ⟨N,rfl,_,_,hb⟩;exact⟨hb,.inr ⟨(λn e=>by cases e),_,_,_,rfl⟩⟩
theorem QJG {l:List UInt8} {s:ByteArray} (h:l=s.data.toList):(⟨l.toArray⟩:ByteArray)=s:=by
 subst h;cases s;simp
def QIa (s:ByteArray) (e:Ending):Prop:=match Qgc s with | some n=>e= .returned (.int .i64 n) | none=>e= .panicked [{ v:=Qlo,recovered:=false}]
theorem QFH {s:ByteArray} {n:Int} (h1:Lib.atoiAll s.data.toList= .ok n) (h2:Lib.itoa n=s.data.toList):Qgc s=some n:=by unfold Qgc; rw[h1]; simp only; rw[if_pos h2]
theorem QuV {s:ByteArray} {n:Int} (h1:Lib.atoiAll s.data.toList= .ok n) (h2:¬Lib.itoa n=s.data.toList):Qgc s=none:=by unfold Qgc; rw[h1]; simp only; rw[if_neg h2]
theorem QA1 {s:ByteArray} (h1:∀n,Lib.atoiAll s.data.toList≠ .ok n):Qgc s=none:=by
 unfold Qgc;split
 .rename_i n h; exact absurd h (h1 n)
 .rfl
set_option maxHeartbeats 1000000 in
set_option maxRecDepth 100000 in
theorem Qw8 (s:ByteArray) (hs:s.size<=100000) {m:Nat->Nat->Prop} (w:World) (hm:∀b o,m b o->b < w.heap.size) (hG:GlobIn m w):Calls Tryz.prog 132 #[.string s] w λe w'=>Below w.heap.size w w'/\QIa s e:=by
 have e113:=QEL;have e73:=QDp;have tF:=Qvq
 go_enter Tryz.func132,Tryz.ntmps132
 go_wp2_with (go_at_fn 200; refine(QCd s hs w hG).mono ?_)
 rintro e w1 ⟨cN,⟨n,hn,rfl⟩ | ⟨hn,k,t,p,rfl⟩⟩
 .have pE:=QHj hn;have hG1:GlobIn m w1:=hG.ext ⟨λ_ _ h=>h,λb o h=>cN.cell (p:=⟨b,o,none⟩) (hm b o h)⟩;have hIt:=Tryz.strconv_Itoa n pE.1 pE.2 w1 (Qtb hG1)
  go_wp2_with (go_at_fn 124; refine hIt.mono ?_)
  rintro e w2 ⟨rfl,k,os,rfl⟩;obtain⟨w3,hw3⟩:∃w3,w3=Sort.grow (w1.drewN k) os:=⟨_,rfl⟩;have eV:Below w.heap.size w (Sort.grow (w1.drewN k) os):=cN.trans (below_grow w.heap.size w1 cN.size k os);rw[<-hw3]at eV|-;clear hw3;by_cases he:(⟨(Lib.itoa n).toArray⟩:ByteArray)=s
  .have nG:=QFH hn (by rw[<-he])
   go_wp2_with (go_at_fn 131; refine(QsM _).mono ?_)
   rintro e w2 ⟨rfl,rfl⟩
   go_wp2
   go_ret
   exact⟨eV,by unfold QIa; rw[nG]; rfl⟩
  .have nG:=QuV hn (λh=>he (QJG h));have mI:(Lib.itoa n==s.toList)=false:=by
    rw[ByteArray.toList_eq];cases hq:(Lib.itoa n==s.data.toList)
    .rfl
    .exact absurd (QJG (by simpa using hq)) he
   go_wp2_with (go_at_fn 131; refine(Qq6 _).mono ?_)
   rintro e w2 ⟨rfl,rfl⟩;exact⟨rfl,eV,by unfold QIa; rw[nG]⟩
 .have nG:=QA1 hn
  go_wp2_with (go_at_fn 131; refine(Qq6 _).mono ?_)
  rintro e w2 ⟨rfl,rfl⟩;exact⟨rfl,cN,by unfold QIa; rw[nG]⟩
def s82:List D->Option D:=sp1 Qoe QaY λs=>if s.size<=100000 then Qgc s else none
def p82:List D->Option Value:=λds=>match ds with | [.v (.string s)]=>if s.size<=100000/\Qgc s=none then some Qlo else none | _=>none
theorem QDr (xs:Array Value) (w:World):(callFunc 132 xs).run Tryz.prog w= .ok (.enter 132 xs) w:=by kernel_rfl
theorem ok82:∀ds d,s82 ds=some d->PureC Tryz.prog 132 ds d:=Qbr λs n hr=>by
 split at hr
 .rename_i hs;intro m w vs hm hG bL;simp only[RelL,Rel,Qdr]at bL;obtain⟨v,t,rfl,rfl,rfl⟩:=bL;refine(Qw8 s hs w hm hG).mono ?_;rintro e w' ⟨hb,h⟩;unfold QIa at h;rw[hr]at h;exact⟨_,λ_ _=>False,h,hb,λb o h=>h.elim,by rw[QmH]; simp only[Rel]⟩
 .cases hr
theorem po82:∀ds v,p82 ds=some v->Qsb Tryz.prog 132 ds v:=by
 intro ds d h;unfold p82 at h;split at h
 .rename_i s;split at h
  .rename_i hc;cases h;obtain⟨hs,hn⟩:=hc;intro m w vs hm hG hr;simp only[RelL,Rel]at hr;obtain⟨v,t,rfl,rfl,rfl⟩:=hr;refine(Qw8 s hs w hm hG).mono ?_;rintro e w' ⟨hb,h⟩;unfold QIa at h;rw[hn]at h;exact⟨h,hb⟩
  .cases h
 .cases h
theorem po2:Qql Tryz.prog (Qlr [(131,p81),(132,p82)]):=Qtq (Qtq QEE QDr po82) Qvq po81
end Go.Proofs.YticoemblgkemiaaGreatDoor
namespace Go.Proofs.YticoemblgkemiaaGreatDoor
open Go.RowKit Go.Lib
def Qjz:ByteArray:=⟨#[108,111,115,116]⟩
def QdE (n:Int):ByteArray:=⟨(Lib.itoa n).toArray⟩
def Qnw (x:Bat):List ByteArray:=[x.name,QdE x.grams,QdE x.fresh]++(if x.lost=true then [Qjz]else [])
def Qbh (b:List Bat) (x:Bat):Nat->List ByteArray
 | 0=>Qnw x
 | j+1=>Qbh b x j++[(b.getD (x.takes.getD j default).fr.toNat default).name,QdE (x.takes.getD j default).gr]
theorem Qn8 {n:Int} (h:0<=n):QdE n=QDz n.toNat:=by
 unfold QdE QDz Lib.itoa;rw[if_neg (by omega)]
theorem QjV {a b:ByteArray} (h:a.data.toList=b.data.toList):a=b:=by
 apply ByteArray.ext;exact Array.toList_inj.1 h
theorem Qye (p bH:ByteArray):Qfp [p] bH=p:=by
 apply QjV; simp[Qfp,Lib.join_one]
theorem Qej {l:List ByteArray} (h:l≠[]) (p bH:ByteArray):Qfp (l++[p]) bH=Qfp l bH++(bH++p):=by
 cases l with
 | nil=>exact absurd rfl h
 | cons x r=>
  apply QjV;simp[Qfp,Lib.join_cons,Lib.joinTail,ByteArray.data_append]
theorem QBl (x:Bat):Qnw x≠[]:=by unfold Qnw; simp
theorem QoY (b:List Bat) (x:Bat):∀j,Qbh b x j≠[]
 | 0=>QBl x
 | j+1=>by rw[Qbh]; simp
theorem QA2 (a b c:ByteArray):a++b++c=a++(b++c):=by
 apply QjV; simp[ByteArray.data_append]
theorem Qxj (o:ByteArray) (x:Bat) (h1:0<=x.grams) (h2:0<=x.fresh):Qo6 (Qls o x) x=o++Qfp (Qnw x) spB:=by
 unfold Qo6 Qnw Qls;rw[<-Qn8 h1,<-Qn8 h2];have e3:Qfp [x.name,QdE x.grams,QdE x.fresh] spB=x.name++(spB++QdE x.grams)++(spB++QdE x.fresh):=by
  rw[show [x.name,QdE x.grams,QdE x.fresh]=([x.name]++[QdE x.grams])++[QdE x.fresh]from rfl,Qej (by simp),Qej (by simp),Qye]
 split
 .rw[Qej (by simp),e3]
  have e4:ltB=spB++Qjz:=by apply QjV; rfl
  rw[e4];apply QjV; simp[ByteArray.data_append]
 .rw[List.append_nil,e3];apply QjV; simp[ByteArray.data_append]
theorem Qij (b:List Bat) (o:ByteArray) (x:Bat) (h1:0<=x.grams) (h2:0<=x.fresh) (h3:∀t∈x.takes,0<=t.gr):∀j,j<=x.takes.length->Qqx b x (Qo6 (Qls o x) x) j=o++Qfp (Qbh b x j) spB
 | 0,_=>Qxj o x h1 h2
 | j+1,hj=>by
  have hg:0<=(x.takes.getD j default).gr:=by rw[Ql _ _ _ (by omega)]; exact h3 _ (Ze _)
  rw[Qqx,Qij b o x h1 h2 h3 j (by omega),Qbh,<-Qn8 hg]
  rw[show ∀(l:List ByteArray) (p q:ByteArray),l++[p,q]=(l++[p])++[q]from λl p q=>by simp,Qej (by simp),Qej (QoY b x j)]
  apply QjV; simp[ByteArray.data_append]
theorem Qgd (b:List Bat) (x:Bat):∀j,(Qbh b x j).length<=4+2*j
 | 0=>by
  show(Qnw x).length<=4;unfold Qnw;split<;>simp
 | j+1=>by
  have:=Qgd b x j;rw[Qbh]; simp; omega
theorem QyQ {b:List Bat} (h:BookOk b) {k:Nat} (hk:k < b.length):Qfh b (k+1)=Qfh b k++(Qfp (Qbh b b[k] b[k].takes.length) spB++nlB):=by
 have hb:=h.at hk;rw[Qfh,Ql _ _ _ hk,Qij b (Qfh b k) b[k] (by have:=hb.grams; omega) hb.fresh.1 (λt ht=>by have:=hb.gr t ht; omega) _ (Zr _),QA2]
theorem Qt0 {b:List Bat} (h:BookOk b) {k:Nat} (hk:k < b.length):(Qfp (Qbh b b[k] b[k].takes.length) spB).size<=300/\(Qbh b b[k] b[k].takes.length).length<=20/\0 < (Qbh b b[k] b[k].takes.length).length:=by
 have hb:=h.at hk;have xO:b[k].takes.length<=8:=by have:=QeX hb.asc hb.fr; have:=h.le; omega
 have h1:=Qij b ⟨#[]⟩ b[k] (by have:=hb.grams; omega) hb.fresh.1 (λt ht=>by have:=hb.gr t ht; omega) _ (Zr _)
 have h2:=QlD h hk ⟨#[]⟩;have h3:=Qmq (Qls ⟨#[]⟩ b[k]) b[k];have h4:=Qh6 h hk (Qo6 (Qls ⟨#[]⟩ b[k]) b[k]) b[k].takes.length (Zr _);rw[h1]at h4;simp only[ByteArray.size_append]at h4;have h5:(⟨#[]⟩:ByteArray).size=0:=rfl;have h6:=Qgd b b[k] b[k].takes.length;have h7:=List.length_pos_iff.2 (QoY b b[k] b[k].takes.length);omega
end Go.Proofs.YticoemblgkemiaaGreatDoor
