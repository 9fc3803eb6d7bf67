/-
  strings.Builder in this program: copyCheck and WriteString, whose texts the shelf's table does not know (turned from the shelf's proofs). Conditions: none.
-/
import Derived.Test.YtnfeakhkfehkhaaGreatDoorZPrA
import Derived.Test.YtnfeakhkfehkhaaGreatDoorZShelf
import Derived.Test.YtnfeakhkfehkhaaGreatDoorZRefS
import Derived.Lib.AppendIntMem
set_option linter.unusedSimpArgs false
set_option linter.unusedVariables false
namespace Go.Proofs.YtnfeakhkfehkhaaGreatDoor
open Go.RowKit
theorem QvC:(Tryz.prog.info? 109).map (·.size)=some 2:=by kernel_rfl
theorem QA4:liesAt Tryz.prog Tryz.prog.depth 109 (2 / Tryz.prog.cellsOf 109) 0 109 1=true:=by kernel_rfl
set_option maxHeartbeats 1000000 in
set_option maxRecDepth 100000 in
theorem QwH (b:Nat) (w:World) (h0:w.cell? ⟨b,0,none⟩=some (.pointer (some ⟨b,0,none⟩))):
  Calls Tryz.prog 108 #[.pointer (some ⟨b,0,none⟩)] w λe w'=>e= .returned (.tuple #[])/\w'=w:=by
 obtain⟨j,hj,_⟩:=Option.map_eq_some_iff.1 QvC
 go_enter Tryz.func108,Tryz.ntmps108
 go_wp2
 rw[Lib.run_neq_ptr_same w _ Tryz.underlying106 hj]
 go_wp2
 go_end0
 exact⟨rfl,rfl⟩
set_option maxHeartbeats 1000000 in
set_option maxRecDepth 100000 in
theorem Qu2 (b:Nat) (w:World) (h0:w.cell? ⟨b,0,none⟩=some (.pointer none)) (pI:w.shape? b=some (109,2)) (dT:w.frozen? ⟨b,0,none⟩=false):
  Calls Tryz.prog 108 #[.pointer (some ⟨b,0,none⟩)] w λe w'=>e= .returned (.tuple #[])/\w'=w.setCell ⟨b,0,none⟩ (.pointer (some ⟨b,0,none⟩)):=by
 obtain⟨j,hj,n5⟩:=Option.map_eq_some_iff.1 QvC
 go_enter Tryz.func108,Tryz.ntmps108
 go_wp2
 rw[Lib.run_to_unsafe w ⟨b,0,none⟩ Tryz.underlying106 Tryz.underlying164 hj (by rw[n5]; decide) pI (Nat.zero_lt_succ 1)]
 simp only[Result.andThen];rw[Oper.upon_value]
 go_wp2
 rw[run_callFunc_extern Tryz.func124 (by kernel_rfl) (by kernel_rfl) (by kernel_rfl) (e:=Extern.AbiNoEscape.same) (by kernel_rfl)]
 rw[Lib.run_noEscape];simp only[Result.andThen];rw[Oper.upon_value]
 go_wp2
 rw[Lib.run_from_unsafe w ⟨b,0,none⟩ Tryz.underlying164 Tryz.underlying106 hj pI QA4];simp only[Result.andThen];rw[Oper.upon_value]
 go_wp2
 go_end0
 exact⟨rfl,rfl⟩
theorem QhV {P:Program} {w:World} (base:Nat) (t u ty e:TypeId) (i:TypeInfo) (ht:P.underlying t=some (.slice e)) (hu:P.underlying u=some .string) (hi:P.info? e=some i) (hz:i.zero=some (.int .u8 0))
  (gK:i.size=1) (qR:i.bytes=1) (v:Value) (n:Nat) (xs:List Value) (dR:w.ownsRow base e 1 v n xs) (s:ByteArray) (jQ:n+s.size<=140737488355328) {v':Value} {w':World} (hr:(Builtin.append_ #[t,u] ty #[v,.string s]).run P w= .ok v' w'):∀k,v'.ownBlock=some k->v.ownBlock=some k\/k=w.heap.size:=by
 have lT:xs.length=n:=by simpa using dR.1
 intro k hk;rcases dR.2 with⟨rfl,rfl⟩ | ⟨g,bR,fZ,rfl,hbg,hg,lQ,hcm,bP,htake⟩
 .by_cases hm:s.size=0
  .have hf:=Lib.run_firstCells_string (P:=P) w 1 s;rw[hm]at hf;have h2:(Builtin.append_ #[t,u] ty #[.slice none 0 0,.string s]).run P w= .ok (.slice none 0 0) w:=by
    simp[Builtin.append_,run_underlying ht,run_underlying hu,sizeOf,typeInfo,hi,gK,Builtin.lenOf,hm,hf]
   rw[h2]at hr; cases hr;cases hk
  .have h2:=run_append_nil_string (P:=P) w t u ty e i (.int .u8 0) ht hu hi hz s (by omega) (by omega) (by rw[qR]; omega)
   rw[h2]at hr; cases hr;simp only[Value.ownBlock,Zs]at hk;exact .inr hk.symm
 .by_cases hroom:n+s.size<=bR
  .have hcs':fZ.size=bR:=by simpa using bP
   have h2:=Lib.run_append_room_string (P:=P) w t u ty e i ht hu hi gK g n bR fZ hg s hroom (by omega)
   rw[h2]at hr; cases hr;exact .inl hk
  .have holds:∀j u,xs[j]?=some u->w.cell? ((⟨g,0,none⟩:Addr).add j)=some u:=dR.cells (g:=g) rfl;have h2:=Lib.run_append_grow_string (P:=P) w t u ty e i (.int .u8 0) ht hu hi hz ⟨g,0,none⟩ n bR xs (by rw[gK]; simpa using lT) holds s (by omega) (by omega) (by rw[qR]; exact growslice_fits (by omega) (by omega))
   rw[h2]at hr; cases hr;simp only[Value.ownBlock,Zs]at hk;exact .inr hk.symm
theorem Qhf {P:Program} {w:World} {ops:Array Oper} {rest:List Oper} {o:Oper} {a:Act} {Q:Exit->Act->World->Prop} (nD:o.guard=none) (sl x:Operand) (t u:TypeId) (ho:o.op= .call { callee:= .builtin .append,args:= #[sl,x],argTypes:= #[t,u]})
  (base:Nat) (e:TypeId) (i:TypeInfo) (ht:P.underlying t=some (.slice e)) (hu:P.underlying u=some .string) (hi:P.info? e=some i) (hz:i.zero=some (.int .u8 0)) (gK:i.size=1) (qR:i.bytes=1)
  (v:Value) (n:Nat) (xs:List Value) (hs:a.eval sl=v) (dR:w.ownsRow base e 1 v n xs) (s:ByteArray) (hx:a.eval x= .string s) (h63:n+s.size<=maxLen) (jQ:n+s.size<=140737488355328) (uN:base<=w.heap.size)
  (h:∀v' w',w'.ownsRow base e 1 v' (n+s.size) (xs++Lib.strCells s)->w.grownBy w' v.ownBlock->(∀k,v'.ownBlock=some k->v.ownBlock=some k\/k=w.heap.size)->wpList P ops Q rest (a.put o.dst v') w'):wpList P ops Q (o::rest) a w:=by
 refine wpList_plain nD λK hK=>?_;obtain⟨v',w',hr,h2,h3,h4⟩:=Lib.run_append_own_string (P:=P) w base t u o.type e i ht hu hi hz gK qR v n xs dR s h63 jQ uN;have h5:=QhV base t u o.type e i ht hu hi hz gK qR v n xs dR s jQ hr;unfold Oper.wp execOp;simp only[ho,resolve,invoke,builtin,Sem.run_bind,Sem.run_pure,Zo,List.map_toArray,List.map_cons,List.map_nil,hs,hx,hr];exact hK _ _ (h v' w' h2 h3 h5)
structure BldAt (b:Nat) (v:Value) (bs:List Value) (w:World):Prop where
 blk:w.heap[b]?=some (.cells #[.pointer none,v] 109 (0,0))\/w.heap[b]?=some (.cells #[.pointer (some ⟨b,0,none⟩),v] 109 (0,0))
 own:w.ownsRow 0 5 1 v bs.length bs
 ne:v.ownBlock≠some b
theorem BldAt.is {b:Nat} {v:Value} {bs:List Value} {w:World} (h:BldAt b v bs w):Lib.IsBuilder 109 5 0 b bs w:=by
 rcases h.blk with h1 | h1
 .exact .inl ⟨Nat.zero_le _,v,h1,h.own,h.ne⟩
 .exact .inr ⟨Nat.zero_le _,v,h1,h.own,h.ne⟩
theorem BldAt.lt {b:Nat} {v:Value} {bs:List Value} {w:World} (h:BldAt b v bs w):b < w.heap.size:=by
 rcases h.blk with h1 | h1<;>exact(Zj.1 h1).1
theorem BldAt.keep {b:Nat} {v:Value} {bs:List Value} {w w':World} (h:BldAt b v bs w) (h1:w'.heap[b]?=w.heap[b]?) (h2:∀k,v.ownBlock=some k->w'.heap[k]?=w.heap[k]?):BldAt b v bs w':=by
 refine⟨by rw[h1]; exact h.blk,⟨h.own.1,?_⟩,h.ne⟩
 rcases h.own.2 with h3 | ⟨g,bR,fZ,rfl,q1,q2,q3⟩
 .exact .inl h3
 .exact .inr ⟨g,bR,fZ,rfl,q1,(h2 g rfl).trans q2,q3⟩
set_option maxHeartbeats 1000000 in
set_option maxRecDepth 100000 in
theorem QrV (b:Nat) (v:Value) (bs:List Value) (s:ByteArray) (w:World) (h:BldAt b v bs w) (aI:bs.length+s.size<=140737488355328):
  Calls Tryz.prog 74 #[.pointer (some ⟨b,0,none⟩),.string s] w λe w'=>e= .returned (.tuple #[.int .i64 s.size,.nilIface])/\∃v',BldAt b v' (bs++Lib.strCells s) w'/\KeepsW w (λk=>k=b\/v.ownBlock=some k) w'/\∀k,v'.ownBlock=some k->v.ownBlock=some k\/w.heap.size<=k:=by
 obtain⟨i0,hi,nC,qS,jP⟩:=info_parts Tryz.Builder_Extra_169.infoByte;have e240:∀args w,(callFunc 108 args).run Tryz.prog w= .ok (.enter 108 args) w:=enters_of Tryz.func108 (by kernel_rfl) rfl
 have hck:Calls Tryz.prog 108 #[.pointer (some ⟨b,0,none⟩)] w λe w1=>e= .returned (.tuple #[])/\w1.heap[b]?=some (.cells #[.pointer (some ⟨b,0,none⟩),v] 109 (0,0))/\KeepsW w (λk=>k=b) w1/\w1.heap.size=w.heap.size:=by
  rcases h.blk with h1 | h1
  .have hB:Lib.BuilderAt 109 5 0 b (.pointer none) bs w:=⟨Nat.zero_le _,v,h1,h.own,h.ne⟩;refine(Qu2 b w hB.cell0 hB.shape hB.frozen0).mono ?_;rintro e w1 ⟨rfl,rfl⟩;exact⟨rfl,by simp[World.setCell,Array.getElem?_modify,h1],⟨rfl,rfl,rfl,by simp[World.setCell],λk _ hk=>Below.heap_setCell _ _ _ _ hk⟩,by simp[World.setCell]⟩
  .have hB:Lib.BuilderAt 109 5 0 b (.pointer (some ⟨b,0,none⟩)) bs w:=⟨Nat.zero_le _,v,h1,h.own,h.ne⟩;refine(QwH b w hB.cell0).mono ?_;rintro e w1 ⟨rfl,rfl⟩;exact⟨rfl,h1,KeepsW.refl _ _,rfl⟩
 go_enter Tryz.func74,Tryz.ntmps74
 go_wp2_with (go_at_fn 108; refine hck.mono ?_)
 rintro e w1 ⟨rfl,cO,rF,lU⟩;have dR:w1.ownsRow 0 5 1 v bs.length bs:=by
  refine⟨h.own.1,?_⟩;rcases h.own.2 with h3 | ⟨g,bR,fZ,rfl,q1,q2,q3⟩
  .exact .inl h3
  .exact .inr ⟨g,bR,fZ,rfl,q1,(rF.block g (Zj.1 q2).1 (λe=>h.ne (by simp[Value.ownBlock,e]))).trans q2,q3⟩
 have c0:w1.cell? ⟨b,0,none⟩=some (.pointer (some ⟨b,0,none⟩)):=by rw[Lib.cell_of_heap cO]; rfl
 have c1:w1.cell? ⟨b,1,none⟩=some v:=by rw[Lib.cell_of_heap cO]; rfl
 have aS:=h.ne;have hH:=Lib.hid h; clear h
 go_wp2_with (at_builtin; refine Qhf rfl _ _ 107 9 rfl 0 5 i0 Tryz.underlying107 Tryz.underlying9 hi nC qS jP _ _ _ rfl dR s rfl ?c3 ?c4 ?c5 ?_)
 case c3=>unfold maxLen; omega
 case c4=>omega
 case c5=>omega
 intro v' w2 kF eV d7;have aR:b < w1.heap.size:=by
  rcases Nat.lt_or_ge b w1.heap.size with h' | h'
  .exact h'
  .simp[Array.getElem?_eq_none h']at cO
 have eR:w2.heap[b]?=some (.cells #[.pointer (some ⟨b,0,none⟩),v] 109 (0,0)):=by
  rw[eV.block b aR (λe=>aS e.symm)];exact cO
 have d0:w2.cell? ⟨b,0,none⟩=some (.pointer (some ⟨b,0,none⟩)):=by rw[Lib.cell_of_heap eR]; rfl
 have d1:w2.cell? ⟨b,1,none⟩=some v:=by rw[Lib.cell_of_heap eR]; rfl
 have f1:w2.frozen? ⟨b,1,none⟩=false:=Lib.frozen_of_heap eR 1;have lV:v'.ownBlock≠some b:=λe=>by
  rcases d7 b e with h | h
  .exact aS h
  .omega
 obtain⟨ao,n',bR,rfl⟩:∃ao n' bR,v'= .slice ao n' bR:=by
  rcases kF.2 with⟨hv,_⟩ | ⟨g,bR,fZ,hv,_⟩
  .exact⟨_,_,_,hv⟩
  .exact⟨_,_,_,hv⟩
 go_wp2
 go_ret2
 have bY:(w2.setCell ⟨b,1,none⟩ (.slice ao n' bR)).heap[b]?=some (.cells #[.pointer (some ⟨b,0,none⟩),.slice ao n' bR] 109 (0,0)):=by
  simp[World.setCell,Array.getElem?_modify,eR]
 have bH:∀k,k≠b->(w2.setCell ⟨b,1,none⟩ (.slice ao n' bR)).heap[k]?=w2.heap[k]?:=λk hk=>Below.heap_setCell _ _ _ _ hk;refine⟨rfl,.slice ao n' bR,⟨.inr bY,⟨by simp[Lib.strCells_length],?_⟩,lV⟩,⟨eV.os.trans rF.os,eV.tape.trans rF.tape,eV.output.trans rF.output,?_,λk hk hn=>?_⟩,λk hk=>?_⟩
 .rcases kF.2 with h3 | ⟨g,uO,fZ,hv,q1,q2,q3⟩
  .exact .inl ⟨h3.1,by simpa[Lib.strCells_length]using h3.2⟩
  .refine .inr ⟨g,uO,fZ,by simpa[Lib.strCells_length]using hv,q1,(bH g (λe=>lV (by rw[hv,e]; rfl))).trans q2,by simpa[Lib.strCells_length]using q3⟩
 .have:=eV.size;simp only[World.setCell,Array.size_modify];omega
 .rw[bH k (λe=>hn (.inl e)),eV.block k (by omega) (λe=>hn (.inr e.symm))]
  exact rF.block k hk λe=>hn (.inl e)
 .rcases d7 k hk with h | h
  .exact .inl h
  .exact .inr (by omega)
end Go.Proofs.YtnfeakhkfehkhaaGreatDoor
namespace Go.Proofs.YtnfeakhkfehkhaaGreatDoor
open Go.RowKit Go.Lib
theorem Qp5 {m:Nat->Nat->Prop} {w:World} (h:GlobIn m w):∃k,w.cell? ⟨0,0,none⟩=some (.int .i64 k):=by
 obtain⟨_,cs,ty,fr,h1,_,k,rfl⟩:=h _ (List.mem_cons_self ..);exact⟨k,by simp[World.cell?,h1]⟩
theorem Qrp {m:Nat->Nat->Prop} {w:World} (h:GlobIn m w):Lib.TabIs Tryz.prog w "internal/strconv.uint64pow10" .u64 Lib.pow10Tab:=by
 obtain⟨_,cs,ty,fr,h1,_,rfl⟩:=h _ (List.mem_cons_of_mem _ (List.mem_cons_self ..));unfold Lib.TabIs World.var?;have e:Tryz.prog.globalNamed "internal/strconv.uint64pow10" =some 1:=by kernel_rfl
 rw[e];simp only[Option.bind_some];simp only at h1;rw[h1]
def QnE (n:Int):Prop:= -9223372036854775808<=n/\n<=9223372036854775807
instance (n:Int):Decidable (QnE n):=inferInstanceAs (Decidable (_/\_))
def s73:List D->Option D:=sp1 Qbh QmM λn=>if QnE n then some ⟨(Lib.itoa n).toArray⟩else none
theorem ok73:∀ds d,s73 ds=some d->PureC Tryz.prog 73 ds d:=Qb2 λn r hr=>by
 split at hr
 .rename_i hc;cases hr;refine Qe0 λm w vs hm hG hr=>⟨.string ⟨(Lib.itoa n).toArray⟩,?_,λm' w'=>by simp[Qc1,Rel]⟩
  simp only[QmD,RelL,Rel]at hr;obtain⟨v,t,rfl,rfl,rfl⟩:=hr;refine(Tryz.strconv_Itoa n hc.1 hc.2 w (Qrp hG)).mono ?_;rintro e w' ⟨rfl,k,os,rfl⟩;exact⟨rfl,below_grow _ w (Zr _) k os⟩
 .cases hr
def s79:List D->Option D:=sp2 QmM QmM (QlK QmM QmM QaI) λs bJ=>if s.size < 100000 then some (⟨(Lib.cut s.data.toList bJ.data.toList).1.toArray⟩,⟨(Lib.cut s.data.toList bJ.data.toList).2.1.toArray⟩,(Lib.cut s.data.toList bJ.data.toList).2.2)else none
theorem ok79:∀ds d,s79 ds=some d->PureC Tryz.prog 79 ds d:=QaR λs bJ r hr=>by
 split at hr
 .rename_i hc;cases hr;refine Qe0 λm w vs hm hG hr=>⟨.tuple #[.string ⟨(Lib.cut s.data.toList bJ.data.toList).1.toArray⟩,.string ⟨(Lib.cut s.data.toList bJ.data.toList).2.1.toArray⟩,.bool (Lib.cut s.data.toList bJ.data.toList).2.2],?_,λm' w'=>by simp[QnF,Qc1,QeF,Rel,RelL]⟩
  simp only[Qc1,RelL,Rel]at hr;obtain⟨v,t,rfl,rfl,v2,t2,rfl,rfl,rfl⟩:=hr;obtain⟨k,hk⟩:=Qp5 hG;refine(Tryz.strings_Cut s bJ k w (by omega) hk).mono ?_
  rintro e w' ⟨rfl,n,rfl⟩;exact⟨rfl,⟨rfl,rfl,rfl,Zr _,λ_ _=>rfl⟩⟩
 .cases hr
def QhF (s bJ:ByteArray):List ByteArray:=splitB bJ 0 (countB s bJ) s
def s80:List D->Option D:=sp2 QmM QmM (Qy Qf7) λs bJ=>if s.size < 100000/\1<=bJ.size then some (QhF s bJ)else none
theorem ok80:∀ds d,s80 ds=some d->PureC Tryz.prog 80 ds d:=QaR λs bJ r hr=>by
 split at hr
 .rename_i hc;cases hr;obtain⟨hs,h1⟩:=hc;have aI:(QhF s bJ).length=countB s bJ+1:=splitB_all bJ h1 0 _ s rfl;have aX:=countB_le bJ h1 s.size s (Zr _);intro m w vs hm hG hr;simp only[Qc1,RelL,Rel]at hr;obtain⟨v,t,rfl,rfl,v2,t2,rfl,rfl,rfl⟩:=hr;obtain⟨k,hk⟩:=Qp5 hG;refine(Tryz.strings_Split s bJ k w (by omega) hk h1).mono ?_
  rintro e w' ⟨rfl,rfl⟩;refine⟨_,λb o=>b=w.heap.size,rfl,(Below.refl _ w).alloc (Zr _) _,λb o h=>by subst h; simp,?_⟩
  rw[Qbk];simp only[Rel,List.length_map];rw[<-aI];refine⟨by show(QhF s bJ).length<=_; omega,_,_,rfl,Zr _,.inr ⟨_,_,rfl,RelRows.of λi r hi=>?_⟩⟩
  rw[List.getElem?_map]at hi;cases hp:(QhF s bJ)[i]? with
  | none=>rw[hp]at hi; cases hi
  | some p=>
   rw[hp]at hi;simp only[Option.map_some,Zs]at hi;subst hi;refine⟨rfl,?_⟩;simp only[QaO,RelCells,Rel];refine⟨⟨.string p,.inr trivial,?_,rfl,rfl⟩,trivial⟩;have hb:=QaZ w (.cells ((QhF s bJ).map Value.string).toArray 9);have e:(0+i*Qf7.k)=i:=by rw[QfJ]; omega
   rw[e];have dX:(w.alloc (.cells ((splitB bJ 0 (countB s bJ) s).map Value.string).toArray 9)).heap[w.heap.size]?=some (.cells ((QhF s bJ).map Value.string).toArray 9 (0,0)):=hb;simp only[World.cell?,dX];simp[hp]
 .cases hr
theorem QEw (xs:Array Value) (w:World):(callFunc 80 xs).run Tryz.prog w= .ok (.enter 80 xs) w:=by kernel_rfl
theorem QDs (xs:Array Value) (w:World):(callFunc 79 xs).run Tryz.prog w= .ok (.enter 79 xs) w:=by kernel_rfl
theorem Qy6 (xs:Array Value) (w:World):(callFunc 73 xs).run Tryz.prog w= .ok (.enter 73 xs) w:=by kernel_rfl
theorem QFO (xs:Array Value) (w:World):(callFunc 75 xs).run Tryz.prog w= .ok (.enter 75 xs) w:=by kernel_rfl
def QeX (l:List ByteArray) (bJ:ByteArray):ByteArray:=⟨(Lib.join (l.map (·.data.toList)) bJ.data.toList).toArray⟩
def s75:List D->Option D:=sp2 (Qy Qf7) QmM QmM λl bJ=>if 0 < l.length/\l.length<=100000/\(QeX l bJ).size<=100000 then some (QeX l bJ)else none
theorem ok75:∀ds d,s75 ds=some d->PureC Tryz.prog 75 ds d:=QaR λl bJ r hr=>by
 split at hr
 .rename_i hc;cases hr;obtain⟨h0,h1,h2⟩:=hc;refine Qe0 λm w vs hm hG hr=>⟨.string (QeX l bJ),?_,λm' w'=>by simp[Qc1,Rel]⟩
  simp only[Qbk,Qc1,RelL,Rel,List.length_map]at hr;obtain⟨v,t,rfl,⟨_,a,c,rfl,d6,hx⟩,v2,t2,rfl,rfl,rfl⟩:=hr;have aS:l.map Qf7.enc≠[]:=by
   intro e;have:=congrArg List.length e;simp at this;rw[this]at h0;simp at h0
  obtain⟨b,o,rfl,bG⟩:=hx.resolve_left aS;have aW:∀(j:Nat) x,l[j]?=some x->m b (o+j)/\w.cell? ⟨b,o+j,none⟩=some (.string x):=λj x hj=>by
   obtain⟨_,hc⟩:=bG.get j (Qf7.enc x) (by rw[List.getElem?_map,hj]; rfl)
   simp only[QaO,RelCells,Rel]at hc;obtain⟨⟨v,q1,q2,_,q3⟩,_⟩:=hc;subst q3;rw[show o+j*Qf7.k=o+j by rw[QfJ]; omega]at q1 q2
   exact⟨q1,q2⟩
  have hb:b < w.heap.size:=hm _ _ (aW 0 _ (Zg h0)).1;refine(Tryz.strings_Join b o c l bJ w (λj x hj=>(aW j x hj).2) hb (by omega) d6 ?_).mono ?_
  .have:(QeX l bJ).size=(Lib.join (l.map (·.data.toList)) bJ.data.toList).length:=by simp[QeX,ByteArray.size]
   omega
  .rintro e w' ⟨rfl,h⟩;exact⟨rfl,h⟩
 .cases hr
def QjV:Value:= .iface 23 (.int .i64 6)
def s81:List D->Option D:=λds=>match ds with | [.v (.bool true)]=>some (.tup []) | _=>none
def p81:List D->Option Value:=λds=>match ds with | [.v (.bool false)]=>some QjV | _=>none
theorem Qum (xs:Array Value) (w:World):(callFunc 81 xs).run Tryz.prog w= .ok (.enter 81 xs) w:=by kernel_rfl
theorem Qz2 (xs:Array Value) (w:World):(callFunc 113 xs).run Tryz.prog w= .ok (.enter 113 xs) w:=by kernel_rfl
theorem QqG (w:World):Calls Tryz.prog 81 #[.bool true] w λe w'=>e= .returned (.tuple #[])/\w'=w:=by
 go_enter Tryz.func81,Tryz.ntmps81
 go_wp2
 go_end0
 exact⟨rfl,rfl⟩
theorem Qpt (w:World):Calls Tryz.prog 81 #[.bool false] w λe w'=>e= .panicked [{ v:=QjV,recovered:=false}]/\w'=w:=by
 go_enter Tryz.func81,Tryz.ntmps81
 go_wp2
 exact⟨rfl,rfl,rfl⟩
theorem ok81:∀ds d,s81 ds=some d->PureC Tryz.prog 81 ds d:=by
 intro ds d h;unfold s81 at h;split at h
 .cases h;intro m w vs hm hG hr;simp only[RelL,Rel]at hr;obtain⟨v,t,rfl,rfl,rfl⟩:=hr;refine(QqG w).mono ?_;rintro e w' ⟨rfl,rfl⟩;exact⟨_,λ_ _=>False,rfl,Below.refl _ _,λb o h=>h.elim,by simp only[Rel]; exact⟨[],rfl,by simp[RelL]⟩⟩
 .cases h
theorem po81:∀ds v,p81 ds=some v->Qqk Tryz.prog 81 ds v:=by
 intro ds d h;unfold p81 at h;split at h
 .cases h;intro m w vs hm hG hr;simp only[RelL,Rel]at hr;obtain⟨v,t,rfl,rfl,rfl⟩:=hr;refine(Qpt w).mono ?_;rintro e w' ⟨rfl,rfl⟩;exact⟨rfl,Below.refl _ _⟩
 .cases h
def QeZ (s:ByteArray):Option Int:=match Lib.atoiAll s.data.toList with
 | .ok n=>if Lib.itoa n=s.data.toList then some n else none
 | _=>none
theorem QwV {m:Nat->Nat->Prop} {w:World} (h:GlobIn m w):(∃t p,w.cell? ⟨2,0,none⟩=some (.iface t p))/\∃t p,w.cell? ⟨3,0,none⟩=some (.iface t p):=by
 obtain⟨_,cs,ty,fr,h1,_,t,p,rfl⟩:=h _ (List.mem_cons_of_mem _ (List.mem_cons_of_mem _ (List.mem_cons_self ..)));obtain⟨_,bM,nW,fr',h1',_,t',p',rfl⟩:=h _ (List.mem_cons_of_mem _ (List.mem_cons_of_mem _ (List.mem_cons_of_mem _ (List.mem_cons_self ..))));exact⟨⟨t,p,by simp[World.cell?,h1]⟩,t',p',by simp[World.cell?,h1']⟩
theorem QBP {l:List UInt8} {n:Int} (h:Lib.atoiAll l= .ok n):QnE n:=by
 unfold Lib.atoiAll at h;split at h
 .cases h
 .simp only at h;split at h
  .cases h
  .cases h
  .split at h
   .cases h
   .rename_i h1;split at h
    .cases h
    .rename_i h2;simp only[Lib.NumEnd.ok.injEq]at h;subst h;unfold QnE;split<;>omega
theorem Qxb (s:ByteArray) (hs:s.size<=100000) {m:Nat->Nat->Prop} (w:World) (hG:GlobIn m w):Calls Tryz.prog 113 #[.string s] w λe w'=>Below w.heap.size w w'/\((∃n,Lib.atoiAll s.data.toList= .ok n/\e= .returned (.tuple #[.int .i64 n,.nilIface]))\/((∀n,Lib.atoiAll s.data.toList≠ .ok n)/\∃k t p,e= .returned (.tuple #[.int .i64 k,.iface t p]))):=by
 obtain⟨⟨t2,p2,h2⟩,t3,p3,h3⟩:=QwV hG;cases h:Lib.atoiAll s.data.toList
 .rename_i n;refine(Tryz.strconv_Atoi_ok s (by omega) n h w).mono ?_
  rintro e w' ⟨rfl,hw⟩;refine⟨?_,.inl ⟨n,rfl,rfl⟩⟩;rcases hw with rfl | ⟨t,rfl⟩
  .exact Below.refl _ _
  .exact Lib.bytesWorld_below w 5 t
 .refine(Tryz.strconv_Atoi_syntax s (by omega) h _ w h2 (.inr ⟨_,_,rfl⟩)).mono ?_
  rintro e w' ⟨N,rfl,_,_,hb⟩;exact⟨hb,.inr ⟨(λn e=>by cases e),_,_,_,rfl⟩⟩
 .refine(Tryz.strconv_Atoi_range s (by omega) h _ w h3 (.inr ⟨_,_,rfl⟩)).mono ?_
  rintro e w' ⟨N,rfl,_,_,hb⟩;exact⟨hb,.inr ⟨(λn e=>by cases e),_,_,_,rfl⟩⟩
theorem QDS {l:List UInt8} {s:ByteArray} (h:l=s.data.toList):(⟨l.toArray⟩:ByteArray)=s:=by
 subst h;cases s;simp
def QCA (s:ByteArray) (e:Ending):Prop:=match QeZ s with | some n=>e= .returned (.int .i64 n) | none=>e= .panicked [{ v:=QjV,recovered:=false}]
theorem QAn {s:ByteArray} {n:Int} (h1:Lib.atoiAll s.data.toList= .ok n) (h2:Lib.itoa n=s.data.toList):QeZ s=some n:=by unfold QeZ; rw[h1]; simp only; rw[if_pos h2]
theorem QrW {s:ByteArray} {n:Int} (h1:Lib.atoiAll s.data.toList= .ok n) (h2:¬Lib.itoa n=s.data.toList):QeZ s=none:=by unfold QeZ; rw[h1]; simp only; rw[if_neg h2]
theorem Qwn {s:ByteArray} (h1:∀n,Lib.atoiAll s.data.toList≠ .ok n):QeZ s=none:=by
 unfold QeZ;split
 .rename_i n h; exact absurd h (h1 n)
 .rfl
set_option maxHeartbeats 1000000 in
set_option maxRecDepth 100000 in
theorem Qux (s:ByteArray) (hs:s.size<=100000) {m:Nat->Nat->Prop} (w:World) (hm:∀b o,m b o->b < w.heap.size) (hG:GlobIn m w):Calls Tryz.prog 82 #[.string s] w λe w'=>Below w.heap.size w w'/\QCA s e:=by
 have e113:=Qz2;have e73:=Qy6;have rG:=Qum
 go_enter Tryz.func82,Tryz.ntmps82
 go_wp2_with (go_at_fn 113; refine(Qxb s hs w hG).mono ?_)
 rintro e w1 ⟨eD,⟨n,hn,rfl⟩ | ⟨hn,k,t,p,rfl⟩⟩
 .have lG:=QBP hn;have hG1:GlobIn m w1:=hG.ext ⟨λ_ _ h=>h,λb o h=>eD.cell (p:=⟨b,o,none⟩) (hm b o h)⟩;have hIt:=Tryz.strconv_Itoa n lG.1 lG.2 w1 (Qrp hG1)
  go_wp2_with (go_at_fn 73; refine hIt.mono ?_)
  rintro e w2 ⟨rfl,k,os,rfl⟩;obtain⟨w3,hw3⟩:∃w3,w3=Sort.grow (w1.drewN k) os:=⟨_,rfl⟩;have eR:Below w.heap.size w (Sort.grow (w1.drewN k) os):=eD.trans (below_grow w.heap.size w1 eD.size k os);rw[<-hw3]at eR|-;clear hw3;by_cases he:(⟨(Lib.itoa n).toArray⟩:ByteArray)=s
  .have lW:=QAn hn (by rw[<-he])
   go_wp2_with (go_at_fn 81; refine(QqG _).mono ?_)
   rintro e w2 ⟨rfl,rfl⟩
   go_wp2
   go_ret
   exact⟨eR,by unfold QCA; rw[lW]; rfl⟩
  .have lW:=QrW hn (λh=>he (QDS h));have kU:(Lib.itoa n==s.toList)=false:=by
    rw[ByteArray.toList_eq];cases hq:(Lib.itoa n==s.data.toList)
    .rfl
    .exact absurd (QDS (by simpa using hq)) he
   go_wp2_with (go_at_fn 81; refine(Qpt _).mono ?_)
   rintro e w2 ⟨rfl,rfl⟩;exact⟨rfl,eR,by unfold QCA; rw[lW]⟩
 .have lW:=Qwn hn
  go_wp2_with (go_at_fn 81; refine(Qpt _).mono ?_)
  rintro e w2 ⟨rfl,rfl⟩;exact⟨rfl,eD,by unfold QCA; rw[lW]⟩
def s82:List D->Option D:=sp1 QmM Qbh λs=>if s.size<=100000 then QeZ s else none
def p82:List D->Option Value:=λds=>match ds with | [.v (.string s)]=>if s.size<=100000/\QeZ s=none then some QjV else none | _=>none
theorem QyG (xs:Array Value) (w:World):(callFunc 82 xs).run Tryz.prog w= .ok (.enter 82 xs) w:=by kernel_rfl
theorem ok82:∀ds d,s82 ds=some d->PureC Tryz.prog 82 ds d:=Qb2 λs n hr=>by
 split at hr
 .rename_i hs;intro m w vs hm hG bN;simp only[RelL,Rel,Qc1]at bN;obtain⟨v,t,rfl,rfl,rfl⟩:=bN;refine(Qux s hs w hm hG).mono ?_;rintro e w' ⟨hb,h⟩;unfold QCA at h;rw[hr]at h;exact⟨_,λ_ _=>False,h,hb,λb o h=>h.elim,by rw[QmD]; simp only[Rel]⟩
 .cases hr
theorem po82:∀ds v,p82 ds=some v->Qqk Tryz.prog 82 ds v:=by
 intro ds d h;unfold p82 at h;split at h
 .rename_i s;split at h
  .rename_i hc;cases h;obtain⟨hs,hn⟩:=hc;intro m w vs hm hG hr;simp only[RelL,Rel]at hr;obtain⟨v,t,rfl,rfl,rfl⟩:=hr;refine(Qux s hs w hm hG).mono ?_;rintro e w' ⟨hb,h⟩;unfold QCA at h;rw[hn]at h;exact⟨h,hb⟩
  .cases h
 .cases h
theorem po2:QoG Tryz.prog (Qkc [(81,p81),(82,p82)]):=QqL (QqL QzG QyG po82) Qum po81
end Go.Proofs.YtnfeakhkfehkhaaGreatDoor
namespace Go.Proofs.YtnfeakhkfehkhaaGreatDoor
open Go.RowKit Go.Lib
def QjI:ByteArray:=⟨#[108,111,115,116]⟩
def Qdg (n:Int):ByteArray:=⟨(Lib.itoa n).toArray⟩
def QlB (x:Bat):List ByteArray:=[x.name,Qdg x.grams,Qdg x.fresh]++(if x.lost=true then [QjI]else [])
def QaW (b:List Bat) (x:Bat):Nat->List ByteArray
 | 0=>QlB x
 | j+1=>QaW b x j++[(b.getD (x.takes.getD j default).fr.toNat default).name,Qdg (x.takes.getD j default).gr]
theorem Qmw {n:Int} (h:0<=n):Qdg n=QyQ n.toNat:=by
 unfold Qdg QyQ Lib.itoa;rw[if_neg (by omega)]
theorem QjC {a b:ByteArray} (h:a.data.toList=b.data.toList):a=b:=by
 apply ByteArray.ext;exact Array.toList_inj.1 h
theorem Qt6 (p bJ:ByteArray):QeX [p] bJ=p:=by
 apply QjC; simp[QeX,Lib.join_one]
theorem QdI {l:List ByteArray} (h:l≠[]) (p bJ:ByteArray):QeX (l++[p]) bJ=QeX l bJ++(bJ++p):=by
 cases l with
 | nil=>exact absurd rfl h
 | cons x r=>
  apply QjC;simp[QeX,Lib.join_cons,Lib.joinTail,ByteArray.data_append]
theorem QxE (x:Bat):QlB x≠[]:=by unfold QlB; simp
theorem QnI (b:List Bat) (x:Bat):∀j,QaW b x j≠[]
 | 0=>QxE x
 | j+1=>by rw[QaW]; simp
theorem Qw2 (a b c:ByteArray):a++b++c=a++(b++c):=by
 apply QjC; simp[ByteArray.data_append]
theorem QsV (o:ByteArray) (x:Bat) (h1:0<=x.grams) (h2:0<=x.fresh):Qn3 (QjU o x) x=o++QeX (QlB x) spB:=by
 unfold Qn3 QlB QjU;rw[<-Qmw h1,<-Qmw h2];have e3:QeX [x.name,Qdg x.grams,Qdg x.fresh] spB=x.name++(spB++Qdg x.grams)++(spB++Qdg x.fresh):=by
  rw[show [x.name,Qdg x.grams,Qdg x.fresh]=([x.name]++[Qdg x.grams])++[Qdg x.fresh]from rfl,QdI (by simp),QdI (by simp),Qt6]
 split
 .rw[QdI (by simp),e3]
  have e4:ltB=spB++QjI:=by apply QjC; rfl
  rw[e4];apply QjC; simp[ByteArray.data_append]
 .rw[List.append_nil,e3];apply QjC; simp[ByteArray.data_append]
theorem Qhg (b:List Bat) (o:ByteArray) (x:Bat) (h1:0<=x.grams) (h2:0<=x.fresh) (h3:∀t∈x.takes,0<=t.gr):∀j,j<=x.takes.length->QpI b x (Qn3 (QjU o x) x) j=o++QeX (QaW b x j) spB
 | 0,_=>QsV o x h1 h2
 | j+1,hj=>by
  have hg:0<=(x.takes.getD j default).gr:=by rw[Qj _ _ _ (by omega)]; exact h3 _ (Ze _)
  rw[QpI,Qhg b o x h1 h2 h3 j (by omega),QaW,<-Qmw hg]
  rw[show ∀(l:List ByteArray) (p q:ByteArray),l++[p,q]=(l++[p])++[q]from λl p q=>by simp,QdI (by simp),QdI (QnI b x j)]
  apply QjC; simp[ByteArray.data_append]
theorem Qe9 (b:List Bat) (x:Bat):∀j,(QaW b x j).length<=4+2*j
 | 0=>by
  show(QlB x).length<=4;unfold QlB;split<;>simp
 | j+1=>by
  have:=Qe9 b x j;rw[QaW]; simp; omega
theorem Qu7 {b:List Bat} (h:BookOk b) {k:Nat} (hk:k < b.length):Qer b (k+1)=Qer b k++(QeX (QaW b b[k] b[k].takes.length) spB++nlB):=by
 have hb:=h.at hk;rw[Qer,Qj _ _ _ hk,Qhg b (Qer b k) b[k] (by have:=hb.grams; omega) hb.fresh.1 (λt ht=>by have:=hb.gr t ht; omega) _ (Zr _),Qw2]
theorem Qsf {b:List Bat} (h:BookOk b) {k:Nat} (hk:k < b.length):(QeX (QaW b b[k] b[k].takes.length) spB).size<=300/\(QaW b b[k] b[k].takes.length).length<=20/\0 < (QaW b b[k] b[k].takes.length).length:=by
 have hb:=h.at hk;have uP:b[k].takes.length<=8:=by have:=Qdy hb.asc hb.fr; have:=h.le; omega
 have h1:=Qhg b ⟨#[]⟩ b[k] (by have:=hb.grams; omega) hb.fresh.1 (λt ht=>by have:=hb.gr t ht; omega) _ (Zr _)
 have h2:=Qk3 h hk ⟨#[]⟩;have h3:=Qkt (QjU ⟨#[]⟩ b[k]) b[k];have h4:=Qhm h hk (Qn3 (QjU ⟨#[]⟩ b[k]) b[k]) b[k].takes.length (Zr _);rw[h1]at h4;simp only[ByteArray.size_append]at h4;have h5:(⟨#[]⟩:ByteArray).size=0:=rfl;have h6:=Qe9 b b[k] b[k].takes.length;have h7:=List.length_pos_iff.2 (QnI b b[k] b[k].takes.length);omega
end Go.Proofs.YtnfeakhkfehkhaaGreatDoor
