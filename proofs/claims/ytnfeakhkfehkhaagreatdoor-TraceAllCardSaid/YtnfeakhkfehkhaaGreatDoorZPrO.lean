/-
  The program of the trace chapter: where wax comes by all cards and some more. Conditions: none.
-/
import Derived.Test.YtnfeakhkfehkhaaGreatDoorZPrL
import Derived.Test.YtnfeakhkfehkhaaGreatDoorZMyp
set_option linter.unusedSimpArgs false
set_option linter.unusedVariables false
namespace Go.Proofs.YtnfeakhkfehkhaaGreatDoor
open Go.RowKit
def QAE (r:Nat):List (Nat×Option Nat):=match r with
 | 0=>kpn [2,3,5]
 | 1=>[(6,none)]
 | _=>[]
def Qos (r:Nat):List (Nat×Option Nat):=match r with
 | 0=>kpn [0,1]
 | 1=>kpn [1,7,8,9]
 | 2=>kpn [1,7,8,9,10]
 | 3=>kpn [1,5,6,7,8,9]
 | 4=>kpn [1,7,8,9,17]
 | 5=>[(4,none)]
 | 6=>kpn [1,7,8,9]
 | 7=>[(4,none)]
 | _=>[]
def Qrv (r:Nat):List (Nat×Option Nat):=match r with
 | 0=>kpn [1,2,3,6]
 | 1=>kpn [2,3,6]
 | 2=>kpn [2,6,14,15,16]
 | 3=>kpn [2,6,14,15,16,17]
 | 4=>kpn [2,6,7,8,14,15,16]
 | 5=>kpn [2,6,7,8,9,14,15,16]
 | 6=>kpn [2,6,7,8,9,10,14,15,16]
 | 7=>kpn [2,6,14,15,16]
 | 8=>kpn [2,6,14,15,16]
 | 9=>[(6,none)]
 | _=>[]
theorem QEV {l:List Tak} {f:Nat->Bool} (hl:l.length<=8) (ht:∀t∈l,0<=t.fr/\t.fr < 8):QlN [.sl 2 (l.map Qb1.enc),.fn 120 [] [.dat 8 [(List.range 8).map λk=>DB (f k)] 0 0]]=some (DB (l.any λt=>f t.fr.toNat)):=by
 have hd:(QbR (Qjy 120)).dec (.fn 120 [] [.dat 8 [(List.range 8).map λk=>DB (f k)] 0 0])=some (Oct.of f):=QaN (Qpr 120) (Oct.of f);simp only[QlN,sp2,QdQ,hd];rw[if_pos ⟨by omega,ht⟩]
 have e:(l.any λt=>(Oct.of f).f t.fr.toNat)=l.any λt=>f t.fr.toNat:=by
  rw[Bool.eq_iff_iff,Zy,Zy];refine exists_congr λt=>and_congr_right λh=>?_;have:=ht t h;rw[Oct.of_f,if_pos (by omega)]
 rw[e]; rfl
def iP (i:Int):D:= .dat 1 [[DI i]] 0 0
theorem QpY (x y:Int) (h:iP x=iP y):x=y:=by
 simp only[iP,D.dat.injEq,List.cons.injEq,D.v.injEq,Value.int.injEq,and_true,true_and]at h;exact h
def QsL (p:Int×Oct):D:= .fn 121 [] [iP p.1,Qk9 p.2]
theorem Qwe (x y:Int×Oct) (h:QsL x=QsL y):x=y:=by
 simp only[QsL,D.fn.injEq,List.cons.injEq,and_true,true_and]at h;exact Prod.ext (QpY _ _ h.1) (Qgx _ _ h.2)
def Qok (i:Int) (f:Nat->Bool) (e:Edg):Bool:=e.to==i&&f e.fr.toNat
noncomputable def QGA:List D->Option D:=sp4 Qbh (QeC Qcg) (QbR iP) (QbR Qk9) QaI λ_ e i s=>if 0<=e.fr/\e.fr < 8 then some (Qok i s.f e)else none
theorem QIe:∀ds d,QGA ds=some d->PureC Tryz.prog 121 ds d:=Qjb λk e i s r hr=>by
 split at hr
 .rename_i hi;cases hr;refine Qm (QE QB 17 QAE []) Tryz.func121 rfl rfl (Zb rfl) (by kernel_rfl) ?_
  rw[Tryz.results121];have h8:e.fr.toNat < 8:=by omega
  unfold Qok;cases h1:e.to==i with
  | true=>simp[QAE,QJ,QbS,Qk9,iP,s.eq,hi.1,hi.2,h8,h1]
  | false=>simp[QAE,QJ,QbS,Qk9,iP,s.eq,h1]
 .cases hr
theorem QAC (xs:Array Value) (w:World):(callFunc 121 xs).run Tryz.prog w= .ok (.enter 121 xs) w:=by kernel_rfl
noncomputable def QIc:List (Nat×(List D->Option D)):=[(121,QGA)]
theorem QId:Qay Tryz.prog (Qas QIc):=Ql QB QAC QIe
noncomputable def QF8:List D->Option D:=sp2 (Qy Qcg) (QbR QsL) QaI λl p=>if l.length<=17592186044416/\∀e∈l,0<=e.fr/\e.fr < 8 then some (l.any (Qok p.1 p.2.f))else none
theorem QzF (xs:Array Value) (w:World):(callFunc 122 xs).run Tryz.prog w= .ok (.enter 122 xs) w:=by kernel_rfl
set_option maxHeartbeats 2000000 in
theorem QGX:∀ds d,QF8 ds=some d->PureC Tryz.prog 122 ds d:=QaR λl p r hr=>by
 split at hr
 .rename_i hc;obtain⟨hl,ht⟩:=hc;cases hr;obtain⟨i,s⟩:=p;refine Qm (QE QId 19 Qos []) Tryz.func122 rfl rfl (Zb rfl) (by kernel_rfl) ?_
  rw[Tryz.results122];simp[Qos,QbS,QsL,Qw];generalize aC:Cx.loop _ _ _=aE;have oW:aE=some (if(List.range l.length).all (λj=>!Qok i s.f (l.getD j default))=true then(.exit 0,⟨[(1,.d (QsL (i,s))),(7,.d (.sl 2 (l.map Qcg.enc))),(8,.d (DI l.length)),(9,.d (DI l.length)),(10,.d (DB false))],[],[],[]⟩)else(.ret,⟨[(4,.d (DB true))],[],[],[]⟩)):=by
   refine Qa7 aC (λj=>⟨[(1,.d (QsL (i,s))),(7,.d (.sl 2 (l.map Qcg.enc))),(8,.d (DI l.length)),(9,.d (DI j))],[],[],[]⟩) _ _ _ _ (by simp[QsL]) (by show _ < 281474976710656; omega) (by simp) (by simp) ?_ ?_
   .intro j hj;have aO:(j:Int) < l.length:=by omega
    have w1:=Qa ((j:Int)+1) (by omega) (by omega)
    have h0:=ht l[j] (Ze hj);rw[Qj l j _ hj];have hs:QGA [DI j,.agg [DI l[j].fr,DI l[j].to],.dat 1 [[DI i]] 0 0,.dat 8 [s.1] 0 0]=some (DB (Qok i s.f l[j])):=by
     have hd:(QbR Qk9).dec (.dat 8 [s.1] 0 0)=some s:=QaN Qgx s;have iH:(QbR iP).dec (.dat 1 [[DI i]] 0 0)=some i:=QaN QpY i;simp only[QGA,sp4,Qam,Qbq,QAg,hd,iH];rw[if_pos h0]; rfl
    cases hb:Qok i s.f l[j]with
    | true=>
     rw[hb]at hs;simp[Qos,QIc,QsL,iP,Qk9,QJ,hj,aO,hs]
    | false=>
     rw[hb]at hs;simp[Qos,QIc,QsL,iP,Qk9,QJ,hj,aO,hs,w1]
   .simp[Qos,QsL]
  rw[oW];have e2:l.any (Qok i s.f)=!(List.range l.length).all (λj=>!Qok i s.f (l.getD j default)):=by
   rw[Bool.eq_iff_iff,Zy,Bool.not_eq_true',List.all_eq_false];constructor
   .rintro⟨t,h1,h2⟩;obtain⟨k,hk,rfl⟩:=List.getElem_of_mem h1;exact⟨k,Zm.2 hk,by rw[Qj _ _ _ hk,h2]; simp⟩
   .rintro⟨k,hk,h⟩;have cZ:=Zm.1 hk;rw[Qj _ _ _ cZ]at h;exact⟨_,Ze cZ,by simpa using h⟩
  rw[e2];cases(List.range l.length).all (λj=>!Qok i s.f (l.getD j default))with
  | true=>simp[Qos]
  | false=>simp
 .cases hr
theorem QBg {l:List Edg} {i:Int} {f:Nat->Bool} (hl:l.length<=100) (ht:∀e∈l,0<=e.fr/\e.fr < 8):QF8 [.sl 2 (l.map Qcg.enc),.fn 121 [] [.dat 1 [[DI i]] 0 0,.dat 8 [(List.range 8).map λk=>DB (f k)] 0 0]]=some (DB (l.any (Qok i f))):=by
 have hd:(QbR QsL).dec (.fn 121 [] [.dat 1 [[DI i]] 0 0,.dat 8 [(List.range 8).map λk=>DB (f k)] 0 0])=some (i,Oct.of f):=QaN Qwe (i,Oct.of f);simp only[QF8,sp2,Qgb,hd];rw[if_pos ⟨by omega,ht⟩]
 have e:l.any (Qok i (Oct.of f).f)=l.any (Qok i f):=by
  rw[Bool.eq_iff_iff,Zy,Zy];refine exists_congr λt=>and_congr_right λh=>?_;have:=ht t h;unfold Qok;rw[Oct.of_f,if_pos (by omega)]
 rw[e]; rfl
def QmK (b:List Bat) (i:Nat) (more:List Edg) (m x:Nat):Bool:=if x < m then Qao b i more m x else decide (x=i)
theorem QFo (b:List Bat) (i:Nat) (more:List Edg) (x:Nat):QmK b i more 0 x=decide (x=i):=by simp[QmK]
attribute [local simp] QFo
theorem Qxc {b:List Bat} {i:Nat} {more:List Edg} (hi:i < b.length):QmK b i more b.length=Qao b i more b.length:=by
 funext x;unfold QmK;split
 .rfl
 .rename_i h;rw[Qg8 _ _ _ _ (by omega)]
  simp; omega
theorem Qvh {b:List Bat} (h:BookOk b) {i m:Nat} {more:List Edg} (hm:m < b.length) (dN:∀e∈more,0<=e.fr/\e.fr < e.to):QmK b i more (m+1)=Q2 (QmK b i more m) m (decide (m=i)||b[m].takes.any (λt=>QmK b i more m t.fr.toNat)||more.any (Qok m (QmK b i more m))):=by
 funext x;unfold Q2;by_cases e:x=m
 .subst e;rw[if_pos rfl,QmK,if_pos (by omega),Qao,Qae,Qbf hm]
  congr 1
  .congr 1;rw[Bool.eq_iff_iff,Zy,Zy];refine exists_congr λt=>and_congr_right λht=>?_;have:=(h.at hm).fr t ht;rw[QmK,if_pos (by omega)]
  .rw[Bool.eq_iff_iff,Zy,Zy];refine exists_congr λe=>and_congr_right λhe=>?_;have:=dN e he;unfold Qok;simp only[Za,beq_iff_eq];refine and_congr_right λqI=>?_;rw[QmK,if_pos (by omega)]
 .rw[if_neg e];unfold QmK;by_cases h1:x < m
  .rw[if_pos h1,if_pos (by omega),Qbn b i more h1 (by omega:m<=m+1)]
  .rw[if_neg h1,if_neg (by omega)]
theorem QEk {b:List Bat} {i m:Nat} {more:List Edg} :QmK b i more m m=decide (m=i):=by simp[QmK]
theorem updI {i:Nat} :Q2 (λt=>DB false) i (DB true)=λt=>DB (decide (t=i)):=by
 funext t;unfold Q2;split<;>simp_all
noncomputable def QGw:List (Nat×(List D->Option D)):=[(92,QlN),(122,QF8)]
theorem QG2:Qay Tryz.prog (Qas QGw):=Ql (Ql QB QzF QGX) QvB QwE
theorem QzS (xs:Array Value) (w:World):(callFunc 102 xs).run Tryz.prog w= .ok (.enter 102 xs) w:=by kernel_rfl
noncomputable def QGv:List D->Option D:=sp3 (QeC rBx) Qbh (Qy Qcg) (QeC Qyv) λx i more=>if BookOk x.bats/\0<=i/\i < x.bats.length/\more.length<=100/\∀e∈more,0<=e.fr/\e.fr < e.to/\e.to < 8 then some (Oct.of (Qao x.bats i.toNat more x.bats.length))else none
theorem repF:([.d (DB false),.d (DB false),.d (DB false),.d (DB false),.d (DB false),.d (DB false),.d (DB false),.d (DB false)]:List X)=QPw 8 λ_=>DB false:=rfl
set_option maxHeartbeats 4000000 in
theorem QHm:∀ds d,QGv ds=some d->PureC Tryz.prog 102 ds d:=QcG λx ii more r hr=>by
 split at hr
 .rename_i hc;obtain⟨aQ,lN,pY,hm,dN⟩:=hc;cases hr;obtain⟨sup,b,lo⟩:=x;dsimp only at*;obtain⟨i,rfl⟩:∃i:Nat,ii=i:=⟨ii.toNat,by omega⟩
  have hi:i < b.length:=by omega
  have aX:=aQ.le;have hi8:(i:Int) < 8:=by omega
  have hi8n:i < 8:=by omega
  have hi8m:i+1<=8:=by omega
  refine Qm (QE QG2 41 Qrv []) Tryz.func102 rfl rfl (Zb rfl) (by kernel_rfl) ?_
  rw[Tryz.results102];simp[-Qa8,Qr,Qrv,Qw,QiI,Qax,QC,QL,Qah,QF,repF,Qaf,Qz,Qb,Qp,updI,hi8,hi8n,hi8m]
  (generalize aC:Cx.loop _ _ _=aE; apply Qi aC (λm=>⟨[(2,.d (.sl 2 (more.map Qcg.enc))),(6,.loc 6 0),(14,.d (.sl 5 (b.map QO.enc))),(15,.d (DI b.length)),(16,.d (DI m))],[(6,QPw 8 (λt=>DB (QmK b i more m t)))],[],[]⟩) b.length (by first | (simp; done) | (simp; rfl) | (simp; simp[*])); rotate_left; (show _ < 281474976710656; omega); rfl; rotate_left; all_goals clear aC)
  .intro m xH;have rA:(m:Int) < b.length:=by omega
   have hm8:m < 8:=by omega
   have sT:(m:Int) < 8:=by omega
   have sU:m+1<=8:=by omega
   have w1:=Qa ((m:Int)+1) (by omega) (by omega)
   have hb:=aQ.at xH;have bW:= @QEk b i m more;have dJ:=Qdy (l:=b[m].takes) hb.asc hb.fr;have hs:=Qvh (i:=i) (more:=more) aQ xH λe he=>⟨(dN e he).1,(dN e he).2.1⟩;have sV:=QEV (l:=b[m].takes) (f:=QmK b i more m) (by omega) λt ht=>by have:=hb.fr t ht; omega
   have uD:=QBg (l:=more) (i:=m) (f:=QmK b i more m) hm λe he=>by have:=dN e he; omega
   rw[hs];generalize QmK b i more m=R at*;generalize b[m].takes.any (λt=>R t.fr.toNat)=c1 at*;generalize more.any (Qok m R)=c2 at*;cases h0:decide (m=i)with
   | true=>
    rw[h0]at bW;simp[Qrv,QGw,Qh,Qaf,Qz,Qb,Qf,Qp,QeY,xH,rA,hm8,sT,sU,bW,w1];done
   | false=>
    rw[h0]at bW;cases c1 with
    | true=>
     simp[Qrv,QGw,Qh,Qaf,Qz,Qb,Qf,Qp,Qx,QeY,xH,rA,hm8,sT,sU,bW,sV,w1];done
    | false=>
     simp[Qrv,QGw,Qh,Qaf,Qz,Qb,Qf,Qp,Qx,QeY,xH,rA,hm8,sT,sU,bW,sV,uD,w1];done
  .rw[Qxc hi];simp[Qrv,Qaf,Qz,Qb,QaG,Qx];rfl
 .cases hr
end Go.Proofs.YtnfeakhkfehkhaaGreatDoor
namespace Go.Proofs.YtnfeakhkfehkhaaGreatDoor
open Go.RowKit
theorem QA0:∃i:TypeInfo,Tryz.prog.info? 149=some i/\i.zero=some (.agg #[.int .i64 0,.int .i64 0])/\i.size=2/\i.bytes=16:=by
 have h:(Tryz.prog.info? 149).map (λf=>(f.size,f.bytes,f.zero))=some (2,16,some (.agg #[.int .i64 0,.int .i64 0])):=by kernel_rfl
 cases hi:Tryz.prog.info? 149 with
 | none=>rw[hi]at h; cases h
 | some i=>
  rw[hi]at h;simp only[Option.map_some,Zs,Prod.mk.injEq]at h;exact⟨i,rfl,h.2.2,h.1,h.2.1⟩
theorem QsC (a:Addr) (n c:Nat) (w:World):(binOp .eql 145 (.slice (some a) n c) (.slice none 0 0)).run Tryz.prog w= .ok (.bool false) w:=by kernel_rfl
theorem QrX (n c:Nat) (w:World):(binOp .eql 145 (.slice none n c) (.slice none 0 0)).run Tryz.prog w= .ok (.bool true) w:=by kernel_rfl
theorem QlR {w:World} {base:Nat} {e:TypeId} {size n bR g:Nat} {xs:List Value} (h:w.ownsRow base e size (.slice (some ⟨g,0,none⟩) n bR) n xs):∃cs:Array Value,w.heap[g]?=some (.cells cs e (0,0))/\base<=g/\n<=bR/\bR*size<=cs.size/\∀j u,xs[j]?=some u->w.cell? ⟨g,j,none⟩=some u:=by
 obtain⟨h1,h2⟩:=h;rcases h2 with⟨h2,_⟩ | ⟨g',uO,fZ,e1,hb,hg,hn,hc,hs,ht⟩
 .cases h2
 .simp only[Value.slice.injEq,Zs,Addr.mk.injEq,true_and,and_true]at e1;obtain⟨rfl,rfl⟩:=e1;refine⟨fZ,hg,hb,hn,by omega,λj u hj=>?_⟩
  rw[<-ht,List.getElem?_take]at hj;split at hj
  .simp only[World.cell?,hg,Option.isSome_none,Bool.false_eq_true,if_false];simpa using hj
  .cases hj
theorem Qtz {m:Nat->Nat->Prop} {w w':World} {rows:List (List D)} {xs:List Value} {v:Value} (aR:∀b o,m b o->b < w.heap.size) (hk:∀r∈rows,r.length=2) (lP:RelL m w rows.flatten xs) (bO:∀u∈xs,u.oneCell'=true) (aI:rows.length<=1000) (lT:xs.length=rows.length*2) (hb:Below w.heap.size w w') (ho:w'.ownsRow w.heap.size 149 2 v rows.length xs):
  ∃m':Nat->Nat->Prop,(∀b o,m' b o->w.heap.size<=b/\b < w'.heap.size)/\Rel (λb o=>m b o\/m' b o) w' (.sl 2 rows) v/\Qs8 m' w' w.heap.size rows.length 2 v:=by
 have ho2:=ho.2;rcases ho2 with⟨rfl,h0⟩ | ⟨g,bR,fZ,rfl,hbg,hg,lQ,hcm,bP,htk⟩
 .obtain rfl:rows=[]:=List.length_eq_zero_iff.1 h0;exact⟨λ_ _=>False,λ_ _ h=>h.elim,by simp[Rel],none,0,rfl,.inl rfl⟩
 .obtain⟨cs,lH,_,_,hcs2,aW⟩:=QlR ho;refine⟨λb x=>b=g/\x < rows.length*2,λb o h=>?_,?_,some ⟨g,0,none⟩,bR,rfl,.inr ⟨g,rfl,hbg,λx hx h=>?_,cs,149,lH,hcs2⟩⟩
  .obtain⟨rfl,_⟩:=h;exact⟨hbg,(Zj.1 hg).1⟩
  .simp only[Rel];refine⟨by omega,_,bR,rfl,lQ,.inr ⟨g,0,rfl,Qi0 (xs:=xs) hk (λj u hj=>?_) ?_⟩⟩
   .have aO:j < xs.length:=(Zi.1 hj).1;refine⟨.inr ⟨rfl,by omega⟩,by rw[Nat.zero_add]; exact aW j u hj,bO u (List.mem_of_getElem? hj)⟩
   .exact RelL.ext ⟨λ_ _ h=> .inl h,λb o h=>hb.cell (p:=⟨b,o,none⟩) (aR b o h)⟩ _ _ lP
  .have:=h.2; omega
set_option maxRecDepth 100000 in
set_option maxHeartbeats 4000000 in
theorem QuD (rows:List (List D)) (hk:∀r∈rows,r.length=2) (aI:rows.length<=1000) (m:Nat->Nat->Prop) (w:World) (v:Value) (aR:∀b o,m b o->b < w.heap.size) (hr:Rel m w (.sl 2 rows) v):
  Calls Tryz.prog 103 #[v] w λe w'=>∃(v:Value) (m':Nat->Nat->Prop),e= .returned v/\Below w.heap.size w w'/\(∀b o,m' b o->w.heap.size<=b/\b < w'.heap.size)/\Rel (λb o=>m b o\/m' b o) w' (.sl 2 rows) v/\Qs8 m' w' w.heap.size rows.length 2 v:=by
 obtain⟨i0,hi,nC,qS,jP⟩:=QA0;simp only[Rel]at hr;obtain⟨l1,ad,c,rfl,hc,bG⟩:=hr;cases ad with
 | none=>
  obtain rfl:rows=[]:=by
   rcases bG with h | ⟨b,o,h,_⟩
   .exact h
   .cases h
  have heq:=QrX;generalize hR:(λ(e:Ending) (w':World)=>∃(v:Value) (m':Nat->Nat->Prop),e= .returned v/\Below w.heap.size w w'/\(∀b o,m' b o->w.heap.size<=b/\b < w'.heap.size)/\Rel (λb o=>m b o\/m' b o) w' (.sl 2 []) v/\Qs8 m' w' w.heap.size ([]:List (List D)).length 2 v)=R;have zJ:R (.returned (.slice none 0 0)) w:=by
   subst hR;exact⟨_,λ_ _=>False,rfl,Below.refl _ _,λ_ _ h=>h.elim,by simp[Rel],none,0,rfl,.inl rfl⟩
  clear hR
  go_enter Tryz.func103,Tryz.ntmps103
  go_wp2_with fail
  exact zJ
 | some A=>
  obtain⟨xs,x1,x2,x3,x4⟩:∃xs:List Value,xs.length=rows.length*2/\(∀u∈xs,u.oneCell'=true)/\RelL m w rows.flatten xs/\∀j u,xs[j]?=some u->w.cell? (A.add j)=some u:=by
   rcases bG with rfl | ⟨b,o,hA,jO⟩
   .exact⟨[],rfl,by simp,by simp[RelL],λj u h=>by cases h⟩
   .cases hA;obtain⟨xs,x1,x2,x3,x4⟩:=Qcq jO;refine⟨xs,x1,λu hu=>?_,x3,λj u hj=>by rw[QaB]; exact(x2 j u hj).2.1⟩
    obtain⟨q,hq,rfl⟩:=List.getElem_of_mem hu;exact(x2 q _ (Zg hq)).2.2
  clear bG;have heq:=QsC;have hAb:∀j u,xs[j]?=some u->(w.alloc (.cells #[] 149)).cell? (A.add j)=some u:=λj u hu=>by
   have h1:=x4 j u hu;have l8:(A.add j).block < w.heap.size:=by
    rcases Nat.lt_or_ge (A.add j).block w.heap.size with h | h
    .exact h
    .simp[World.cell?,Array.getElem?_eq_none h]at h1
   rw[World.cell?_alloc_lt _ _ _ l8]; exact h1
  have qJ:(w.alloc (.cells #[] 149)).ownsRow w.heap.size 149 2 (.slice (some ⟨w.heap.size,0,none⟩) 0 0) 0 []:=World.ownsRow_made w #[] 0 (Zr _) (by unfold maxLen; omega) rfl
  generalize hR:(λ(e:Ending) (w':World)=>∃(v:Value) (m':Nat->Nat->Prop),e= .returned v/\Below w.heap.size w w'/\(∀b o,m' b o->w.heap.size<=b/\b < w'.heap.size)/\Rel (λb o=>m b o\/m' b o) w' (.sl 2 rows) v/\Qs8 m' w' w.heap.size rows.length 2 v)=R;have zJ:∀v w',Below w.heap.size w w'->w'.ownsRow w.heap.size 149 2 v rows.length xs->R (.returned v) w':=λv w' hb ho=>by
   obtain⟨m',h1,h2,h3⟩:=Qtz aR hk x3 x2 aI x1 hb ho;subst hR;exact⟨v,m',rfl,hb,h1,h2,h3⟩
  clear hR x3;generalize rows.length=n at*;have H_hmade:=Lib.hid qJ; clear qJ; have H_hAb:=Lib.hid hAb; clear hAb; have H_x2:=Lib.hid x2; clear x2; have H_hR':=Lib.hid zJ; clear zJ; have H_hk:=Lib.hid hk; clear hk
  go_enter Tryz.func103,Tryz.ntmps103
  go_wp2_with (at_builtin; refine wpList_append_own _ rfl _ _ 145 rfl w.heap.size 149 i0 (.agg #[.int .i64 0,.int .i64 0]) 2 16 Tryz.underlying145 hi nC qS jP rfl (by decide) _ _ _ rfl H_hmade.out A n c xs rfl x1 H_hAb.out H_x2.out (by unfold maxLen; omega) (by omega) (by simp) ?_; intro v' w1 kF eV _)
  refine H_hR'.out v' w1 ?_ (by simpa using kF)
  exact((Below.refl w.heap.size w).alloc (Zr _) (.cells #[] 149)).grown eV (by simp) (λk hk=>by cases hk; exact Zr _)
theorem QAq (xs:Array Value) (w:World):(callFunc 103 xs).run Tryz.prog w= .ok (.enter 103 xs) w:=by kernel_rfl
noncomputable def QBU:List D->Option D:=sp1 (Qy Qcg) (Qy Qcg) λl=>if l.length<=1000 then some l else none
theorem QE5:∀ds d,QBU ds=some d->Qtx Tryz.prog 103 ds d:=by
 intro ds d h;unfold QBU sp1 at h;split at h
 .rename_i x;split at h
  .rename_i l hl;rw[Option.map_eq_some_iff]at h;obtain⟨r,hr,rfl⟩:=h;dsimp only at hr;split at hr
   .rename_i aI;cases hr;intro k rows hd m w vs aR hG lP;have e:=(Qy Qcg).ed _ _ hl;simp only[RelL]at lP;obtain⟨v,t,rfl,hv,rfl⟩:=lP;have iD:Rel m w ((Qy Qcg).enc l) v:=e m w v hv;rw[Qbk]at iD hd;simp only[D.sl.injEq]at hd;obtain⟨rfl,rfl⟩:=hd;have hC:=QuD (l.map Qcg.enc) (λr hr=>by
     obtain⟨x,_,rfl⟩:=List.mem_map.1 hr; rfl) (by simpa using aI) m w v aR iD
    refine hC.mono ?_;rintro e w' ⟨v',m',h1,h2,h3,h4,h5⟩;exact⟨v',m',h1,h2,h3,h4,h5⟩
   .cases hr
  .cases h
 .cases h
theorem QHC:∀ds d,QBU ds=some d->PureC Tryz.prog 103 ds d:=λds d h=>by
 have hd:∃rows,d= .sl 2 rows:=by
  unfold QBU sp1 at h;split at h
  .split at h
   .rw[Option.map_eq_some_iff]at h;obtain⟨r,hr,rfl⟩:=h;exact⟨_,rfl⟩
   .cases h
  .cases h
 obtain⟨rows,rfl⟩:=hd;intro m w vs h1 h2 h3;refine(QE5 ds _ h 2 rows rfl m w vs h1 h2 h3).mono ?_;rintro e w' ⟨v',m',q1,q2,q3,q4,q5⟩;exact⟨v',m',q1,q2,q3,q4⟩
end Go.Proofs.YtnfeakhkfehkhaaGreatDoor
