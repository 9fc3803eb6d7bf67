/-
  The program of the trace chapter: where wax comes by all cards and some more. Conditions: none.
-/
import Derived.Test.YticoemblgkemiaaGreatDoorZPrL
import Derived.Test.YticoemblgkemiaaGreatDoorZMyp
set_option linter.unusedSimpArgs false
set_option linter.unusedVariables false
namespace Go.Proofs.YticoemblgkemiaaGreatDoor
open Go.RowKit
def QFw (r:Nat):List (Nat×Option Nat):=match r with
 | 0=>kpn [2,3,5]
 | 1=>[(6,none)]
 | _=>[]
def Qrl (r:Nat):List (Nat×Option Nat):=match r with
 | 0=>kpn [0,1]
 | 1=>kpn [1,7,8,9]
 | 2=>kpn [1,7,8,9,10]
 | 3=>kpn [1,5,6,7,8,9]
 | 4=>kpn [1,7,8,9,17]
 | 5=>[(4,none)]
 | 6=>kpn [1,7,8,9]
 | 7=>[(4,none)]
 | _=>[]
def QuP (r:Nat):List (Nat×Option Nat):=match r with
 | 0=>kpn [1,2,3,6]
 | 1=>kpn [2,3,6]
 | 2=>kpn [2,6,14,15,16]
 | 3=>kpn [2,6,14,15,16,17]
 | 4=>kpn [2,6,7,8,14,15,16]
 | 5=>kpn [2,6,7,8,9,14,15,16]
 | 6=>kpn [2,6,7,8,9,10,14,15,16]
 | 7=>kpn [2,6,14,15,16]
 | 8=>kpn [2,6,14,15,16]
 | 9=>[(6,none)]
 | _=>[]
theorem QL7 {l:List Tak} {f:Nat->Bool} (hl:l.length<=8) (ht:∀t∈l,0<=t.fr/\t.fr < 8):QnD [.sl 2 (l.map Qce.enc),.fn 203 [] [.dat 8 [(List.range 8).map λk=>DB (f k)] 0 0]]=some (DB (l.any λt=>f t.fr.toNat)):=by
 have hd:(Qcd (QjP 203)).dec (.fn 203 [] [.dat 8 [(List.range 8).map λk=>DB (f k)] 0 0])=some (Oct.of f):=Qa4 (QqR 203) (Oct.of f);simp only[QnD,sp2,QeF,hd];rw[if_pos ⟨by omega,ht⟩]
 have e:(l.any λt=>(Oct.of f).f t.fr.toNat)=l.any λt=>f t.fr.toNat:=by
  rw[Bool.eq_iff_iff,Zy,Zy];refine exists_congr λt=>and_congr_right λh=>?_;have:=ht t h;rw[Oct.of_f,if_pos (by omega)]
 rw[e]; rfl
def iP (i:Int):D:= .dat 1 [[DI i]] 0 0
theorem Qse (x y:Int) (h:iP x=iP y):x=y:=by
 simp only[iP,D.dat.injEq,List.cons.injEq,D.v.injEq,Value.int.injEq,and_true,true_and]at h;exact h
def Qvg (p:Int×Oct):D:= .fn 204 [] [iP p.1,QnA p.2]
theorem QBo (x y:Int×Oct) (h:Qvg x=Qvg y):x=y:=by
 simp only[Qvg,D.fn.injEq,List.cons.injEq,and_true,true_and]at h;exact Prod.ext (Qse _ _ h.1) (Qhd _ _ h.2)
def Qp3 (i:Int) (f:Nat->Bool) (e:Edg):Bool:=e.to==i&&f e.fr.toNat
noncomputable def QNq:List D->Option D:=sp4 QaY (Qcf Qci) (Qcd iP) (Qcd QnA) QaW λ_ e i s=>if 0<=e.fr/\e.fr < 8 then some (Qp3 i s.f e)else none
theorem QOA:∀ds d,QNq ds=some d->PureC Tryz.prog 204 ds d:=Qyy λk e i s r hr=>by
 split at hr
 .rename_i hi;cases hr;refine Qf (Qw Qs 17 QFw []) Tryz.func204 rfl rfl (Zb rfl) (by kernel_rfl) ?_
  rw[Tryz.results204];have h8:e.fr.toNat < 8:=by omega
  unfold Qp3;cases h1:e.to==i with
  | true=>simp[QFw,QI,Qb8,QnA,iP,s.eq,hi.1,hi.2,h8,h1]
  | false=>simp[QFw,QI,Qb8,QnA,iP,s.eq,h1]
 .cases hr
theorem QG6 (xs:Array Value) (w:World):(callFunc 204 xs).run Tryz.prog w= .ok (.enter 204 xs) w:=by kernel_rfl
noncomputable def QOY:List (Nat×(List D->Option D)):=[(204,QNq)]
theorem QOP:QaE Tryz.prog (Qaw QOY):=Qh Qs QG6 QOA
noncomputable def QNG:List D->Option D:=sp2 (QJ Qci) (Qcd Qvg) QaW λl p=>if l.length<=17592186044416/\∀e∈l,0<=e.fr/\e.fr < 8 then some (l.any (Qp3 p.1 p.2.f))else none
theorem QHZ (xs:Array Value) (w:World):(callFunc 205 xs).run Tryz.prog w= .ok (.enter 205 xs) w:=by kernel_rfl
set_option maxHeartbeats 2000000 in
theorem QOT:∀ds d,QNG ds=some d->PureC Tryz.prog 205 ds d:=Qay λl p r hr=>by
 split at hr
 .rename_i hc;obtain⟨hl,ht⟩:=hc;cases hr;obtain⟨i,s⟩:=p;refine Qf (Qw QOP 19 Qrl []) Tryz.func205 rfl rfl (Zb rfl) (by kernel_rfl) ?_
  rw[Tryz.results205];simp[Qrl,Qb8,Qvg,Qz];generalize aC:Cx.loop _ _ _=aE;have tA:aE=some (if(List.range l.length).all (λj=>!Qp3 i s.f (l.getD j default))=true then(.exit 0,⟨[(1,.d (Qvg (i,s))),(7,.d (.sl 2 (l.map Qci.enc))),(8,.d (DI l.length)),(9,.d (DI l.length)),(10,.d (DB false))],[],[],[]⟩)else(.ret,⟨[(4,.d (DB true))],[],[],[]⟩)):=by
   refine QeB aC (λj=>⟨[(1,.d (Qvg (i,s))),(7,.d (.sl 2 (l.map Qci.enc))),(8,.d (DI l.length)),(9,.d (DI j))],[],[],[]⟩) _ _ _ _ (by simp[Qvg]) (by show _ < 281474976710656; omega) (by simp) (by simp) ?_ ?_
   .intro j hj;have aO:(j:Int) < l.length:=by omega
    have w1:=Qa ((j:Int)+1) (by omega) (by omega)
    have h0:=ht l[j] (Ze hj);rw[Ql l j _ hj];have hs:QNq [DI j,.agg [DI l[j].fr,DI l[j].to],.dat 1 [[DI i]] 0 0,.dat 8 [s.1] 0 0]=some (DB (Qp3 i s.f l[j])):=by
     have hd:(Qcd QnA).dec (.dat 8 [s.1] 0 0)=some s:=Qa4 Qhd s;have kN:(Qcd iP).dec (.dat 1 [[DI i]] 0 0)=some i:=Qa4 Qse i;simp only[QNq,sp4,Qak,QaQ,QF2,hd,kN];rw[if_pos h0]; rfl
    cases hb:Qp3 i s.f l[j]with
    | true=>
     rw[hb]at hs;simp[Qrl,QOY,Qvg,iP,QnA,QI,hj,aO,hs]
    | false=>
     rw[hb]at hs;simp[Qrl,QOY,Qvg,iP,QnA,QI,hj,aO,hs,w1]
   .simp[Qrl,Qvg]
  rw[tA];have e2:l.any (Qp3 i s.f)=!(List.range l.length).all (λj=>!Qp3 i s.f (l.getD j default)):=by
   rw[Bool.eq_iff_iff,Zy,Bool.not_eq_true',List.all_eq_false];constructor
   .rintro⟨t,h1,h2⟩;obtain⟨k,hk,rfl⟩:=List.getElem_of_mem h1;exact⟨k,Zm.2 hk,by rw[Ql _ _ _ hk,h2]; simp⟩
   .rintro⟨k,hk,h⟩;have dR:=Zm.1 hk;rw[Ql _ _ _ dR]at h;exact⟨_,Ze dR,by simpa using h⟩
  rw[e2];cases(List.range l.length).all (λj=>!Qp3 i s.f (l.getD j default))with
  | true=>simp[Qrl]
  | false=>simp
 .cases hr
theorem QEr {l:List Edg} {i:Int} {f:Nat->Bool} (hl:l.length<=100) (ht:∀e∈l,0<=e.fr/\e.fr < 8):QNG [.sl 2 (l.map Qci.enc),.fn 204 [] [.dat 1 [[DI i]] 0 0,.dat 8 [(List.range 8).map λk=>DB (f k)] 0 0]]=some (DB (l.any (Qp3 i f))):=by
 have hd:(Qcd Qvg).dec (.fn 204 [] [.dat 1 [[DI i]] 0 0,.dat 8 [(List.range 8).map λk=>DB (f k)] 0 0])=some (i,Oct.of f):=Qa4 QBo (i,Oct.of f);simp only[QNG,sp2,Qkd,hd];rw[if_pos ⟨by omega,ht⟩]
 have e:l.any (Qp3 i (Oct.of f).f)=l.any (Qp3 i f):=by
  rw[Bool.eq_iff_iff,Zy,Zy];refine exists_congr λt=>and_congr_right λh=>?_;have:=ht t h;unfold Qp3;rw[Oct.of_f,if_pos (by omega)]
 rw[e]; rfl
def Qod (b:List Bat) (i:Nat) (more:List Edg) (m x:Nat):Bool:=if x < m then Qam b i more m x else decide (x=i)
theorem QL1 (b:List Bat) (i:Nat) (more:List Edg) (x:Nat):Qod b i more 0 x=decide (x=i):=by simp[Qod]
attribute [local simp] QL1
theorem QAY {b:List Bat} {i:Nat} {more:List Edg} (hi:i < b.length):Qod b i more b.length=Qam b i more b.length:=by
 funext x;unfold Qod;split
 .rfl
 .rename_i h;rw[Qiz _ _ _ _ (by omega)]
  simp; omega
theorem QvN {b:List Bat} (h:BookOk b) {i m:Nat} {more:List Edg} (hm:m < b.length) (dM:∀e∈more,0<=e.fr/\e.fr < e.to):Qod b i more (m+1)=QZ (Qod b i more m) m (decide (m=i)||b[m].takes.any (λt=>Qod b i more m t.fr.toNat)||more.any (Qp3 m (Qod b i more m))):=by
 funext x;unfold QZ;by_cases e:x=m
 .subst e;rw[if_pos rfl,Qod,if_pos (by omega),Qam,Qac,Qao hm]
  congr 1
  .congr 1;rw[Bool.eq_iff_iff,Zy,Zy];refine exists_congr λt=>and_congr_right λht=>?_;have:=(h.at hm).fr t ht;rw[Qod,if_pos (by omega)]
  .rw[Bool.eq_iff_iff,Zy,Zy];refine exists_congr λe=>and_congr_right λhe=>?_;have:=dM e he;unfold Qp3;simp only[Za,beq_iff_eq];refine and_congr_right λrB=>?_;rw[Qod,if_pos (by omega)]
 .rw[if_neg e];unfold Qod;by_cases h1:x < m
  .rw[if_pos h1,if_pos (by omega),QbE b i more h1 (by omega:m<=m+1)]
  .rw[if_neg h1,if_neg (by omega)]
theorem QLQ {b:List Bat} {i m:Nat} {more:List Edg} :Qod b i more m m=decide (m=i):=by simp[Qod]
theorem updI {i:Nat} :QZ (λt=>DB false) i (DB true)=λt=>DB (decide (t=i)):=by
 funext t;unfold QZ;split<;>simp_all
noncomputable def QNC:List (Nat×(List D->Option D)):=[(137,QnD),(205,QNG)]
theorem QOe:QaE Tryz.prog (Qaw QNC):=Qh (Qh Qs QHZ QOT) Qx8 QAl
theorem QEi (xs:Array Value) (w:World):(callFunc 140 xs).run Tryz.prog w= .ok (.enter 140 xs) w:=by kernel_rfl
noncomputable def QNk:List D->Option D:=sp3 (Qcf rBx) QaY (QJ Qci) (Qcf QC0) λx i more=>if BookOk x.bats/\0<=i/\i < x.bats.length/\more.length<=100/\∀e∈more,0<=e.fr/\e.fr < e.to/\e.to < 8 then some (Oct.of (Qam x.bats i.toNat more x.bats.length))else none
theorem repF:([.d (DB false),.d (DB false),.d (DB false),.d (DB false),.d (DB false),.d (DB false),.d (DB false),.d (DB false)]:List X)=Qk 8 λ_=>DB false:=rfl
set_option maxHeartbeats 4000000 in
theorem QPf:∀ds d,QNk ds=some d->PureC Tryz.prog 140 ds d:=QcN λx ii more r hr=>by
 split at hr
 .rename_i hc;obtain⟨aP,m9,o9,hm,dM⟩:=hc;cases hr;obtain⟨sup,b,lo⟩:=x;dsimp only at*;obtain⟨i,rfl⟩:∃i:Nat,ii=i:=⟨ii.toNat,by omega⟩
  have hi:i < b.length:=by omega
  have bE:=aP.le;have pJ:(i:Int) < 8:=by omega
  have hi8n:i < 8:=by omega
  have hi8m:i+1<=8:=by omega
  refine Qf (Qw QOe 41 QuP []) Tryz.func140 rfl rfl (Zb rfl) (by kernel_rfl) ?_
  rw[Tryz.results140];simp[-Q7,Qq,QuP,Qz,QkY,QaU,QE,QO,Qas,QL,repF,Qaj,QA,Qb,Qo,updI,pJ,hi8n,hi8m]
  (generalize aC:Cx.loop _ _ _=aE; apply Qi aC (λm=>⟨[(2,.d (.sl 2 (more.map Qci.enc))),(6,.loc 6 0),(14,.d (.sl 5 (b.map QQ.enc))),(15,.d (DI b.length)),(16,.d (DI m))],[(6,Qk 8 (λt=>DB (Qod b i more m t)))],[],[]⟩) b.length (by first | (simp; done) | (simp; rfl) | (simp; simp[*])); rotate_left; (show _ < 281474976710656; omega); rfl; rotate_left; all_goals clear aC)
  .intro m x9;have rU:(m:Int) < b.length:=by omega
   have hm8:m < 8:=by omega
   have tI:(m:Int) < 8:=by omega
   have tJ:m+1<=8:=by omega
   have w1:=Qa ((m:Int)+1) (by omega) (by omega)
   have hb:=aP.at x9;have bV:= @QLQ b i m more;have dG:=QeX (l:=b[m].takes) hb.asc hb.fr;have hs:=QvN (i:=i) (more:=more) aP x9 λe he=>⟨(dM e he).1,(dM e he).2.1⟩;have tK:=QL7 (l:=b[m].takes) (f:=Qod b i more m) (by omega) λt ht=>by have:=hb.fr t ht; omega
   have xA:=QEr (l:=more) (i:=m) (f:=Qod b i more m) hm λe he=>by have:=dM e he; omega
   rw[hs];generalize Qod b i more m=R at*;generalize b[m].takes.any (λt=>R t.fr.toNat)=c1 at*;generalize more.any (Qp3 m R)=c2 at*;cases h0:decide (m=i)with
   | true=>
    rw[h0]at bV;simp[QuP,QNC,Qe,Qaj,QA,Qb,Qg,Qo,Qfy,x9,rU,hm8,tI,tJ,bV,w1];done
   | false=>
    rw[h0]at bV;cases c1 with
    | true=>
     simp[QuP,QNC,Qe,Qaj,QA,Qb,Qg,Qo,Qv,Qfy,x9,rU,hm8,tI,tJ,bV,tK,w1];done
    | false=>
     simp[QuP,QNC,Qe,Qaj,QA,Qb,Qg,Qo,Qv,Qfy,x9,rU,hm8,tI,tJ,bV,tK,xA,w1];done
  .rw[QAY hi];simp[QuP,Qaj,QA,Qb,QaG,Qv];rfl
 .cases hr
end Go.Proofs.YticoemblgkemiaaGreatDoor
namespace Go.Proofs.YticoemblgkemiaaGreatDoor
open Go.RowKit
theorem QHb:∃i:TypeInfo,Tryz.prog.info? 245=some i/\i.zero=some (.agg #[.int .i64 0,.int .i64 0])/\i.size=2/\i.bytes=16:=by
 have h:(Tryz.prog.info? 245).map (λf=>(f.size,f.bytes,f.zero))=some (2,16,some (.agg #[.int .i64 0,.int .i64 0])):=by kernel_rfl
 cases hi:Tryz.prog.info? 245 with
 | none=>rw[hi]at h; cases h
 | some i=>
  rw[hi]at h;simp only[Option.map_some,Zs,Prod.mk.injEq]at h;exact⟨i,rfl,h.2.2,h.1,h.2.1⟩
theorem QtX (a:Addr) (n c:Nat) (w:World):(binOp .eql 241 (.slice (some a) n c) (.slice none 0 0)).run Tryz.prog w= .ok (.bool false) w:=by kernel_rfl
theorem Qui (n c:Nat) (w:World):(binOp .eql 241 (.slice none n c) (.slice none 0 0)).run Tryz.prog w= .ok (.bool true) w:=by kernel_rfl
theorem QnE {w:World} {base:Nat} {e:TypeId} {size n bO g:Nat} {xs:List Value} (h:w.ownsRow base e size (.slice (some ⟨g,0,none⟩) n bO) n xs):∃cs:Array Value,w.heap[g]?=some (.cells cs e (0,0))/\base<=g/\n<=bO/\bO*size<=cs.size/\∀j u,xs[j]?=some u->w.cell? ⟨g,j,none⟩=some u:=by
 obtain⟨h1,h2⟩:=h;rcases h2 with⟨h2,_⟩ | ⟨g',x7,f6,e1,hb,hg,hn,hc,hs,ht⟩
 .cases h2
 .simp only[Value.slice.injEq,Zs,Addr.mk.injEq,true_and,and_true]at e1;obtain⟨rfl,rfl⟩:=e1;refine⟨f6,hg,hb,hn,by omega,λj u hj=>?_⟩
  rw[<-ht,List.getElem?_take]at hj;split at hj
  .simp only[World.cell?,hg,Option.isSome_none,Bool.false_eq_true,if_false];simpa using hj
  .cases hj
theorem Qxn {m:Nat->Nat->Prop} {w w':World} {rows:List (List D)} {xs:List Value} {v:Value} (aQ:∀b o,m b o->b < w.heap.size) (hk:∀r∈rows,r.length=2) (l8:RelL m w rows.flatten xs) (bG:∀u∈xs,u.oneCell'=true) (aI:rows.length<=1000) (mN:xs.length=rows.length*2) (hb:Below w.heap.size w w') (ho:w'.ownsRow w.heap.size 245 2 v rows.length xs):
  ∃m':Nat->Nat->Prop,(∀b o,m' b o->w.heap.size<=b/\b < w'.heap.size)/\Rel (λb o=>m b o\/m' b o) w' (.sl 2 rows) v/\QwB m' w' w.heap.size rows.length 2 v:=by
 have ho2:=ho.2;rcases ho2 with⟨rfl,h0⟩ | ⟨g,bO,f6,rfl,hbg,hg,oF,hcm,bM,gN⟩
 .obtain rfl:rows=[]:=List.length_eq_zero_iff.1 h0;exact⟨λ_ _=>False,λ_ _ h=>h.elim,by simp[Rel],none,0,rfl,.inl rfl⟩
 .obtain⟨cs,lS,_,_,hcs2,aK⟩:=QnE ho;refine⟨λb x=>b=g/\x < rows.length*2,λb o h=>?_,?_,some ⟨g,0,none⟩,bO,rfl,.inr ⟨g,rfl,hbg,λx hx h=>?_,cs,245,lS,hcs2⟩⟩
  .obtain⟨rfl,_⟩:=h;exact⟨hbg,(Zj.1 hg).1⟩
  .simp only[Rel];refine⟨by omega,_,bO,rfl,oF,.inr ⟨g,0,rfl,QkJ (xs:=xs) hk (λj u hj=>?_) ?_⟩⟩
   .have aO:j < xs.length:=(Zi.1 hj).1;refine⟨.inr ⟨rfl,by omega⟩,by rw[Nat.zero_add]; exact aK j u hj,bG u (List.mem_of_getElem? hj)⟩
   .exact RelL.ext ⟨λ_ _ h=> .inl h,λb o h=>hb.cell (p:=⟨b,o,none⟩) (aQ b o h)⟩ _ _ l8
  .have:=h.2; omega
set_option maxRecDepth 100000 in
set_option maxHeartbeats 4000000 in
theorem Qxh (rows:List (List D)) (hk:∀r∈rows,r.length=2) (aI:rows.length<=1000) (m:Nat->Nat->Prop) (w:World) (v:Value) (aQ:∀b o,m b o->b < w.heap.size) (hr:Rel m w (.sl 2 rows) v):
  Calls Tryz.prog 141 #[v] w λe w'=>∃(v:Value) (m':Nat->Nat->Prop),e= .returned v/\Below w.heap.size w w'/\(∀b o,m' b o->w.heap.size<=b/\b < w'.heap.size)/\Rel (λb o=>m b o\/m' b o) w' (.sl 2 rows) v/\QwB m' w' w.heap.size rows.length 2 v:=by
 obtain⟨i0,hi,jT,rX,jZ⟩:=QHb;simp only[Rel]at hr;obtain⟨l1,ad,c,rfl,hc,aZ⟩:=hr;cases ad with
 | none=>
  obtain rfl:rows=[]:=by
   rcases aZ with h | ⟨b,o,h,_⟩
   .exact h
   .cases h
  have heq:=Qui;generalize hR:(λ(e:Ending) (w':World)=>∃(v:Value) (m':Nat->Nat->Prop),e= .returned v/\Below w.heap.size w w'/\(∀b o,m' b o->w.heap.size<=b/\b < w'.heap.size)/\Rel (λb o=>m b o\/m' b o) w' (.sl 2 []) v/\QwB m' w' w.heap.size ([]:List (List D)).length 2 v)=R;have hR':R (.returned (.slice none 0 0)) w:=by
   subst hR;exact⟨_,λ_ _=>False,rfl,Below.refl _ _,λ_ _ h=>h.elim,by simp[Rel],none,0,rfl,.inl rfl⟩
  clear hR
  go_enter Tryz.func141,Tryz.ntmps141
  go_wp2_with fail
  exact hR'
 | some A=>
  obtain⟨xs,x1,x2,x3,x4⟩:∃xs:List Value,xs.length=rows.length*2/\(∀u∈xs,u.oneCell'=true)/\RelL m w rows.flatten xs/\∀j u,xs[j]?=some u->w.cell? (A.add j)=some u:=by
   rcases aZ with rfl | ⟨b,o,hA,jY⟩
   .exact⟨[],rfl,by simp,by simp[RelL],λj u h=>by cases h⟩
   .cases hA;obtain⟨xs,x1,x2,x3,x4⟩:=Qcr jY;refine⟨xs,x1,λu hu=>?_,x3,λj u hj=>by rw[QaS]; exact(x2 j u hj).2.1⟩
    obtain⟨q,hq,rfl⟩:=List.getElem_of_mem hu;exact(x2 q _ (Zg hq)).2.2
  clear aZ;have heq:=QtX;have hAb:∀j u,xs[j]?=some u->(w.alloc (.cells #[] 245)).cell? (A.add j)=some u:=λj u hu=>by
   have h1:=x4 j u hu;have l6:(A.add j).block < w.heap.size:=by
    rcases Nat.lt_or_ge (A.add j).block w.heap.size with h | h
    .exact h
    .simp[World.cell?,Array.getElem?_eq_none h]at h1
   rw[World.cell?_alloc_lt _ _ _ l6]; exact h1
  have rF:(w.alloc (.cells #[] 245)).ownsRow w.heap.size 245 2 (.slice (some ⟨w.heap.size,0,none⟩) 0 0) 0 []:=World.ownsRow_made w #[] 0 (Zr _) (by unfold maxLen; omega) rfl
  generalize hR:(λ(e:Ending) (w':World)=>∃(v:Value) (m':Nat->Nat->Prop),e= .returned v/\Below w.heap.size w w'/\(∀b o,m' b o->w.heap.size<=b/\b < w'.heap.size)/\Rel (λb o=>m b o\/m' b o) w' (.sl 2 rows) v/\QwB m' w' w.heap.size rows.length 2 v)=R;have hR':∀v w',Below w.heap.size w w'->w'.ownsRow w.heap.size 245 2 v rows.length xs->R (.returned v) w':=λv w' hb ho=>by
   obtain⟨m',h1,h2,h3⟩:=Qxn aQ hk x3 x2 aI x1 hb ho;subst hR;exact⟨v,m',rfl,hb,h1,h2,h3⟩
  clear hR x3;generalize rows.length=n at*;have H_hmade:=Lib.hid rF; clear rF; have H_hAb:=Lib.hid hAb; clear hAb; have H_x2:=Lib.hid x2; clear x2; have H_hR':=Lib.hid hR'; clear hR'; have H_hk:=Lib.hid hk; clear hk
  go_enter Tryz.func141,Tryz.ntmps141
  go_wp2_with (at_builtin; refine wpList_append_own _ rfl _ _ 241 rfl w.heap.size 245 i0 (.agg #[.int .i64 0,.int .i64 0]) 2 16 Tryz.underlying241 hi jT rX jZ rfl (by decide) _ _ _ rfl H_hmade.out A n c xs rfl x1 H_hAb.out H_x2.out (by unfold maxLen; omega) (by omega) (by simp) ?_; intro v' w1 kX eY _)
  refine H_hR'.out v' w1 ?_ (by simpa using kX)
  exact((Below.refl w.heap.size w).alloc (Zr _) (.cells #[] 245)).grown eY (by simp) (λk hk=>by cases hk; exact Zr _)
theorem QFd (xs:Array Value) (w:World):(callFunc 141 xs).run Tryz.prog w= .ok (.enter 141 xs) w:=by kernel_rfl
noncomputable def QGQ:List D->Option D:=sp1 (QJ Qci) (QJ Qci) λl=>if l.length<=1000 then some l else none
theorem QLD:∀ds d,QGQ ds=some d->Qwg Tryz.prog 141 ds d:=by
 intro ds d h;unfold QGQ sp1 at h;split at h
 .rename_i x;split at h
  .rename_i l hl;rw[Option.map_eq_some_iff]at h;obtain⟨r,hr,rfl⟩:=h;dsimp only at hr;split at hr
   .rename_i aI;cases hr;intro k rows hd m w vs aQ hG l8;have e:=(QJ Qci).ed _ _ hl;simp only[RelL]at l8;obtain⟨v,t,rfl,hv,rfl⟩:=l8;have gR:Rel m w ((QJ Qci).enc l) v:=e m w v hv;rw[QbL]at gR hd;simp only[D.sl.injEq]at hd;obtain⟨rfl,rfl⟩:=hd;have hC:=Qxh (l.map Qci.enc) (λr hr=>by
     obtain⟨x,_,rfl⟩:=List.mem_map.1 hr; rfl) (by simpa using aI) m w v aQ gR
    refine hC.mono ?_;rintro e w' ⟨v',m',h1,h2,h3,h4,h5⟩;exact⟨v',m',h1,h2,h3,h4,h5⟩
   .cases hr
  .cases h
 .cases h
theorem QOu:∀ds d,QGQ ds=some d->PureC Tryz.prog 141 ds d:=λds d h=>by
 have hd:∃rows,d= .sl 2 rows:=by
  unfold QGQ sp1 at h;split at h
  .split at h
   .rw[Option.map_eq_some_iff]at h;obtain⟨r,hr,rfl⟩:=h;exact⟨_,rfl⟩
   .cases h
  .cases h
 obtain⟨rows,rfl⟩:=hd;intro m w vs h1 h2 h3;refine(QLD ds _ h 2 rows rfl m w vs h1 h2 h3).mono ?_;rintro e w' ⟨v',m',q1,q2,q3,q4,q5⟩;exact⟨v',m',q1,q2,q3,q4⟩
end Go.Proofs.YticoemblgkemiaaGreatDoor
