/-
  ANY truth of a book, as the law draws it. Conditions: none.
-/
import Derived.Test.YtnfeakhkfehkhaaGreatDoorZFndB
import Derived.Test.YtnfeakhkfehkhaaGreatDoorZCellB
set_option linter.unusedSimpArgs false
set_option linter.unusedVariables false
namespace Go.Proofs.YtnfeakhkfehkhaaGreatDoor
open Go.RowKit
def QMp (r:Nat):List (Nat×Option Nat):=match r with
 | 0=>kpn [0,1]
 | 1=>kpn [0,1,5]
 | 2=>kpn [0,1,5,6]
 | 3=>kpn [0,1,5,6,7]
 | 4=>kpn [0,1,5,6,7,8]
 | 5=>kpn [0,1,5,6,7,8,21]
 | 6=>kpn [0,1,5,6,7,8]
 | 7=>kpn [0,1,5,6,7,8,29]
 | 8=>kpn [0,1,5,6,7,8]
 | 9=>kpn [0,1,5,6,7,8,9]
 | 10=>kpn [0,1,5,6,7,8,9,36]
 | 11=>kpn [0,1,5,6,7,8,9]
 | 12=>kpn [0,1,5,6,7,8,9,10,11]
 | 13=>kpn [0,1,5,6,7,8,9,10,11,12]
 | 14=>kpn [0,1,5,6,7,8,9,10,11,12,49]
 | 15=>kpn [0,1,5,6,7,8,9,12]
 | 16=>kpn [0,1,5,6,7,8,9,12]
 | 17=>kpn [0,1,5,6,7,8,9,12]
 | 18=>kpn [0,1,5,6,7,8,9,12,71]
 | 19=>kpn [0,1,5,6,7,8,9,12]
 | 20=>kpn [0,1,5,6,7,8,9]
 | 21=>[(4,none)]
 | _=>[]
def QLW:List (Nat×Nat×Nat):=[(5,2,2),(5000,100,0),(5000,101,0)]
def QMl (r:Nat):List (Nat×Nat):=if r=19 then [(4,21),(14,21)]else []
theorem QNM {b:Nat} (h1:(b==5)=false) (h2:(b==5000)=false) (j:Nat):QfB QLW b j=none:=Qeh h1 (Qeh h2 (Qeh h2 (Qeb b))) j
theorem QLj (n:Nat) (g:Nat->D) (b i:Nat) (h1:(b==5)=false) (h5:(b==5000)=false) (av nw:List Nat):Qaw [(5,2,2),(5000,100,0),(5000,101,0)] b i (QPw n g) av nw=(QPw n g,av,nw):=Qbv QLW b _ i av nw (QNM h1 h5) Qbr
theorem QLk (L:List Bat) (m b i:Nat) (h1:(b==5)=false) (h5:(b==5000)=false) (av nw:List Nat):Qaw [(5,2,2),(5000,100,0),(5000,101,0)] b i (QLh L m) av nw=(QLh L m,av,nw):=QNj (kb:=QLW) (QNM h1 h5) L m i av nw
theorem QLU (y:List Int) (t:Nat) (p:Pro) (u:Nat):∀f,(QLo y t p u f).p.never.length=p.never.length+f/\(QLo y t p u f).u=u+f/\(QLo y t p u f).L.length<=f
 | 0=>⟨rfl,rfl,Zr _⟩
 | f+1=>by
  obtain⟨h1,h2,h3⟩:=QLU y t p u f;rw[QLo]
  try dsimp only
  split
  .simp; omega
  .simp; omega
theorem QLY (b:List Bat) (y:List Int):∀k,k<=8->(QLn b y k).p.never.length<=8*k/\(QLn b y k).u<=8*k/\(QLn b y k).out.length=k
 | 0,_=>⟨Zr _,Zr _,rfl⟩
 | k+1,hk=>by
  obtain⟨h1,h2,h3⟩:=QLY b y k (by omega)
  have h4:=QLU y k (QLn b y k).p (QLn b y k).u k;rw[QLn]
  try dsimp only
  split
  .simp; omega
  .simp; omega
theorem QN3 {b:List Bat} (h:ValidB b) {p:Pro} {g:Nat->Nat->Int} {t f:Nat} (I:FI (Qaa b) b.length p g t f) (hn:p.never.length<=1000):PBd p b.length:=by
 have hb:∀i,(Qaa b).has i<=100000/\(Qaa b).need i<=100000:=λi=>by
  by_cases hi:i < b.length
  .have h1:=(Qqm h.ok hi).2;have h2:=(QqM h.ok i).2;have e1:(Qaa b).has i=QfE b i:=QmQ hi;have e2:(Qaa b).need i=QfA b i:=QoH hi;omega
  .have e1:(Qaa b).has i=0:=QiF (by omega)
   have e2:(Qaa b).need i=0:=QdW (by omega)
   omega
 refine⟨I.len,h.ok.pos,hn,λi=>⟨I.h0 i,?_⟩,λi=>⟨I.n0 i,?_⟩⟩
 .have h1:=I.has i;have h2:=Qa2 (n:=8) λt _=>I.nn i t;have h3:=(hb i).1;have e:QY 8 (λt=>g i t)=QY 8 (g i):=rfl;omega
 .have h1:=I.need i;have h2:=Qa2 (n:=8) λx _=>I.nn x i;have h3:=(hb i).2;omega
theorem QNY {b:List Bat} {p:Pro} (h:PBd p b.length) {f t:Nat} (hf:f < t) (ht:t < b.length):s84 [.agg [.sl 1 (p.has.map Qt.enc),.sl 1 (p.needs.map Qt.enc),.sl 2 (p.never.map Qcg.enc)],DI f,DI t]=some (.tup [DI (QxQ p f t).1,DI (QxQ p f t).2]):=by
 have e:Qqw.dec [.sl 1 (p.has.map Qt.enc),.sl 1 (p.needs.map Qt.enc),.sl 2 (p.never.map Qcg.enc)]=some p:=QMt p;have c:PBd p p.has.length/\(0:Int)<=(f:Int)/\(f:Int) < (t:Int)/\(t:Int) < (p.has.length:Int):=by
  rw[h.len.h]; exact⟨h,by omega,by omega,by omega⟩
 simp only[s84,sp3,Qbq,e,Qam];rw[if_pos c,Int.toNat_natCast,Int.toNat_natCast]; rfl
theorem QNT {y:List Int} (h:QLS y) {n:Nat} (hn:n < 1000000):s85 [.sl 1 (y.map (rK .u32).enc),DI n]=some (DI (QLN y n)):=by
 simp only[s85,sp2,QBV,Qam];rw[if_pos ⟨by omega,by omega,h⟩,Int.toNat_natCast]; rfl
def fxB (x:Bat) (L:List Tak):Bat:= { x with lost:=false,takes:=L}
theorem QLX (x:Bat) (L:List Tak):QO.enc (fxB x L)=[DS x.name,DI x.grams,DI x.fresh,DB false,.sl 2 (L.map Qb1.enc)]:=rfl
theorem QMP (b:List Bat) (y:List Int):QLn b y 0=⟨⟨QI b,QV b,[]⟩,[],0⟩:=rfl
theorem QMY (y:List Int) (t:Nat) (p:Pro) (u:Nat):QLo y t p u 0=⟨p,[],u⟩:=rfl
theorem QMk {y:List Int} (h:QLS y):∀z∈y,0<=z:=λz hz=>(h z hz).1
noncomputable def l37:List (Nat×(List D->Option D)):=[(84,s84),(85,s85)]
theorem QN5:Qay Tryz.prog (Qas l37):=Ql (Ql QB QNR ok85) QNW ok84
attribute [local simp] QMP QMY
noncomputable def s37:List D->Option D:=sp2 (Qy QO) (Qy (rK .u32)) (Qy QO) λb y=>if ValidB b/\QLS y then some (QLO b y)else none
set_option maxHeartbeats 16000000 in
theorem ok37:∀ds d,s37 ds=some d->PureC Tryz.prog 37 ds d:=QaR λb y r hr=>by
 split at hr
 .rename_i hc;obtain⟨hv,hy⟩:=hc;cases hr;have aQ:=hv.ok;have aX:=aQ.le;have gW:=aQ.pos;have cS:=QbT QN5 Qct QbC QcU 111 QMp QLW QMl (λ_=>0);have fV:b.length<=140737488355328:=by omega
  refine QdD Tryz.func37 rfl rfl (Zb rfl) λm w a I tV=>?_;refine QgG cS 0 _ rfl (by kernel_rfl) (by kernel_rfl) (λ_ _=>rfl) _ _ _ _ I ?_
  simp[QeQ,QMp,QLW,l37,Qe,QL3,QT];intro g1 a1 w1 I1;show Code.wpIn _ _ _ (Qon 0 _) _ _ _;refine wpIn_seq ?_;refine Qwc cS 1 14 41 (QpX b.length) (Qhz b) rfl rfl rfl rfl rfl (by decide) rfl rfl (by simp[Qan,QcP]) (λ_ _=>rfl) QtI I1 ?_
  have cH:=Qt2 aQ;rw[Qbk]at cH;simp[Qwl,QMp,QLW,l37,QN,QS,QLj,QLf,QGU,Qrf,Qhz,QpX,Qh6,QCZ];refine⟨cH,λg2 a2 w2 I2=>?_⟩;show Code.wpIn _ _ _ _ _ _ _;refine wpIn_seq ?_;have aS:b.map QO.enc≠[]:=by
   intro h;have:b.length=0:=by rw[<-List.length_map (f:=QO.enc),h]; rfl
   omega
  have lV:¬b=[]:=λh=>aS (by rw[h]; rfl)
  have fL:b.length*64<=140737488355328:=by omega
  refine QNs cS 2 17 rfl rfl rfl rfl rfl rfl rfl rfl rfl (by simp[Qan,QcP,Qaf]) rfl I2 ?_
  simp[QMu,QMp,QLW,l37,Qaf,QLj,QLk,aS,fL,fV,QNN,QNC,QCZ];intro mm g3 a3 w3 I3;show Code.wpIn _ _ _ _ _ _ _;refine QgG cS 1 _ rfl (by kernel_rfl) (by kernel_rfl) (λ_ _=>rfl) _ _ _ _ I3 ?_
  simp[QeQ,QMp,QLW,l37,Qaf,QMC,QLj,QLk]
  (generalize aC:Cx.loop _ _ _=aE; apply Qc2 aC (λk=>⟨[(0,.d (.sl 5 (b.map QO.enc))),(1,.d (.sl 1 (y.map (rK .u32).enc))),(5,.loc 5 0),(6,.bs 17 0 b.length 5),(7,.d (DI (QLn b y k).u)),(8,.d (DI k))],[(5,[.bs 100 0 b.length 1,.bs 101 0 b.length 1,.sl 2 ((QLn b y k).p.never.map Qcg.enc) (.tok 100502)]),(17,QLh ((QLn b y k).out++b.drop k) mm),(100,QPw b.length (λj=>DI ((QLn b y k).p.has.getD j 0))),(101,QPw b.length (λj=>DI ((QLn b y k).p.needs.getD j 0)))],[100502],[]⟩) b.length (by first | (simp; done) | (simp; rfl) | (simp[*]; done) | (simp; simp[*])); rotate_left; (show _ < 281474976710656; omega); (exact λh=>h); rotate_left; all_goals clear aC)
  .intro t ht;have tT:(t:Int) < b.length:=by omega
   have wt:=Qa ((t:Int)+1) (by omega) (by omega)
   obtain⟨g,I⟩:=QMi hv (QMk hy) t (by omega)
   obtain⟨I,eo⟩:=I;obtain⟨n1,n2,n3⟩:=QLY b y t (by omega)
   have eK:QLn b y (t+1)=if(b.getD t default).lost=true then⟨(QLo y t (QLn b y t).p (QLn b y t).u t).p,(QLn b y t).out++[{ b.getD t default with lost:=false,takes:=(QLo y t (QLn b y t).p (QLn b y t).u t).L}],(QLo y t (QLn b y t).p (QLn b y t).u t).u⟩else⟨(QLn b y t).p,(QLn b y t).out++[b.getD t default],(QLn b y t).u⟩:=rfl
   rw[Qbf ht]at eK;have tN:b.drop t=b[t]::b.drop (t+1):=List.drop_eq_getElem_cons ht;have pS:Qfv b t=b[t].lost:=by unfold Qfv; rw[Qbf ht]
   cases hl:b[t].lost with
   | false=>
    rw[hl,if_neg (by simp)]at eK
    rw[eK];have eO:(QLn b y t).out++[b[t]]++b.drop (t+1)=(QLn b y t).out++b.drop t:=by rw[tN]; simp
    dsimp only;rw[eO];simp[QMp,Qh,Qaf,QMC,QLj,QLk,ht,tT,hl,wt]
   | true=>
    rw[hl,if_pos rfl]at eK;rw[eK];have hO:((QLn b y t).out++b.drop t).length=b.length:=by rw[List.length_append,n3,List.length_drop]; omega
    have hOt:t < ((QLn b y t).out++b.drop t).length:=by omega
    have eOt:((QLn b y t).out++b.drop t)[t]=b[t]:=by
     rw[List.getElem_append_right (by omega)]
     simp[n3]
    have eS:∀L,(QLn b y t).out++[fxB b[t] L]++b.drop (t+1)=((QLn b y t).out++b.drop t).set t (fxB b[t] L):=λL=>by
     rw[List.set_append_right _ _ (by omega),n3,Nat.sub_self,tN,List.set_cons_zero]; simp
    have eF:∀L,({ b[t]with lost:=false,takes:=L} :Bat)=fxB b[t] L:=λ_=>rfl
    rw[eF];dsimp only;rw[eS];have f5:=(aQ.at ht).lost hl;generalize hOO:(QLn b y t).out++b.drop t=O at*;have hIJ:=λf hf=>QMh (u:=(QLn b y t).u) (QMk hy) I ht (by show Qfv b t=true; rw[pS]; exact hl) f hf
    have hJl:=QLU y t (QLn b y t).p (QLn b y t).u;have xT:=I.len;clear eK;generalize QLn b y t=S at*;obtain⟨p,out,u⟩:=S;dsimp only at n1 n2 n3 hIJ hJl eS hOO xT;clear eS hOO;have c3:=QL8 (L:=O) hOt mm (c:=3) (by omega) (v:=DB false) (x:=fxB b[t] []) (by rw[eOt,QLX,Qh,f5]; rfl)
    have c5:t*5+4<=(QLh O mm).length:=by rw[QLP]; omega
    simp[QMp,Qh,Qaf,QMC,QLj,QLk,ht,tT,hl,c3,c5]
    (generalize aC:Cx.loop _ _ _=aE; apply Qi aC (λf=>⟨[(0,.d (.sl 5 (b.map QO.enc))),(1,.d (.sl 1 (y.map (rK .u32).enc))),(5,.loc 5 0),(6,.bs 17 0 b.length 5),(7,.d (DI (QLo y t p u f).u)),(8,.d (DI t)),(9,.d (DI f))],[(5,[.bs 100 0 b.length 1,.bs 101 0 b.length 1,.sl 2 ((QLo y t p u f).p.never.map Qcg.enc) (.tok 100502)]),(17,QLh (O.set t (fxB b[t] (QLo y t p u f).L)) mm),(100,QPw b.length (λj=>DI ((QLo y t p u f).p.has.getD j 0))),(101,QPw b.length (λj=>DI ((QLo y t p u f).p.needs.getD j 0)))],[100502],[]⟩) t (by first | (simp; done) | (simp; rfl) | (simp; simp[*])); rotate_left; (show _ < 281474976710656; omega); rfl; rotate_left; all_goals clear aC)
    .intro f hf;have tS:(f:Int) < t:=by omega
     have wf:=Qa ((f:Int)+1) (by omega) (by omega)
     obtain⟨g',I',_,_⟩:=hIJ f (by omega)
     obtain⟨q1,q2,q3⟩:=hJl f;have eJ:QLo y t p u (f+1)=if 0 < QMV (QLo y t p u f).p y (QLo y t p u f).u f t then⟨⟨(QLo y t p u f).p.has.set f (Qem (QLo y t p u f).p f - QMV (QLo y t p u f).p y (QLo y t p u f).u f t),(QLo y t p u f).p.needs.set t (QaM (QLo y t p u f).p t - QMV (QLo y t p u f).p y (QLo y t p u f).u f t),(QLo y t p u f).p.never++[⟨(f:Nat),(t:Nat)⟩]⟩,(QLo y t p u f).L++[⟨(f:Nat),QMV (QLo y t p u f).p y (QLo y t p u f).u f t⟩],(QLo y t p u f).u+1⟩else⟨⟨(QLo y t p u f).p.has,(QLo y t p u f).p.needs,(QLo y t p u f).p.never++[⟨(f:Nat),(t:Nat)⟩]⟩,(QLo y t p u f).L,(QLo y t p u f).u+1⟩:=rfl;rw[eJ];clear eJ;have hB:=QNo I'.len I'.h0 I'.n0 I'.hall hf ht;have pW:(QLo y t p u f).p.never.length<=1000:=by omega
     have hP:=QN3 hv I' pW;have tU:=QNY hP hf ht;have cO:=QMe hP f t (2 ^ (QLo y t p u f).p.needs.length - 1);have fF:=QMO (u:=(QLo y t p u f).u) (QMk hy) hB;have qM:=I'.len.h;have qN:=I'.len.m;generalize QLo y t p u f=S at*;obtain⟨⟨h,nd,nv⟩,L,v⟩:=S;dsimp only at q1 q2 q3 pW tU fF qM qN cO hP;have e85:=QNT hy (n:=v) (by omega)
     have wv:=Qa ((v:Int)+1) (by omega) (by omega)
     have hh:=hP.has f;have hd:=hP.need t;have eh:Qem ⟨h,nd,nv⟩ f=h.getD f 0:=rfl;have ed:QaM ⟨h,nd,nv⟩ t=nd.getD t 0:=rfl;rw[eh]at hh;rw[ed]at hd;rw[eh,ed];have zM:f < b.length:=by omega
     have xU:(f:Int) < b.length:=by omega
     have hf1:f+1<=b.length:=zM;have nO:t+1<=b.length:=ht;have o7:nv.length+1<=140737488355328:=by omega
     have o8:(nv.length+1)*16<=140737488355328:=by omega
     have xV:L.length<=140737488355328:=by omega
     have xW:L.length+1<=140737488355328:=by omega
     have xX:(L.length+1)*16<=140737488355328:=by omega
     have xY:L.length*16<=140737488355328:=by omega
     have s1:=QzN h;have s2:=QzN nd;rw[qM]at s1;rw[qN]at s2;simp only[Zd]at s1 s2;have eN:QMV ⟨h,nd,nv⟩ y v f t=if(QxQ ⟨h,nd,nv⟩ f t).1 < (QxQ ⟨h,nd,nv⟩ f t).2 then(QxQ ⟨h,nd,nv⟩ f t).1+(QLN y v).tmod ((QxQ ⟨h,nd,nv⟩ f t).2 - (QxQ ⟨h,nd,nv⟩ f t).1+1)else(QxQ ⟨h,nd,nv⟩ f t).1:=rfl;have hbk':(0<=(QxQ ⟨h,nd,nv⟩ f t).1/\(QxQ ⟨h,nd,nv⟩ f t).1<=800000)/\(-800000<=(QxQ ⟨h,nd,nv⟩ f t).2/\(QxQ ⟨h,nd,nv⟩ f t).2<=100000):=cO;clear cO hB hP I' hIJ hJl;generalize sJ:QMV ⟨h,nd,nv⟩ y v f t=n at*;generalize QxQ ⟨h,nd,nv⟩ f t=R at*;obtain⟨lo,hi⟩:=R;dsimp only at tU fF eN hbk';have u1:=QpS (L:=h) (x:=f) (v:=h.getD f 0 - n) (by omega)
     have u2:=QpS (L:=nd) (x:=t) (v:=nd.getD t 0 - n) (by omega)
     have w5:=Qa (h.getD f 0 - n) (by omega) (by omega)
     have w6:=Qa (nd.getD t 0 - n) (by omega) (by omega)
     simp only[Zd]at u1 u2 w5 w6;have hOL:t < (O.set t (fxB b[t] L)).length:=by rw[List.length_set]; exact hOt
     have eOL:(O.set t (fxB b[t] L))[t]=fxB b[t] L:=List.getElem_set_self _;have c4:=QMD (L:=O.set t (fxB b[t] L)) hOL mm (c:=4) (by omega)
     rw[eOL,QLX]at c4;have cW:=λo j av nw=>QM0 (kb:=QLW) (b:=17) (QNM (by decide) (by decide)) (L:=O.set t (fxB b[t] L)) hOL mm (R:=L.map Qb1.enc++[[.v (.int .i64 (f:Nat)),.v (.int .i64 n)]]) (x:=fxB b[t] (L++[(⟨(f:Nat),n⟩:Tak)])) (by rw[eOL,QLX,QLX,List.map_append]; rfl) o j av nw
     rw[List.set_set]at cW;simp only[QLW]at cW;simp at c4;have c6:t*5+5<=(QLh (O.set t (fxB b[t] L)) mm).length:=by rw[QLP,List.length_set]; omega
     by_cases hlh:lo < hi
     .rw[if_pos hlh]at eN;have w7:=Qa (hi - lo) (by omega) (by omega)
      have w8:=Qa (hi - lo+1) (by omega) (by omega)
      have hz:¬hi - lo+1=0:=by omega
      have w9:IntKind.i64.wrap (lo+(QLN y v).tmod (hi - lo+1))=n:=by rw[<-eN]; exact Qa _ (by omega) (by omega)
      by_cases h0:0 < n
      .rw[if_pos h0];simp[QMp,QMl,QJ,Qaf,QMC,QLj,QLk,Qb,Qf,Qp,Qx,QaG,Function.comp_def,tS,ht,tT,zM,xU,hf1,nO,wf,wv,tU,e85,hlh,w7,w8,hz,w9,h0,o7,o8,xV,xW,xX,xY,s1,s2,u1,u2,w5,w6,c4,c6,cW,fV]
      .rw[if_neg h0];simp[QMp,QJ,Qaf,QMC,QLj,QLk,Qb,Qx,QaG,Function.comp_def,tS,wf,wv,tU,e85,hlh,w7,w8,hz,w9,h0,o7,o8,s1,s2,fV]
     .rw[if_neg hlh]at eN;subst eN;by_cases h0:0 < n
      .rw[if_pos h0];simp[QMp,QMl,QJ,Qaf,QMC,QLj,QLk,Qb,Qf,Qp,Qx,QaG,Function.comp_def,tS,ht,tT,zM,xU,hf1,nO,wf,wv,tU,hlh,h0,o7,o8,xV,xW,xX,xY,s1,s2,u1,u2,w5,w6,c4,c6,cW,fV]
      .rw[if_neg h0];simp[QMp,QJ,Qaf,QMC,QLj,QLk,Qb,Qx,QaG,Function.comp_def,tS,wf,wv,tU,hlh,h0,o7,o8,s1,s2,fV]
    .simp[QMp,Qaf,QMC,QLj,QLk,wt]
  .have n3:=(QLY b y b.length (by omega)).2.2
   have eF:(QLn b y b.length).out=QLO b y:=rfl;rw[List.drop_length,List.append_nil,eF];rw[eF]at n3;simp[QMp,Qaf,QMC,QLj,QLk,QT];intro g4 a4 w4 I4;show Code.wpIn _ _ _ _ _ _ _;obtain⟨g5,I5⟩:=QMA cS (b:=17) (t:=6) (n:=b.length) (k:=5) (rows:=(QLO b y).map QO.enc) (tail:=List.replicate mm (.d .top)) rfl rfl (λr hr=>by
    obtain⟨x,_,rfl⟩:=List.mem_map.1 hr; rfl) (by rw[List.length_map]; exact n3) fV rfl I4 I4.deferred
   refine QfO cS (by kernel_rfl) (by kernel_rfl) I5 (λ_ _=>rfl) ?_
   simp[Qon,QMp,QLW,l37,Qaf,Function.comp_def,QT];intro g6 a6 w6 I6;refine Qim cS I6 (r:=[(Qy QO).enc (QLO b y)]) ?_ rfl;rw[Tryz.results37];simp[Qe]
 .cases hr
theorem QNX (xs:Array Value) (w:World):(callFunc 37 xs).run Tryz.prog w= .ok (.enter 37 xs) w:=by kernel_rfl
end Go.Proofs.YtnfeakhkfehkhaaGreatDoor
