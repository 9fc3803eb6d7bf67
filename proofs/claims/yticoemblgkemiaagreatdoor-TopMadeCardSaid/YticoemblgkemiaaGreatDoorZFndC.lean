/-
  ANY truth of a book, as the law draws it. Conditions: none.
-/
import Derived.Test.YticoemblgkemiaaGreatDoorZFndB
import Derived.Test.YticoemblgkemiaaGreatDoorZCellB
set_option linter.unusedSimpArgs false
set_option linter.unusedVariables false
namespace Go.Proofs.YticoemblgkemiaaGreatDoor
open Go.RowKit
def QrP (r:Nat):List (Nat×Option Nat):=match r with
 | 0=>kpn [0,1]
 | 1=>kpn [0,1,5]
 | 2=>kpn [0,1,5,6]
 | 3=>kpn [0,1,5,6,7]
 | 4=>kpn [0,1,5,6,7,8]
 | 5=>kpn [0,1,5,6,7,8,21]
 | 6=>kpn [0,1,5,6,7,8]
 | 7=>kpn [0,1,5,6,7,8,29]
 | 8=>kpn [0,1,5,6,7,8]
 | 9=>kpn [0,1,5,6,7,8,9]
 | 10=>kpn [0,1,5,6,7,8,9,36]
 | 11=>kpn [0,1,5,6,7,8,9]
 | 12=>kpn [0,1,5,6,7,8,9,10,11]
 | 13=>kpn [0,1,5,6,7,8,9,10,11,12]
 | 14=>kpn [0,1,5,6,7,8,9,10,11,12,49]
 | 15=>kpn [0,1,5,6,7,8,9,12]
 | 16=>kpn [0,1,5,6,7,8,9,12]
 | 17=>kpn [0,1,5,6,7,8,9,12]
 | 18=>kpn [0,1,5,6,7,8,9,12,71]
 | 19=>kpn [0,1,5,6,7,8,9,12]
 | 20=>kpn [0,1,5,6,7,8,9]
 | 21=>[(4,none)]
 | _=>[]
def QmN:List (Nat×Nat×Nat):=[(5,2,2),(5000,100,0),(5000,101,0)]
def Qr9 (r:Nat):List (Nat×Nat):=if r=19 then [(4,21),(14,21)]else []
theorem QGE {b:Nat} (h1:(b==5)=false) (h2:(b==5000)=false) (j:Nat):Qeu QmN b j=none:=Qd3 h1 (Qd3 h2 (Qd3 h2 (QeM b))) j
theorem QbW (n:Nat) (g:Nat->D) (b i:Nat) (h1:(b==5)=false) (h5:(b==5000)=false) (av nw:List Nat):Qaz [(5,2,2),(5000,100,0),(5000,101,0)] b i (Qk n g) av nw=(Qk n g,av,nw):=QbM QmN b _ i av nw (QGE h1 h5) QbJ
theorem QbY (L:List Bat) (m b i:Nat) (h1:(b==5)=false) (h5:(b==5000)=false) (av nw:List Nat):Qaz [(5,2,2),(5000,100,0),(5000,101,0)] b i (Qbl L m) av nw=(Qbl L m,av,nw):=QB6 (kb:=QmN) (QGE h1 h5) L m i av nw
theorem Qnb (y:List Int) (t:Nat) (p:Pro) (u:Nat):∀f,(QdU y t p u f).p.never.length=p.never.length+f/\(QdU y t p u f).u=u+f/\(QdU y t p u f).L.length<=f
 | 0=>⟨rfl,rfl,Zr _⟩
 | f+1=>by
  obtain⟨h1,h2,h3⟩:=Qnb y t p u f;rw[QdU]
  try dsimp only
  split
  .simp; omega
  .simp; omega
theorem QnG (b:List Bat) (y:List Int):∀k,k<=8->(QdD b y k).p.never.length<=8*k/\(QdD b y k).u<=8*k/\(QdD b y k).out.length=k
 | 0,_=>⟨Zr _,Zr _,rfl⟩
 | k+1,hk=>by
  obtain⟨h1,h2,h3⟩:=QnG b y k (by omega)
  have h4:=Qnb y k (QdD b y k).p (QdD b y k).u k;rw[QdD]
  try dsimp only
  split
  .simp; omega
  .simp; omega
theorem QOC {b:List Bat} (h:ValidB b) {p:Pro} {g:Nat->Nat->Int} {t f:Nat} (I:FI (QM b) b.length p g t f) (hn:p.never.length<=1000):PBd p b.length:=by
 have hb:∀i,(QM b).has i<=100000/\(QM b).need i<=100000:=λi=>by
  by_cases hi:i < b.length
  .have h1:=(QhP h.ok hi).2;have h2:=(Qhk h.ok i).2;have e1:(QM b).has i=Qba b i:=Qfx hi;have e2:(QM b).need i=Qdt b i:=QfM hi;omega
  .have e1:(QM b).has i=0:=QfJ (by omega)
   have e2:(QM b).need i=0:=Qcv (by omega)
   omega
 refine⟨I.len,h.ok.pos,hn,λi=>⟨I.h0 i,?_⟩,λi=>⟨I.n0 i,?_⟩⟩
 .have h1:=I.has i;have h2:=QaH (n:=8) λt _=>I.nn i t;have h3:=(hb i).1;have e:QK 8 (λt=>g i t)=QK 8 (g i):=rfl;omega
 .have h1:=I.need i;have h2:=QaH (n:=8) λx _=>I.nn x i;have h3:=(hb i).2;omega
theorem QLN {b:List Bat} {p:Pro} (h:PBd p b.length) {f t:Nat} (hf:f < t) (ht:t < b.length):s84 [.agg [.sl 1 (p.has.map QH.enc),.sl 1 (p.needs.map QH.enc),.sl 2 (p.never.map Qci.enc)],DI f,DI t]=some (.tup [DI (Qey p f t).1,DI (Qey p f t).2]):=by
 have e:Qof.dec [.sl 1 (p.has.map QH.enc),.sl 1 (p.needs.map QH.enc),.sl 2 (p.never.map Qci.enc)]=some p:=Qsm p;have c:PBd p p.has.length/\(0:Int)<=(f:Int)/\(f:Int) < (t:Int)/\(t:Int) < (p.has.length:Int):=by
  rw[h.len.h]; exact⟨h,by omega,by omega,by omega⟩
 simp only[s84,sp3,QaQ,e,Qak];rw[if_pos c,Int.toNat_natCast,Int.toNat_natCast]; rfl
theorem QKq {y:List Int} (h:Qlg y) {n:Nat} (hn:n < 1000000):s85 [.sl 1 (y.map (rK .u32).enc),DI n]=some (DI (Qk8 y n)):=by
 simp only[s85,sp2,Qnf,Qak];rw[if_pos ⟨by omega,by omega,h⟩,Int.toNat_natCast]; rfl
def fxB (x:Bat) (L:List Tak):Bat:= { x with lost:=false,takes:=L}
theorem Qn4 (x:Bat) (L:List Tak):QQ.enc (fxB x L)=[DS x.name,DI x.grams,DI x.fresh,DB false,.sl 2 (L.map Qce.enc)]:=rfl
theorem QvP (b:List Bat) (y:List Int):QdD b y 0=⟨⟨QT b,QaD b,[]⟩,[],0⟩:=rfl
theorem QyL (y:List Int) (t:Nat) (p:Pro) (u:Nat):QdU y t p u 0=⟨p,[],u⟩:=rfl
theorem Qs4 {y:List Int} (h:Qlg y):∀z∈y,0<=z:=λz hz=>(h z hz).1
noncomputable def l37:List (Nat×(List D->Option D)):=[(66,s84),(67,s85)]
theorem QO1:QaE Tryz.prog (Qaw l37):=Qh (Qh Qs QMi ok85) QKc ok84
attribute [local simp] QvP QyL
noncomputable def s37:List D->Option D:=sp2 (QJ QQ) (QJ (rK .u32)) (QJ QQ) λb y=>if ValidB b/\Qlg y then some (Ql9 b y)else none
set_option maxHeartbeats 16000000 in
theorem ok37:∀ds d,s37 ds=some d->PureC Tryz.prog 14 ds d:=Qay λb y r hr=>by
 split at hr
 .rename_i hc;obtain⟨hv,hy⟩:=hc;cases hr;have aP:=hv.ok;have bE:=aP.le;have gD:=aP.pos;have bU:=Qby QO1 Qb6 Qbn Qcx 111 QrP QmN Qr9 (λ_=>0);have fZ:b.length<=140737488355328:=by omega
  refine QcR Tryz.func14 rfl rfl (Zb rfl) λm w a I uA=>?_;refine Qdm bU 0 _ rfl (by kernel_rfl) (by kernel_rfl) (λ_ _=>rfl) _ _ _ _ I ?_
  simp[Qeh,QrP,QmN,l37,Qj,Qe2,QG];intro g1 a1 w1 I1;show Code.wpIn _ _ _ (QiP 0 _) _ _ _;refine wpIn_seq ?_;refine Qs3 bU 1 14 30 (Qly b.length) (Qix b) rfl rfl rfl rfl rfl (by decide) rfl rfl (by simp[Qav,Qcz]) (λ_ _=>rfl) QDd I1 ?_
  have cE:=Qx2 aP;rw[QbL]at cE;simp[QvY,QrP,QmN,l37,QU,Qah,QbW,QN3,QMA,Qoz,Qix,Qly,QhX,Qw9];refine⟨cE,λg2 a2 w2 I2=>?_⟩;show Code.wpIn _ _ _ _ _ _ _;refine wpIn_seq ?_;have aS:b.map QQ.enc≠[]:=by
   intro h;have:b.length=0:=by rw[<-List.length_map (f:=QQ.enc),h]; rfl
   omega
  have tE:¬b=[]:=λh=>aS (by rw[h]; rfl)
  have fK:b.length*64<=140737488355328:=by omega
  refine QHG bU 2 17 rfl rfl rfl rfl rfl rfl rfl rfl rfl (by simp[Qav,Qcz,Qaj]) rfl I2 ?_
  simp[QrC,QrP,QmN,l37,Qaj,QbW,QbY,aS,fK,fZ,QKX,QH4,Qw9];intro mm g3 a3 w3 I3;show Code.wpIn _ _ _ _ _ _ _;refine Qdm bU 1 _ rfl (by kernel_rfl) (by kernel_rfl) (λ_ _=>rfl) _ _ _ _ I3 ?_
  simp[Qeh,QrP,QmN,l37,Qaj,QuX,QbW,QbY]
  (generalize aC:Cx.loop _ _ _=aE; apply QcQ aC (λk=>⟨[(0,.d (.sl 5 (b.map QQ.enc))),(1,.d (.sl 1 (y.map (rK .u32).enc))),(5,.loc 5 0),(6,.bs 17 0 b.length 5),(7,.d (DI (QdD b y k).u)),(8,.d (DI k))],[(5,[.bs 100 0 b.length 1,.bs 101 0 b.length 1,.sl 2 ((QdD b y k).p.never.map Qci.enc) (.tok 100502)]),(17,Qbl ((QdD b y k).out++b.drop k) mm),(100,Qk b.length (λj=>DI ((QdD b y k).p.has.getD j 0))),(101,Qk b.length (λj=>DI ((QdD b y k).p.needs.getD j 0)))],[100502],[]⟩) b.length (by first | (simp; done) | (simp; rfl) | (simp[*]; done) | (simp; simp[*])); rotate_left; (show _ < 281474976710656; omega); (exact λh=>h); rotate_left; all_goals clear aC)
  .intro t ht;have uL:(t:Int) < b.length:=by omega
   have wt:=Qa ((t:Int)+1) (by omega) (by omega)
   obtain⟨g,I⟩:=QqA hv (Qs4 hy) t (by omega)
   obtain⟨I,eo⟩:=I;obtain⟨n1,n2,n3⟩:=QnG b y t (by omega)
   have eK:QdD b y (t+1)=if(b.getD t default).lost=true then⟨(QdU y t (QdD b y t).p (QdD b y t).u t).p,(QdD b y t).out++[{ b.getD t default with lost:=false,takes:=(QdU y t (QdD b y t).p (QdD b y t).u t).L}],(QdU y t (QdD b y t).p (QdD b y t).u t).u⟩else⟨(QdD b y t).p,(QdD b y t).out++[b.getD t default],(QdD b y t).u⟩:=rfl
   rw[Qao ht]at eK;have uG:b.drop t=b[t]::b.drop (t+1):=List.drop_eq_getElem_cons ht;have qM:QbV b t=b[t].lost:=by unfold QbV; rw[Qao ht]
   cases hl:b[t].lost with
   | false=>
    rw[hl,if_neg (by simp)]at eK
    rw[eK];have eO:(QdD b y t).out++[b[t]]++b.drop (t+1)=(QdD b y t).out++b.drop t:=by rw[uG]; simp
    dsimp only;rw[eO];simp[QrP,Qe,Qaj,QuX,QbW,QbY,ht,uL,hl,wt]
   | true=>
    rw[hl,if_pos rfl]at eK;rw[eK];have hO:((QdD b y t).out++b.drop t).length=b.length:=by rw[List.length_append,n3,List.length_drop]; omega
    have hOt:t < ((QdD b y t).out++b.drop t).length:=by omega
    have eOt:((QdD b y t).out++b.drop t)[t]=b[t]:=by
     rw[List.getElem_append_right (by omega)]
     simp[n3]
    have eS:∀L,(QdD b y t).out++[fxB b[t] L]++b.drop (t+1)=((QdD b y t).out++b.drop t).set t (fxB b[t] L):=λL=>by
     rw[List.set_append_right _ _ (by omega),n3,Nat.sub_self,uG,List.set_cons_zero]; simp
    have eF:∀L,({ b[t]with lost:=false,takes:=L} :Bat)=fxB b[t] L:=λ_=>rfl
    rw[eF];dsimp only;rw[eS];have gN:=(aP.at ht).lost hl;generalize hOO:(QdD b y t).out++b.drop t=O at*;have hIJ:=λf hf=>QqP (u:=(QdD b y t).u) (Qs4 hy) I ht (by show QbV b t=true; rw[qM]; exact hl) f hf
    have hJl:=Qnb y t (QdD b y t).p (QdD b y t).u;have yE:=I.len;clear eK;generalize QdD b y t=S at*;obtain⟨p,out,u⟩:=S;dsimp only at n1 n2 n3 hIJ hJl eS hOO yE;clear eS hOO;have c3:=Qps (L:=O) hOt mm (c:=3) (by omega) (v:=DB false) (x:=fxB b[t] []) (by rw[eOt,Qn4,Qe,gN]; rfl)
    have c5:t*5+4<=(Qbl O mm).length:=by rw[Qlv]; omega
    simp[QrP,Qe,Qaj,QuX,QbW,QbY,ht,uL,hl,c3,c5]
    (generalize aC:Cx.loop _ _ _=aE; apply Qi aC (λf=>⟨[(0,.d (.sl 5 (b.map QQ.enc))),(1,.d (.sl 1 (y.map (rK .u32).enc))),(5,.loc 5 0),(6,.bs 17 0 b.length 5),(7,.d (DI (QdU y t p u f).u)),(8,.d (DI t)),(9,.d (DI f))],[(5,[.bs 100 0 b.length 1,.bs 101 0 b.length 1,.sl 2 ((QdU y t p u f).p.never.map Qci.enc) (.tok 100502)]),(17,Qbl (O.set t (fxB b[t] (QdU y t p u f).L)) mm),(100,Qk b.length (λj=>DI ((QdU y t p u f).p.has.getD j 0))),(101,Qk b.length (λj=>DI ((QdU y t p u f).p.needs.getD j 0)))],[100502],[]⟩) t (by first | (simp; done) | (simp; rfl) | (simp; simp[*])); rotate_left; (show _ < 281474976710656; omega); rfl; rotate_left; all_goals clear aC)
    .intro f hf;have uK:(f:Int) < t:=by omega
     have wf:=Qa ((f:Int)+1) (by omega) (by omega)
     obtain⟨g',I',_,_⟩:=hIJ f (by omega)
     obtain⟨q1,q2,q3⟩:=hJl f;have eJ:QdU y t p u (f+1)=if 0 < Qzv (QdU y t p u f).p y (QdU y t p u f).u f t then⟨⟨(QdU y t p u f).p.has.set f (Qb2 (QdU y t p u f).p f - Qzv (QdU y t p u f).p y (QdU y t p u f).u f t),(QdU y t p u f).p.needs.set t (Q4 (QdU y t p u f).p t - Qzv (QdU y t p u f).p y (QdU y t p u f).u f t),(QdU y t p u f).p.never++[⟨(f:Nat),(t:Nat)⟩]⟩,(QdU y t p u f).L++[⟨(f:Nat),Qzv (QdU y t p u f).p y (QdU y t p u f).u f t⟩],(QdU y t p u f).u+1⟩else⟨⟨(QdU y t p u f).p.has,(QdU y t p u f).p.needs,(QdU y t p u f).p.never++[⟨(f:Nat),(t:Nat)⟩]⟩,(QdU y t p u f).L,(QdU y t p u f).u+1⟩:=rfl;rw[eJ];clear eJ;have hB:=QDa I'.len I'.h0 I'.n0 I'.hall hf ht;have pT:(QdU y t p u f).p.never.length<=1000:=by omega
     have hP:=QOC hv I' pT;have uM:=QLN hP hf ht;have cL:=Qqv hP f t (2 ^ (QdU y t p u f).p.needs.length - 1);have fL:=QwW (u:=(QdU y t p u f).u) (Qs4 hy) hB;have rH:=I'.len.h;have rI:=I'.len.m;generalize QdU y t p u f=S at*;obtain⟨⟨h,nd,nv⟩,L,v⟩:=S;dsimp only at q1 q2 q3 pT uM fL rH rI cL hP;have e85:=QKq hy (n:=v) (by omega)
     have wv:=Qa ((v:Int)+1) (by omega) (by omega)
     have hh:=hP.has f;have hd:=hP.need t;have eh:Qb2 ⟨h,nd,nv⟩ f=h.getD f 0:=rfl;have ed:Q4 ⟨h,nd,nv⟩ t=nd.getD t 0:=rfl;rw[eh]at hh;rw[ed]at hd;rw[eh,ed];have hft:f < b.length:=by omega
     have yF:(f:Int) < b.length:=by omega
     have gJ:f+1<=b.length:=hft;have lX:t+1<=b.length:=ht;have lO:nv.length+1<=140737488355328:=by omega
     have lP:(nv.length+1)*16<=140737488355328:=by omega
     have yG:L.length<=140737488355328:=by omega
     have yH:L.length+1<=140737488355328:=by omega
     have yI:(L.length+1)*16<=140737488355328:=by omega
     have yJ:L.length*16<=140737488355328:=by omega
     have s1:=QHk h;have s2:=QHk nd;rw[rH]at s1;rw[rI]at s2;simp only[Zd]at s1 s2;have eN:Qzv ⟨h,nd,nv⟩ y v f t=if(Qey ⟨h,nd,nv⟩ f t).1 < (Qey ⟨h,nd,nv⟩ f t).2 then(Qey ⟨h,nd,nv⟩ f t).1+(Qk8 y v).tmod ((Qey ⟨h,nd,nv⟩ f t).2 - (Qey ⟨h,nd,nv⟩ f t).1+1)else(Qey ⟨h,nd,nv⟩ f t).1:=rfl;have hbk':(0<=(Qey ⟨h,nd,nv⟩ f t).1/\(Qey ⟨h,nd,nv⟩ f t).1<=800000)/\(-800000<=(Qey ⟨h,nd,nv⟩ f t).2/\(Qey ⟨h,nd,nv⟩ f t).2<=100000):=cL;clear cL hB hP I' hIJ hJl;generalize sS:Qzv ⟨h,nd,nv⟩ y v f t=n at*;generalize Qey ⟨h,nd,nv⟩ f t=R at*;obtain⟨lo,hi⟩:=R;dsimp only at uM fL eN hbk';have u1:=Qn0 (L:=h) (x:=f) (v:=h.getD f 0 - n) (by omega)
     have u2:=Qn0 (L:=nd) (x:=t) (v:=nd.getD t 0 - n) (by omega)
     have w5:=Qa (h.getD f 0 - n) (by omega) (by omega)
     have w6:=Qa (nd.getD t 0 - n) (by omega) (by omega)
     simp only[Zd]at u1 u2 w5 w6;have hOL:t < (O.set t (fxB b[t] L)).length:=by rw[List.length_set]; exact hOt
     have eOL:(O.set t (fxB b[t] L))[t]=fxB b[t] L:=List.getElem_set_self _;have c4:=QuK (L:=O.set t (fxB b[t] L)) hOL mm (c:=4) (by omega)
     rw[eOL,Qn4]at c4;have cW:=λo j av nw=>Qzk (kb:=QmN) (b:=17) (QGE (by decide) (by decide)) (L:=O.set t (fxB b[t] L)) hOL mm (R:=L.map Qce.enc++[[.v (.int .i64 (f:Nat)),.v (.int .i64 n)]]) (x:=fxB b[t] (L++[(⟨(f:Nat),n⟩:Tak)])) (by rw[eOL,Qn4,Qn4,List.map_append]; rfl) o j av nw
     rw[List.set_set]at cW;simp only[QmN]at cW;simp at c4;have c6:t*5+5<=(Qbl (O.set t (fxB b[t] L)) mm).length:=by rw[Qlv,List.length_set]; omega
     by_cases hlh:lo < hi
     .rw[if_pos hlh]at eN;have w7:=Qa (hi - lo) (by omega) (by omega)
      have w8:=Qa (hi - lo+1) (by omega) (by omega)
      have hz:¬hi - lo+1=0:=by omega
      have w9:IntKind.i64.wrap (lo+(Qk8 y v).tmod (hi - lo+1))=n:=by rw[<-eN]; exact Qa _ (by omega) (by omega)
      by_cases h0:0 < n
      .rw[if_pos h0];simp[QrP,Qr9,QI,Qaj,QuX,QbW,QbY,Qb,Qg,Qo,Qv,QaG,Function.comp_def,uK,ht,uL,hft,yF,gJ,lX,wf,wv,uM,e85,hlh,w7,w8,hz,w9,h0,lO,lP,yG,yH,yI,yJ,s1,s2,u1,u2,w5,w6,c4,c6,cW,fZ]
      .rw[if_neg h0];simp[QrP,QI,Qaj,QuX,QbW,QbY,Qb,Qv,QaG,Function.comp_def,uK,wf,wv,uM,e85,hlh,w7,w8,hz,w9,h0,lO,lP,s1,s2,fZ]
     .rw[if_neg hlh]at eN;subst eN;by_cases h0:0 < n
      .rw[if_pos h0];simp[QrP,Qr9,QI,Qaj,QuX,QbW,QbY,Qb,Qg,Qo,Qv,QaG,Function.comp_def,uK,ht,uL,hft,yF,gJ,lX,wf,wv,uM,hlh,h0,lO,lP,yG,yH,yI,yJ,s1,s2,u1,u2,w5,w6,c4,c6,cW,fZ]
      .rw[if_neg h0];simp[QrP,QI,Qaj,QuX,QbW,QbY,Qb,Qv,QaG,Function.comp_def,uK,wf,wv,uM,hlh,h0,lO,lP,s1,s2,fZ]
    .simp[QrP,Qaj,QuX,QbW,QbY,wt]
  .have n3:=(QnG b y b.length (by omega)).2.2
   have eF:(QdD b y b.length).out=Ql9 b y:=rfl;rw[List.drop_length,List.append_nil,eF];rw[eF]at n3;simp[QrP,Qaj,QuX,QbW,QbY,QG];intro g4 a4 w4 I4;show Code.wpIn _ _ _ _ _ _ _;obtain⟨g5,I5⟩:=QeC bU (b:=17) (t:=6) (n:=b.length) (k:=5) (rows:=(Ql9 b y).map QQ.enc) (tail:=List.replicate mm (.d .top)) rfl rfl (λr hr=>by
    obtain⟨x,_,rfl⟩:=List.mem_map.1 hr; rfl) (by rw[List.length_map]; exact n3) fZ rfl I4 I4.deferred
   refine Qdk bU (by kernel_rfl) (by kernel_rfl) I5 (λ_ _=>rfl) ?_
   simp[QiP,QrP,QmN,l37,Qaj,Function.comp_def,QG];intro g6 a6 w6 I6;refine Qdq bU I6 (r:=[(QJ QQ).enc (Ql9 b y)]) ?_ rfl;rw[Tryz.results14];simp[Qj]
 .cases hr
theorem QJR (xs:Array Value) (w:World):(callFunc 14 xs).run Tryz.prog w= .ok (.enter 14 xs) w:=by kernel_rfl
end Go.Proofs.YticoemblgkemiaaGreatDoor
