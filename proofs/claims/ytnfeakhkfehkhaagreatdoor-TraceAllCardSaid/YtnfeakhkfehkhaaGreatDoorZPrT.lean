/-
  The program of the trace chapter: whether some number is so. Conditions: none.
-/
import Derived.Test.YtnfeakhkfehkhaaGreatDoorZPrS
set_option linter.unusedSimpArgs false
set_option linter.unusedVariables false
namespace Go.Proofs.YtnfeakhkfehkhaaGreatDoor
open Go.RowKit
def QAJ (r:Nat):List (Nat×Option Nat):=match r with
 | 0=>kpn [0,1]
 | 1=>kpn [1,7,8,9]
 | 2=>kpn [1,7,8,9,10]
 | 3=>kpn [1,5,6,7,8,9]
 | 4=>kpn [1,7,8,9,17]
 | 5=>[(4,none)]
 | 6=>kpn [1,7,8,9]
 | 7=>[(4,none)]
 | _=>[]
def kp68 (r:Nat):List (Nat×Option Nat):=match r with
 | 0=>kpn [1,2]
 | 1=>[(5,none)]
 | _=>[]
def kp71 (r:Nat):List (Nat×Option Nat):=match r with
 | 0=>kpn [1,2,3]
 | 1=>[(6,none)]
 | _=>[]
def kp70 (r:Nat):List (Nat×Option Nat):=match r with
 | 0=>kpn [2,3,5]
 | 1=>[(6,none)]
 | _=>[]
theorem Qtc (xs:Array Value) (w:World):(callFunc 67 xs).run Tryz.prog w= .ok (.enter 67 xs) w:=by kernel_rfl
set_option maxHeartbeats 2000000 in
theorem QBF {G:Nat} {sG:List D->Option D} (dq:Qay Tryz.prog (Qas [(G,sG)])) {caps:List D} {p:Int->Bool} {l:List Int} (hl:l.length<=17592186044416) (h:∀j:Nat,∀x∈l,sG (DI j::DI x::caps)=some (DB (p x))):PureC Tryz.prog 67 [.sl 1 (l.map Qt.enc),.fn G [] caps] (DB (l.any p)):=by
 refine Qm (QE dq 19 QAJ []) Tryz.func67 rfl rfl (Zb rfl) (by kernel_rfl) ?_
 rw[Tryz.results67];simp[QAJ];generalize aC:Cx.loop _ _ _=aE;have oW:aE=some (if(List.range l.length).all (λj=>!p (l.getD j 0))=true then(.exit 0,⟨[(1,.d (.fn G [] caps)),(7,.d (.sl 1 (l.map Qt.enc))),(8,.d (DI l.length)),(9,.d (DI l.length)),(10,.d (DB false))],[],[],[]⟩)else(.ret,⟨[(4,.d (DB true))],[],[],[]⟩)):=by
  refine Qa7 aC (λj=>⟨[(1,.d (.fn G [] caps)),(7,.d (.sl 1 (l.map Qt.enc))),(8,.d (DI l.length)),(9,.d (DI j))],[],[],[]⟩) _ _ _ _ (by simp) (by show _ < 281474976710656; omega) (by simp) (by simp) ?_ ?_
  .intro j hj;have aO:(j:Int) < l.length:=by omega
   have w1:=Qa ((j:Int)+1) (by omega) (by omega)
   have hs:=h j l[j] (Ze hj);rw[Qj l j _ hj];cases hb:p l[j]with
   | true=>
    rw[hb]at hs;simp[QAJ,Qc,hj,aO,hs];done
   | false=>
    rw[hb]at hs;simp[QAJ,Qc,hj,aO,hs,w1];done
  .simp[QAJ];done
 rw[oW];have e2:l.any p=!(List.range l.length).all (λj=>!p (l.getD j 0)):=by
  rw[Bool.eq_iff_iff,Zy,Bool.not_eq_true',List.all_eq_false];constructor
  .rintro⟨t,h1,h2⟩;obtain⟨k,hk,rfl⟩:=List.getElem_of_mem h1;exact⟨k,Zm.2 hk,by rw[Qj _ _ _ hk,h2]; simp⟩
  .rintro⟨k,hk,h⟩;have cZ:=Zm.1 hk;rw[Qj _ _ _ cZ]at h;exact⟨_,Ze cZ,by simpa using h⟩
 rw[e2];cases(List.range l.length).all (λj=>!p (l.getD j 0))with
 | true=>simp[QAJ]
 | false=>simp
def Qp9 (l:List Int):Prop:=l.length<=17592186044416/\∀x∈l,0<=x/\x < 8
noncomputable instance (l:List Int):Decidable (Qp9 l):=Classical.propDecidable _
noncomputable def s68:List D->Option D:=sp3 Qbh Qbh (QbR Qk9) QaI λ_ g s=>if 0<=g/\g < 8 then some (s.f g.toNat)else none
theorem ok68:∀ds d,s68 ds=some d->PureC Tryz.prog 68 ds d:=QcG λk g s r hr=>by
 split at hr
 .rename_i hi;cases hr;refine Qm (QE QB 9 kp68 []) Tryz.func68 rfl rfl (Zb rfl) (by kernel_rfl) ?_
  rw[Tryz.results68];have h8:g.toNat < 8:=by omega
  simp[kp68,QbS,Qk9,s.eq,hi.1,hi.2,h8];done
 .cases hr
theorem QEr (xs:Array Value) (w:World):(callFunc 68 xs).run Tryz.prog w= .ok (.enter 68 xs) w:=by kernel_rfl
noncomputable def Qqf:List D->Option D:=sp2 (Qy Qt) (QbR (Qjy 68)) QaI λl s=>if Qp9 l then some (l.any λg=>s.f g.toNat)else none
theorem QCa:∀ds d,Qqf ds=some d->PureC Tryz.prog 67 ds d:=QaR λl s r hr=>by
 split at hr
 .rename_i hc;cases hr;have hd:(QbR Qk9).dec (.dat 8 [s.1] 0 0)=some s:=QaN Qgx s;exact QBF (Ql QB QEr ok68) hc.1 (p:=λg=>s.f g.toNat) (caps:=[.dat 8 [s.1] 0 0]) λj x hx=>by
   simp only[s68,sp3,Qam,hd];rw[if_pos (hc.2 x hx)]; rfl
 .cases hr
abbrev Sus:= {cs:List D // ∃f:Nat->Nat->Bool,cs=(List.range 64).map λk=>DB (f (k / 8) (k % 8))}
def Sus.of (f:Nat->Nat->Bool):Sus:=⟨(List.range 64).map λk=>DB (f (k / 8) (k % 8)),f,rfl⟩
def Sus.f (s:Sus) (x t:Nat):Bool:=if x < 8/\t < 8 then QAp (s.1.getD (x*8+t) (DB false))else false
theorem QBZ {f:Nat->Nat->Bool} {x t:Nat} (hx:x < 8) (ht:t < 8) (d:D):((List.range 64).map λk=>DB (f (k / 8) (k % 8))).getD (x*8+t) d=DB (f x t):=by
 have h:x*8+t < 64:=by omega
 simp[Zd,h,show(x*8+t) / 8=x by omega,show(x*8+t) % 8=t by omega]
theorem Sus.of_f (f:Nat->Nat->Bool) (x t:Nat):(Sus.of f).f x t=if x < 8/\t < 8 then f x t else false:=by
 unfold Sus.f Sus.of;split
 .rename_i hk; dsimp only; rw[QBZ hk.1 hk.2]; rfl
 .rfl
theorem Sus.eq (s:Sus):s.1=(List.range 64).map λk=>DB (s.f (k / 8) (k % 8)):=by
 obtain⟨cs,f,rfl⟩:=s;refine List.map_congr_left λk hk=>?_;have cZ:=Zm.1 hk;have:=Sus.of_f f (k / 8) (k % 8);rw[if_pos (by omega)]at this
 exact congrArg DB this.symm
def Qf4 (s:Sus):D:= .dat 64 [s.1] 0 0
theorem QgU (x y:Sus) (h:Qf4 x=Qf4 y):x=y:=by
 simp only[Qf4,D.dat.injEq,List.cons.injEq,and_true,true_and]at h;exact Subtype.ext h
noncomputable def s71:List D->Option D:=sp4 Qbh Qbh (QbR Qf4) (QbR iP) QaI λ_ i S c=>if(0<=i/\i < 8)/\0<=c/\c < 8 then some (S.f i.toNat c.toNat)else none
theorem ok71:∀ds d,s71 ds=some d->PureC Tryz.prog 71 ds d:=Qjb λk i S c r hr=>by
 split at hr
 .rename_i hi;cases hr;obtain⟨⟨i0,i1⟩,c0,c1⟩:=hi;obtain⟨I,rfl⟩:∃I:Nat,i=I:=⟨i.toNat,by omega⟩
  obtain⟨C,rfl⟩:∃C:Nat,c=C:=⟨c.toNat,by omega⟩
  refine Qm (QE QB 12 kp71 []) Tryz.func71 rfl rfl (Zb rfl) (by kernel_rfl) ?_
  rw[Tryz.results71];have h1:I < 8:=by omega
  have h2:C < 8:=by omega
  have h3:I*8+C < 64:=by omega
  have e1:(I*8+C) / 8=I:=by omega
  have e2:(I*8+C) % 8=C:=by omega
  simp[kp71,QbS,Qf4,iP,S.eq,i1,c1,h3,e1,e2];done
 .cases hr
theorem QDV (xs:Array Value) (w:World):(callFunc 71 xs).run Tryz.prog w= .ok (.enter 71 xs) w:=by kernel_rfl
def QsR (p:Sus×Int):D:= .fn 71 [] [Qf4 p.1,iP p.2]
theorem QtC (x y:Sus×Int) (h:QsR x=QsR y):x=y:=by
 simp only[QsR,D.fn.injEq,List.cons.injEq,and_true,true_and]at h;exact Prod.ext (QgU _ _ h.1) (QpY _ _ h.2)
def QHt (c:Int):Prop:=0<=c/\c < 8
noncomputable instance (c:Int):Decidable (QHt c):=Classical.propDecidable _
noncomputable def Qqi:List D->Option D:=sp2 (Qy Qt) (QbR QsR) QaI λl p=>if Qp9 l/\QHt p.2 then some (l.any λi=>p.1.f i.toNat p.2.toNat)else none
theorem QCi:∀ds d,Qqi ds=some d->PureC Tryz.prog 67 ds d:=QaR λl p r hr=>by
 split at hr
 .rename_i hc;cases hr;obtain⟨S,c⟩:=p;have hd:(QbR Qf4).dec (Qf4 S)=some S:=QaN QgU S;have iH:(QbR iP).dec (iP c)=some c:=QaN QpY c;exact QBF (Ql QB QDV ok71) hc.1.1 (p:=λi=>S.f i.toNat c.toNat) (caps:=[Qf4 S,iP c]) λj x hx=>by
   simp only[s71,sp4,Qam,hd,iH];rw[if_pos ⟨hc.1.2 x hx,hc.2⟩]; rfl
 .cases hr
def QlD (g:List Int):D:= .dat 1 [[.sl 1 (g.map Qt.enc)]] 0 0
theorem Qn7 (x y:List Int) (h:QlD x=QlD y):x=y:=by
 simp only[QlD,D.dat.injEq,List.cons.injEq,D.sl.injEq,and_true,true_and]at h;exact QfR Qt h
noncomputable def q70:List (Nat×(List D->Option D)):=[(67,Qqi)]
theorem dq70:Qay Tryz.prog (Qas q70):=Ql QB Qtc QCi
noncomputable def s70:List D->Option D:=sp4 Qbh Qbh (QbR QlD) (QbR Qf4) QaI λ_ c g S=>if QHt c/\Qp9 g then some (!g.any λi=>S.f i.toNat c.toNat)else none
theorem ok70:∀ds d,s70 ds=some d->PureC Tryz.prog 70 ds d:=Qjb λk c g S r hr=>by
 split at hr
 .rename_i hi;cases hr;refine Qm (QE dq70 11 kp70 []) Tryz.func70 rfl rfl (Zb rfl) (by kernel_rfl) ?_
  rw[Tryz.results70];have h67:Qqi [.sl 1 (g.map Qt.enc),.fn 71 [] [.dat 64 [S.1] 0 0,.dat 1 [[DI c]] 0 0]]=some (DB (g.any λi=>S.f i.toNat c.toNat)):=by
   have hd:(QbR QsR).dec (.fn 71 [] [.dat 64 [S.1] 0 0,.dat 1 [[DI c]] 0 0])=some (S,c):=QaN QtC (S,c);simp only[Qqi,sp2,QQ,hd];rw[if_pos ⟨hi.2,hi.1⟩]; rfl
  simp[kp70,q70,QbS,Qf4,QlD,h67];done
 .cases hr
theorem QCM (xs:Array Value) (w:World):(callFunc 70 xs).run Tryz.prog w= .ok (.enter 70 xs) w:=by kernel_rfl
def QuF (p:List Int×Sus):D:= .fn 70 [] [QlD p.1,Qf4 p.2]
theorem Qtv (x y:List Int×Sus) (h:QuF x=QuF y):x=y:=by
 simp only[QuF,D.fn.injEq,List.cons.injEq,and_true,true_and]at h;exact Prod.ext (Qn7 _ _ h.1) (QgU _ _ h.2)
def okS (S:Sus) (c g:List Int):Bool:=!c.any λk=>!g.any λi=>S.f i.toNat k.toNat
noncomputable def Qq4:List D->Option D:=sp2 (Qy Qt) (QbR QuF) QaI λl p=>if Qp9 l/\Qp9 p.1 then some (l.any λk=>!p.1.any λi=>p.2.f i.toNat k.toNat)else none
theorem QAt:∀ds d,Qq4 ds=some d->PureC Tryz.prog 67 ds d:=QaR λl p r hr=>by
 split at hr
 .rename_i hc;cases hr;obtain⟨g,S⟩:=p;have hd:(QbR Qf4).dec (Qf4 S)=some S:=QaN QgU S;have iH:(QbR QlD).dec (QlD g)=some g:=QaN Qn7 g;exact QBF (Ql QB QCM ok70) hc.1.1 (p:=λk=>!g.any λi=>S.f i.toNat k.toNat) (caps:=[QlD g,Qf4 S]) λj x hx=>by
   simp only[s70,sp4,Qam,hd,iH];rw[if_pos ⟨hc.1.2 x hx,hc.2⟩]; rfl
 .cases hr
end Go.Proofs.YtnfeakhkfehkhaaGreatDoor
namespace Go.Proofs.YtnfeakhkfehkhaaGreatDoor
def Qdh (ok:List Int->Bool) (n:Nat):Nat->Nat->List Int->List Int×Bool
 | 0,_,g=>if ok g=true then(g,true)else([],false)
 | m+1,f,g=>QkD (λi=>Qdh ok n m (i+1) (g++[(i:Int)])) (n - f) f
theorem Qow (g:List Int) (i:Nat):Qcf (g++[(i:Int)])=i+1:=by
 unfold Qcf;rw[if_pos (by simp)]
 have:(g++[(i:Int)]).getD ((g++[(i:Int)]).length - 1) 0=i:=by
  simp[Zd]
 rw[this]; rfl
theorem QpM (ok:List Int->Bool) (n:Nat):∀(m:Nat) (g:List Int),Qdh ok n m (Qcf g) g=QaV ok n m g
 | 0,g=>rfl
 | m+1,g=>by
  rw[Qdh,QaV];congr 1;funext i;rw[<-QpM ok n m (g++[(i:Int)]),Qow]
theorem Qhw {f f':Nat->List Int×Bool} :∀{k i:Nat},(∀j,i<=j->j < i+k->f j=f' j)->QkD f k i=QkD f' k i
 | 0,_,_=>rfl
 | k+1,i,h=>by
  rw[QkD,QkD,h i (Zr _) (by omega),Qhw (k:=k) (i:=i+1) λj h1 h2=>h j (by omega) (by omega)]
theorem QjH {ok ok':List Int->Bool} {n:Nat} :∀(m:Nat) (g:List Int),(∀x∈g,0<=x/\x < n)->(∀g,(∀x∈g,0<=x/\x < (n:Int))->ok g=ok' g)->QaV ok n m g=QaV ok' n m g
 | 0,g,hg,h=>by rw[QaV,QaV,h g hg]
 | m+1,g,hg,h=>by
  rw[QaV,QaV];refine Qhw λi h1 h2=>QjH m _ (λx hx=>?_) h;rcases Zp.1 hx with hx | hx
  .exact hg x hx
  .rw[List.mem_singleton]at hx; subst hx; omega
noncomputable def QFQ (b:List Bat) (good:List Int) (i k:Nat):Bool:=QcW b good (i:Int)&&QmE b i k
noncomputable def okP (b:List Bat) (good c g:List Int):Bool:=!c.any λk=>!g.any λi=>QFQ b good i.toNat k.toNat
theorem QEp {b:List Bat} {good c:List Int} (hc:∀k∈c,0<=k/\k < (b.length:Int)) {g:List Int} (hg:∀i∈g,0<=i/\i < (b.length:Int)):QbA (QhN b c good) c g=okP b good c g:=by
 unfold QbA okP;rw[Bool.eq_iff_iff,Zl,Bool.not_eq_true',List.any_eq_false];refine forall_congr' λk=>forall_congr' λhk=>?_;rw[Bool.not_eq_true,Bool.not_eq_false'];unfold Qyx;rw[Zy,Zy];refine exists_congr λi=>?_;refine and_congr_right λhi=>?_;have h1:=hg i hi;have h2:=hc k hk;have e:(QhN b c good).getD i.toNat []=QsT b c good i.toNat:=by
  unfold QhN Qur;simp[Zd,show i.toNat < b.length by omega]
 rw[e];unfold QFQ QmE;rw[decide_eq_true (show k.toNat < b.length by omega),Bool.true_and]
 unfold QsT;cases eB:QcW b good (i.toNat:Int)with
 | false=>simp[QwI]
 | true=>
  rw[if_pos rfl,Bool.true_and];unfold QwI;rw[Zy];constructor
  .rintro⟨y,h3,h4⟩;rw[List.mem_filter]at h3;have:y=k:=by simpa using h4
   subst this;exact h3.2
  .intro h;exact⟨k,List.mem_filter.2 ⟨hk,h⟩,by simp⟩
end Go.Proofs.YtnfeakhkfehkhaaGreatDoor
namespace Go.Proofs.YtnfeakhkfehkhaaGreatDoor
open Go.RowKit
def QxI (r:Nat):List (Nat×Option Nat):=match r with
 | 0=>kpn [0,1,2,3,4,5,6]
 | 1=>kpn [0,1,2,3,4,5,6,12]
 | 2=>[(9,none)]
 | 3=>kpn [1,3,5,6,10]
 | 4=>kpn [1,3,5,6,10,21]
 | 5=>kpn [1,3,5,6,10]
 | 6=>kpn [1,3,5,6,10]
 | 7=>kpn [1,3,5,6,10,33]
 | 8=>[(9,none)]
 | 9=>kpn [1,3,5,6,10]
 | 10=>[(9,none)]
 | _=>[]
structure TA where
 b:List Bat
 c:List Int
 S:Sus
 f:Nat
 g:List Int
 n:Nat
def sG (S:Sus) (k:Nat):D:=DB (S.f (k / 8) (k % 8))
def Qzd:List (Sum Nat D):=[.inl 1000,.inl 1001,.inl 1002,.inl 1003,.inl 1004]
def c69 (b:List Bat) (c:List Int) (S:Sus) (g:List Int) (tok:Nat):List Cont:=
 [.cells [.d (.sl 1 (c.map Qt.enc))],.cells [.sl 1 (g.map Qt.enc) (.own tok)],.cells (QPw 64 (sG S)),.cells [.d (.sl 5 (b.map QO.enc))],.cells [.fx 69 [] Qzd]]
attribute [local simp] Qzd
def QhU (a:TA):List X×List Cont×List Nat:=([.d (DI a.f),.d (DI a.n),.loc 1000 0,.loc 1001 0,.loc 1002 0,.loc 1003 0,.loc 1004 0],c69 a.b a.c a.S a.g QxW,[QxW])
structure TryOk (n:Nat) (a:TA):Prop where
 n:a.n=n
 le:a.b.length<=8
 c:Qp9 a.c
 g:∀x∈a.g,0<=x/\x < 8
 f:a.f<=a.b.length
 len:a.g.length+a.n<=100
noncomputable instance (n:Nat) (a:TA):Decidable (TryOk n a):=Classical.propDecidable _
def QDk (a:TA):List Int×Bool:=Qdh (okS a.S a.c) a.b.length a.n a.f a.g
noncomputable def Qj3 (n:Nat) (a:TA):Option (D×List Cont×List Nat):=
 if TryOk n a then some (DB (QDk a).2,c69 a.b a.c a.S (if(QDk a).2=true then(QDk a).1 else a.g) 200100,[200100])else none
theorem QD1 {S S':Sus} (h:QPw 64 (sG S)=QPw 64 (sG S')):S=S':=by
 refine Subtype.ext ?_;rw[S.eq,S'.eq];exact List.map_congr_left λk hk=>QdO h k (Zm.1 hk)
theorem QAT (n:Nat) (a b:TA) (h:QhU a=QhU b):Qj3 n a=Qj3 n b:=by
 obtain⟨bb,c,S,f,g,m⟩:=a;obtain⟨bb',c',S',f',g',m'⟩:=b;simp only[QhU,c69,Prod.mk.injEq,List.cons.injEq,X.d.injEq,X.sl.injEq,D.v.injEq,D.sl.injEq,Value.int.injEq,Int.natCast_inj,Cont.cells.injEq,and_true,true_and]at h;obtain⟨⟨h1,h2⟩,h3,h4,h5,h6⟩:=h;subst h1; subst h2;have e3:=QfR Qt h3;have e4:=QfR Qt h4;have e5:=QD1 h5;have e6:=QfR QO h6;subst e3; subst e4; subst e5; subst e6;rfl
noncomputable def e69 (n:Nat):QfU:=QnC QhU (Qj3 n)
theorem QyL (xs:Array Value) (w:World):(callFunc 69 xs).run Tryz.prog w= .ok (.enter 69 xs) w:=by kernel_rfl
noncomputable def g69:List (Nat×(List D->Option D)):=[(67,Qq4)]
theorem dg69:Qay Tryz.prog (Qas g69):=Ql QB Qtc QAt
theorem QdV (n:Nat) (g:Nat->D) (b i:Nat) (h:(b==1001)=false) (av nw:List Nat):Qaw [(1001,0,1001)] b i (QPw n g) av nw=(QPw n g,av,nw):=Qbv [(1001,0,1001)] b _ i av nw (Qeh h (Qeb b)) Qbr
theorem Qp6 (toks:List Nat):∀l:List Nat,∀g:Nat->D,Qej toks (l.map λt=>X.d (g t))=some (l.map g)
 | [],_=>rfl
 | a::t,g=>by simp only[List.map_cons,Qej,X.dataO,X.data,Qp6 toks t g]
theorem Qd1 (toks:List Nat) (n:Nat) (g:Nat->D):Qej toks (QPw n g)=some ((List.range n).map g):=Qp6 toks _ g
theorem QHP {c g:List Int} {S:Sus} (hc:Qp9 c) (hg:Qp9 g):Qq4 [.sl 1 (c.map Qt.enc),.fn 70 [] [.dat 1 [[.sl 1 (g.map Qt.enc)]] 0 0,.dat 64 [(List.range 64).map (sG S)] 0 0]]=some (DB (!okS S c g)):=by
 have hd:(QbR QuF).dec (.fn 70 [] [.dat 1 [[.sl 1 (g.map Qt.enc)]] 0 0,.dat 64 [(List.range 64).map (sG S)] 0 0])=some (g,S):=by
  have e:(List.range 64).map (sG S)=S.1:=S.eq.symm;rw[e]; exact QaN Qtv (g,S)
 simp only[Qq4,sp2,QQ,hd];rw[if_pos ⟨hc,hg⟩];unfold okS;rw[Bool.not_not]; rfl
set_option maxHeartbeats 4000000 in
theorem QFv:Qdc Tryz.prog 69 (e69 0):=Qd2 λa r hr=>by
 obtain⟨b,c,S,f,g,m⟩:=a;unfold Qj3 at hr;split at hr
 .rename_i aN;cases hr;obtain⟨hn,aX,hc,hg,hf,aI⟩:=aN;dsimp only at hn aX hc hg hf aI;subst hn;refine Qcp (QbT dg69 Qct QbC QcU 39 QxI [(1001,0,1001)] (λ_=>[]) (λ_=>0)) Tryz.func69 rfl rfl (Zb rfl) (by kernel_rfl) (by kernel_rfl) ?_
  rw[Tryz.results69];have h67:=QHP (S:=S) hc (g:=g) ⟨by omega,hg⟩
  have e1:QDk ⟨b,c,S,f,g,0⟩=if okS S c g=true then(g,true)else([],false):=rfl;simp only[e1,QhU,c69];cases ho:okS S c g with
  | true=>
   rw[ho]at h67;simp[QxI,g69,QdV,Qaf,Qd1,Qbp,h67];done
  | false=>
   rw[ho]at h67;simp[QxI,g69,QdV,Qaf,Qd1,Qbp,h67];done
 .cases hr
theorem QFE {n f i:Nat} {b:List Bat} {c g:List Int} {S:Sus} (aX:b.length<=8) (hc:Qp9 c) (hg:∀x∈g,0<=x/\x < 8) (hi:i < b.length) (aI:g.length+1+n<=100):
  e69 n [.d (DI ((i:Int)+1)),.d (DI n),.loc 1000 0,.loc 1001 0,.loc 1002 0,.loc 1003 0,.loc 1004 0] [.cells [.d (.sl 1 (c.map Qt.enc))],.cells [.sl 1 (g.map Qt.enc++[[DI i]]) (.own 900000)],.cells (QPw 64 (sG S)),.cells [.d (.sl 5 (b.map QO.enc))],.cells [.fx 69 [] [.inl 1000,.inl 1001,.inl 1002,.inl 1003,.inl 1004]]] [900000]=some (DB (Qdh (okS S c) b.length n (i+1) (g++[(i:Int)])).2,[.cells [.d (.sl 1 (c.map Qt.enc))],.cells [.sl 1 ((if(Qdh (okS S c) b.length n (i+1) (g++[(i:Int)])).2=true then(Qdh (okS S c) b.length n (i+1) (g++[(i:Int)])).1 else g++[(i:Int)]).map Qt.enc) (.own 200100)],.cells (QPw 64 (sG S)),.cells [.d (.sl 5 (b.map QO.enc))],.cells [.fx 69 [] [.inl 1000,.inl 1001,.inl 1002,.inl 1003,.inl 1004]]],[200100]):=by
 have hx:(g++[(i:Int)]).map Qt.enc=g.map Qt.enc++[[DI i]]:=by rw[List.map_append]; rfl
 have:=Qgo (QAT n) (⟨b,c,S,i+1,g++[(i:Int)],n⟩:TA) (xs:=[.d (DI ((i:Int)+1)),.d (DI n),.loc 1000 0,.loc 1001 0,.loc 1002 0,.loc 1003 0,.loc 1004 0]) (cs:=[.cells [.d (.sl 1 (c.map Qt.enc))],.cells [.sl 1 (g.map Qt.enc++[[DI i]]) (.own 900000)],.cells (QPw 64 (sG S)),.cells [.d (.sl 5 (b.map QO.enc))],.cells [.fx 69 [] [.inl 1000,.inl 1001,.inl 1002,.inl 1003,.inl 1004]]]) (tl:=[900000]) (by simp only[QhU,c69,hx]; rfl)
 unfold e69;rw[this];unfold Qj3;rw[if_pos ⟨rfl,aX,hc,λx hx=>by
  rcases Zp.1 hx with hx | hx
  .exact hg x hx
  .rw[List.mem_singleton]at hx; subst hx; omega,by show i+1<=b.length; omega,by simp only[List.length_append,List.length_cons,List.length_nil]; omega⟩]
 rfl
set_option maxHeartbeats 4000000 in
theorem QEM (n:Nat) (ih:Qdc Tryz.prog 69 (e69 n)):Qdc Tryz.prog 69 (e69 (n+1)):=Qd2 λa r hr=>by
 obtain⟨b,c,S,f,g,m⟩:=a;unfold Qj3 at hr;split at hr
 .rename_i aN;cases hr;obtain⟨hn,aX,hc,hg,hf,aI⟩:=aN;dsimp only at hn aX hc hg hf aI;subst hn;refine Qcp (QbT dg69 (Qfr Qct QyL ih) QbC QcU 39 QxI [(1001,0,1001)] (λ_=>[]) (λ_=>0)) Tryz.func69 rfl rfl (Zb rfl) (by kernel_rfl) (by kernel_rfl) ?_
  rw[Tryz.results69];have m7:((n:Int)+1==0)=false:=by rw[beq_eq_false_iff_ne]; omega
  have e1:QDk ⟨b,c,S,f,g,n+1⟩=QkD (λi=>Qdh (okS S c) b.length n (i+1) (g++[(i:Int)])) (b.length - f) f:=rfl;have wn:=Qa ((n:Int)+1 - 1) (by omega) (by omega)
  have wn':=Qa (n:Int) (by omega) (by omega)
  have wl:=Qa (g.length:Int) (by omega) (by omega)
  have nV:g.length<=140737488355327:=by omega
  have m5:g.length+1<=140737488355328:=by omega
  have m6:(g.length+1)*8<=140737488355328:=by omega
  have xP:(g.length:Int)<=g.length+1:=by omega
  simp only[e1,QhU,c69];simp[QxI,g69,QdV,Qaf,m7];have bK:∀q,q < b.length - f->_:=λq hq=>QFE (n:=n) (f:=f) (i:=f+q) (S:=S) aX hc hg (by omega) (by omega)
  rcases QaK (λq=>!(Qdh (okS S c) b.length n (f+q+1) (g++[((f+q:Nat):Int)])).2) (b.length - f)with hall | ⟨J,hJ,aL,aM⟩
  .rw[QeD (k:=b.length - f) (i:=f) λj hj=>by have:=hall j hj; simpa using this]
   (generalize aC:Cx.loop _ _ _=aE; apply Qi aC (λq=>⟨[(1,.d (DI ((n:Int)+1))),(3,.loc 1001 0),(5,.loc 1003 0),(6,.loc 1004 0),(10,.d (DI ((f:Int)+(q:Int))))],[(1000,[.d (.sl 1 (c.map Qt.enc))]),(1002,QPw 64 (sG S)),(1001,[.sl 1 (g.map Qt.enc) (.own 200100)]),(1003,[.d (.sl 5 (b.map QO.enc))]),(1004,[.fx 69 [] [.inl 1000,.inl 1001,.inl 1002,.inl 1003,.inl 1004]])],[200100],[]⟩) (b.length - f) (by first | (simp; done) | (simp; rfl) | (simp; simp[*])); rotate_left; (show _ < 281474976710656; omega); rfl; rotate_left; all_goals clear aC)
   .intro q hq;have eX:(f:Int)+(q:Int) < b.length:=by omega
    have w1:=Qa ((f:Int)+(q:Int)+1) (by omega) (by omega)
    have hE:=bK q hq;have bA:(Qdh (okS S c) b.length n (f+q+1) (g++[((f+q:Nat):Int)])).2=false:=by have:=hall q hq; simpa using this
    rw[bA,if_neg (by simp)]at hE
    rw[show((f+q:Nat):Int)=(f:Int)+(q:Int) by omega,List.map_append]at hE
    have gD:(f:Int)+((q+1:Nat):Int)=(f:Int)+(q:Int)+1:=by omega
    simp only[gD];simp[QxI,QdV,Qaf,Qb,QaD,Qbp,QcZ,Qc,eX,w1,wn',wl,m5,m6,xP,hE];done
   .have eX:¬(f:Int)+((b.length - f:Nat):Int) < b.length:=by omega
    simp[QxI,QdV,Qaf,eX];done
  .have kA:(Qdh (okS S c) b.length n (f+J+1) (g++[((f+J:Nat):Int)])).2=true:=by simpa using aL
   rw[QeO (k:=b.length - f) (i:=f) (j:=J) hJ kA λj hj=>by have:=aM j hj; simpa using this]
   (generalize aC:Cx.loop _ _ _=aE; apply Qi aC (λq=>⟨[(1,.d (DI ((n:Int)+1))),(3,.loc 1001 0),(5,.loc 1003 0),(6,.loc 1004 0),(10,.d (DI ((f:Int)+(q:Int))))],[(1000,[.d (.sl 1 (c.map Qt.enc))]),(1002,QPw 64 (sG S)),(1001,[.sl 1 (g.map Qt.enc) (.own 200100)]),(1003,[.d (.sl 5 (b.map QO.enc))]),(1004,[.fx 69 [] [.inl 1000,.inl 1001,.inl 1002,.inl 1003,.inl 1004]])],[200100],[]⟩) J (by first | (simp; done) | (simp; rfl) | (simp; simp[*])); rotate_left; (show _ < 281474976710656; omega); rfl; rotate_left; all_goals clear aC)
   .intro q gJ;have hq:q < b.length - f:=by omega
    have eX:(f:Int)+(q:Int) < b.length:=by omega
    have w1:=Qa ((f:Int)+(q:Int)+1) (by omega) (by omega)
    have hE:=bK q hq;have bA:(Qdh (okS S c) b.length n (f+q+1) (g++[((f+q:Nat):Int)])).2=false:=by have:=aM q gJ; simpa using this
    rw[bA,if_neg (by simp)]at hE
    rw[show((f+q:Nat):Int)=(f:Int)+(q:Int) by omega,List.map_append]at hE
    have gD:(f:Int)+((q+1:Nat):Int)=(f:Int)+(q:Int)+1:=by omega
    simp only[gD];simp[QxI,QdV,Qaf,Qb,QaD,Qbp,QcZ,Qc,eX,w1,wn',wl,m5,m6,xP,hE];done
   .have eX:(f:Int)+(J:Int) < b.length:=by omega
    have w1:=Qa ((f:Int)+(J:Int)+1) (by omega) (by omega)
    have hE:=bK J hJ;rw[kA,if_pos rfl]at hE;generalize hL:Qdh (okS S c) b.length n (f+J+1) (g++[((f+J:Nat):Int)])=L at*;rw[show((f+J:Nat):Int)=(f:Int)+(J:Int) by omega]at hE
    simp[QxI,QdV,Qaf,Qb,QaD,Qbp,QcZ,eX,w1,wn',m5,m6,hE,kA];done
 .cases hr
end Go.Proofs.YtnfeakhkfehkhaaGreatDoor
