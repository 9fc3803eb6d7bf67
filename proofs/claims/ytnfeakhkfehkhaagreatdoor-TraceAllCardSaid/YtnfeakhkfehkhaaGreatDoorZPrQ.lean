/-
  The program of the trace chapter: where wax may be. Conditions: none.
-/
import Derived.Test.YtnfeakhkfehkhaaGreatDoorZPrO
import Derived.Test.YtnfeakhkfehkhaaGreatDoorZPrM
import Derived.Test.YtnfeakhkfehkhaaGreatDoorZTr
set_option linter.unusedSimpArgs false
set_option linter.unusedVariables false
namespace Go.Proofs.YtnfeakhkfehkhaaGreatDoor
open Go.RowKit
def Qkd (r:Nat):List (Nat×Option Nat):=match r with
 | 0=>kpn [0,2,3,4,5,6,8]
 | 1=>kpn [0,2,3,4,5,6,8,19]
 | 2=>kpn [2,3,4,5,21]
 | 3=>kpn [5,25,26]
 | 4=>kpn [5,25,26,27]
 | 5=>kpn [5,10,11,25,26]
 | 6=>kpn [5,25,26]
 | 7=>kpn [5,25,26]
 | 8=>kpn [0,2,6,8,12]
 | 9=>kpn [0,2,6,8,12]
 | 10=>kpn [0,2,6,8,12,50,51]
 | 11=>kpn [0,2,6,8,12,50,51,52]
 | 12=>kpn [0,2,6,8,12,13,50,51]
 | 13=>kpn [0,2,6,8,12,13,14,50,51]
 | 14=>kpn [0,2,6,8,12,13,14,50,51]
 | 15=>kpn [0,2,6,8,12,13,14,50,51]
 | 16=>kpn [0,2,6,8,12,50,51]
 | 17=>kpn [0,2,6,8,12,50,51]
 | _=>[]
def kp60 (r:Nat):List (Nat×Option Nat):=match r with
 | 0=>kpn [2,3,4]
 | 1=>kpn [2,3,4,5]
 | 2=>kpn [2,4,5]
 | 3=>[(4,none)]
 | 4=>[(4,none)]
 | _=>[]
structure MA where
 b:List Bat
 i:Nat
 k:Nat
 sup:Sup
 more:List Edg
 all:Nat->Bool
 hv:sup.v=noN
 ha:∀x,8<=x->all x=false
def Qhi (l:List Edg):D:=if l=[]then .sl 0 []else .sl 2 (l.map Qcg.enc)
theorem Qul:Qhi []= .sl 0 []:=rfl
theorem Qvu (l:List Edg) (e:Edg):Qhi (l++[e])= .sl 2 (l.map Qcg.enc++[Qcg.enc e]):=by
 unfold Qhi; rw[if_neg (by simp),List.map_append]; rfl
theorem Qgq (l:List Edg):(Qy Qcg).dec (Qhi l)=some l:=by
 unfold Qhi;split
 .rename_i h; subst h; exact Qar Qcg 0
 .exact Qgb l
theorem QtW {l l':List Edg} (h:Qhi l=Qhi l'):l=l':=by
 have h1:=Qgq l;rw[h,Qgq]at h1;exact(Option.some.inj h1).symm
def QuG:List (Sum Nat D):=[.inl 1000,.inl 1001,.inl 1002,.inl 1003]
attribute [local simp] QuG
def hB (b:List Bat):Nat->Int:=λj=>(QI b).getD j 0
def nB (b:List Bat):Nat->Int:=λj=>(QV b).getD j 0
def bkX (b:List Bat):List X:=c87 (hB b) (nB b) noN (.d (.sl 5 (b.map QO.enc))) (.d (.sl 1 ((QU b).map Qt.enc)))
def QEz (b:List Bat) (i:Nat) (all:Nat->Bool):List Cont:=
 [.cells (bkX b),.cells [.d (DI i)],.cells (QPw 8 (λk=>DB (all k))),.cells [.fx 101 [] QuG]]
def QjL (a:MA):List X×List Cont×List Nat:=([.d (DI a.k),.d (.agg (Qdk a.sup.h a.sup.n noN)),.d (Qhi a.more),.loc 1000 0,.loc 1001 0,.loc 1002 0,.loc 1003 0],QEz a.b a.i a.all,[])
structure MayOk (f:Nat) (a:MA):Prop where
 v:ValidB a.b
 i:a.i < a.b.length
 k:a.k+f=(Qq a.b).length
 m:a.more.length<=a.k
 ed:∀e∈a.more,0<=e.fr/\e.fr < e.to/\e.to < 8
 h:∀x,-(a.k:Int)<=a.sup.h x/\a.sup.h x<=100000
 n:∀x,-(a.k:Int)<=a.sup.n x/\a.sup.n x<=100000
noncomputable instance (f:Nat) (a:MA):Decidable (MayOk f a):=Classical.propDecidable _
noncomputable def Qkk (f:Nat) (a:MA):Option (D×List Cont×List Nat):=
 if MayOk f a then some (.tup [],QEz a.b a.i (Qoj a.b a.i ((Qq a.b).drop a.k) a.sup.h a.sup.n a.more a.all),[])else none
theorem QzX {b b':List Bat} (h:bkX b=bkX b'):b=b':=by
 have h1:(bkX b)[80]?=(bkX b')[80]?:=by rw[h]
 rw[bkX,bkX,QW,QW]at h1;simp only[Zs,X.d.injEq,D.sl.injEq,true_and]at h1;exact QfR QO h1
theorem QwQ {s s':Sup} (hv:s.v=noN) (iD:s'.v=noN) (h:Qdk s.h s.n noN=Qdk s'.h s'.n noN):s=s':=by
 refine Subtype.ext ?_;rw[s.eq,s'.eq,hv,iD,h]
theorem QEJ (f:Nat) (a b:MA) (h:QjL a=QjL b):Qkk f a=Qkk f b:=by
 obtain⟨bb,i,k,sup,more,all,hv,ha⟩:=a;obtain⟨bb',i',k',sup',more',all',iD,yE⟩:=b;simp only[QjL,QEz,Prod.mk.injEq,List.cons.injEq,X.d.injEq,D.v.injEq,D.agg.injEq,Value.int.injEq,Int.natCast_inj,Cont.cells.injEq,and_true,true_and]at h;obtain⟨⟨h1,h2,h3⟩,h4,h5,h6⟩:=h;subst h1; subst h5;have e2:=QwQ hv iD h2;have e3:=QtW h3;have e4:=QzX h4;subst e2; subst e3; subst e4;have e6:all=all':=by
  funext x;by_cases hx:x < 8
  .have:=QdO h6 x hx;simpa using this
  .rw[ha x (by omega),yE x (by omega)]
 subst e6;rfl
noncomputable def QCt (f:Nat):QfU:=QnC QjL (Qkk f)
theorem Qs1 (xs:Array Value) (w:World):(callFunc 101 xs).run Tryz.prog w= .ok (.enter 101 xs) w:=by kernel_rfl
theorem Qe6 (b:List Bat):(QU b).length=(Qq b).length:=by simp[QU]
noncomputable def QxN:List (Nat×(List D->Option D)):=[(53,s53),(102,QGv),(103,QBU)]
theorem QDD:Qay Tryz.prog (Qas QxN):=Ql (Ql (Ql QB QAq QHC (λ_=>QE5)) QzS QHm) Qtl QG6
def Qj9 (r:Nat):Nat:=if r=16 then 1 else 0
theorem QwP {l:List Nat} {k:Nat} (h:k=l.length):l.drop k=[]:=List.drop_of_length_le (by omega)
theorem QEW (h n:Nat->Int):s53 [.agg (Qdk h n noN)]=some (DB (QcJ (Sup.of h n noN))):=by
 have hd:(QeC QqI).dec (.agg (Qdk h n noN))=some (Sup.of h n noN):=Qlp h n noN;simp only[s53,sp1,hd]; rfl
theorem QqD (b:List Bat) (i:Nat):∀(l:List Nat) (h n:Nat->Int) (more:List Edg) (all:Nat->Bool),(∀x,8<=x->all x=false)->b.length<=8->∀x,8<=x->Qoj b i l h n more all x=false:=by
 intro l h n more all ha hb x hx;cases q:Qoj b i l h n more all x with
 | false=>rfl
 | true=>
  rcases(Qin b i x l h n more all).1 q with q | q
  .rw[ha x hx]at q; cases q
  .exact absurd q (Qh4 (by omega) _ _ _ _)
theorem QAR {b:List Bat} (aQ:BookOk b) {i:Nat} (hi:i < b.length) {more:List Edg} (hm:more.length<=100) (dN:∀e∈more,0<=e.fr/\e.fr < e.to/\e.to < 8):QGv [.agg (Qdk (hB b) (nB b) noN++[.sl 5 (b.map QO.enc),.sl 1 ((QU b).map Qt.enc)]),DI i,Qhi more]=some (.agg ((List.range 8).map λk=>DB (Qao b i more b.length k))):=by
 have hd:(QeC rBx).dec (.agg (Qdk (hB b) (nB b) noN++[.sl 5 (b.map QO.enc),.sl 1 ((QU b).map Qt.enc)]))=some (QdP b):=rBx.de (QdP b);simp only[QGv,sp3,hd,Qam,Qgq];rw[if_pos ⟨aQ,by omega,by show(i:Int) < b.length; omega,hm,dN⟩]
 rfl
theorem QDo {l:List Nat} :∀cs:List X,(∀c∈cs,∃d,c= .d d)->QsJ l cs=none
 | [],_=>rfl
 | c::t,h=>by
  obtain⟨d,rfl⟩:=h c (by simp)
  have:=QDo (l:=l) t λc hc=>h c (by simp[hc])
  simp only[QsJ,this]; rfl
theorem Qy3:∀cs:List X,(∀c∈cs,∃d,c= .d d)->Qdn cs=[]
 | [],_=>rfl
 | c::t,h=>by
  obtain⟨d,rfl⟩:=h c (by simp)
  have:=Qy3 t λc hc=>h c (by simp[hc])
  simp only[Qdn,this]; rfl
theorem QB4 {f:X->X} (hf:∀d,f (.d d)= .d d):∀cs:List X,(∀c∈cs,∃d,c= .d d)->cs.map f=cs
 | [],_=>rfl
 | c::t,h=>by
  obtain⟨d,rfl⟩:=h c (by simp)
  rw[List.map_cons,hf,QB4 hf t λc hc=>h c (by simp[hc])]
theorem Qr2 {h n:Nat->Int} {v:Nat->Nat->Bool} {d e:D} :∀c∈c87 h n v (.d d) (.d e),∃d,c= .d d:=by
 intro c hc;unfold c87 at hc;rcases Zp.1 hc with hc | hc
 .exact Qbr c hc
 .simp only[List.mem_cons,List.not_mem_nil,or_false]at hc;rcases hc with rfl | rfl
  .exact⟨_,rfl⟩
  .exact⟨_,rfl⟩
theorem Qco (l:List Nat) {h n:Nat->Int} {v:Nat->Nat->Bool} {d e:D} :QsJ l (c87 h n v (.d d) (.d e))=none:=QDo _ Qr2
theorem Qcu {h n:Nat->Int} {v:Nat->Nat->Bool} {d e:D} :Qdn (c87 h n v (.d d) (.d e))=[]:=Qy3 _ Qr2
theorem QdT (ls:List Nat) (t0:Option Nat) {h n:Nat->Int} {v:Nat->Nat->Bool} {d e:D} :(c87 h n v (.d d) (.d e)).map (X.ren ls t0)=c87 h n v (.d d) (.d e):=QB4 (λ_=>rfl) _ Qr2
theorem Qcw (ls:List Nat) (i:Nat) (tl:List Nat) {h n:Nat->Int} {v:Nat->Nat->Bool} {d e:D} :(c87 h n v (.d d) (.d e)).map (X.back ls i tl)=c87 h n v (.d d) (.d e):=QB4 (λ_=>rfl) _ Qr2
def orK (A D:Nat->Bool) (q x:Nat):Bool:=if x < q then A x||D x else A x
theorem QH8 (A D:Nat->Bool) (x:Nat):orK A D 0 x=A x:=by simp[orK]
attribute [local simp] QH8
theorem QDd (A D:Nat->Bool) (q:Nat):orK A D q q=A q:=by simp[orK]
theorem Qwt (A D:Nat->Bool) (q:Nat):Q2 (orK A D q) q (A q||D q)=orK A D (q+1):=by
 funext x;unfold Q2 orK;by_cases e:x=q
 .subst e; rw[if_pos rfl,if_pos (by omega)]
 .rw[if_neg e];by_cases h:x < q
  .rw[if_pos h,if_pos (by omega)]
  .rw[if_neg h,if_neg (by omega)]
set_option maxHeartbeats 4000000 in
theorem Qz5:Qdc Tryz.prog 101 (QCt 0):=Qd2 λa r hr=>by
 obtain⟨b,i,k,sup,more,all,hv,ha⟩:=a;unfold Qkk at hr;split at hr
 .rename_i hc;cases hr;obtain⟨lL,hi,hk,hm,dN,hh,hn⟩:=hc;dsimp only at lL hi hk hm dN hh hn;have aQ:=lL.ok;have aX:=aQ.le;have tJ:=lL.lost;rw[Qe6]at tJ;refine Qcp (QbT QDD Qct QbC QcU 82 Qkd [] (λ_=>[]) Qj9) Tryz.func101 rfl rfl (Zb rfl) (by kernel_rfl) (by kernel_rfl) ?_
  rw[Tryz.results101];have hd:(Qq b).drop k=[]:=QwP (by omega)
  have bB:((k:Int)==(((QU b).length:Nat):Int))=true:=by rw[Qe6]; simp; omega
  have jE:=QEW sup.h sup.n;have h102:=QAR aQ hi (more:=more) (by omega) dN
  simp only[QjL,QEz,hd,Qoj];generalize sup.h=h at*;generalize sup.n=n at*;have hw:QcJ (Sup.of h n noN)=QcJ (Sup.of h n noN):=rfl;simp only[bkX];cases hwk:QcJ (Sup.of h n noN)with
  | false=>
   rw[hwk]at jE;change s53 [.agg ((List.range 80).map (Qbi h n noN))]=_ at jE;simp[-Qb5,-Qa8,Qr,QH,QG,Qkd,QxN,QC,QM,Qah,Qaf,QF,Qz,Qx,Qb,QaG,Q6,QbM,Qco,bB,jE];done
  | true=>
   rw[hwk]at jE;change s53 [.agg ((List.range 80).map (Qbi h n noN))]=_ at jE;simp[-Qb5,-Qa8,Qr,Qs,QH,QG,Qkd,QxN,QC,QM,Qah,Qaf,QF,Qz,Qx,Qb,QaG,Q6,Qak,Q8,bB,jE,h102];rw[QhO (f:=λk=>all k||Qao b i more b.length k) (g:=orK all (Qao b i more b.length) 8) λt ht=>by rw[orK,if_pos ht]]
   generalize Qao b i more b.length=DD at*
   (generalize aC:Cx.loop _ _ _=aE; apply Qi aC (λq=>⟨[(5,.loc 1002 0),(25,.d (.agg ((List.range 8).map λt=>DB (DD t)))),(26,.d (DI q))],[(1003,[.fx 101 [] [.inl 1000,.inl 1001,.inl 1002,.inl 1003]]),(1000,c87 (hB b) (nB b) noN (.d (.sl 5 (b.map QO.enc))) (.d (.sl 1 ((QU b).map Qt.enc)))),(1001,[.d (DI i)]),(1002,QPw 8 (λk=>DB (orK all (DD) q k)))],[],[]⟩) 8 (by first | (simp; done) | (simp; rfl) | (simp; simp[*])); rotate_left; (show _ < 281474976710656; omega); rfl; rotate_left; all_goals clear aC)
   .intro q hq;have kO:(q:Int) < 8:=by omega
    have iA:q+1<=8:=by omega
    have w2:=Qa ((q:Int)+1) (by omega) (by omega)
    have bW:=QDd all DD q;have eM:=Qwt all DD q;cases h1:all q with
    | true=>
     rw[h1]at bW eM;rw[Bool.true_or]at eM;simp[-Qb5,-Qa8,Qkd,Qah,Qaf,QF,Qz,Qb,Qf,Qp,QeY,hq,kO,iA,w2,bW,eM];done
    | false=>
     rw[h1]at bW eM;rw[Bool.false_or]at eM;simp[-Qb5,-Qa8,Qkd,Qah,Qaf,QF,Qz,Qb,Qf,Qp,QeY,hq,kO,iA,w2,bW,eM];done
   .simp[-Qb5,-Qa8,Qkd,Qah,Qaf,QF,Qz,QbM,Qco];done
 .cases hr
theorem Qpd {f:Nat} {b:List Bat} {i k:Nat} {h n:Nat->Int} {more:List Edg} {all:Nat->Bool} (hv:ValidB b) (hi:i < b.length) (hk:k+f=(Qq b).length) (hm:more.length<=k) (dN:∀e∈more,0<=e.fr/\e.fr < e.to/\e.to < 8) (hh:∀x,-(k:Int)<=h x/\h x<=100000) (hn:∀x,-(k:Int)<=n x/\n x<=100000) (h8:∀x,8<=x->h x=0) (n8:∀x,8<=x->n x=0) (ha:∀x,8<=x->all x=false):
  QCt f [.d (DI k),.d (.agg ((List.range 80).map (Qbi h n noN))),.d (Qhi more),.loc 1000 0,.loc 1001 0,.loc 1002 0,.loc 1003 0] [.cells (c87 (hB b) (nB b) noN (.d (.sl 5 (b.map QO.enc))) (.d (.sl 1 ((QU b).map Qt.enc)))),.cells [.d (DI i)],.cells (QPw 8 (λt=>DB (all t))),.cells [.fx 101 [] [.inl 1000,.inl 1001,.inl 1002,.inl 1003]]] []=some (.tup [],[.cells (c87 (hB b) (nB b) noN (.d (.sl 5 (b.map QO.enc))) (.d (.sl 1 ((QU b).map Qt.enc)))),.cells [.d (DI i)],.cells (QPw 8 (λt=>DB (Qoj b i ((Qq b).drop k) h n more all t))),.cells [.fx 101 [] [.inl 1000,.inl 1001,.inl 1002,.inl 1003]]],[]):=by
 have e1:(Sup.of h n noN).h=h:=by
  funext x; rw[QA5]; split
  .rfl
  .rw[h8 x (by omega)]
 have e2:(Sup.of h n noN).n=n:=by
  funext x; rw[Qzw]; split
  .rfl
  .rw[n8 x (by omega)]
 have e3:(Sup.of h n noN).v=noN:=by
  funext x t; rw[Qzy]; split<;>rfl
 have:=Qgo (QEJ f) (⟨b,i,k,Sup.of h n noN,more,all,e3,ha⟩:MA) (xs:=[.d (DI k),.d (.agg ((List.range 80).map (Qbi h n noN))),.d (Qhi more),.loc 1000 0,.loc 1001 0,.loc 1002 0,.loc 1003 0]) (cs:=[.cells (c87 (hB b) (nB b) noN (.d (.sl 5 (b.map QO.enc))) (.d (.sl 1 ((QU b).map Qt.enc)))),.cells [.d (DI i)],.cells (QPw 8 (λt=>DB (all t))),.cells [.fx 101 [] [.inl 1000,.inl 1001,.inl 1002,.inl 1003]]]) (tl:=[]) (by simp only[QjL,e1,e2]; rfl)
 unfold QCt;rw[this];unfold Qkk;have hc:MayOk f (⟨b,i,k,Sup.of h n noN,more,all,e3,ha⟩:MA):=by
  refine⟨hv,hi,hk,hm,dN,?_,?_⟩
  .show ∀x,_<=(Sup.of h n noN).h x/\_;rw[e1]; exact hh
  .show ∀x,_<=(Sup.of h n noN).n x/\_;rw[e2]; exact hn
 rw[if_pos hc];simp only[e1,e2];rfl
theorem QyO {h:Nat->Int} (h8:∀x,8<=x->h x=0) {j:Nat} (hj:j < 8):∀x,8<=x->QbW h j x=0:=λx hx=>by
 unfold QbW; rw[Q3 _ _ (by omega),h8 x hx]
theorem Qvs {h:Nat->Int} {k:Nat} (hh:∀x,-(k:Int)<=h x/\h x<=100000) (j:Nat):∀x,-((k+1:Nat):Int)<=QbW h j x/\QbW h j x<=100000:=λx=>by
 unfold QbW;have h1:=hh x;have h2:=hh j;by_cases q:x=j
 .subst q; rw[Qae]; omega
 .rw[Q3 _ _ q]; omega
theorem QC0 (l:List Edg) (h:l.length<=1000):QBU [Qhi l]=some (.sl 2 (l.map Qcg.enc)):=by
 simp only[QBU,sp1,Qgq];rw[if_pos h]; rfl
theorem QnH (b:List Bat) (i to:Nat) (r:List Nat) (h n:Nat->Int) (more:List Edg) (all:Nat->Bool) (ha:∀x,8<=x->all x=false) (hb:b.length<=8):∀j x,8<=x->Qjj b i to r h n more all j x=false
 | 0,x,hx=>QqD b i r h n more all ha hb x hx
 | j+1,x,hx=>by
  rw[QhA];exact QqD b i r _ _ _ _ (QnH b i to r h n more all ha hb j) hb x hx
attribute [local simp] Qk4
set_option maxHeartbeats 8000000 in
theorem QAV (f:Nat) (ih:Qdc Tryz.prog 101 (QCt f)):Qdc Tryz.prog 101 (QCt (f+1)):=Qd2 λa r hr=>by
 obtain⟨b,i,k,sup,more,all,hv,ha⟩:=a;unfold Qkk at hr;split at hr
 .rename_i hc;cases hr;obtain⟨lL,hi,hk,hm,dN,hh,hn⟩:=hc;dsimp only at lL hi hk hm dN hh hn;have aQ:=lL.ok;have aX:=aQ.le;have tJ:=lL.lost;rw[Qe6]at tJ;refine Qcp (QbT QDD (Qfr Qct Qs1 ih) QbC QcU 82 Qkd [] (λ_=>[]) Qj9) Tryz.func101 rfl rfl (Zb rfl) (by kernel_rfl) (by kernel_rfl) ?_
  rw[Tryz.results101];have hz:=QDw [] (λ_ _=>none) (λ_=> .d .top) [] [];simp[-Qb5]at hz;have kR:k < (Qq b).length:=by omega
  have hd:(Qq b).drop k=(Qq b)[k]::(Qq b).drop (k+1):=List.drop_eq_getElem_cons kR;have bB:((k:Int)==(((QU b).length:Nat):Int))=false:=by rw[Qe6,beq_eq_false_iff_ne]; omega
  have hkL:(k:Int) < (((QU b).length:Nat):Int):=by rw[Qe6]; omega
  have hkLn:k < (QU b).length:=by rw[Qe6]; omega
  have qI:(QU b)[k]=(((Qq b)[k]:Nat):Int):=by simp[QU]
  have nG:=Qec (Ze kR);have dJ:Qfv b (Qq b)[k]=true:=(Qb8.1 (Ze kR)).2;have h8:∀x,8<=x->sup.h x=0:=λx hx=>if_neg (by omega)
  have n8:∀x,8<=x->sup.n x=0:=λx hx=>if_neg (by omega)
  have w1:=Qa ((k:Int)+1) (by omega) (by omega)
  have nA:=Qpd (f:=f) (h:=sup.h) (n:=sup.n) (more:=more) lL hi (by omega:k+1+f=_) (by omega) dN (λx=>by have:=hh x; omega) (λx=>by have:=hn x; omega) h8 n8 ha
  have ek:(((k+1:Nat):Nat):Int)=(k:Int)+1:=by omega
  rw[ek]at nA;simp only[QjL,QEz,hd];generalize tN:(Qq b).drop (k+1)=r at*;generalize(Qq b)[k]=to at*;generalize sup.h=h at*;generalize sup.n=n at*;rw[QnK];simp only[bkX];simp[-Qb5,-Qa8,Qr,QH,QG,Qkd,QxN,QC,QM,Qah,Qaf,QF,Qz,Qx,Qb,QaG,Q6,Q8,QbM,QaD,Qco,Qbp,Qcu,QcZ,QdT,Qcw,bB,hkL,qI,w1,nA,hkLn]
  (generalize aC:Cx.loop _ _ _=aE; apply Qi aC (λq=>⟨[(0,.d (DI k)),(2,.d (Qhi more)),(6,.loc 1003 0),(8,.loc 8 0),(12,.d (DI to)),(50,.d (DI to)),(51,.d (DI q))],[(1000,c87 (hB b) (nB b) noN (.d (.sl 5 (b.map QO.enc))) (.d (.sl 1 ((QU b).map Qt.enc)))),(1001,[.d (DI i)]),(1002,QPw 8 (λt=>DB (Qjj b i to r h n more all q t))),(1003,[.fx 101 [] [.inl 1000,.inl 1001,.inl 1002,.inl 1003]]),(8,QPw 80 (Qbi h n noN))],[],[]⟩) to (by first | (simp; done) | (simp; rfl) | (simp; simp[*])); rotate_left; (show _ < 281474976710656; omega); rfl; rotate_left; all_goals clear aC)
  .intro q hq;have mG:(q:Int) < to:=by omega
   have kO:(q:Int) < 8:=by omega
   have hq8n:q < 8:=by omega
   have iA:q+1<=80:=by omega
   have hq80:q < 80:=by omega
   have jD:(to:Int) < 8:=by omega
   have fC:to < 8:=by omega
   have sP:8+to < 80:=by omega
   have ht81:8+to+1<=80:=by omega
   have aI:more.length<=1000:=by omega
   have w2:=Qa ((q:Int)+1) (by omega) (by omega)
   have hhq:=hh q;have n6:=hn to;have w3:=Qa (h q - 1) (by omega) (by omega)
   have w4:=Qa (n to - 1) (by omega) (by omega)
   have d9:=Qnk (h:=h) (n:=n) (v:=noN) hq8n;have hu1:=QqV (h:=h) (n:=n) (v:=noN) (z:=h q - 1) hq8n;have lH:=Qoh (h:=QbW h q) (n:=n) (v:=noN) fC;have hu2:=Qzi (h:=QbW h q) (n:=n) (v:=noN) (z:=n to - 1) fC;change Q2 (Qbi h n noN) q (DI (h q - 1))=Qbi (QbW h q) n noN at hu1;change Q2 (Qbi (QbW h q) n noN) (8+to) (DI (n to - 1))=Qbi (QbW h q) (QbW n to) noN at hu2;have h103:=QC0 more aI;have zG:=Qpd (f:=f) (h:=QbW h q) (n:=QbW n to) (more:=more++[⟨(q:Nat),(to:Nat)⟩]) (all:=Qjj b i to r h n more all q) lL hi (by omega:k+1+f=_) (by simp; omega) (λe he=>by
    rcases Zp.1 he with he | he
    .exact dN e he
    .rw[List.mem_singleton]at he; subst he; simp only; omega) (Qvs hh q) (Qvs hn to) (QyO h8 hq8n) (QyO n8 fC) (QnH b i to r h n more all ha aX q)
   rw[ek,tN,<-QhA,Qvu,QJ]at zG;have a1:more.length+1<=140737488355328:=by omega
   have a2:(more.length+1)*16<=140737488355328:=by omega
   generalize Qjj b i to r h n more all (q+1)=A' at*;generalize Qjj b i to r h n more all q=A at*;simp[-Qb5,-Qa8,QH,QG,hz,Qkd,Qj9,QC,Qah,Qaf,QF,Qz,Qx,Qb,Qf,Qp,QaG,Qci,Qa6,QbM,QaD,Qco,Qbp,Qcu,QcZ,QdT,Qcw,w1,w2,w3,w4,d9,lH,hu1,hu2,h103,zG,a1,a2,mG,kO,iA,hq80,jD,sP,ht81];done
  .simp[-Qb5,-Qa8,Qkd,Qah,Qaf,QF,Qz,QbM,Qco];done
 .cases hr
end Go.Proofs.YtnfeakhkfehkhaaGreatDoor
namespace Go.Proofs.YtnfeakhkfehkhaaGreatDoor
open Go.RowKit
def QCz (r:Nat):List (Nat×Option Nat):=match r with
 | 0=>[(1,none),(2,none),(4,some 1)]
 | 1=>[(1,none),(4,some 1),(7,none),(8,none)]
 | 2=>[(1,none),(4,some 1),(7,none),(8,none),(9,none)]
 | 3=>[(1,none),(4,some 1),(5,none),(6,none),(7,none),(8,none)]
 | 4=>[(1,none),(4,some 1),(5,none),(7,none),(8,none),(17,none)]
 | 5=>[(1,none),(4,some 1),(7,none),(8,none)]
 | 6=>[(1,none),(4,some 1),(7,none),(8,none)]
 | 7=>[(4,some 1)]
 | _=>[]
theorem QFt:∀f,Qdc Tryz.prog 101 (QCt f)
 | 0=>Qz5
 | f+1=>QAV f (QFt f)
theorem QvY (xs:Array Value) (w:World):(callFunc 60 xs).run Tryz.prog w= .ok (.enter 60 xs) w:=by kernel_rfl
noncomputable def s60:List D->Option D:=sp2 (QeC rBx) Qbh (QeC Qyv) λx i=>if ValidB x.bats/\x=QdP x.bats/\0<=i/\i < x.bats.length then some (Oct.of (QmE x.bats i.toNat))else none
theorem Qvo (b:List Bat):QdP b=⟨Sup.of (hB b) (nB b) noN,b,QU b⟩:=rfl
theorem QCe {b:List Bat} (h:ValidB b):(∀x,0<=hB b x/\hB b x<=100000)/\∀x,0<=nB b x/\nB b x<=100000:=by
 have oX:=(QdM (QdP b).sup).1 (by rw[Qd4 h.ok]; exact h.sol)
 rw[QDb h.ok.le,QGN h.ok.le]at oX;exact oX.1
theorem hB_8 {b:List Bat} (h:b.length<=8):(∀x,8<=x->hB b x=0)/\∀x,8<=x->nB b x=0:=
 ⟨λx hx=>QiF (by omega),λx hx=>QdW (by omega)⟩
theorem Qda {h n:Nat->Int} {v:Nat->Nat->Bool} {x y:X} :QPw 80 (Qbi h n v)++[x,y]=c87 h n v x y:=rfl
set_option maxHeartbeats 4000000 in
theorem QHI:∀ds d,s60 ds=some d->PureC Tryz.prog 60 ds d:=QaR λx ii r hr=>by
 split at hr
 .rename_i hc;obtain⟨hv,hx,lN,pY⟩:=hc;cases hr;generalize fE:x.bats=b at*;subst hx;obtain⟨i,rfl⟩:∃i:Nat,ii=i:=⟨ii.toNat,by omega⟩
  have hi:i < b.length:=by omega
  have aQ:=hv.ok;have aX:=aQ.le;refine Qm (QbT QB (Qfr Qct Qs1 (QFt (Qq b).length)) QbC QcU 12 kp60 [(5000,2,0),(5000,3,0)] (λ_=>[]) (λ_=>0)) Tryz.func60 rfl rfl (Zb rfl) (by kernel_rfl) ?_
  rw[Tryz.results60,Qvo];obtain⟨b1,b2⟩:=QCe hv;obtain⟨b3,b4⟩:=hB_8 aX;have nA:=Qpd (f:=(Qq b).length) (k:=0) (h:=hB b) (n:=nB b) (more:=[]) (all:=λ_=>false) hv hi (by omega) (by simp) (by simp) (λx=>by have:=b1 x; omega) (λx=>by have:=b2 x; omega) b3 b4 (λ_ _=>rfl)
  have hmay:Qoj b i (Qq b) (hB b) (nB b) [] (λ_=>false)=QmE b i:=QA9 hv hi;rw[show((0:Nat):Int)=0 from rfl,Qul,List.drop_zero,hmay]at nA;have ekb:∀b j,(b==5000)=false->QfB [(5000,2,0),(5000,3,0)] b j=none:=λb j h=>Qeh h (Qeh h (Qeb b)) j;have cG:∀(n:Nat) (g:Nat->D) (b i:Nat) (h5:(b==5000)=false) (av nw:List Nat),Qaw [(5000,2,0),(5000,3,0)] b i (QPw n g) av nw=(QPw n g,av,nw):=λn g b i h5 av nw=>Qbv _ b _ i av nw (ekb b · h5) Qbr;have c87':∀(b i:Nat) (h5:(b==5000)=false) (h n:Nat->Int) (v:Nat->Nat->Bool) (d e:D) (av nw:List Nat),Qaw [(5000,2,0),(5000,3,0)] b i (c87 h n v (.d d) (.d e)) av nw=(c87 h n v (.d d) (.d e),av,nw):=λb i h5 h n v d e av nw=>Qbv _ b _ i av nw (ekb b · h5) Qr2;simp[-Qb5,-Qa8,Qr,QH,QG,QC,Qah,Qaf,Qx,Qb,QaG,Qci,Q6,Qda,Qcn,Q8,QbM,QaD,Qco,Qbp,Qcu,QcZ,QdT,Qcw,kp60,Qgz,repF,cG,c87',nA,QpU,QnB];done
 .cases hr
def QlS (f:Nat->Bool) (i:Int) (k:Nat):Bool:=f k&&(k:Int) != i
theorem QDM (xs:Array Value) (w:World):(callFunc 59 xs).run Tryz.prog w= .ok (.enter 59 xs) w:=by kernel_rfl
noncomputable def s59:List D->Option D:=sp2 (QeC Qyv) Qbh (Qy Qt) λs i=>some (Qc6 (QlS s.f i) 8)
set_option maxHeartbeats 2000000 in
theorem ok59:∀ds d,s59 ds=some d->PureC Tryz.prog 59 ds d:=QaR λs i r hr=>by
 cases hr;refine Qbz (Qy Qt) (Qc6 (QlS s.f i) 8) (QE QB 24 QCz []) Tryz.func59 rfl rfl (Zb rfl) (by kernel_rfl) ?_
 rw[Tryz.results59];have e:Qyv.enc s=(List.range 8).map λk=>DB (s.f k):=s.eq;simp[QCz,e,QnB,Qaf,Qz,Qb,QaG,Qx]
 (generalize aC:Cx.loop _ _ _=aE; apply Qi aC (λk=>⟨[(1,.d (DI i)),(4,.sl 1 ((Qc6 (QlS s.f i) k).map Qt.enc) (.tok 4)),(7,.d (.agg ((List.range 8).map λk=>DB (s.f k)))),(8,.d (DI k))],[],[4],[]⟩) 8 (by first | (simp; done) | (simp; rfl) | (simp; simp[*])); rotate_left; (show _ < 281474976710656; omega); rfl; rotate_left; all_goals clear aC)
 .intro k hk;have sW:(k:Int) < 8:=by omega
  have w1:=Qa ((k:Int)+1) (by omega) (by omega)
  have l1:=Qlu (QlS s.f i) k;have a1:(Qc6 (QlS s.f i) k).length+1<=140737488355328:=by omega
  have a2:((Qc6 (QlS s.f i) k).length+1)*8<=140737488355328:=by omega
  cases c1:s.f k with
  | false=>
   rw[QeL (by unfold QlS; rw[c1]; rfl)]
   simp[QCz,hk,sW,w1,c1];done
  | true=>
   cases c2:((k:Int) != i)with
   | false=>
    rw[QeL (by unfold QlS; rw[c1,c2]; rfl)]
    simp[QCz,hk,sW,w1,c1,c2];done
   | true=>
    rw[Qe5 (by unfold QlS; rw[c1,c2]; rfl)]
    simp[QCz,hk,sW,w1,c1,c2,Qc,a1,a2];done
 .simp[QCz,QQ];done
end Go.Proofs.YtnfeakhkfehkhaaGreatDoor
