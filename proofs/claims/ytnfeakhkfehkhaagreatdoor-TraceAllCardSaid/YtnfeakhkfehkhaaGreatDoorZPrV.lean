/-
  The program of the trace chapter: Fewest. Conditions: the names are strings.
-/
import Derived.Test.YtnfeakhkfehkhaaGreatDoorZPrT
set_option linter.unusedSimpArgs false
set_option linter.unusedVariables false
namespace Go.Proofs.YtnfeakhkfehkhaaGreatDoor
open Go.RowKit
def Qwb (r:Nat):List (Nat×Option Nat):=match r with
 | 0=>kpn [2,3,4,6]
 | 1=>kpn [2,3,4,6,7,8]
 | 2=>kpn [2,3,4,6,7,8,24]
 | 3=>kpn [6,7]
 | 4=>kpn [2,3,4,6,8,9]
 | 5=>kpn [2,3,4,6,8,9,27,28]
 | 6=>kpn [2,3,4,6,8,9,27,28,29]
 | 7=>kpn [2,3,4,6,8,9,10,27,28]
 | 8=>kpn [2,3,4,6,8,9,10,11,27,28]
 | 9=>kpn [2,3,4,6,8,9,10,27,28,37]
 | 10=>kpn [2,3,4,6,8,9,27,28]
 | 11=>kpn [2,3,4,6,8,9,27,28]
 | 12=>kpn [3,4,6,9,12]
 | 13=>kpn [3,6,12]
 | 14=>kpn [6,12,47,48]
 | 15=>kpn [6,12,47,48,49]
 | 16=>kpn [6,12,13,47,48]
 | 17=>kpn [6,12,47,48,53]
 | 18=>kpn [6,7]
 | 19=>kpn [6,12,47,48]
 | 20=>kpn [6,7]
 | _=>[]
theorem oe69:∀n,Qdc Tryz.prog 69 (e69 n)
 | 0=>QFv
 | n+1=>QEM n (oe69 n)
noncomputable def QGf:QfU:=QnC QhU λa=>Qj3 a.n a
theorem QHf:Qdc Tryz.prog 69 QGf:=Qd2 λa r hr=>by
 exact oe69 a.n _ _ _ _ _ _ ((Qgo (QAT a.n) a rfl).trans hr)
theorem QDz (a b:TA) (h:QhU a=QhU b):Qj3 a.n a=Qj3 b.n b:=by
 have h1:=QAT a.n a b h;rw[h1];have:a.n=b.n:=by
  simp only[QhU,Prod.mk.injEq,List.cons.injEq,X.d.injEq,D.v.injEq,Value.int.injEq,Int.natCast_inj,and_true,true_and]at h;exact h.1.2
 rw[this]
noncomputable def QmN (b:List Bat) (good:List Int) (k x t:Nat):Bool:=decide (x < k)&&QFQ b good x t
theorem QE8 (b:List Bat) (good:List Int) (x t:Nat):QmN b good 0 x t=false:=by simp[QmN]
def wG (F:Nat->Nat->Bool) (k:Nat):D:=DB (F (k / 8) (k % 8))
theorem QE1 {F:Nat->Nat->Bool} {i:Nat} (hi:i < 8) (r:Nat->Bool):(QPw 64 (wG F)).take (i*8)++(QPw 8 (λk=>DB (r k))++(QPw 64 (wG F)).drop (i*8+8))=QPw 64 (wG λx t=>if x=i then r t else F x t):=by
 refine List.ext_getElem? λq=>?_;by_cases h1:q < i*8
 .rw[List.getElem?_append_left (by rw[List.length_take,Qb]; omega),List.getElem?_take,if_pos h1,Qd (by omega),Qd (by omega)]
  show some (X.d (DB (F (q / 8) (q % 8))))=some (X.d (DB (if q / 8=i then r (q % 8)else F (q / 8) (q % 8))));rw[if_neg (by omega)]
 .rw[List.getElem?_append_right (by rw[List.length_take,Qb]; omega),List.length_take,Qb,show min (i*8) 64=i*8 by omega]
  by_cases h2:q < i*8+8
  .rw[List.getElem?_append_left (by rw[Qb]; omega),Qd (by omega),Qd (by omega)]
   show some (X.d (DB (r (q - i*8))))=some (X.d (DB (if q / 8=i then r (q % 8)else F (q / 8) (q % 8))));rw[if_pos (by omega),show q % 8=q - i*8 by omega]
  .rw[List.getElem?_append_right (by rw[Qb]; omega),Qb,List.getElem?_drop]
   by_cases h3:q < 64
   .rw[Qd (by omega),Qd h3,show i*8+8+(q - i*8 - 8)=q by omega]
    show some (X.d (DB (F (q / 8) (q % 8))))=some (X.d (DB (if q / 8=i then r (q % 8)else F (q / 8) (q % 8))));rw[if_neg (by omega)]
   .rw[List.getElem?_eq_none (by rw[Qb]; omega),List.getElem?_eq_none (by rw[Qb]; omega)]
theorem Qys {b:List Bat} {good:List Int} {k:Nat} (h:QcW b good (k:Int)=true):(λx t=>if x=k then QmE b k t else QmN b good k x t)=QmN b good (k+1):=by
 funext x t;unfold QmN QFQ;by_cases e:x=k
 .subst e; rw[if_pos rfl,h]; simp
 .rw[if_neg e];have:decide (x < k+1)=decide (x < k):=by rw[decide_eq_decide]; omega
  rw[this]
theorem QzP {b:List Bat} {good:List Int} {k:Nat} (h:QcW b good (k:Int)=false):QmN b good k=QmN b good (k+1):=by
 funext x t;unfold QmN QFQ;by_cases e:x=k
 .subst e; rw[h]; simp
 .have:decide (x < k+1)=decide (x < k):=by rw[decide_eq_decide]; omega
  rw[this]
theorem QuX {b:List Bat} {good:List Int} (hg:∀x∈good,0<=x/\x < (b.length:Int)) {k:Nat} :QcW b good (k:Int)=!good.any λg=>Qdl b k g.toNat:=by
 unfold QcW;rw[Bool.eq_iff_iff,Zl,Bool.not_eq_true',List.any_eq_false];refine forall_congr' λx=>forall_congr' λhx=>?_;have:=hg x hx;unfold Qdl;rw[decide_eq_true (show x.toNat < b.length by omega),Bool.true_and,Int.toNat_natCast]
 simp
theorem QHr {b:List Bat} {good:List Int} (hg:Qp9 good) (k:Nat):Qqf [.sl 1 (good.map Qt.enc),.fn 68 [] [.dat 8 [(List.range 8).map λt=>DB (Qdl b k t)] 0 0]]=some (DB (good.any λg=>Qdl b k g.toNat)):=by
 have hd:(QbR (Qjy 68)).dec (.fn 68 [] [.dat 8 [(List.range 8).map λt=>DB (Qdl b k t)] 0 0])=some (Oct.of (Qdl b k)):=QaN (Qpr 68) (Oct.of (Qdl b k));simp only[Qqf,sp2,QQ,hd];rw[if_pos hg];have e:(good.any λg=>(Oct.of (Qdl b k)).f g.toNat)=good.any λg=>Qdl b k g.toNat:=by
  rw[Bool.eq_iff_iff,Zy,Zy];refine exists_congr λt=>and_congr_right λh=>?_;have:=hg.2 t h;rw[Oct.of_f,if_pos (by omega)]
 rw[e]; rfl
def Qv8:List (Nat×Nat×Nat):=[(5000,3,0),(5000,4,0),(5000,9,0),(6,0,1001)]
theorem QDA {b:Nat} (h5:(b==5000)=false) (h:(b==6)=false) (j:Nat):QfB [(5000,3,0),(5000,4,0),(5000,9,0),(6,0,1001)] b j=none:=Qeh h5 (Qeh h5 (Qeh h5 (Qeh h (Qeb b)))) j
theorem Qd7 (n:Nat) (g:Nat->D) (b i:Nat) (h5:(b==5000)=false) (h:(b==6)=false) (av nw:List Nat):Qaw [(5000,3,0),(5000,4,0),(5000,9,0),(6,0,1001)] b i (QPw n g) av nw=(QPw n g,av,nw):=Qbv _ b _ i av nw (QDA h5 h) Qbr
theorem QcY (b i:Nat) (h5:(b==5000)=false) (h6:(b==6)=false) {h n:Nat->Int} {v:Nat->Nat->Bool} {d e:D} {av nw:List Nat} :Qaw [(5000,3,0),(5000,4,0),(5000,9,0),(6,0,1001)] b i (c87 h n v (.d d) (.d e)) av nw=(c87 h n v (.d d) (.d e),av,nw):=Qbv _ b _ i av nw (QDA h5 h6) Qr2
theorem Qce:QmL.desc= .array 8 82:=rfl
theorem QHl (eqs:List (TypeId×Nat)) (Δ:Nat->List D->Option D) (ev:Operand->X) (boxes:List (Nat×List X)) (toks:List Nat):aop tys eqs Δ (.alloc 83) ev boxes toks=some (.new ⟨QPw 64 (wG λ_ _=>false),none⟩):=by
 simp only[aop,show tys 83=some QmL from rfl]; rfl
noncomputable def g27:List (Nat×(List D->Option D)):=[(57,s57),(58,s58),(60,s60),(66,s66),(67,Qqf)]
theorem dg27:Qay Tryz.prog (Qas g27):=Ql (Ql (Ql (Ql (Ql QB Qtc QCa) QyU ok66) QvY QHI) QtN QH5) QpR QGo
noncomputable def Qv9:List (Nat×QfU):=[(69,QGf)]
theorem QCU:Qne Tryz.prog (Qj6 Qv9):=Qfr Qct QyL QHf
theorem QDK (xs:Array Value) (w:World):(callFunc 27 xs).run Tryz.prog w= .ok (.enter 27 xs) w:=by kernel_rfl
theorem QAN (b:List Bat) (c g:List Int):QAK b (c++g)=QmO b c g:=by
 unfold QAK QmO;by_cases h:(Q5 b).2.2=0
 .rw[if_neg (by simpa using h),if_pos h]
  unfold QmI Qnc;rw[List.any_append];cases c.any (λn=>!inR n 0 ((b.length:Int) - 1))<;>cases g.any (λn=>!inR n 0 ((b.length:Int) - 1))<;>simp
 .rw[if_pos h,if_neg h]
theorem QD8 (F:Nat->Nat->Bool):QPw 64 (wG F)=QPw 64 (sG (Sus.of F)):=Qdp λt ht=>by
 unfold wG sG;rw[Sus.of_f,if_pos (by omega)]
theorem QzM {m:Nat} {b:List Bat} {c:List Int} {F:Nat->Nat->Bool} (aX:b.length<=8) (hc:Qp9 c) (hm:m<=100):
  QGf [.d (DI 0),.d (DI m),.loc 1000 0,.loc 1001 0,.loc 1002 0,.loc 1003 0,.loc 1004 0] [.cells [.d (.sl 1 (c.map Qt.enc))],.cells [.sl 1 ([]) (.own 900000)],.cells (QPw 64 (wG F)),.cells [.d (.sl 5 (b.map QO.enc))],.cells [.fx 69 [] [.inl 1000,.inl 1001,.inl 1002,.inl 1003,.inl 1004]]] [900000]=some (DB (Qdh (okS (Sus.of F) c) b.length m 0 []).2,[.cells [.d (.sl 1 (c.map Qt.enc))],.cells [.sl 1 ((if(Qdh (okS (Sus.of F) c) b.length m 0 []).2=true then(Qdh (okS (Sus.of F) c) b.length m 0 []).1 else []).map Qt.enc) (.own 200100)],.cells (QPw 64 (wG F)),.cells [.d (.sl 5 (b.map QO.enc))],.cells [.fx 69 [] [.inl 1000,.inl 1001,.inl 1002,.inl 1003,.inl 1004]]],[200100]):=by
 have:=Qgo QDz (⟨b,c,Sus.of F,0,[],m⟩:TA) (xs:=[.d (DI 0),.d (DI m),.loc 1000 0,.loc 1001 0,.loc 1002 0,.loc 1003 0,.loc 1004 0]) (cs:=[.cells [.d (.sl 1 (c.map Qt.enc))],.cells [.sl 1 ([]) (.own 900000)],.cells (QPw 64 (wG F)),.cells [.d (.sl 5 (b.map QO.enc))],.cells [.fx 69 [] [.inl 1000,.inl 1001,.inl 1002,.inl 1003,.inl 1004]]]) (tl:=[900000]) (by simp only[QhU,c69,QD8]; rfl)
 unfold QGf;rw[this];unfold Qj3;rw[if_pos ⟨rfl,aX,hc,λx hx=>(by cases hx),by show 0<=b.length; omega,by simp only[List.length_nil]; omega⟩,QD8]
 rfl
theorem QEd {b:List Bat} {good c:List Int} (aX:b.length<=8) (hc:∀k∈c,0<=k/\k < (b.length:Int)) {l:List Int} (hl:∀i∈l,0<=i/\i < (b.length:Int)):okS (Sus.of (QmN b good b.length)) c l=QbA (QhN b c good) c l:=by
 rw[QEp hc hl];unfold okS okP;congr 1;rw[Bool.eq_iff_iff,Zy,Zy];refine exists_congr λk=>and_congr_right λhk=>?_;rw[Bool.not_eq_true',Bool.not_eq_true',List.any_eq_false,List.any_eq_false];refine forall_congr' λi=>forall_congr' λhi=>?_;have h1:=hl i hi;have h2:=hc k hk;rw[Sus.of_f,if_pos (by omega)]
 unfold QmN;rw[decide_eq_true (show i.toNat < b.length by omega),Bool.true_and]
theorem Qxp {b:List Bat} {good c:List Int} (aX:b.length<=8) (hc:∀k∈c,0<=k/\k < (b.length:Int)) (m:Nat):Qdh (okS (Sus.of (QmN b good b.length)) c) b.length m 0 []=QaV (QbA (QhN b c good) c) b.length m []:=by
 have h1:=QpM (okS (Sus.of (QmN b good b.length)) c) b.length m [];rw[QiU]at h1;rw[h1];exact QjH m [] (λx hx=>by cases hx) λl hl=>QEd aX hc hl
attribute [local simp] QE8
noncomputable def s27:List D->Option D:=sp3 (Qy QO) (Qy Qt) (Qy Qt) (Qex (Qy Qt) Qbh) λb c g=>if QcC b/\c.length<=17592186044416/\g.length<=17592186044416 then some (QjZ b c g)else none
set_option maxHeartbeats 4000000 in
theorem ok27:∀ds d,s27 ds=some d->PureC Tryz.prog 27 ds d:=QcG λb c g r hr=>by
 split at hr
 .rename_i aN;obtain⟨hb,eB,vX⟩:=aN;cases hr;refine Qbz (Qex (Qy Qt) Qbh) (QjZ b c g) (QbT dg27 QCU QbC QcU 56 Qwb Qv8 (λ_=>[]) (λ_=>0)) Tryz.func27 rfl rfl (Zb rfl) (by kernel_rfl) ?_
  rw[Tryz.results27];have hz:=QkV [] (λ_ _=>none) (λ_=> .d .top) [] [];simp[-Qa8]at hz;have xQ:=QHl [] (λ_ _=>none) (λ_=> .d .top) [] [];simp[-QmL]at xQ;have wS:s66 [.sl 1 [[.sl 1 (c.map Qt.enc)],[.sl 1 (g.map Qt.enc)]]]=some (.sl 1 (c.map Qt.enc++g.map Qt.enc)):=by
   have hd:(Qy rLi).dec (.sl 1 [[.sl 1 (c.map Qt.enc)],[.sl 1 (g.map Qt.enc)]])=some [c,g]:=QaY rLi [c,g] 1 rfl;simp only[s66,sp1,hd];rw[if_pos ⟨by simp,by simp; omega⟩]
   simp[Qbk,Qg]
  have fX:=QyN hb (c++g) (by simp; omega)
  rw[List.map_append]at fX;unfold QCr at fX;rw[QAN]at fX;have zL:True:=trivial;by_cases he:QmO b c g=0
  .rw[if_pos he,Qvo,Qgz]at fX;simp[-QmL,-Qb5,-Qa8,Qs,hz,xQ,Qwb,Qv8,g27,Qv9,QC,Qah,Qaf,Qd7,QcY,Qax,QaA,Qg,Qe,wS,fX];obtain⟨hv,lQ,hng⟩:=(Qqj b c g).1 he;have aX:=hv.ok.le;have hcN:=Qe8.1 lQ;have hgN:=Qe8.1 hng;have hc8:Qp9 c:=⟨eB,λx hx=>by have:=hcN x hx; omega⟩
   have hg8:Qp9 g:=⟨vX,λx hx=>by have:=hgN x hx; omega⟩
   (generalize aC:Cx.loop _ _ _=aE; apply Qi aC (λk=>⟨[(2,.d (.sl 1 (g.map Qt.enc))),(3,.loc 3 0),(4,.loc 4 0),(6,.loc 6 0),(8,.loc 8 0),(9,.loc 9 0),(27,.d (DI b.length)),(28,.d (DI k))],[(3,[.d (.sl 5 (b.map QO.enc))]),(4,[.d (.sl 1 (c.map Qt.enc))]),(6,[.sl 1 [] (.own 100600)]),(8,c87 (hB b) (nB b) noN (.d (.sl 5 (b.map QO.enc))) (.d (.sl 1 ((QU b).map Qt.enc)))),(9,QPw 64 (wG (QmN b g k))),(3,[.d (.sl 5 (b.map QO.enc))]),(4,[.d (.sl 1 (c.map Qt.enc))]),(9,QPw 64 (wG (QmN b g k)))],[100600],[]⟩) b.length (by first | (simp; done) | (simp; rfl) | (simp; simp[*])); rotate_left; (show _ < 281474976710656; omega); rfl; rotate_left; all_goals clear aC)
   .intro k hk;have bB:(k:Int) < b.length:=by omega
    have sW:(k:Int) < 8:=by omega
    have hk8n:k < 8:=by omega
    have w1:=Qa ((k:Int)+1) (by omega) (by omega)
    have tQ:=QtJ hv hk;have xM:=Qvm hv hk;have h67:=QHr (b:=b) hg8 k;have o6:=QuX hgN (k:=k);have hk64:k*8+8<=64:=by omega
    cases oH:QcW b g (k:Int)with
    | true=>
     have ha:(g.any λg=>Qdl b k g.toNat)=false:=by rw[oH]at o6; simpa using o6.symm
     rw[ha]at h67;rw[<-Qys oH];have eA:=QE1 (F:=QmN b g k) hk8n (QmE b k);simp[-QmL,-Qb5,-Qa8,Qce,Qr,Qs,Qwb,QC,Qah,Qaf,Qd7,QcY,Qx,Qb,Qak,Q8,bB,sW,hk64,w1,tQ,xM,h67,QnB,eA];done
    | false=>
     have ha:(g.any λg=>Qdl b k g.toNat)=true:=by rw[oH]at o6; simpa using o6.symm
     rw[ha]at h67;rw[<-QzP oH];simp[-QmL,-Qb5,-Qa8,Qr,Qs,Qwb,QC,Qah,Qaf,Qd7,QcY,Qx,Qb,Qak,Q8,bB,w1,tQ,h67,QnB];done
   .have wl:=Qa ((b.length:Int)+1) (by omega) (by omega)
    simp[-QmL,-Qb5,-Qa8,Qwb,Qah,Qaf,Qd7,QcY,wl];have bK:∀m,m < b.length+1->_:=λm hm=>QzM (m:=m) (F:=QmN b g b.length) aX hc8 (by omega)
    have cH:QjZ b c g=if(Qqq b c g).2=true then((Qqq b c g).1,0)else([],9):=by unfold QjZ; rw[if_pos he]
    have hT:Qqq b c g=QkD (λm=>Qdh (okS (Sus.of (QmN b g b.length)) c) b.length m 0 []) (b.length+1) 0:=by
     unfold Qqq;exact Qhw λm _ _=>(Qxp aX hcN m).symm
    rw[cH,hT];generalize QmN b g b.length=F at*;rcases QaK (λm=>!(Qdh (okS (Sus.of F) c) b.length m 0 []).2) (b.length+1)with hall | ⟨J,hJ,aL,aM⟩
    .rw[QeD (k:=b.length+1) (i:=0) λj hj=>by have:=hall j hj; rw[Nat.zero_add]; simpa using this]
     (generalize aC:Cx.loop _ _ _=aE; apply Qi aC (λm=>⟨[(6,.loc 6 0),(12,.loc 12 0),(47,.d (DI ((b.length:Int)+1))),(48,.d (DI m))],[(6,[.sl 1 [] (.own 100600)]),(12,[.fx 69 [] [.inl 4,.inl 6,.inl 9,.inl 3,.inl 12]]),(3,[.d (.sl 5 (b.map QO.enc))]),(4,[.d (.sl 1 (c.map Qt.enc))]),(9,QPw 64 (wG (F)))],[100600],[]⟩) (b.length+1) (by first | (simp; done) | (simp; rfl) | (simp; simp[*])); rotate_left; (show _ < 281474976710656; omega); rfl; rotate_left; all_goals clear aC)
     .intro m hm;have rV:(m:Int) < (b.length:Int)+1:=by omega
      have w1:=Qa ((m:Int)+1) (by omega) (by omega)
      have hE:=bK m hm;have bA:(Qdh (okS (Sus.of F) c) b.length m 0 []).2=false:=by have:=hall m hm; simpa using this
      rw[bA,if_neg (by simp),List.map_nil]at hE
      simp[-QmL,-Qb5,-Qa8,Qwb,Qaf,Qd7,Qb,QaD,Qbp,QcZ,rV,w1,hE];done
     .simp[-QmL,-Qb5,-Qa8,Qwb,Qaf,Qd7,Qar];done
    .have kA:(Qdh (okS (Sus.of F) c) b.length J 0 []).2=true:=by simpa using aL
     rw[QeO (k:=b.length+1) (i:=0) (j:=J) hJ (by rw[Nat.zero_add]; exact kA) λj hj=>by have:=aM j hj; rw[Nat.zero_add]; simpa using this,Nat.zero_add]
     (generalize aC:Cx.loop _ _ _=aE; apply Qi aC (λm=>⟨[(6,.loc 6 0),(12,.loc 12 0),(47,.d (DI ((b.length:Int)+1))),(48,.d (DI m))],[(6,[.sl 1 [] (.own 100600)]),(12,[.fx 69 [] [.inl 4,.inl 6,.inl 9,.inl 3,.inl 12]]),(3,[.d (.sl 5 (b.map QO.enc))]),(4,[.d (.sl 1 (c.map Qt.enc))]),(9,QPw 64 (wG (F)))],[100600],[]⟩) J (by first | (simp; done) | (simp; rfl) | (simp; simp[*])); rotate_left; (show _ < 281474976710656; omega); rfl; rotate_left; all_goals clear aC)
     .intro m hm';have hm:m < b.length+1:=by omega
      have rV:(m:Int) < (b.length:Int)+1:=by omega
      have w1:=Qa ((m:Int)+1) (by omega) (by omega)
      have hE:=bK m hm;have bA:(Qdh (okS (Sus.of F) c) b.length m 0 []).2=false:=by have:=aM m hm'; simpa using this
      rw[bA,if_neg (by simp),List.map_nil]at hE
      simp[-QmL,-Qb5,-Qa8,Qwb,Qaf,Qd7,Qb,QaD,Qbp,QcZ,rV,w1,hE];done
     .have rV:(J:Int) < (b.length:Int)+1:=by omega
      have hE:=bK J hJ;rw[kA,if_pos rfl]at hE;generalize Qdh (okS (Sus.of F) c) b.length J 0 []=L at*;simp[-QmL,-Qb5,-Qa8,Qwb,Qaf,Qd7,Qb,QaD,Qbp,QcZ,rV,hE,kA,QQ];done
  .have kU:(QmO b c g != 0)=true:=bne_iff_ne.2 he;have cH:QjZ b c g=([],QmO b c g):=by unfold QjZ; rw[if_neg he]
   rw[if_neg he]at fX;unfold QFu at fX;rw[cH];simp[-QmL,-Qb5,-Qa8,Qs,hz,Qwb,Qv8,g27,Qv9,QC,Qah,QcY,Qax,QaA,Qg,Qe,wS,fX,kU,Qar];done
 .cases hr
end Go.Proofs.YtnfeakhkfehkhaaGreatDoor
