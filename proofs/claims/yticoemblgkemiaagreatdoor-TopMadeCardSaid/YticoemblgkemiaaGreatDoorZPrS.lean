/-
  The program of the trace chapter: Comes, Holds, Left. Conditions: the names are strings.
-/
import Derived.Test.YticoemblgkemiaaGreatDoorZPrQ
set_option linter.unusedSimpArgs false
set_option linter.unusedVariables false
namespace Go.Proofs.YticoemblgkemiaaGreatDoor
open Go.RowKit
def QDB (r:Nat):List (Nat×Option Nat):=match r with
 | 0=>[(0,none),(1,none),(4,some 1),(5,some 1)]
 | 1=>[(1,none),(4,some 1),(5,some 1),(6,none),(7,none)]
 | 2=>[(1,none),(4,some 1),(5,some 1),(6,none),(7,none),(17,none)]
 | 3=>[(4,some 1),(5,some 1),(6,none)]
 | 4=>[(1,none),(4,some 1),(5,some 1),(7,none),(19,none),(20,none)]
 | 5=>[(1,none),(4,some 1),(5,some 1),(7,none),(19,none),(20,none),(21,none)]
 | 6=>[(1,none),(4,some 1),(5,some 1),(7,none),(8,none),(19,none),(20,none)]
 | 7=>[(1,none),(4,some 1),(5,some 1),(7,none),(8,none),(19,none),(20,none),(27,none)]
 | 8=>[(1,none),(4,some 1),(5,some 1),(7,none),(8,none),(19,none),(20,none)]
 | 9=>[(1,none),(4,some 1),(5,some 1),(7,none),(8,none),(19,none),(20,none),(36,none)]
 | 10=>[(1,none),(4,some 1),(5,some 1),(7,none),(19,none),(20,none)]
 | 11=>[(1,none),(4,some 1),(5,some 1),(7,none),(19,none),(20,none)]
 | 12=>[(4,some 1),(5,some 1),(6,none)]
 | _=>[]
def QLX (r:Nat):List (Nat×Option Nat):=match r with
 | 0=>kpn [0,1,4]
 | 1=>kpn [1,4,5,6]
 | 2=>kpn [1,4,5,6,19]
 | 3=>kpn [4,5]
 | 4=>kpn [1,4,6,7,8]
 | 5=>kpn [1,4,6,7,8,31,32,33]
 | 6=>kpn [1,4,6,7,8,31,32,33,34]
 | 7=>kpn [1,4,6,7,8,10,31,32,33]
 | 8=>kpn [1,4,6,7,8,31,32,33]
 | 9=>kpn [1,4,6,7,8,31,32,33]
 | 10=>kpn [4,6,7,8]
 | 11=>kpn [4,5]
 | _=>[]
theorem QhG {f:Nat->Bool} {n:Nat} (h:∀k,n<=k->f k=false):∀m,n<=m->QcE f m=QcE f n
 | 0,hm=>by rw[show n=0 by omega]
 | m+1,hm=>by
  by_cases e:n=m+1
  .rw[e]
  .rw[QfL (h m (by omega)),QhG h m (by omega)]
theorem Qcp {f g:Nat->Bool} :∀{m:Nat},(∀k,k < m->f k=g k)->QcE f m=QcE g m
 | 0,_=>rfl
 | m+1,h=>by
  have ih:=Qcp (m:=m) λk hk=>h k (by omega)
  cases q:g m with
  | true=>rw[Qgi q,Qgi ((h m (by omega)).trans q),ih]
  | false=>rw[QfL q,QfL ((h m (by omega)).trans q),ih]
theorem QxN (b:List Bat) (i:Int):QFW b [i]=QbB b i:=by
 unfold QFW QbB;by_cases h:(Qaf b).2.2=0
 .rw[if_neg (by simpa using h),if_pos h]
  unfold Qk3;simp only[List.any_cons,List.any_nil,Bool.or_false];cases inR i 0 ((b.length:Int) - 1)<;>simp
 .rw[if_pos h,if_neg h]
def Qc0 (b:List Bat):Prop:=bkB b=true/\Qee b/\b.length<=140737488355328
noncomputable instance (b:List Bat):Decidable (Qc0 b):=Classical.propDecidable _
theorem QDt {b:List Bat} (h:Qc0 b) (l:List Int) (hl:l.length<=35184372088832):s57 [.sl 5 (b.map QQ.enc),.sl 1 (l.map QH.enc)]=some (QIk b l):=by
 simp only[s57,sp2,Q9,Qap];rw[if_pos ⟨h.1,h.2.1,h.2.2,hl⟩]; rfl
theorem Qq0 {b:List Bat} (h:Qc0 b) (i:Int):s57 [.sl 5 (b.map QQ.enc),.sl 1 [[DI i]]]=some (if QbB b i=0 then .tup [.agg (QdW (hB b) (nB b) noN++[.sl 5 (b.map QQ.enc),.sl 1 ((Qae b).map QH.enc)]),DI 0]else .tup [.agg (QdW (λ_=>0) (λ_=>0) noN++[.sl 0 [],.sl 0 []]),DI (QbB b i)]):=by
 have:=QDt h [i] (by simp)
 change s57 [.sl 5 (b.map QQ.enc),.sl 1 [[DI i]]]=_ at this;rw[this,QIk,QxN];rfl
theorem Qws {b:List Bat} (hv:ValidB b) {i:Nat} (hi:i < b.length):s58 [.agg (QdW (hB b) (nB b) noN++[.sl 5 (b.map QQ.enc),.sl 1 ((Qae b).map QH.enc)]),DI i]=some (.agg ((List.range 8).map λk=>DB (QdZ b i k))):=by
 have hd:(Qcf rBx).dec (.agg (QdW (hB b) (nB b) noN++[.sl 5 (b.map QQ.enc),.sl 1 ((Qae b).map QH.enc)]))=some (Qek b):=rBx.de (Qek b);simp only[s58,sp2,hd,Qak];rw[if_pos ⟨hv,rfl,by omega,by show(i:Int) < b.length; omega⟩]; rfl
theorem Qxe {b:List Bat} (hv:ValidB b) {i:Nat} (hi:i < b.length):s60 [.agg (QdW (hB b) (nB b) noN++[.sl 5 (b.map QQ.enc),.sl 1 ((Qae b).map QH.enc)]),DI i]=some (.agg ((List.range 8).map λk=>DB (Qm6 b i k))):=by
 have hd:(Qcf rBx).dec (.agg (QdW (hB b) (nB b) noN++[.sl 5 (b.map QQ.enc),.sl 1 ((Qae b).map QH.enc)]))=some (Qek b):=rBx.de (Qek b);simp only[s60,sp2,hd,Qak];rw[if_pos ⟨hv,rfl,by omega,by show(i:Int) < b.length; omega⟩]; rfl
noncomputable def g19:List (Nat×(List D->Option D)):=[(55,s57),(56,s58),(116,s59),(57,s60)]
noncomputable def g22:List (Nat×(List D->Option D)):=[(55,s57),(56,s58),(57,s60)]
theorem dg22:QaE Tryz.prog (Qaw g22):=Qh (Qh (Qh Qs Qzp QOt) Qy4 QPc) QsN QNo
theorem QC1 (xs:Array Value) (w:World):(callFunc 10 xs).run Tryz.prog w= .ok (.enter 10 xs) w:=by kernel_rfl
theorem QAV {b:List Bat} (hv:ValidB b) {n:Nat} :(∀k,n<=k->Qe6 b n k=false)/\∀k,n<=k->Qb3 b n k=false:=by
 constructor
 .intro k hk;cases q:Qe6 b n k with
  | false=>rfl
  | true=>
   unfold Qe6 at q;simp only[Za,bne_iff_ne]at q;have:=Qyf hv (QBg hv (Qo7.1 q.2));omega
 .intro k hk;cases q:Qb3 b n k with
  | false=>rfl
  | true=>
   unfold Qb3 at q;simp only[Za,bne_iff_ne]at q;have:=Qyf hv (Qgb.1 q.2);omega
noncomputable def s22:List D->Option D:=sp2 (QJ QQ) QaY (Qmy (QJ QH) (QJ QH) QaY) λb i=>if Qc0 b then some (Qgz b i)else none
set_option maxHeartbeats 4000000 in
theorem ok22:∀ds d,s22 ds=some d->PureC Tryz.prog 10 ds d:=Qay λb i r hr=>by
 split at hr
 .rename_i hb;cases hr;refine QdB (Qmy (QJ QH) (QJ QH) QaY) (Qgz b i) (Qw dg22 44 QDB []) Tryz.func10 rfl rfl (Zb rfl) (by kernel_rfl) ?_
  rw[Tryz.results10];have hz:=QlC [] (λ_ _=>none) (λ_=> .d .top) [] [];simp[-Q7]at hz;have pL:=Qq0 hb i;unfold Qgz;by_cases h:QbB b i=0
  .obtain⟨hv,h0,h1⟩:=(QhI b i).1 h;obtain⟨n,rfl⟩:∃n:Nat,i=n:=⟨i.toNat,by omega⟩
   have bE:=hv.ok.le;have hn:n < b.length:=by omega
   have pM:n < 8:=by omega
   have kG:(n:Int) < 8:=by omega
   rw[if_pos h]at pL;rw[if_pos h,Int.toNat_natCast];have hx:=QAV hv (n:=n);rw[QhG hx.1 b.length (by omega),QhG hx.2 b.length (by omega)]
   have h58:∀k,k < n->_:=λk hk=>Qws hv (i:=k) (by omega)
   have h60:∀k,k < n->_:=λk hk=>Qxe hv (i:=k) (by omega)
   simp[-QaB,-Q7,Qp,hz,QE,Qas,Qbm,Qab,QdQ,QaZ,Qj,QDB,g22,pL]
   (generalize aC:Cx.loop _ _ _=aE; apply Qi aC (λk=>⟨[(1,.d (DI n)),(4,.sl 1 ((QcE (Qe6 b n) k).map QH.enc) (.tok 4)),(5,.sl 1 ((QcE (Qb3 b n) k).map QH.enc) (.tok 5)),(7,.loc 7 0),(19,.d (DI n)),(20,.d (DI k))],[(7,c87 (hB b) (nB b) noN (.d (.sl 5 (b.map QQ.enc))) (.d (.sl 1 ((Qae b).map QH.enc))))],[5,4],[]⟩) n (by first | (simp; done) | (simp; rfl) | (simp; simp[*])); rotate_left; (show _ < 281474976710656; omega); rfl; rotate_left; all_goals clear aC)
   .intro k hk;have aX:(k:Int) < n:=by omega
    have w1:=Qa ((k:Int)+1) (by omega) (by omega)
    have l1:=Qju (Qe6 b n) k;have l2:=Qju (Qb3 b n) k;have a1:(QcE (Qe6 b n) k).length+1<=140737488355328:=by omega
    have a2:((QcE (Qe6 b n) k).length+1)*8<=140737488355328:=by omega
    have a3:(QcE (Qb3 b n) k).length+1<=140737488355328:=by omega
    have a4:((QcE (Qb3 b n) k).length+1)*8<=140737488355328:=by omega
    have pN:=h58 k hk;have pO:=h60 k hk;have ne:(k != n)=true:=by simp; omega
    have e1:Qe6 b n k=QdZ b k n:=by unfold Qe6 QdZ; rw[ne,decide_eq_true hn]
    have e2:Qb3 b n k=Qm6 b k n:=by unfold Qb3 Qm6; rw[ne,decide_eq_true hn]
    cases c1:QdZ b k n with
    | true=>
     rw[Qgi (e1.trans c1)];cases c2:Qm6 b k n with
     | true=>
      rw[Qgi (e2.trans c2)];simp[-QaB,-Q7,Qq,Qp,QE,Qas,Qbm,QaA,Qag,Qd,QDB,aX,pM,kG,w1,pN,pO,c1,c2,a1,a2,a3,a4];done
     | false=>
      rw[QfL (e2.trans c2)];simp[-QaB,-Q7,Qq,Qp,QE,Qas,Qbm,QaA,Qag,Qd,QDB,aX,pM,kG,w1,pN,pO,c1,c2,a1,a2];done
    | false=>
     rw[QfL (e1.trans c1)];cases c2:Qm6 b k n with
     | true=>
      rw[Qgi (e2.trans c2)];simp[-QaB,-Q7,Qq,Qp,QE,Qas,Qbm,QaA,Qag,Qd,QDB,aX,pM,kG,w1,pN,pO,c1,c2,a3,a4];done
     | false=>
      rw[QfL (e2.trans c2)];simp[-QaB,-Q7,Qq,Qp,QE,Qas,Qbm,QaA,Qag,QDB,aX,pM,kG,w1,pN,pO,c1,c2];done
   .simp[-QaB,-Q7,Qas,Qbm,QDB,Qap];done
  .have h':(QbB b i != 0)=true:=bne_iff_ne.2 h;rw[if_neg h]at pL;rw[if_neg h];simp[-QaB,-Q7,Qp,hz,QE,Qas,Qbm,Qab,QdQ,QaZ,Qj,QDB,g22,pL,h',Qb9];done
 .cases hr
noncomputable def g25:List (Nat×(List D->Option D)):=[(55,s57),(58,s65)]
theorem dg25:QaE Tryz.prog (Qaw g25):=Qh (Qh Qs QDk ok65) QsN QNo
theorem QDD (xs:Array Value) (w:World):(callFunc 11 xs).run Tryz.prog w= .ok (.enter 11 xs) w:=by kernel_rfl
theorem Qr0 (f:Nat->Int) (n:Nat):∀m,QK m (λt=>if n < t then f t else 0)=QK (m - (n+1)) (λt=>f (n+1+t))
 | 0=>by rw[show 0 - (n+1)=0 by omega]; rfl
 | m+1=>by
  rw[QK,Qr0 f n m];by_cases h:n < m
  .rw[if_pos h,show m+1 - (n+1)=(m - (n+1))+1 by omega,QK,show n+1+(m - (n+1))=m by omega]
  .rw[if_neg h,show m+1 - (n+1)=0 by omega,show m - (n+1)=0 by omega]; rfl
theorem QI5 (f:Nat->Int):QK 0 f=0:=rfl
theorem QDJ (n:Nat) (f:Nat->Int):QK (n+1) f=QK n f+f n:=rfl
attribute [local simp] QI5
theorem QvH {f:Nat->Int} {m:Int} (h:∀x,0<=f x/\f x<=m):∀n,0<=QK n f/\QK n f<=m*(n:Int)
 | 0=>by simp
 | n+1=>by
  have ih:=QvH h n;have:=h n;rw[QDJ];have e:m*((n+1:Nat):Int)=m*(n:Int)+m:=by rw[Int.natCast_add,Int.mul_add]; simp
  omega
theorem QKV {b:List Bat} (hv:ValidB b) {n:Nat} (hn:n < b.length):s65 [.agg ((List.range 80).map (QbA (QZ (hB b) n 0) (nB b) noN))]=some (DI (QqH (QM b) n)):=by
 have bE:=hv.ok.le;obtain⟨b1,b2⟩:=QGV hv;obtain⟨b3,b4⟩:=hB_8 bE;have e1:(Sup.of (QZ (hB b) n 0) (nB b) noN).h=QZ (hB b) n 0:=by
  funext x; rw[QFc]; split
  .rfl
  .rw[Q2 _ _ (by omega),b3 x (by omega)]
 have e2:(Sup.of (QZ (hB b) n 0) (nB b) noN).n=nB b:=by
  funext x; rw[QGA]; split
  .rfl
  .rw[b4 x (by omega)]
 have e3:(Sup.of (QZ (hB b) n 0) (nB b) noN).v=noN:=by
  funext x t; rw[QHT]; split<;>rfl
 have hd:(Qcf Qtl).dec (.agg ((List.range 80).map (QbA (QZ (hB b) n 0) (nB b) noN)))=some (Sup.of (QZ (hB b) n 0) (nB b) noN):=QmA _ _ _;simp only[s65,sp1,hd];rw[if_pos,e1,e2,e3]
 .rfl
 .refine⟨λx=>?_,λt=>?_⟩
  .rw[e1];unfold QZ;have:=b1 x;split<;>omega
  .rw[e2];have:=b2 t; omega
noncomputable def s25:List D->Option D:=sp2 (QJ QQ) QaY (Qgw (Qcf QE6) QaY) λb i=>if Qc0 b then some (Qnn b i)else none
set_option maxHeartbeats 4000000 in
theorem ok25:∀ds d,s25 ds=some d->PureC Tryz.prog 11 ds d:=Qay λb i r hr=>by
 split at hr
 .rename_i hb;cases hr;refine Qf (Qw dg25 55 QLX []) Tryz.func11 rfl rfl (Zb rfl) (by kernel_rfl) ?_
  rw[Tryz.results11];have hz:=QlC [] (λ_ _=>none) (λ_=> .d .top) [] [];simp[-Q7]at hz;have pL:=Qq0 hb i;unfold Qnn;by_cases h:QbB b i=0
  .obtain⟨hv,h0,h1⟩:=(QhI b i).1 h;obtain⟨n,rfl⟩:∃n:Nat,i=n:=⟨i.toNat,by omega⟩
   have bE:=hv.ok.le;have hn:n < b.length:=by omega
   have pM:n < 8:=by omega
   have kG:(n:Int) < 8:=by omega
   rw[if_pos h]at pL;rw[if_pos h,Int.toNat_natCast];obtain⟨b1,b2⟩:=QGV hv;have w1:=Qa ((n:Int)+1) (by omega) (by omega)
   have q1:(0:Int)<=(n:Int)+1:=by omega
   have q2:(n:Int)+1<=8:=by omega
   obtain⟨O,hif,hO⟩:∃O:Nat,(if(n:Int)+1 < 8 then 8+(n+1)else 8)=O/\(n < 7->O=8+(n+1)):=⟨_,rfl,λh=>if_pos (by omega)⟩
   have wM:=λq=>QvH (f:=λt=>nB b (n+1+t)) (λt=>b2 (n+1+t)) q;have haf:QK (7 - n) (λt=>nB b (n+1+t))=Qgy (QM b) n:=by
    rw[show 7 - n=8 - (n+1) by omega]; exact(Qr0 (nB b) n 8).symm
   simp[-QaB,-Q7,Qq,Qp,QD,QC,hz,QE,Qas,Qbm,Qab,QdQ,QaZ,Qj,QLX,g25,pL,pM,kG,Qyv,w1,q1,q2,hif]
   (generalize aC:Cx.loop _ _ _=aE; apply Qi aC (λq=>⟨[(1,.d (DI n)),(4,.loc 4 0),(6,.loc 6 0),(7,.d (DI (hB b n))),(8,.d (DI (QK q (λt=>nB b (n+1+t))))),(31,.bs 6 O (7 - n) 1),(32,.d (DI ((7 - n:Nat):Int))),(33,.d (DI q))],[(4,[.d (DI 0),.d (DI 0)]),(6,c87 (hB b) (nB b) noN (.d (.sl 5 (b.map QQ.enc))) (.d (.sl 1 ((Qae b).map QH.enc))))],[],[]⟩) (7 - n) (by first | (simp; done) | (simp; rfl) | (simp; simp[*])); rotate_left; (show _ < 281474976710656; omega); rfl; rotate_left; all_goals clear aC)
   .intro q hq;have gT:(q:Int) < ((7 - n:Nat):Int):=by omega
    have hO':=hO (by omega)
    subst hO';have w2:=Qa ((q:Int)+1) (by omega) (by omega)
    have nA:=wM q;have eV:=b2 (n+1+q);have w3:=Qa (QK q (λt=>nB b (n+1+t))+nB b (n+1+q)) (by omega) (by omega)
    have hix:8+(n+1)+q=8+(n+1+q):=by omega
    have pJ:n+1+q < 8:=by omega
    have hi9:8+(n+1+q) < 82:=by omega
    have hi10:8+(n+1+q)+1<=82:=by omega
    rw[QDJ];simp[-QaB,-Q7,QE,Qas,Qbm,QLX,gT,w2,w3,hix,pJ,hi9,Qth];done
   .have hsb7:=wM (7 - n);rw[haf]at hsb7|-;have hk:hB b n=Qba b n:=Qfx hn;have cN:=b1 n;have kZ:=QIO hv hn;have zM:=QKV hv hn;have hn81:n<=81:=by omega
    have w4:=Qa (hB b n - Qgy (QM b) n) (by omega) (by omega)
    have w5:=Qa (hB b n - QqH (QM b) n) (by omega) (by omega)
    simp[-QaB,-Q7,Qq,QD,QC,QE,Qas,Qbm,Qv,QcO,QLX,pM,kG,hn81,Qtk,zM,w4,w5,Qar,QbH];refine⟨?_,hk⟩;rw[<-hk]; split<;>omega
  .have h':(QbB b i != 0)=true:=bne_iff_ne.2 h;rw[if_neg h]at pL;rw[if_neg h];simp[-QaB,-Q7,Qp,hz,QE,Qas,Qbm,Qab,QdQ,QaZ,Qj,QLX,g25,pL,h',Qar];done
 .cases hr
end Go.Proofs.YticoemblgkemiaaGreatDoor
