/-
  The program of the trace chapter: Comes, Holds, Left. Conditions: the names are strings.
-/
import Derived.Test.YtnfeakhkfehkhaaGreatDoorZPrQ
set_option linter.unusedSimpArgs false
set_option linter.unusedVariables false
namespace Go.Proofs.YtnfeakhkfehkhaaGreatDoor
open Go.RowKit
def QHz (r:Nat):List (Nat×Option Nat):=match r with
 | 0=>kpn [0,1]
 | 1=>kpn [1,6,7]
 | 2=>kpn [1,6,7,16]
 | 3=>kpn [4,5,6]
 | 4=>kpn [4,5,6]
 | _=>[]
def Qy0 (r:Nat):List (Nat×Option Nat):=match r with
 | 0=>[(0,none),(1,none),(4,some 1),(5,some 1)]
 | 1=>[(1,none),(4,some 1),(5,some 1),(6,none),(7,none)]
 | 2=>[(1,none),(4,some 1),(5,some 1),(6,none),(7,none),(17,none)]
 | 3=>[(4,some 1),(5,some 1),(6,none)]
 | 4=>[(1,none),(4,some 1),(5,some 1),(7,none),(19,none),(20,none)]
 | 5=>[(1,none),(4,some 1),(5,some 1),(7,none),(19,none),(20,none),(21,none)]
 | 6=>[(1,none),(4,some 1),(5,some 1),(7,none),(8,none),(19,none),(20,none)]
 | 7=>[(1,none),(4,some 1),(5,some 1),(7,none),(8,none),(19,none),(20,none),(27,none)]
 | 8=>[(1,none),(4,some 1),(5,some 1),(7,none),(8,none),(19,none),(20,none)]
 | 9=>[(1,none),(4,some 1),(5,some 1),(7,none),(8,none),(19,none),(20,none),(36,none)]
 | 10=>[(1,none),(4,some 1),(5,some 1),(7,none),(19,none),(20,none)]
 | 11=>[(1,none),(4,some 1),(5,some 1),(7,none),(19,none),(20,none)]
 | 12=>[(4,some 1),(5,some 1),(6,none)]
 | _=>[]
def QDJ (r:Nat):List (Nat×Option Nat):=match r with
 | 0=>kpn [0,1,4]
 | 1=>kpn [1,4,5,6]
 | 2=>kpn [1,4,5,6,19]
 | 3=>kpn [4,5]
 | 4=>kpn [1,4,6,7,8]
 | 5=>kpn [1,4,6,7,8,31,32,33]
 | 6=>kpn [1,4,6,7,8,31,32,33,34]
 | 7=>kpn [1,4,6,7,8,10,31,32,33]
 | 8=>kpn [1,4,6,7,8,31,32,33]
 | 9=>kpn [1,4,6,7,8,31,32,33]
 | 10=>kpn [4,6,7,8]
 | 11=>kpn [4,5]
 | _=>[]
theorem QgM {f:Nat->Bool} {n:Nat} (h:∀k,n<=k->f k=false):∀m,n<=m->Qc6 f m=Qc6 f n
 | 0,hm=>by rw[show n=0 by omega]
 | m+1,hm=>by
  by_cases e:n=m+1
  .rw[e]
  .rw[QeL (h m (by omega)),QgM h m (by omega)]
theorem QbX {f g:Nat->Bool} :∀{m:Nat},(∀k,k < m->f k=g k)->Qc6 f m=Qc6 g m
 | 0,_=>rfl
 | m+1,h=>by
  have ih:=QbX (m:=m) λk hk=>h k (by omega)
  cases q:g m with
  | true=>rw[Qe5 q,Qe5 ((h m (by omega)).trans q),ih]
  | false=>rw[QeL q,QeL ((h m (by omega)).trans q),ih]
theorem Quh (b:List Bat) (i:Int):QAK b [i]=QbH b i:=by
 unfold QAK QbH;by_cases h:(Q5 b).2.2=0
 .rw[if_neg (by simpa using h),if_pos h]
  unfold QmI;simp only[List.any_cons,List.any_nil,Bool.or_false];cases inR i 0 ((b.length:Int) - 1)<;>simp
 .rw[if_pos h,if_neg h]
def QcC (b:List Bat):Prop:=bkB b=true/\Qdx b/\b.length<=140737488355328
noncomputable instance (b:List Bat):Decidable (QcC b):=Classical.propDecidable _
theorem QyN {b:List Bat} (h:QcC b) (l:List Int) (hl:l.length<=35184372088832):s57 [.sl 5 (b.map QO.enc),.sl 1 (l.map Qt.enc)]=some (QCr b l):=by
 simp only[s57,sp2,QR,QQ];rw[if_pos ⟨h.1,h.2.1,h.2.2,hl⟩]; rfl
theorem Qo9 {b:List Bat} (h:QcC b) (i:Int):s57 [.sl 5 (b.map QO.enc),.sl 1 [[DI i]]]=some (if QbH b i=0 then .tup [.agg (Qdk (hB b) (nB b) noN++[.sl 5 (b.map QO.enc),.sl 1 ((QU b).map Qt.enc)]),DI 0]else .tup [.agg (Qdk (λ_=>0) (λ_=>0) noN++[.sl 0 [],.sl 0 []]),DI (QbH b i)]):=by
 have:=QyN h [i] (by simp)
 change s57 [.sl 5 (b.map QO.enc),.sl 1 [[DI i]]]=_ at this;rw[this,QCr,Quh];rfl
theorem QtJ {b:List Bat} (hv:ValidB b) {i:Nat} (hi:i < b.length):s58 [.agg (Qdk (hB b) (nB b) noN++[.sl 5 (b.map QO.enc),.sl 1 ((QU b).map Qt.enc)]),DI i]=some (.agg ((List.range 8).map λk=>DB (Qdl b i k))):=by
 have hd:(QeC rBx).dec (.agg (Qdk (hB b) (nB b) noN++[.sl 5 (b.map QO.enc),.sl 1 ((QU b).map Qt.enc)]))=some (QdP b):=rBx.de (QdP b);simp only[s58,sp2,hd,Qam];rw[if_pos ⟨hv,rfl,by omega,by show(i:Int) < b.length; omega⟩]; rfl
theorem Qvm {b:List Bat} (hv:ValidB b) {i:Nat} (hi:i < b.length):s60 [.agg (Qdk (hB b) (nB b) noN++[.sl 5 (b.map QO.enc),.sl 1 ((QU b).map Qt.enc)]),DI i]=some (.agg ((List.range 8).map λk=>DB (QmE b i k))):=by
 have hd:(QeC rBx).dec (.agg (Qdk (hB b) (nB b) noN++[.sl 5 (b.map QO.enc),.sl 1 ((QU b).map Qt.enc)]))=some (QdP b):=rBx.de (QdP b);simp only[s60,sp2,hd,Qam];rw[if_pos ⟨hv,rfl,by omega,by show(i:Int) < b.length; omega⟩]; rfl
theorem Qy8 (f:Nat->Bool) (i:Int):s59 [.agg ((List.range 8).map λk=>DB (f k)),DI i]=some (.sl 1 ((Qc6 (QlS f i) 8).map Qt.enc)):=by
 have hd:(QeC Qyv).dec (.agg ((List.range 8).map λk=>DB (f k)))=some (Oct.of f):=Qyv.de (Oct.of f);have e:Qc6 (QlS (Oct.of f).f i) 8=Qc6 (QlS f i) 8:=QbX λk hk=>by unfold QlS; rw[Oct.of_f,if_pos hk]
 simp only[s59,sp2,hd,Qam,e]; rfl
theorem QwU {b:List Bat} (aX:b.length<=8) (i:Nat):Qc6 (QlS (Qdl b i) i) 8=Qc6 (comesM b i) b.length:=by
 rw[QgM (n:=b.length) (λk hk=>by unfold QlS Qdl; rw[decide_eq_false (by omega)]; rfl) 8 aX]
 refine QbX λk hk=>?_;unfold QlS Qdl comesM;rw[decide_eq_true hk,Bool.true_and,Bool.and_comm];congr 1;rw[Bool.eq_iff_iff,bne_iff_ne,bne_iff_ne]; omega
theorem QA7 {b:List Bat} (aX:b.length<=8) (i:Nat):Qc6 (QlS (QmE b i) i) 8=Qc6 (comesY b i) b.length:=by
 rw[QgM (n:=b.length) (λk hk=>by unfold QlS QmE; rw[decide_eq_false (by omega)]; rfl) 8 aX]
 refine QbX λk hk=>?_;unfold QlS QmE comesY;rw[decide_eq_true hk,Bool.true_and,Bool.and_comm];congr 1;rw[Bool.eq_iff_iff,bne_iff_ne,bne_iff_ne]; omega
noncomputable def g19:List (Nat×(List D->Option D)):=[(57,s57),(58,s58),(59,s59),(60,s60)]
theorem dg19:Qay Tryz.prog (Qas g19):=Ql (Ql (Ql (Ql QB QvY QHI) QDM ok59) QtN QH5) QpR QGo
theorem QEX (xs:Array Value) (w:World):(callFunc 19 xs).run Tryz.prog w= .ok (.enter 19 xs) w:=by kernel_rfl
noncomputable def s19:List D->Option D:=sp2 (Qy QO) Qbh (QlK (Qy Qt) (Qy Qt) Qbh) λb i=>if QcC b then some (QeU b i)else none
set_option maxHeartbeats 4000000 in
theorem ok19:∀ds d,s19 ds=some d->PureC Tryz.prog 19 ds d:=QaR λb i r hr=>by
 split at hr
 .rename_i hb;cases hr;refine Qbz (QlK (Qy Qt) (Qy Qt) Qbh) (QeU b i) (QE dg19 28 QHz []) Tryz.func19 rfl rfl (Zb rfl) (by kernel_rfl) ?_
  rw[Tryz.results19];have hz:=QkV [] (λ_ _=>none) (λ_=> .d .top) [] [];simp[-Qa8]at hz;have fX:=Qo9 hb i;unfold QeU;by_cases h:QbH b i=0
  .obtain⟨hv,h0,h1⟩:=(QjN b i).1 h;obtain⟨n,rfl⟩:∃n:Nat,i=n:=⟨i.toNat,by omega⟩
   have aX:=hv.ok.le;have hn:n < b.length:=by omega
   rw[if_pos h]at fX;rw[if_pos h,Int.toNat_natCast];have tQ:=QtJ hv hn;have xM:=Qvm hv hn;have xN:=Qy8 (Qdl b n) n;have xO:=Qy8 (QmE b n) n;rw[QwU aX]at xN;rw[QA7 aX]at xO;simp[-Qb5,-Qa8,Qr,Qs,hz,QC,Qah,Qa3,Q6,Qda,QaA,Qak,Q8,Qe,QHz,g19,fX,tQ,xN,xO,xM,QQ];done
  .have h':(QbH b i != 0)=true:=bne_iff_ne.2 h;rw[if_neg h]at fX;rw[if_neg h];simp[-Qb5,-Qa8,Qs,hz,QC,Qah,Qa3,Q6,Qda,QaA,Qe,QHz,g19,fX,h',Qar];done
 .cases hr
noncomputable def g22:List (Nat×(List D->Option D)):=[(57,s57),(58,s58),(60,s60)]
theorem dg22:Qay Tryz.prog (Qas g22):=Ql (Ql (Ql QB QvY QHI) QtN QH5) QpR QGo
theorem QCN (xs:Array Value) (w:World):(callFunc 22 xs).run Tryz.prog w= .ok (.enter 22 xs) w:=by kernel_rfl
theorem Qyn {b:List Bat} (hv:ValidB b) {n:Nat} :(∀k,n<=k->Qek b n k=false)/\∀k,n<=k->Qep b n k=false:=by
 constructor
 .intro k hk;cases q:Qek b n k with
  | false=>rfl
  | true=>
   unfold Qek at q;simp only[Za,bne_iff_ne]at q;have:=Qzn hv (QxY hv (Qnh.1 q.2));omega
 .intro k hk;cases q:Qep b n k with
  | false=>rfl
  | true=>
   unfold Qep at q;simp only[Za,bne_iff_ne]at q;have:=Qzn hv (Qli.1 q.2);omega
noncomputable def s22:List D->Option D:=sp2 (Qy QO) Qbh (QlK (Qy Qt) (Qy Qt) Qbh) λb i=>if QcC b then some (QgQ b i)else none
set_option maxHeartbeats 4000000 in
theorem ok22:∀ds d,s22 ds=some d->PureC Tryz.prog 22 ds d:=QaR λb i r hr=>by
 split at hr
 .rename_i hb;cases hr;refine Qbz (QlK (Qy Qt) (Qy Qt) Qbh) (QgQ b i) (QE dg22 44 Qy0 []) Tryz.func22 rfl rfl (Zb rfl) (by kernel_rfl) ?_
  rw[Tryz.results22];have hz:=QkV [] (λ_ _=>none) (λ_=> .d .top) [] [];simp[-Qa8]at hz;have fX:=Qo9 hb i;unfold QgQ;by_cases h:QbH b i=0
  .obtain⟨hv,h0,h1⟩:=(QjN b i).1 h;obtain⟨n,rfl⟩:∃n:Nat,i=n:=⟨i.toNat,by omega⟩
   have aX:=hv.ok.le;have hn:n < b.length:=by omega
   have oY:n < 8:=by omega
   have j9:(n:Int) < 8:=by omega
   rw[if_pos h]at fX;rw[if_pos h,Int.toNat_natCast];have hx:=Qyn hv (n:=n);rw[QgM hx.1 b.length (by omega),QgM hx.2 b.length (by omega)]
   have tQ:∀k,k < n->_:=λk hk=>QtJ hv (i:=k) (by omega)
   have xM:∀k,k < n->_:=λk hk=>Qvm hv (i:=k) (by omega)
   simp[-Qb5,-Qa8,Qs,hz,QC,Qah,Qa3,Q6,Qda,QaA,Qe,Qy0,g22,fX]
   (generalize aC:Cx.loop _ _ _=aE; apply Qi aC (λk=>⟨[(1,.d (DI n)),(4,.sl 1 ((Qc6 (Qek b n) k).map Qt.enc) (.tok 4)),(5,.sl 1 ((Qc6 (Qep b n) k).map Qt.enc) (.tok 5)),(7,.loc 7 0),(19,.d (DI n)),(20,.d (DI k))],[(7,c87 (hB b) (nB b) noN (.d (.sl 5 (b.map QO.enc))) (.d (.sl 1 ((QU b).map Qt.enc))))],[5,4],[]⟩) n (by first | (simp; done) | (simp; rfl) | (simp; simp[*])); rotate_left; (show _ < 281474976710656; omega); rfl; rotate_left; all_goals clear aC)
   .intro k hk;have bB:(k:Int) < n:=by omega
    have w1:=Qa ((k:Int)+1) (by omega) (by omega)
    have l1:=Qlu (Qek b n) k;have l2:=Qlu (Qep b n) k;have a1:(Qc6 (Qek b n) k).length+1<=140737488355328:=by omega
    have a2:((Qc6 (Qek b n) k).length+1)*8<=140737488355328:=by omega
    have a3:(Qc6 (Qep b n) k).length+1<=140737488355328:=by omega
    have a4:((Qc6 (Qep b n) k).length+1)*8<=140737488355328:=by omega
    have oZ:=tQ k hk;have o0:=xM k hk;have ne:(k != n)=true:=by simp; omega
    have e1:Qek b n k=Qdl b k n:=by unfold Qek Qdl; rw[ne,decide_eq_true hn]
    have e2:Qep b n k=QmE b k n:=by unfold Qep QmE; rw[ne,decide_eq_true hn]
    cases c1:Qdl b k n with
    | true=>
     rw[Qe5 (e1.trans c1)];cases c2:QmE b k n with
     | true=>
      rw[Qe5 (e2.trans c2)];simp[-Qb5,-Qa8,Qr,Qs,QC,Qah,Qa3,Qak,Q8,Qc,Qy0,bB,oY,j9,w1,oZ,o0,c1,c2,a1,a2,a3,a4];done
     | false=>
      rw[QeL (e2.trans c2)];simp[-Qb5,-Qa8,Qr,Qs,QC,Qah,Qa3,Qak,Q8,Qc,Qy0,bB,oY,j9,w1,oZ,o0,c1,c2,a1,a2];done
    | false=>
     rw[QeL (e1.trans c1)];cases c2:QmE b k n with
     | true=>
      rw[Qe5 (e2.trans c2)];simp[-Qb5,-Qa8,Qr,Qs,QC,Qah,Qa3,Qak,Q8,Qc,Qy0,bB,oY,j9,w1,oZ,o0,c1,c2,a3,a4];done
     | false=>
      rw[QeL (e2.trans c2)];simp[-Qb5,-Qa8,Qr,Qs,QC,Qah,Qa3,Qak,Q8,Qy0,bB,oY,j9,w1,oZ,o0,c1,c2];done
   .simp[-Qb5,-Qa8,Qah,Qa3,Qy0,QQ];done
  .have h':(QbH b i != 0)=true:=bne_iff_ne.2 h;rw[if_neg h]at fX;rw[if_neg h];simp[-Qb5,-Qa8,Qs,hz,QC,Qah,Qa3,Q6,Qda,QaA,Qe,Qy0,g22,fX,h',Qar];done
 .cases hr
noncomputable def g25:List (Nat×(List D->Option D)):=[(57,s57),(65,s65)]
theorem dg25:Qay Tryz.prog (Qas g25):=Ql (Ql QB Qy7 ok65) QpR QGo
theorem QDp (xs:Array Value) (w:World):(callFunc 25 xs).run Tryz.prog w= .ok (.enter 25 xs) w:=by kernel_rfl
theorem Qqe (f:Nat->Int) (n:Nat):∀m,QY m (λt=>if n < t then f t else 0)=QY (m - (n+1)) (λt=>f (n+1+t))
 | 0=>by rw[show 0 - (n+1)=0 by omega]; rfl
 | m+1=>by
  rw[QY,Qqe f n m];by_cases h:n < m
  .rw[if_pos h,show m+1 - (n+1)=(m - (n+1))+1 by omega,QY,show n+1+(m - (n+1))=m by omega]
  .rw[if_neg h,show m+1 - (n+1)=0 by omega,show m - (n+1)=0 by omega]; rfl
theorem QC9 (f:Nat->Int):QY 0 f=0:=rfl
theorem Qy9 (n:Nat) (f:Nat->Int):QY (n+1) f=QY n f+f n:=rfl
attribute [local simp] QC9
theorem Quf {f:Nat->Int} {m:Int} (h:∀x,0<=f x/\f x<=m):∀n,0<=QY n f/\QY n f<=m*(n:Int)
 | 0=>by simp
 | n+1=>by
  have ih:=Quf h n;have:=h n;rw[Qy9];have e:m*((n+1:Nat):Int)=m*(n:Int)+m:=by rw[Int.natCast_add,Int.mul_add]; simp
  omega
theorem QFm {b:List Bat} (hv:ValidB b) {n:Nat} (hn:n < b.length):s65 [.agg ((List.range 80).map (Qbi (Q2 (hB b) n 0) (nB b) noN))]=some (DI (QpT (Qaa b) n)):=by
 have aX:=hv.ok.le;obtain⟨b1,b2⟩:=QCe hv;obtain⟨b3,b4⟩:=hB_8 aX;have e1:(Sup.of (Q2 (hB b) n 0) (nB b) noN).h=Q2 (hB b) n 0:=by
  funext x; rw[QA5]; split
  .rfl
  .rw[Q3 _ _ (by omega),b3 x (by omega)]
 have e2:(Sup.of (Q2 (hB b) n 0) (nB b) noN).n=nB b:=by
  funext x; rw[Qzw]; split
  .rfl
  .rw[b4 x (by omega)]
 have e3:(Sup.of (Q2 (hB b) n 0) (nB b) noN).v=noN:=by
  funext x t; rw[Qzy]; split<;>rfl
 have hd:(QeC QqI).dec (.agg ((List.range 80).map (Qbi (Q2 (hB b) n 0) (nB b) noN)))=some (Sup.of (Q2 (hB b) n 0) (nB b) noN):=Qlp _ _ _;simp only[s65,sp1,hd];rw[if_pos,e1,e2,e3]
 .rfl
 .refine⟨λx=>?_,λt=>?_⟩
  .rw[e1];unfold Q2;have:=b1 x;split<;>omega
  .rw[e2];have:=b2 t; omega
noncomputable def s25:List D->Option D:=sp2 (Qy QO) Qbh (Qex (QeC QGL) Qbh) λb i=>if QcC b then some (Qo4 b i)else none
set_option maxHeartbeats 4000000 in
theorem ok25:∀ds d,s25 ds=some d->PureC Tryz.prog 25 ds d:=QaR λb i r hr=>by
 split at hr
 .rename_i hb;cases hr;refine Qm (QE dg25 55 QDJ []) Tryz.func25 rfl rfl (Zb rfl) (by kernel_rfl) ?_
  rw[Tryz.results25];have hz:=QkV [] (λ_ _=>none) (λ_=> .d .top) [] [];simp[-Qa8]at hz;have fX:=Qo9 hb i;unfold Qo4;by_cases h:QbH b i=0
  .obtain⟨hv,h0,h1⟩:=(QjN b i).1 h;obtain⟨n,rfl⟩:∃n:Nat,i=n:=⟨i.toNat,by omega⟩
   have aX:=hv.ok.le;have hn:n < b.length:=by omega
   have oY:n < 8:=by omega
   have j9:(n:Int) < 8:=by omega
   rw[if_pos h]at fX;rw[if_pos h,Int.toNat_natCast];obtain⟨b1,b2⟩:=QCe hv;have w1:=Qa ((n:Int)+1) (by omega) (by omega)
   have q1:(0:Int)<=(n:Int)+1:=by omega
   have q2:(n:Int)+1<=8:=by omega
   obtain⟨O,hif,hO⟩:∃O:Nat,(if(n:Int)+1 < 8 then 8+(n+1)else 8)=O/\(n < 7->O=8+(n+1)):=⟨_,rfl,λh=>if_pos (by omega)⟩
   have wR:=λq=>Quf (f:=λt=>nB b (n+1+t)) (λt=>b2 (n+1+t)) q;have haf:QY (7 - n) (λt=>nB b (n+1+t))=QfK (Qaa b) n:=by
    rw[show 7 - n=8 - (n+1) by omega]; exact(Qqe (nB b) n 8).symm
   simp[-Qb5,-Qa8,Qr,Qs,QH,QG,hz,QC,Qah,Qa3,Q6,Qda,QaA,Qe,QDJ,g25,fX,oY,j9,QsP,w1,q1,q2,hif]
   (generalize aC:Cx.loop _ _ _=aE; apply Qi aC (λq=>⟨[(1,.d (DI n)),(4,.loc 4 0),(6,.loc 6 0),(7,.d (DI (hB b n))),(8,.d (DI (QY q (λt=>nB b (n+1+t))))),(31,.bs 6 O (7 - n) 1),(32,.d (DI ((7 - n:Nat):Int))),(33,.d (DI q))],[(4,[.d (DI 0),.d (DI 0)]),(6,c87 (hB b) (nB b) noN (.d (.sl 5 (b.map QO.enc))) (.d (.sl 1 ((QU b).map Qt.enc))))],[],[]⟩) (7 - n) (by first | (simp; done) | (simp; rfl) | (simp; simp[*])); rotate_left; (show _ < 281474976710656; omega); rfl; rotate_left; all_goals clear aC)
   .intro q hq;have eX:(q:Int) < ((7 - n:Nat):Int):=by omega
    have hO':=hO (by omega)
    subst hO';have w2:=Qa ((q:Int)+1) (by omega) (by omega)
    have lU:=wR q;have eR:=b2 (n+1+q);have w3:=Qa (QY q (λt=>nB b (n+1+t))+nB b (n+1+q)) (by omega) (by omega)
    have hix:8+(n+1)+q=8+(n+1+q):=by omega
    have hi8:n+1+q < 8:=by omega
    have hi9:8+(n+1+q) < 82:=by omega
    have hi10:8+(n+1+q)+1<=82:=by omega
    rw[Qy9];simp[-Qb5,-Qa8,QC,Qah,Qa3,QDJ,eX,w2,w3,hix,hi8,hi9,Qq5];done
   .have hsb7:=wR (7 - n);rw[haf]at hsb7|-;have hk:hB b n=QfE b n:=QmQ hn;have eD:=b1 n;have kW:=QE3 hv hn;have y9:=QFm hv hn;have hn81:n<=81:=by omega
    have w4:=Qa (hB b n - QfK (Qaa b) n) (by omega) (by omega)
    have w5:=Qa (hB b n - QpT (Qaa b) n) (by omega) (by omega)
    simp[-Qb5,-Qa8,Qr,QH,QG,QC,Qah,Qa3,Qx,Qcn,QDJ,oY,j9,hn81,Qqh,y9,w4,w5,Qii,Qj7];refine⟨?_,hk⟩;rw[<-hk]; split<;>omega
  .have h':(QbH b i != 0)=true:=bne_iff_ne.2 h;rw[if_neg h]at fX;rw[if_neg h];simp[-Qb5,-Qa8,Qs,hz,QC,Qah,Qa3,Q6,Qda,QaA,Qe,QDJ,g25,fX,h',Qii];done
 .cases hr
end Go.Proofs.YtnfeakhkfehkhaaGreatDoor
