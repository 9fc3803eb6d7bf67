/-
  TraceAll: what all truths say, one after the other. Conditions: none.
-/
import Derived.Test.YtnfeakhkfehkhaaGreatDoorZAllA
import Derived.Test.YtnfeakhkfehkhaaGreatDoorZLaw8
set_option linter.unusedSimpArgs false
set_option linter.unusedVariables false
namespace Go.Proofs.YtnfeakhkfehkhaaGreatDoor
open Go.RowKit
def kp9 (r:Nat):List (Nat×Option Nat):=match r with
 | 0=>kpn [0,1]
 | 1=>kpn [0,1,27]
 | 2=>[(4,none)]
 | 3=>kpn [0,1,5,6]
 | 4=>kpn [0,1,5,6,7]
 | 5=>kpn [0,1,5,6,7,35]
 | 6=>kpn [0,1,5,6,7]
 | 7=>kpn [0,1,5,6,7]
 | 8=>kpn [0,6,8]
 | 9=>kpn [0,6,8,9,10,11]
 | 10=>kpn [0,6,8,9,10,11,12,13]
 | 11=>kpn [0,6,8,9,10,12,68]
 | 12=>[(4,none)]
 | 13=>kpn [0,8,9,10,12,70]
 | 14=>[(4,none)]
 | 15=>kpn [0,8,9,10,12,14]
 | 16=>kpn [0,8,9,10,12,14,15,16]
 | 17=>kpn [0,8,9,10,12,14,15,16,17,18]
 | 18=>kpn [0,8,9,10,12,14,15,16,17,18,19]
 | 19=>kpn [0,8,9,10,12,14,15,16,17,18,19,83]
 | 20=>kpn [0,8,9,10,12,14,15,16,17,18,19]
 | 21=>kpn [0,8,9,10,12,14,15,16,17,18,19]
 | 22=>kpn [0,8,9,10,12,14,15,16,17,18,20]
 | 23=>kpn [0,8,9,10,12,14,15,16,17,18,20,92]
 | 24=>kpn [0,8,9,10,12,14,15,16,17,18,20]
 | 25=>kpn [0,8,9,10,12,14,15,16,17,18,20,21]
 | 26=>kpn [0,8,9,10,12,14,15,16,17,18,20,21,22]
 | 27=>kpn [0,8,9,10,12,14,15,16,17,18,20,21,22,104]
 | 28=>kpn [0,8,9,10,12,14,15,16,17,18,20,21,22]
 | 29=>kpn [0,8,9,10,12,14,15,16,17,18,20,21,22]
 | 30=>kpn [0,8,9,10,12,14,15,16,17,18,20,23]
 | 31=>kpn [0,8,9,10,12,14,15,16,17,18,20]
 | 32=>kpn [0,8,9,10,12,14,15,16,17,18,24]
 | 33=>kpn [0,8,9,10,12,14,15,16,17,18,24,150]
 | 34=>kpn [0,8,9,10,12,14,15,16,17,18,24]
 | 35=>kpn [0,8,9,10,12,14,15,16,17,18,24,175]
 | 36=>[(4,none)]
 | 37=>[(4,none)]
 | _=>[]
theorem QQC (V R:Nat->Bool) (k:Nat) (v:Bool) (h:v=(V k&&R k)):Q2 (λt=>DB (if t < k then(V t&&R t)else V t)) k (DB v)=λt=>DB (if t < k+1 then(V t&&R t)else V t):=by
 funext t;unfold Q2;by_cases e:t=k
 .subst e; rw[if_pos rfl,if_pos (by omega),h]
 .rw[if_neg e];dsimp only;by_cases q:t < k
  .rw[if_pos q,if_pos (by omega)]
  .rw[if_neg q,if_neg (by omega)]
theorem QP4 (V R:Nat->Bool) (k:Nat) (v:Bool) (h:v=(V k||R k)):Q2 (λt=>DB (if t < k then(V t||R t)else V t)) k (DB v)=λt=>DB (if t < k+1 then(V t||R t)else V t):=by
 funext t;unfold Q2;by_cases e:t=k
 .subst e; rw[if_pos rfl,if_pos (by omega),h]
 .rw[if_neg e];dsimp only;by_cases q:t < k
  .rw[if_pos q,if_pos (by omega)]
  .rw[if_neg q,if_neg (by omega)]
theorem QRo (k:Nat):Q2 (λt=>DB (decide (t < k))) k (DB true)=λt=>DB (decide (t < k+1)):=by
 funext t;unfold Q2;by_cases e:t=k
 .subst e; rw[if_pos rfl,decide_eq_true (by omega)]
 .rw[if_neg e];have:decide (t < k)=decide (t < k+1):=by rw[decide_eq_decide]; omega
  show DB _=DB _;rw[this]
def QPQ (f:Nat->Int):Nat->Int
 | 0=>0
 | n+1=>max (QPQ f n) (f n)
def QPI (f:Nat->Int):Nat->Int
 | 0=>100000
 | n+1=>min (QPI f n) (f n)
theorem QQw {f:Nat->Int} {M:Int} (h0:0<=M):∀{n:Nat},(∀k,k < n->f k<=M)->QPQ f n<=M
 | 0,_=>h0
 | n+1,h=>by
  have h1:=QQw (n:=n) h0 λk hk=>h k (by omega)
  have h2:=h n (by omega)
  rw[QPQ]; omega
theorem QQB {f:Nat->Int} {k:Nat} :∀{n:Nat},k < n->f k<=QPQ f n
 | n+1,h=>by
  rw[QPQ];by_cases e:k=n
  .subst e; omega
  .have:=QQB (f:=f) (show k < n by omega); omega
theorem QQb {f:Nat->Int} {M:Int} (h0:M<=100000):∀{n:Nat},(∀k,k < n->M<=f k)->M<=QPI f n
 | 0,_=>h0
 | n+1,h=>by
  have h1:=QQb (n:=n) h0 λk hk=>h k (by omega)
  have h2:=h n (by omega)
  rw[QPI]; omega
theorem QP9 {f:Nat->Int} {k:Nat} :∀{n:Nat},k < n->QPI f n<=f k
 | n+1,h=>by
  rw[QPI];by_cases e:k=n
  .subst e; omega
  .have:=QP9 (f:=f) (show k < n by omega); omega
def evN (L:List (List Bat)) (i N n t:Nat):Bool:=(L.take n).all λT=>Qao T i [] N t
def smN (L:List (List Bat)) (i N n t:Nat):Bool:=(L.take n).any λT=>Qao T i [] N t
theorem QRa {L:List (List Bat)} {i N n:Nat} (h:n < L.length) (t:Nat):evN L i N (n+1) t=(evN L i N n t&&Qao L[n] i [] N t):=by
 unfold evN;rw[List.take_succ_eq_append_getElem h,List.all_append]; simp
theorem QQ1 {L:List (List Bat)} {i N n:Nat} (h:n < L.length) (t:Nat):smN L i N (n+1) t=(smN L i N n t||Qao L[n] i [] N t):=by
 unfold smN;rw[List.take_succ_eq_append_getElem h,List.any_append]; simp
theorem QRs {b:List Bat} (h:ValidB b) {L:List (List Bat)} (hL:∀T,T∈L↔∃g,Tru (Qaa b) g/\T=QLx b g) {i k:Nat} (hk:k < b.length):evN L i b.length L.length k=Qgj b i k:=by
 unfold evN;rw[List.take_length,Bool.eq_iff_iff,Zl,Qnh];constructor
 .intro h1 g hg;exact(QL5 h hg hk).1 (h1 _ ((hL _).2 ⟨g,hg,rfl⟩))
 .intro h1 T hT;obtain⟨g,hg,rfl⟩:=(hL T).1 hT;exact(QL5 h hg hk).2 (h1 g hg)
theorem QRz {b:List Bat} (h:ValidB b) {L:List (List Bat)} (hL:∀T,T∈L↔∃g,Tru (Qaa b) g/\T=QLx b g) {i k:Nat} (hk:k < b.length):smN L i b.length L.length k=QoL b i k:=by
 unfold smN;rw[List.take_length,Bool.eq_iff_iff,Zy,Qli];constructor
 .rintro⟨T,hT,h1⟩;obtain⟨g,hg,rfl⟩:=(hL T).1 hT;exact⟨g,hg,(QL5 h hg hk).1 h1⟩
 .rintro⟨g,hg,h1⟩;exact⟨_,(hL _).2 ⟨g,hg,rfl⟩,(QL5 h hg hk).2 h1⟩
def QPD (L:List (List Bat)) (i n:Nat):Int:=QfE (L.getD n []) i
theorem QQ9 {b:List Bat} (h:ValidB b) {L:List (List Bat)} (hL:∀T,T∈L↔∃g,Tru (Qaa b) g/\T=QLx b g) {i:Nat} (hi:i < b.length):QPQ (QPD L i) L.length=(Qj7 b i).hi/\QPI (QPD L i) L.length=(Qj7 b i).lo/\0 < L.length:=by
 have lG:∀k,k < L.length->(Qj7 b i).lo<=QPD L i k/\QPD L i k<=(Qj7 b i).hi/\0<=QPD L i k/\QPD L i k<=100000:=λk hk=>by
  obtain⟨g,hg,e⟩:=(hL L[k]).1 (Ze hk);have h1:=QNt h hg hi;have h2:QPD L i k=Qxl (Qaa b) g i:=by unfold QPD; rw[Qj _ _ _ hk,e,QNg h hg hi]
  have hV:=QMQ h hg;have h3:=hV.kept i (by rw[QMM]; exact hi)
  have h4:=(Qqm hV.ok (show i < (QLx b g).length by rw[QMM]; exact hi)).2
  rw[QNg h hg hi,<-h2]at h3 h4;rw[h2]at h3 h4|-;exact⟨h1.1,h1.2,h3,h4⟩
 have bW:∀g,Tru (Qaa b) g->∃k,k < L.length/\QPD L i k=Qxl (Qaa b) g i:=λg hg=>by
  obtain⟨k,hk,e⟩:=List.getElem_of_mem ((hL _).2 ⟨g,hg,rfl⟩);exact⟨k,hk,by unfold QPD; rw[Qj _ _ _ hk,e,QNg h hg hi]⟩
 obtain⟨⟨g1,t1,e1⟩,⟨g2,t2,e2⟩⟩:=Quk h hi;obtain⟨k1,rF,f1⟩:=bW g1 t1;obtain⟨k2,hk2,f2⟩:=bW g2 t2;have q1:=lG k1 rF;have q2:=lG k2 hk2;have m1:=QQw (f:=QPD L i) (M:=(Qj7 b i).hi) (by omega) (n:=L.length) λk hk=>(lG k hk).2.1
 have m2:=QQB (f:=QPD L i) hk2;have m3:=QQb (f:=QPD L i) (M:=(Qj7 b i).lo) (by omega) (n:=L.length) λk hk=>(lG k hk).1
 have m4:=QP9 (f:=QPD L i) rF;exact⟨by omega,by omega,by omega⟩
theorem QRB {b:List Bat} (h:BookOk b):s41 [.sl 5 (b.map QO.enc)]=some (.agg [.sl 1 ((QI b).map Qt.enc),.sl 1 ((QV b).map Qt.enc),.sl 2 []]):=by
 simp only[s41,sp1,QR];rw[if_pos h]; rfl
noncomputable def QPL:List (Nat×(List D->Option D)):=(42,s42 3)::(41,s41)::(38,s38)::(40,s40)::QMG
theorem QRA:Qay Tryz.prog (Qas QPL):=Ql (Ql (Ql (Ql QN8 Qzm QRE) QDU QRN) QtI QRK) QRf (ok42 3)
noncomputable def s9:List D->Option D:=sp2 (Qy QO) (cK .u8) QaI λb w=>if QcC b/\QLK w then some true else none
set_option maxHeartbeats 16000000 in
theorem ok9:∀ds d,s9 ds=some d->PureC Tryz.prog 9 ds d:=QaR λb w r hr=>by
 split at hr
 .rename_i hc;obtain⟨hs,hw⟩:=hc;cases hr;refine Qm (QE QRA 189 kp9 []) Tryz.func9 rfl rfl (Zb rfl) (by kernel_rfl) ?_
  rw[Tryz.results9];have zO:=QNl hs;cases hv:QLq b with
  | false=>
   rw[hv]at zO;simp[kp9,QPL,QMG,QGa,s24,Qe,zO]
  | true=>
   rw[hv]at zO;obtain⟨hV,h8,h1,hask⟩:=QLJ hv;have aQ:=hV.ok;obtain⟨i,dC,ti,wa,wi⟩:=QML hw (n:=b.length) (by omega) (by omega)
   have zN:(i:Int) < b.length:=by omega
   have m7:¬(b.length:Int)=0:=by omega
   have hn0':¬b=[]:=λe=>by rw[e]at h1; exact absurd h1 (by decide)
   have e41:=QRB aQ;have hnl:=QS b;have aS:∀k (h:k < (QV b).length),(QV b)[k]=QfA b k:=λk h=>by simp[QV]
   have d7:∀k,k<=b.length->0<=QY k (QfA b)/\QY k (QfA b)<=100000*k:=λk _=>QMU (λj=>QqM aQ j) k;have e19:=QyR hs i;have xZ:=QCO hs i;rw[QM3 hv dC]at e19;rw[QNK hv dC]at xZ;have s0:QY 0 (QfA b)=0:=rfl;have l1:(Qc6 (comesM b i) b.length).length < 1000000:=Nat.lt_of_le_of_lt (Qlu _ _) (by omega)
   have l2:(Qc6 (comesY b i) b.length).length < 1000000:=Nat.lt_of_le_of_lt (Qlu _ _) (by omega)
   have f1:∀k,k < b.length->s39 [.sl 1 ((Qc6 (comesM b i) b.length).map Qt.enc),DI k]=some (DB (comesM b i k)):=λk hk=>by
    rw[QNn l1 k,QMw,decide_eq_true hk,Bool.true_and]
   have f2:∀k,k < b.length->s39 [.sl 1 ((Qc6 (comesY b i) b.length).map Qt.enc),DI k]=some (DB (comesY b i k)):=λk hk=>by
    rw[QNn l2 k,QMw,decide_eq_true hk,Bool.true_and]
   generalize Qc6 (comesM b i) b.length=L1 at*;generalize Qc6 (comesY b i) b.length=L2 at*;obtain⟨slo,hslo⟩:∃x,x=(Qj7 b i).lo:=⟨_,rfl⟩;obtain⟨shi,hshi⟩:∃x,x=(Qj7 b i).hi:=⟨_,rfl⟩;have hlv:Qj7 b i=⟨slo,shi⟩:=by rw[hslo,hshi]
   rw[hlv]at xZ;simp[kp9,QPL,QMG,QGa,s24,Qe,zO,e41]
   (generalize aC:Cx.loop _ _ _=aE; apply Qi aC (λk=>⟨[(0,.d (.sl 5 (b.map QO.enc))),(1,.d (.v (.int .u8 w))),(5,.loc 5 0),(6,.d (DI (QY k (QfA b)))),(7,.d (DI k))],[(5,[.d (.sl 1 ((QI b).map Qt.enc)),.d (.sl 1 ((QV b).map Qt.enc)),.d (.sl 2 [])])],[],[]⟩) b.length (by first | (simp; done) | (simp; rfl) | (simp; simp[*])); rotate_left; (show _ < 281474976710656; omega); rfl; rotate_left; all_goals clear aC)
   .intro k hk;have eQ:(k:Int) < b.length:=by omega
    have sK:k < (QV b).length:=by omega
    have w1:=Qa ((k:Int)+1) (by omega) (by omega)
    have b1:=d7 k (by omega)
    have b2:=d7 (k+1) (by omega)
    have q:QY (k+1) (QfA b)=QY k (QfA b)+QfA b k:=rfl;have w2:IntKind.i64.wrap (QY k (QfA b)+QfA b k)=QY (k+1) (QfA b):=by rw[<-q]; exact Qa _ (by omega) (by omega)
    simp[kp9,Qc,hnl,aS,hk,eQ,w1,w2]
   .simp[kp9,Qii,hnl,ti,wa,hn0',e19,xZ];by_cases wA:6 < QY b.length (QfA b)
    .simp[kp9,wA]
    .have hA:QQI 3 b:=⟨aQ,hV.kept,by have:=hV.lost; simpa[QU]using this,by omega⟩
     have e42:=QRg hA;have hL:=QQ6 3 aQ hV.kept hA.2.2.1;have aI:(QPP 3 b).length<=4398046511104:=Nat.le_trans (QP6 3 aQ hV.kept) (Nat.le_trans (Nat.pow_le_pow_right (by omega) (show _<=6 by omega)) (by decide))
     generalize QPP 3 b=L at*;have hT:∀n (h:n < L.length),BookOk L[n]/\L[n].length=b.length/\0<=QfE L[n] i/\QfE L[n] i<=100000:=λn h=>by
      obtain⟨g,hg,e⟩:=(hL L[n]).1 (Ze h);have hV2:=QMQ hV hg;have uH:=QMM b g;rw[<-e]at hV2 uH;exact⟨hV2.ok,uH,hV2.kept i (by omega),(Qqm hV2.ok (by omega)).2⟩
     obtain⟨m1,m2,m3⟩:=QQ9 hV hL dC;rw[<-hshi]at m1;rw[<-hslo]at m2;have hEv:∀k,k < b.length->evN L i b.length L.length k=Qgj b i k:=λk hk=>QRs hV hL hk;have hSm:∀k,k < b.length->smN L i b.length L.length k=QoL b i k:=λk hk=>QRz hV hL hk;have fV:b.length<=140737488355328:=by omega
     have hb8I:(b.length:Int)<=140737488355328:=by omega
     clear hL hlv hslo hshi;simp[kp9,wA,e42,QHN,Qaf,Qz,hb8I];have z0:QPw b.length (λ_=>DB false)=QPw b.length (λt=>DB (decide (t < 0))):=by simp
     have z1:∀f:Nat->Int,QPQ f 0=0:=λ_=>rfl;have z2:∀f:Nat->Int,QPI f 0=100000:=λ_=>rfl
     (generalize aC:Cx.loop _ _ _=aE; apply Qi aC (λk=>⟨[(0,.d (.sl 5 (b.map QO.enc))),(8,.d (DI i)),(9,.d (.sl 1 (L1.map Qt.enc))),(10,.d (.sl 1 (L2.map Qt.enc))),(12,.loc 12 0),(14,.d (.sl 1 (L.map rBk.enc))),(15,.d (DI 0)),(16,.d (DI 100000)),(17,.bs 76 0 b.length 1),(18,.bs 79 0 b.length 1),(19,.d (DI k))],[(12,[.d (DI slo),.d (DI shi)]),(76,QPw b.length (λt=>DB (decide (t < k)))),(79,QPw b.length (λ_=>DB false))],[],[]⟩) b.length (by first | (simp; done) | (simp; rfl) | (simp; simp[*])); rotate_left; (show _ < 281474976710656; omega); rfl; rotate_left; all_goals clear aC)
     .intro k hk;have eQ:(k:Int) < b.length:=by omega
      have rF:k+1<=b.length:=hk;have w1:=Qa ((k:Int)+1) (by omega) (by omega)
      have u1:=QRo k;simp[kp9,Qaf,Qz,Qb,Qp,hk,eQ,rF,w1,u1]
     .simp[kp9,Qaf,Qz];have z3:QPw b.length (λt=>DB (decide (t < b.length)))=QPw b.length (λt=>DB (evN L i b.length 0 t)):=Qdp λt ht=>by rw[decide_eq_true ht]; rfl
      have z4:QPw b.length (λ_=>DB false)=QPw b.length (λt=>DB (smN L i b.length 0 t)):=rfl;rw[z3,z4]
      (generalize aC:Cx.loop _ _ _=aE; apply Qi aC (λn=>⟨[(0,.d (.sl 5 (b.map QO.enc))),(8,.d (DI i)),(9,.d (.sl 1 (L1.map Qt.enc))),(10,.d (.sl 1 (L2.map Qt.enc))),(12,.loc 12 0),(14,.d (.sl 1 (L.map rBk.enc))),(15,.d (DI (QPQ (QPD L i) n))),(16,.d (DI (QPI (QPD L i) n))),(17,.bs 76 0 b.length 1),(18,.bs 79 0 b.length 1),(20,.d (DI n))],[(12,[.d (DI slo),.d (DI shi)]),(76,QPw b.length (λt=>DB (evN L i b.length n t))),(79,QPw b.length (λt=>DB (smN L i b.length n t)))],[],[]⟩) L.length (by first | (simp; done) | (simp; rfl) | (simp; simp[*])); rotate_left; (show _ < 281474976710656; omega); rfl; rotate_left; all_goals clear aC)
      .intro n hn;have hnI:(n:Int) < L.length:=by omega
       have wn:=Qa ((n:Int)+1) (by omega) (by omega)
       obtain⟨t1,t2,t3,t4⟩:=hT n hn;have e38:=QNP t1 (i:=i) (by omega)
       have e40:=QNV t1;rw[t2]at e38;have dU:(λt=>DB (evN L i b.length (n+1) t))=λt=>DB (evN L i b.length n t&&Qao L[n] i [] b.length t):=by funext t; rw[QRa hn]
       have hx2:(λt=>DB (smN L i b.length (n+1) t))=λt=>DB (smN L i b.length n t||Qao L[n] i [] b.length t):=by funext t; rw[QQ1 hn]
       rw[dU,hx2];have bB:(QI L[n]).length=b.length:=by rw[QN,t2]
       have hke:∀k (h:k < (QI L[n]).length),(QI L[n])[k]=QfE L[n] k:=λk h=>by simp[QI]
       have rQ:QPD L i n=QfE L[n] i:=by unfold QPD; rw[Qj _ _ _ hn]
       have tR:((List.range b.length).map (Qao L[n] i [] b.length)).length=b.length:=by simp
       have hBe:∀k (h:k < ((List.range b.length).map (Qao L[n] i [] b.length)).length),((List.range b.length).map (Qao L[n] i [] b.length))[k]=Qao L[n] i [] b.length k:=λk h=>by simp
       have hmx:(if QPQ (QPD L i) n < QfE L[n] i then QfE L[n] i else QPQ (QPD L i) n)=QPQ (QPD L i) (n+1):=by rw[QPQ,rQ]; split<;>omega
       have hmi:(if QfE L[n] i < QPI (QPD L i) n then QfE L[n] i else QPI (QPD L i) n)=QPI (QPD L i) (n+1):=by rw[QPI,rQ]; split<;>omega
       generalize(List.range b.length).map (Qao L[n] i [] b.length)=BL at*;generalize Qao L[n] i [] b.length=R at*;generalize evN L i b.length n=V at*;generalize smN L i b.length n=W at*;simp[kp9,Qaf,Qz,QQW,hn,hnI,e38]
       (generalize aC:Cx.loop _ _ _=aE; apply Qi aC (λk=>⟨[(0,.d (.sl 5 (b.map QO.enc))),(8,.d (DI i)),(9,.d (.sl 1 (L1.map Qt.enc))),(10,.d (.sl 1 (L2.map Qt.enc))),(12,.loc 12 0),(14,.d (.sl 1 (L.map rBk.enc))),(15,.d (DI (QPQ (QPD L i) n))),(16,.d (DI (QPI (QPD L i) n))),(17,.bs 76 0 b.length 1),(18,.bs 79 0 b.length 1),(20,.d (DI n)),(21,.d (.sl 1 (BL.map rBl.enc))),(22,.d (DI k))],[(12,[.d (DI slo),.d (DI shi)]),(76,QPw b.length (λt=>DB (if t < k then(V t&&R t)else V t))),(79,QPw b.length (λt=>DB (if t < k then(W t||R t)else W t)))],[],[]⟩) b.length (by first | (simp; done) | (simp; rfl) | (simp; simp[*])); rotate_left; (show _ < 281474976710656; omega); rfl; rotate_left; all_goals clear aC)
       .intro k hk;have eQ:(k:Int) < b.length:=by omega
        have rF:k+1<=b.length:=hk;have hkB:k < BL.length:=by omega
        have sZ:(k:Int) < (BL.length:Int):=by omega
        have w1:=Qa ((k:Int)+1) (by omega) (by omega)
        cases hVk:V k with
        | true=>
         have u1:=QQC V R k (R k) (by rw[hVk]; simp)
         cases hWk:W k with
         | true=>
          have u2:=QP4 W R k true (by rw[hWk]; simp)
          simp[kp9,Qaf,Qz,Qb,Qf,Qp,QpG,hk,eQ,rF,hkB,sZ,hBe,w1,hVk,hWk,u1,u2]
         | false=>
          have u2:=QP4 W R k (R k) (by rw[hWk]; simp)
          simp[kp9,Qaf,Qz,Qb,Qf,Qp,QpG,hk,eQ,rF,hkB,sZ,hBe,w1,hVk,hWk,u1,u2]
        | false=>
         have u1:=QQC V R k false (by rw[hVk]; simp)
         cases hWk:W k with
         | true=>
          have u2:=QP4 W R k true (by rw[hWk]; simp)
          simp[kp9,Qaf,Qz,Qb,Qf,Qp,hk,eQ,rF,w1,hVk,hWk,u1,u2]
         | false=>
          have u2:=QP4 W R k (R k) (by rw[hWk]; simp)
          simp[kp9,Qaf,Qz,Qb,Qf,Qp,QpG,hk,eQ,rF,hkB,sZ,hBe,w1,hVk,hWk,u1,u2]
       .have y1:QPw b.length (λt=>DB (if t < b.length then(V t&&R t)else V t))=QPw b.length (λt=>DB (V t&&R t)):=Qdp λt ht=>by rw[if_pos ht]
        have y2:QPw b.length (λt=>DB (if t < b.length then(W t||R t)else W t))=QPw b.length (λt=>DB (W t||R t)):=Qdp λt ht=>by rw[if_pos ht]
        rw[y1,y2];have hik:i < (QI L[n]).length:=by omega
        have hikI:(i:Int) < ((QI L[n]).length:Int):=by omega
        simp[kp9,Qaf,Qz,QQW,Qc,hn,hnI,e40,hik,hikI,hke,hmx,hmi,wn]
      .rw[m1,m2];have hLI:(0:Int) < L.length:=by omega
       simp[kp9,Qaf,Qz]
       (generalize aC:Cx.loop _ _ _=aE; apply Qi aC (λk=>⟨[(0,.d (.sl 5 (b.map QO.enc))),(8,.d (DI i)),(9,.d (.sl 1 (L1.map Qt.enc))),(10,.d (.sl 1 (L2.map Qt.enc))),(12,.loc 12 0),(14,.d (.sl 1 (L.map rBk.enc))),(15,.d (DI shi)),(16,.d (DI slo)),(17,.bs 76 0 b.length 1),(18,.bs 79 0 b.length 1),(24,.d (DI k))],[(12,[.d (DI slo),.d (DI shi)]),(76,QPw b.length (λt=>DB (evN L i b.length L.length t))),(79,QPw b.length (λt=>DB (smN L i b.length L.length t)))],[],[]⟩) b.length (by first | (simp; done) | (simp; rfl) | (simp; simp[*])); rotate_left; (show _ < 281474976710656; omega); rfl; rotate_left; all_goals clear aC)
       .intro k hk;have eQ:(k:Int) < b.length:=by omega
        have w1:=Qa ((k:Int)+1) (by omega) (by omega)
        have g1:=f1 k hk;have g2:=f2 k hk;have q1:=hEv k hk;have q2:=hSm k hk;by_cases e:k=i
        .subst e;simp[kp9,Qaf,Qz,eQ,w1]
        .have ei:((k:Int) != (i:Int))=true:=bne_iff_ne.2 (by omega)
         rw[(QMn e).1]at g1;rw[(QMn e).2]at g2;simp[kp9,Qaf,Qz,Qb,Qf,hk,eQ,w1,ei,g1,g2,q1,q2]
       .have u7:s35 [DI slo,DI shi]=some (.agg [DI slo,DI shi]):=rfl;simp[kp9,Qaf,Qz,u7,m3]
 .cases hr
end Go.Proofs.YtnfeakhkfehkhaaGreatDoor
