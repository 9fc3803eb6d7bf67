/-
  TraceOn: what must be there goes on. Conditions: none.
-/
import Derived.Test.YtnfeakhkfehkhaaGreatDoorZLawC
set_option linter.unusedSimpArgs false
set_option linter.unusedVariables false
namespace Go.Proofs.YtnfeakhkfehkhaaGreatDoor
open Go.RowKit
def QPl (r:Nat):List (Nat×Option Nat):=match r with
 | 0=>kpn [0,1]
 | 1=>kpn [0,1,15]
 | 2=>[(4,none)]
 | 3=>kpn [0,5]
 | 4=>kpn [0,6,8]
 | 5=>kpn [0,6,30]
 | 6=>[(4,none)]
 | 7=>kpn [0,6,9]
 | 8=>kpn [0,6,9,34]
 | 9=>kpn [0,6,9]
 | 10=>kpn [0,6,9,10,12]
 | 11=>kpn [0,6,9,54]
 | 12=>[(4,none)]
 | 13=>[(4,none)]
 | _=>[]
theorem QPk {b:List Bat} (h:ValidB b) {i x y:Nat} (h1:QnT b i x=true) (h2:QnT b x y=true):QnT b i y=true:=by
 unfold QnT at*;simp only[Za,bne_iff_ne]at*;have m1:=Qnh.1 h1.2;have m2:=Qnh.1 h2.2;have a1:=Qzn h (QxY h m1);have a2:=Qzn h (QxY h m2);exact⟨by omega,Qnh.2 λg hg=>QPi (m1 g hg) (m2 g hg)⟩
noncomputable def s14:List D->Option D:=sp2 (Qy QO) (cK .u8) QaI λb w=>if QcC b/\QLK w then some true else none
set_option maxHeartbeats 2000000 in
theorem ok14:∀ds d,s14 ds=some d->PureC Tryz.prog 14 ds d:=QaR λb w r hr=>by
 split at hr
 .rename_i hc;obtain⟨hs,ha⟩:=hc;cases hr;refine Qm (QE QN8 56 QPl []) Tryz.func14 rfl rfl (Zb rfl) (by kernel_rfl) ?_
  rw[Tryz.results14];have zO:=QNl hs;cases hv:QLq b with
  | false=>
   rw[hv]at zO;simp[QPl,QMG,QGa,s24,Qe,zO]
  | true=>
   rw[hv]at zO;obtain⟨hV,h8,h1,hask⟩:=QLJ hv;unfold QLK at ha;obtain⟨i,hi⟩:∃i:Nat,w % (b.length:Int)=i:=⟨(w % (b.length:Int)).toNat,by have:=Int.emod_nonneg w (show(b.length:Int)≠0 by omega); omega⟩
   have dC:i < b.length:=by have:=Int.emod_lt_of_pos w (show(0:Int) < b.length by omega); omega
   have ti:w.tmod (b.length:Int)=i:=by rw[Int.tmod_eq_emod_of_nonneg ha.1,hi]
   have wa:=Qa w (by omega) (by omega)
   have wi:=Qa (i:Int) (by omega) (by omega)
   have m7:¬(b.length:Int)=0:=by omega
   have hn0':¬b=[]:=λe=>by rw[e]at h1; exact absurd h1 (by decide)
   have e19:=QyR hs i;rw[QM3 hv dC]at e19;have l0:=Qlu (QnT b i) b.length;have c7:∀x∈Qc6 (QnT b i) b.length,∃k:Nat,x=k/\k < b.length/\QnT b i k=true:=λx hx=>QMv.1 hx;generalize hL:Qc6 (QnT b i) b.length=L at*;generalize Qc6 (Qnl b i) b.length=L2 at*;simp[QPl,QMG,QGa,s24,Qe,zO,e19,ti,wa,hn0']
   (generalize aC:Cx.loop _ _ _=aE; apply Qi aC (λk=>⟨[(0,.d (.sl 5 (b.map QO.enc))),(6,.d (.sl 1 (L.map Qt.enc))),(9,.d (DI k))],[],[],[]⟩) L.length rfl; rotate_left; (show _ < 281474976710656; omega); rfl; rotate_left; all_goals clear aC)
   .intro k hk;have eQ:(k:Int) < L.length:=by omega
    have w1:=Qa ((k:Int)+1) (by omega) (by omega)
    obtain⟨x,hx,lT,tE⟩:=c7 L[k] (Ze hk);have e:=QyR hs x;rw[QM3 hv lT]at e;have lG:QMc (Qc6 (QnT b x) b.length) L=true:=by
     rw[<-hL];exact QN9 λy hy h=>QPk hV tE h
    have f:=QOf (l:=Qc6 (QnT b x) b.length) (o:=L) (Nat.lt_of_le_of_lt (Qlu _ _) (by omega)) (by omega)
    rw[lG]at f;generalize Qc6 (QnT b x) b.length=L3 at*;generalize Qc6 (Qnl b x) b.length=L4 at*;simp[QPl,Qc,hk,eQ,hx,e,f,w1]
   .simp[QPl]
 .cases hr
end Go.Proofs.YtnfeakhkfehkhaaGreatDoor
