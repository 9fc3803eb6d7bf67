/-
  TraceBoth: must and may, looked at from both sides. Conditions: none.
-/
import Derived.Test.YtnfeakhkfehkhaaGreatDoorZLawC
set_option linter.unusedSimpArgs false
set_option linter.unusedVariables false
namespace Go.Proofs.YtnfeakhkfehkhaaGreatDoor
open Go.RowKit
def QOl (r:Nat):List (Nat×Option Nat):=match r with
 | 0=>kpn [0,3]
 | 1=>kpn [0,3,18]
 | 2=>[(7,none)]
 | 3=>[(4,none)]
 | 4=>kpn [0,8,9]
 | 5=>kpn [0,8,9,10,11,12]
 | 6=>kpn [8,9,10,11,12,13,14,15]
 | 7=>[(4,none)]
 | _=>[]
noncomputable def s10:List D->Option D:=sp2 (Qy QO) (QeC QOi) QaI λb w=>if QcC b/\QLK w.a/\QLK w.b then some true else none
set_option maxHeartbeats 2000000 in
theorem ok10:∀ds d,s10 ds=some d->PureC Tryz.prog 10 ds d:=QaR λb w r hr=>by
 split at hr
 .rename_i hc;obtain⟨hs,ha,hb⟩:=hc;cases hr;refine Qm (QE QN8 93 QOl []) Tryz.func10 rfl rfl (Zb rfl) (by kernel_rfl) ?_
  rw[Tryz.results10];have zO:=QNl hs;cases hv:QLq b with
  | false=>
   rw[hv]at zO;have e22:=QDx hs 0;have aS:=QNb hv 0;have h0:QgQ b 0=([],[],QbH b 0):=by unfold QgQ; rw[if_neg aS]
   rw[h0]at e22;have lV:(QbH b 0 != 0)=true:=bne_iff_ne.2 aS;simp[QOl,QMG,QGa,s24,Qe,QOb,zO,e22,lV]
  | true=>
   rw[hv]at zO;obtain⟨hV,h8,h1,hask⟩:=QLJ hv;unfold QLK at ha hb;obtain⟨i,hi⟩:∃i:Nat,w.a % (b.length:Int)=i:=⟨(w.a % (b.length:Int)).toNat,by have:=Int.emod_nonneg w.a (show(b.length:Int)≠0 by omega); omega⟩
   obtain⟨j,hj⟩:∃j:Nat,w.b % (b.length:Int)=j:=⟨(w.b % (b.length:Int)).toNat,by have:=Int.emod_nonneg w.b (show(b.length:Int)≠0 by omega); omega⟩
   have dC:i < b.length:=by have:=Int.emod_lt_of_pos w.a (show(0:Int) < b.length by omega); omega
   have aO:j < b.length:=by have:=Int.emod_lt_of_pos w.b (show(0:Int) < b.length by omega); omega
   have ti:w.a.tmod (b.length:Int)=i:=by rw[Int.tmod_eq_emod_of_nonneg ha.1,hi]
   have tj:w.b.tmod (b.length:Int)=j:=by rw[Int.tmod_eq_emod_of_nonneg hb.1,hj]
   have wa:=Qa w.a (by omega) (by omega)
   have wb:=Qa w.b (by omega) (by omega)
   have wi:=Qa (i:Int) (by omega) (by omega)
   have wj:=Qa (j:Int) (by omega) (by omega)
   have m7:¬(b.length:Int)=0:=by omega
   have hn0':¬b=[]:=λe=>by rw[e]at h1; exact absurd h1 (by decide)
   have e19:=QyR hs i;have e22:=QDx hs j;rw[QM3 hv dC]at e19;rw[QOd hv aO]at e22;have l1:(Qc6 (QnT b i) b.length).length < 1000000:=Nat.lt_of_le_of_lt (Qlu _ _) (by omega)
   have l2:(Qc6 (Qnl b i) b.length).length < 1000000:=Nat.lt_of_le_of_lt (Qlu _ _) (by omega)
   have l3:(Qc6 (Qek b j) b.length).length < 1000000:=Nat.lt_of_le_of_lt (Qlu _ _) (by omega)
   have l4:(Qc6 (Qep b j) b.length).length < 1000000:=Nat.lt_of_le_of_lt (Qlu _ _) (by omega)
   have f1:=QNn l1 j;have f2:=QNn l3 i;have f3:=QNn l2 j;have f4:=QNn l4 i;have f5:=QOf l1 l2;have f6:=QOf l3 l4;have ne:(j != i)=(i != j):=by rw[Bool.eq_iff_iff]; simp; omega
   rw[QMw]at f1 f2 f3 f4;have g1:(decide (i < b.length)&&Qek b j i)=(decide (j < b.length)&&QnT b i j):=by
    unfold Qek QnT; rw[ne]; simp[dC,aO]
   have g2:(decide (i < b.length)&&Qep b j i)=(decide (j < b.length)&&Qnl b i j):=by
    unfold Qep Qnl; rw[ne]; simp[dC,aO]
   rw[g1]at f2;rw[g2]at f4;rw[QN9 (λk hk h=>by
    unfold QnT at h;unfold Qnl;rw[Za]at h|-;exact⟨h.1,QOa hV h.2⟩)]at f5
   rw[QN9 (λk hk h=>by
    unfold Qek at h;unfold Qep;rw[Za]at h|-;exact⟨h.1,QOa hV h.2⟩)]at f6
   generalize Qc6 (QnT b i) b.length=L1 at*;generalize Qc6 (Qnl b i) b.length=L2 at*;generalize Qc6 (Qek b j) b.length=L3 at*;generalize Qc6 (Qep b j) b.length=L4 at*;simp[QOl,QMG,QGa,s24,Qe,QOb,zO,e19,e22,f1,f2,f3,f4,f5,f6,ti,tj,wa,wb,hn0']
 .cases hr
end Go.Proofs.YtnfeakhkfehkhaaGreatDoor
