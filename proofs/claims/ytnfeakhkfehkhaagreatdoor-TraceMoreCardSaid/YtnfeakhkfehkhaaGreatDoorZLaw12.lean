/-
  TraceMore: with more complaints, or more that is good, the list of Fewest is no shorter. Conditions: none.
-/
import Derived.Test.YtnfeakhkfehkhaaGreatDoorZLaw11
set_option linter.unusedSimpArgs false
set_option linter.unusedVariables false
namespace Go.Proofs.YtnfeakhkfehkhaaGreatDoor
open Go.RowKit
def QOX (r:Nat):List (Nat×Option Nat):=match r with
 | 0=>kpn [0,4,5]
 | 1=>kpn [0,4,5,7,8]
 | 2=>kpn [0,4,5,7,8,34]
 | 3=>[(6,none)]
 | 4=>[(0,none),(4,none),(5,none),(7,none),(8,none),(9,some 1)]
 | 5=>[(0,none),(4,none),(7,none),(8,none),(9,some 1),(10,some 1)]
 | 6=>[(0,none),(4,none),(7,none),(8,none),(10,some 1),(11,none),(12,none)]
 | 7=>kpn [7,8,11,12,13,14]
 | 8=>kpn [7,11,12,13,14,105]
 | 9=>[(6,none)]
 | 10=>[(6,none)]
 | _=>[]
theorem QOR {b:List Bat} {c g:List Int} (hv:ValidB b) (hc:Qnc b c=true) (hg:Qnc b g=true):QjZ b c g=if(Qqq b c g).2=true then((Qqq b c g).1,0)else([],9):=by
 unfold QjZ;rw[if_pos ((Qqj b c g).2 ⟨hv,hc,hg⟩)]
theorem QOS {b:List Bat} {l:List Int} (h:Qnc b l=true) {i:Nat} (hi:i < b.length):Qnc b (l++[(i:Int)])=true:=by
 rw[Qe8]at h|-;intro n hn;rcases Zp.1 hn with hn | hn
 .exact h n hn
 .rw[List.mem_singleton]at hn; subst hn; omega
noncomputable def s12:List D->Option D:=sp3 (Qy QO) (QeC QOM) (QeC QOi) QaI λb x y=>if QcC b/\x.comp.length < 17592186044416/\x.good.length < 17592186044416/\QLK y.a/\QLK y.b then some true else none
set_option maxHeartbeats 4000000 in
theorem ok12:∀ds d,s12 ds=some d->PureC Tryz.prog 12 ds d:=QcG λb x y r hr=>by
 split at hr
 .rename_i hc;obtain⟨hs,eB,vX,ha,hb⟩:=hc;cases hr;refine Qm (QE QN8 129 QOX []) Tryz.func12 rfl rfl (Zb rfl) (by kernel_rfl) ?_
  rw[Tryz.results12];have zO:=QNl hs;have e27:=QyK (c:=x.comp) (g:=x.good) hs (by omega) (by omega)
  cases hv:QLq b with
  | false=>
   rw[hv]at zO;have aS:¬QmO b x.comp x.good=0:=λh=>by
    have:=((Qbl b).2 ((Qqj _ _ _).1 h).1);unfold QLq at hv;rw[this]at hv; cases hv
   rw[QOO aS]at e27;have lV:(QmO b x.comp x.good != 0)=true:=bne_iff_ne.2 aS;simp[QOX,QMG,QGa,s24,Qe,QOn,QOb,zO,e27,lV]
  | true=>
   rw[hv]at zO;obtain⟨hV,h8,h1,hask⟩:=QLJ hv;by_cases hn:Qnc b x.comp=true/\Qnc b x.good=true
   .obtain⟨lQ,hng⟩:=hn;unfold QLK at ha hb;obtain⟨i,hi⟩:∃i:Nat,y.a % (b.length:Int)=i:=⟨(y.a % (b.length:Int)).toNat,by have:=Int.emod_nonneg y.a (show(b.length:Int)≠0 by omega); omega⟩
    obtain⟨j,hj⟩:∃j:Nat,y.b % (b.length:Int)=j:=⟨(y.b % (b.length:Int)).toNat,by have:=Int.emod_nonneg y.b (show(b.length:Int)≠0 by omega); omega⟩
    have dC:i < b.length:=by have:=Int.emod_lt_of_pos y.a (show(0:Int) < b.length by omega); omega
    have aO:j < b.length:=by have:=Int.emod_lt_of_pos y.b (show(0:Int) < b.length by omega); omega
    have ti:y.a.tmod (b.length:Int)=i:=by rw[Int.tmod_eq_emod_of_nonneg ha.1,hi]
    have tj:y.b.tmod (b.length:Int)=j:=by rw[Int.tmod_eq_emod_of_nonneg hb.1,hj]
    have wa:=Qa y.a (by omega) (by omega)
    have wb:=Qa y.b (by omega) (by omega)
    have wi:=Qa (i:Int) (by omega) (by omega)
    have wj:=Qa (j:Int) (by omega) (by omega)
    have m7:¬(b.length:Int)=0:=by omega
    have hn0':¬b=[]:=λe=>by rw[e]at h1; exact absurd h1 (by decide)
    have hnc':=QOS lQ dC;have hng':=QOS hng aO;have e27c:=QyK (c:=x.comp++[(i:Int)]) (g:=x.good) hs (by rw[List.length_append]; simp; omega) (by omega)
    have e27g:=QyK (c:=x.comp) (g:=x.good++[(j:Int)]) hs (by omega) (by rw[List.length_append]; simp; omega)
    rw[QOR hV lQ hng]at e27;rw[QOR hV hnc' hng]at e27c;rw[QOR hV lQ hng']at e27g;have q0:=Qe8.1 lQ;have m1:=QOT (good:=x.good) (good':=x.good) q0 (Qe8.1 hnc') λl=>QOV;have m2:=QOT (good:=x.good) (good':=x.good++[(j:Int)]) q0 q0 λl=>QOW;have a1:x.comp.length+1<=140737488355328:=by omega
    have a2:(x.comp.length+1)*8<=140737488355328:=by omega
    have a3:x.good.length+1<=140737488355328:=by omega
    have a4:(x.good.length+1)*8<=140737488355328:=by omega
    have a5:x.comp.length<=140737488355328:=by omega
    have a6:x.comp.length*8<=140737488355328:=by omega
    have a7:x.good.length<=140737488355328:=by omega
    have a8:x.good.length*8<=140737488355328:=by omega
    simp only[List.map_append,List.map_cons,List.map_nil,Qc]at e27c e27g;generalize Qqq b x.comp x.good=F0 at*;generalize Qqq b (x.comp++[(i:Int)]) x.good=F1 at*;generalize Qqq b x.comp (x.good++[(j:Int)])=F2 at*;obtain⟨L0,B0⟩:=F0;obtain⟨L1,B1⟩:=F1;obtain⟨L2,B2⟩:=F2;dsimp only at m1 m2 e27 e27c e27g;cases B0 with
    | false=>
     cases B1 with
     | true=>exact absurd (m1 rfl).1 (by simp)
     | false=>
      cases B2 with
      | true=>exact absurd (m2 rfl).1 (by simp)
      | false=>
       rw[if_neg (by simp)]at e27 e27c e27g
       simp[QOX,QMG,QGa,s24,Qe,QOn,QOb,zO,e27,e27c,e27g,ti,tj,wa,wb,hn0',a1,a2,a3,a4,a5,a6,a7,a8]
    | true=>
     rw[if_pos rfl]at e27;cases B1 with
     | true=>
      have l1:=(m1 rfl).2;rw[if_pos rfl]at e27c;cases B2 with
      | true=>
       have l2:=(m2 rfl).2;rw[if_pos rfl]at e27g;simp[QOX,QMG,QGa,s24,Qe,QOn,QOb,zO,e27,e27c,e27g,ti,tj,wa,wb,hn0',a1,a2,a3,a4,a5,a6,a7,a8,l1,l2]
      | false=>
       rw[if_neg (by simp)]at e27g
       simp[QOX,QMG,QGa,s24,Qe,QOn,QOb,zO,e27,e27c,e27g,ti,tj,wa,wb,hn0',a1,a2,a3,a4,a5,a6,a7,a8,l1]
     | false=>
      rw[if_neg (by simp)]at e27c
      cases B2 with
      | true=>
       have l2:=(m2 rfl).2;rw[if_pos rfl]at e27g;simp[QOX,QMG,QGa,s24,Qe,QOn,QOb,zO,e27,e27c,e27g,ti,tj,wa,wb,hn0',a1,a2,a3,a4,a5,a6,a7,a8,l2]
      | false=>
       rw[if_neg (by simp)]at e27g
       simp[QOX,QMG,QGa,s24,Qe,QOn,QOb,zO,e27,e27c,e27g,ti,tj,wa,wb,hn0',a1,a2,a3,a4,a5,a6,a7,a8]
   .have aS:¬QmO b x.comp x.good=0:=λh=>hn ((Qqj _ _ _).1 h).2;have h4:QmO b x.comp x.good=4:=by
     unfold QmO at aS|-;rw[if_pos ((Qbl b).2 hV)]at aS|-;split
     .rename_i q; rw[if_pos q]at aS; exact absurd rfl aS
     .rfl
    rw[QOO aS,h4]at e27;simp[QOX,QMG,QGa,s24,Qe,QOn,QOb,zO,e27]
 .cases hr
end Go.Proofs.YtnfeakhkfehkhaaGreatDoor
