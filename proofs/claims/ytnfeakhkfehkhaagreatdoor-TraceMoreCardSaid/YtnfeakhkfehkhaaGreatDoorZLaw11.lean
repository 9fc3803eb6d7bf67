/-
  TraceFewest: the list of Fewest explains the complaints, and no shorter one does. Conditions: none.
-/
import Derived.Test.YtnfeakhkfehkhaaGreatDoorZLawC
import Derived.Test.YtnfeakhkfehkhaaGreatDoorZFwl
set_option linter.unusedSimpArgs false
set_option linter.unusedVariables false
namespace Go.Proofs.YtnfeakhkfehkhaaGreatDoor
open Go.RowKit
def QOx (r:Nat):List (Nat×Option Nat):=match r with
 | 0=>kpn [0,3]
 | 1=>kpn [0,3,5,6]
 | 2=>kpn [0,3,5,6,35]
 | 3=>[(4,none)]
 | 4=>kpn [0,3,5,6,47]
 | 5=>kpn [0,3,5,6,7]
 | 6=>kpn [0,3,5,6,7,51]
 | 7=>kpn [0,3,5,6,7]
 | 8=>kpn [0,3,5,6,7,83]
 | 9=>[(4,none)]
 | 10=>kpn [0,3,5,6,91]
 | 11=>[(4,none)]
 | 12=>[(0,none),(3,none),(5,none),(6,none),(8,some 1)]
 | 13=>[(0,none),(3,none),(5,none),(6,none),(8,some 1),(9,none)]
 | 14=>[(0,none),(3,none),(5,none),(6,none),(8,some 1),(9,none),(95,none)]
 | 15=>[(0,none),(3,none),(5,none),(6,none),(8,some 1),(9,none)]
 | 16=>[(0,none),(3,none),(5,none),(6,none),(8,some 1),(9,none),(103,none)]
 | 17=>[(0,none),(3,none),(5,none),(6,none),(8,some 1),(9,none)]
 | 18=>[(5,none),(6,none),(8,some 1),(115,none)]
 | 19=>[(4,none)]
 | 20=>[(4,none)]
 | _=>[]
structure Rep where
 comp:List Int
 good:List Int
 list:Int
def QOM:Row Rep:=⟨3,λx=>[.sl 1 (x.comp.map Qt.enc),.sl 1 (x.good.map Qt.enc),.v (.int .u8 x.list)],λd=>match d with
 | [a,b,.v (.int .u8 n)]=>((Qy Qt).dec a).bind λp=>((Qy Qt).dec b).map λk=>⟨p,k,n⟩
 | _=>none,λx=>by simp[QQ],λd x h=>by
 split at h
 .simp only[Option.bind_eq_some_iff,Option.map_eq_some_iff]at h;obtain⟨p,hp,k,hk,rfl⟩:=h;exact QbQ ((Qy Qt).ed _ _ hp) (QbQ ((Qy Qt).ed _ _ hk) (LImp.refl _))
 .cases h⟩
theorem QOn (x:Rep):QOM.enc x=[.sl 1 (x.comp.map Qt.enc),.sl 1 (x.good.map Qt.enc),.v (.int .u8 x.list)]:=rfl
def QOt (n:Int) (i:Nat):Bool:=(n / 2 ^ (min i IntKind.u8.bits)).tmod 2==1
theorem QOD (f:Nat->Bool) (n:Nat):QOq n (Qc6 f n):=by
 refine⟨?_,λx hx=>?_⟩
 .unfold Qc6;rw[List.pairwise_map];exact(List.pairwise_lt_range.filter f).imp λh=>by omega
 .obtain⟨a,rfl,ha,_⟩:=QMv.1 hx;omega
theorem QOL {b:List Bat} (hb:b.length<=8) {l:List Int} (h:l.length<=17592186044416):s44 [.sl 5 (b.map QO.enc),.sl 1 (l.map Qt.enc)]=some (DB (Qnc b l)):=by
 simp only[s44,sp2,QR,QQ];rw[if_pos ⟨hb,h⟩]; rfl
theorem QOK {b:List Bat} (hv:ValidB b) {c g l:List Int} (hc:QhC b c) (hg:QhC b g) (hl:QhC b l):s45 [.sl 5 (b.map QO.enc),.sl 1 (c.map Qt.enc),.sl 1 (g.map Qt.enc),.sl 1 (l.map Qt.enc)]=some (DB (QAy b c g l)):=by
 simp only[s45,sp4,QR,QQ];rw[if_pos ⟨hv,hc,hg,hl⟩]; rfl
theorem QOB {b:List Bat} (hb:b.length<=8) {l:List Int} (h:QOq b.length l):QhC b l:=⟨by have:=QOs h; omega,h.2⟩
theorem QOG {b:List Bat} {c g:List Int} (hv:ValidB b) (hc:Qnc b c=true) (hg:Qnc b g=true):
  (∃l,QjZ b c g=(l,0)/\QOq b.length l/\QAy b c g l=true/\∀o,QOq b.length o->QAy b c g o=true->l.length<=o.length)\/(QjZ b c g=([],9)/\∀o,QOq b.length o->QAy b c g o=false):=by
 have h0:QmO b c g=0:=(Qqj b c g).2 ⟨hv,hc,hg⟩;have hc':=Qe8.1 hc;unfold QjZ;rw[if_pos h0];cases h:(Qqq b c g).2 with
 | true=>
  rw[if_pos rfl];obtain⟨h1,h2,h3⟩:=QOE hc' h;exact .inl ⟨_,rfl,h1,QOH hc' h,λo ho he=>h3 o ho (QOF hc' ho he)⟩
 | false=>
  rw[if_neg (by simp)]
  refine .inr ⟨rfl,λo ho=>?_⟩;cases he:QAy b c g o with
  | false=>rfl
  | true=>
   have:=QOJ hc' h ho;rw[QOF hc' ho he]at this;cases this
theorem QOO {b:List Bat} {c g:List Int} (h:¬QmO b c g=0):QjZ b c g=([],QmO b c g):=by
 unfold QjZ;rw[if_neg h]
noncomputable def QOm:List (Nat×(List D->Option D)):=(44,s44)::(45,s45)::QMG
theorem QOP:Qay Tryz.prog (Qas QOm):=Ql (Ql QN8 QFd ok45) QCY ok44
noncomputable def s11:List D->Option D:=sp2 (Qy QO) (QeC QOM) QaI λb x=>if QcC b/\x.comp.length<=17592186044416/\x.good.length<=17592186044416/\QLK x.list then some true else none
set_option maxHeartbeats 4000000 in
theorem ok11:∀ds d,s11 ds=some d->PureC Tryz.prog 11 ds d:=QaR λb x r hr=>by
 split at hr
 .rename_i hc;obtain⟨hs,eB,vX,qR⟩:=hc;cases hr;refine Qm (QE QOP 137 QOx []) Tryz.func11 rfl rfl (Zb rfl) (by kernel_rfl) ?_
  rw[Tryz.results11];have zO:=QNl hs;have e27:=QyK hs eB vX;have bad:¬QmO b x.comp x.good=0->QjZ b x.comp x.good=([],QmO b x.comp x.good):=QOO;cases hv:QLq b with
  | false=>
   rw[hv]at zO;have aS:¬QmO b x.comp x.good=0:=λh=>by
    have:=((Qbl b).2 ((Qqj _ _ _).1 h).1);unfold QLq at hv;rw[this]at hv; cases hv
   rw[bad aS]at e27;have lV:(QmO b x.comp x.good != 0)=true:=bne_iff_ne.2 aS;simp[QOx,QOm,QMG,QGa,s24,Qe,QOn,zO,e27,lV]
  | true=>
   rw[hv]at zO;obtain⟨hV,h8,h1,hask⟩:=QLJ hv;have e44c:=QOL h8 eB;have e44g:=QOL h8 vX;by_cases hn:Qnc b x.comp=true/\Qnc b x.good=true
   .obtain⟨lQ,hng⟩:=hn;rw[lQ]at e44c;rw[hng]at e44g;have nc:QhC b x.comp:=⟨eB,Qe8.1 lQ⟩;have ng:QhC b x.good:=⟨vX,Qe8.1 hng⟩;have hO:=QOD (QOt x.list) b.length;have e45o:=QOK hV nc ng (QOB h8 hO);rcases QOG hV lQ hng with⟨l,hf,vZ,sA,hmin⟩ | ⟨hf,bA⟩
    .rw[hf]at e27;have e45:=QOK hV nc ng (QOB h8 vZ);rw[sA]at e45;have uP:=QOs vZ;have hmo:=hmin _ hO;simp[QOx,QOm,QMG,QGa,s24,Qe,QOn,zO,e27,e44c,e44g]
     (generalize aC:Cx.loop _ _ _=aE; apply Qi aC (λk=>⟨[(0,.d (.sl 5 (b.map QO.enc))),(3,.loc 3 0),(5,.d (.sl 1 (l.map Qt.enc))),(6,.d (DI 0)),(7,.d (DI k))],[(3,[.d (.sl 1 (x.comp.map Qt.enc)),.d (.sl 1 (x.good.map Qt.enc)),.d (.v (.int .u8 x.list))])],[],[]⟩) l.length rfl; rotate_left; (show _ < 281474976710656; omega); rfl; rotate_left; all_goals clear aC)
     .intro k hk;have eQ:(k:Int) < l.length:=by omega
      have w1:=Qa ((k:Int)+1) (by omega) (by omega)
      have hm:=vZ.2 l[k] (Ze hk);have m1:¬l[k] < 0:=by omega
      have m2:¬(b.length:Int)<=l[k]:=by omega
      cases k with
      | zero=>simp[QOx,Qc,hk,m1,m2]
      | succ j=>
       have m3:=List.pairwise_iff_getElem.1 vZ.1 j (j+1) (by omega) hk (by omega)
       have m4:¬l[j+1]<=l[j]:=by omega
       have w2:=Qa (j:Int) (by omega) (by omega)
       have hj:j < l.length:=by omega
       have xG:(j:Int) < l.length:=by omega
       have hkI2:(j:Int)+1 < l.length:=by omega
       have nC:(0:Int) < (j:Int)+1:=by omega
       have qS:(0:Int)<=(j:Int)+1:=by omega
       have jP:((j:Int)+1).toNat=j+1:=by omega
       have w3:=Qa ((j:Int)+1+1) (by omega) (by omega)
       simp[QOx,Qc,hk,hkI2,hj,xG,m1,m2,m4,w3,w2,nC,qS,jP]
     .simp[QOx,e45]
      (generalize aC:Cx.loop _ _ _=aE; apply Qi aC (λk=>⟨[(0,.d (.sl 5 (b.map QO.enc))),(3,.loc 3 0),(5,.d (.sl 1 (l.map Qt.enc))),(6,.d (DI 0)),(8,.sl 1 ((Qc6 (QOt x.list) k).map Qt.enc) (.tok 8)),(9,.d (DI k))],[(3,[.d (.sl 1 (x.comp.map Qt.enc)),.d (.sl 1 (x.good.map Qt.enc)),.d (.v (.int .u8 x.list))])],[8],[]⟩) b.length (by first | (simp; done) | (simp; rfl) | (simp; simp[*])); rotate_left; (show _ < 281474976710656; omega); rfl; rotate_left; all_goals clear aC)
      .intro k hk;have bB:(k:Int) < b.length:=by omega
       have w1:=Qa ((k:Int)+1) (by omega) (by omega)
       have l1:=Qlu (QOt x.list) k;have a1:(Qc6 (QOt x.list) k).length+1<=140737488355328:=by omega
       have a2:((Qc6 (QOt x.list) k).length+1)*8<=140737488355328:=by omega
       cases hb:QOt x.list k with
       | true=>
        rw[Qe5 hb];unfold QOt at hb;simp[QOx,Qc,bB,w1,a1,a2,hb]
       | false=>
        rw[QeL hb];unfold QOt at hb;simp[QOx,bB,w1,hb]
      .generalize Qc6 (QOt x.list) b.length=O at*;cases hx:QAy b x.comp x.good O with
       | false=>
        rw[hx]at e45o;simp[QOx,e45o]
       | true=>
        rw[hx]at e45o;have hmo':=hmo hx;simp[QOx,e45o,hmo']
    .rw[hf]at e27;rw[bA _ hO]at e45o;simp[QOx,QOm,QMG,QGa,s24,Qe,QOn,zO,e27,e44c,e44g]
     (generalize aC:Cx.loop _ _ _=aE; apply Qi aC (λk=>⟨[(0,.d (.sl 5 (b.map QO.enc))),(3,.loc 3 0),(5,.d (.sl 1 [])),(6,.d (DI 9)),(8,.sl 1 ((Qc6 (QOt x.list) k).map Qt.enc) (.tok 8)),(9,.d (DI k))],[(3,[.d (.sl 1 (x.comp.map Qt.enc)),.d (.sl 1 (x.good.map Qt.enc)),.d (.v (.int .u8 x.list))])],[8],[]⟩) b.length (by first | (simp; done) | (simp; rfl) | (simp; simp[*])); rotate_left; (show _ < 281474976710656; omega); rfl; rotate_left; all_goals clear aC)
     .intro k hk;have bB:(k:Int) < b.length:=by omega
      have w1:=Qa ((k:Int)+1) (by omega) (by omega)
      have l1:=Qlu (QOt x.list) k;have a1:(Qc6 (QOt x.list) k).length+1<=140737488355328:=by omega
      have a2:((Qc6 (QOt x.list) k).length+1)*8<=140737488355328:=by omega
      cases hb:QOt x.list k with
      | true=>
       rw[Qe5 hb];unfold QOt at hb;simp[QOx,Qc,bB,w1,a1,a2,hb]
      | false=>
       rw[QeL hb];unfold QOt at hb;simp[QOx,bB,w1,hb]
     .generalize Qc6 (QOt x.list) b.length=O at*;simp[QOx,e45o]
   .have aS:¬QmO b x.comp x.good=0:=λh=>hn ((Qqj _ _ _).1 h).2;rw[bad aS]at e27;have lV:(QmO b x.comp x.good != 0)=true:=bne_iff_ne.2 aS;cases lQ:Qnc b x.comp with
    | false=>
     rw[lQ]at e44c;simp[QOx,QOm,QMG,QGa,s24,Qe,QOn,zO,e27,e44c,lV]
    | true=>
     have hng:Qnc b x.good=false:=by
      cases q:Qnc b x.good with
      | false=>rfl
      | true=>exact absurd ⟨lQ,q⟩ hn
     rw[lQ]at e44c;rw[hng]at e44g;simp[QOx,QOm,QMG,QGa,s24,Qe,QOn,zO,e27,e44c,e44g,lV]
 .cases hr
end Go.Proofs.YtnfeakhkfehkhaaGreatDoor
