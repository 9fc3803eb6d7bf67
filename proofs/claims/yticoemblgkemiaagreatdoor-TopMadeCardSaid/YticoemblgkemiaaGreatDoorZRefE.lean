/-
  Reference functions of the trace chapter: equality of lists of numbers and of books. Conditions: none.
-/
import Derived.Test.YticoemblgkemiaaGreatDoorZRefA
set_option linter.unusedSimpArgs false
set_option linter.unusedVariables false
namespace Go.Proofs.YticoemblgkemiaaGreatDoor
open Go.RowKit
def eqI {α:Type} (q:α->α->Bool) (d:α) (a b:List α):Bool:=decide (a.length=b.length)&&(List.range a.length).all λi=>q (a.getD i d) (b.getD i d)
theorem Qh5 {α:Type} {q:α->α->Bool} {d:α} {a b:List α} :eqI q d a b=true↔a.length=b.length/\∀i,i < a.length->q (a.getD i d) (b.getD i d)=true:=by
 unfold eqI;rw[Za,decide_eq_true_eq,Zl];exact⟨λh=>⟨h.1,λi hi=>h.2 i (Zm.2 hi)⟩,λh=>⟨h.1,λi hi=>h.2 i (Zm.1 hi)⟩⟩
theorem Qwi {α:Type} {q:α->α->Bool} {d:α} {a b:List α} {k:Nat} (hk:k < a.length) (h:q (a.getD k d) (b.getD k d)=false):eqI q d a b=false:=by
 cases e:eqI q d a b with
 | false=>rfl
 | true=>have:=(Qh5.1 e).2 k hk; rw[h]at this; cases this
theorem QwR {α:Type} {q:α->α->Bool} {d:α} {a b:List α} (h:¬a.length=b.length):eqI q d a b=false:=by
 cases e:eqI q d a b with
 | false=>rfl
 | true=>exact absurd (Qh5.1 e).1 h
def QzU (a b:Int):Bool:=a==b
def QmW (r:Nat):List (Nat×Option Nat):=match r with
 | 0=>kpn [0,1]
 | 1=>kpn [0,1,13]
 | 2=>[(4,none)]
 | 3=>kpn [0,1,5]
 | 4=>kpn [0,1,5,17]
 | 5=>kpn [0,1,5]
 | 6=>kpn [0,1,5,6,7]
 | 7=>kpn [0,1,5,6,7,62]
 | 8=>[(4,none)]
 | 9=>kpn [0,1,5,6,7,8]
 | 10=>kpn [0,1,5,6,7,8,67]
 | 11=>kpn [0,1,5,6,7,8]
 | 12=>kpn [0,1,5,6,7,8,80]
 | 13=>[(4,none)]
 | 14=>[(4,none)]
 | _=>[]
def s21:List D->Option D:=sp2 (QJ QH) (QJ QH) QaW λa b=>if a.length < 1000000 then some (eqI QzU 0 a b)else none
theorem ok21:∀ds d,s21 ds=some d->PureC Tryz.prog 51 ds d:=Qay λa b r hr=>by
 split at hr
 .rename_i n5;cases hr;refine Qf (Qw Qs 26 QCS []) Tryz.func51 rfl rfl (Zb rfl) (by kernel_rfl) ?_
  rw[Tryz.results51];by_cases hl:a.length=b.length
  .rcases Qbf (λi=>QzU (a.getD i 0) (b.getD i 0)) a.length with hall | ⟨k,hk,aM,aT⟩
   .rw[Qh5.2 ⟨hl,hall⟩];simp[QCS,Qn,hl]
    (generalize aC:Cx.loop _ _ _=aE; apply Qi aC (λk=>⟨[(0,.d (.sl 1 (a.map QH.enc))),(1,.d (.sl 1 (b.map QH.enc))),(5,.d (DI k))],[],[],[]⟩) a.length rfl; rotate_left; (show _ < 281474976710656; omega); rfl; rotate_left; all_goals clear aC)
    .intro j hj;have w1:=Qa ((j:Int)+1) (by omega) (by omega)
     have aO:(j:Int) < a.length:=by omega
     have cM:j < b.length:=by omega
     have nD:(j:Int) < b.length:=by omega
     have hx:=hall j hj;rw[Ql _ _ _ hj,Ql _ _ _ cM]at hx;have fI:a[j]=b[j]:=by simpa[QzU]using hx
     have hx:(a[j] != b[j])=false:=by simp[fI]
     simp[QCS,Qd,hj,cM,aO,nD,hx,w1]
    .simp[QCS,hl]
   .rw[Qwi hk aM];simp[QCS,Qn,hl]
    (generalize aC:Cx.loop _ _ _=aE; apply Qi aC (λk=>⟨[(0,.d (.sl 1 (a.map QH.enc))),(1,.d (.sl 1 (b.map QH.enc))),(5,.d (DI k))],[],[],[]⟩) k rfl; rotate_left; (show _ < 281474976710656; omega); rfl; rotate_left; all_goals clear aC)
    .intro j fD;have hj:j < a.length:=by omega
     have w1:=Qa ((j:Int)+1) (by omega) (by omega)
     have aO:(j:Int) < a.length:=by omega
     have cM:j < b.length:=by omega
     have nD:(j:Int) < b.length:=by omega
     have hx:=aT j fD;rw[Ql _ _ _ hj,Ql _ _ _ cM]at hx;have fI:a[j]=b[j]:=by simpa[QzU]using hx
     have hx:(a[j] != b[j])=false:=by simp[fI]
     simp[QCS,Qd,hj,cM,aO,nD,hx,w1]
    .have aO:(k:Int) < a.length:=by omega
     have dR:k < b.length:=by omega
     have nD:(k:Int) < b.length:=by omega
     have hx:=aM;rw[Ql _ _ _ hk,Ql _ _ _ dR]at hx;have hx:(a[k] != b[k])=true:=by simpa[QzU]using hx
     simp[QCS,Qd,hk,dR,aO,nD,hx]
  .rw[QwR hl];have t7:((a.length:Int) != (b.length:Int))=true:=bne_iff_ne.2 (by omega)
   simp[QCS,Qn,t7]
 .cases hr
theorem QLv (xs:Array Value) (w:World):(callFunc 51 xs).run Tryz.prog w= .ok (.enter 51 xs) w:=by kernel_rfl
def QNL (a b:Tak):Bool:=[a.fr,a.gr]==[b.fr,b.gr]
def QAZ (x y:Bat):Bool:=(x.name.toList==y.name.toList)&&((x.grams==y.grams)&&((x.fresh==y.fresh)&&((x.lost==y.lost)&&decide (x.takes.length=y.takes.length))))
def QCO (x y:Bat):Bool:=QAZ x y&&eqI QNL default x.takes y.takes
def Qzg (a b:List Bat):Bool:=eqI QCO default a b
def QOR (x:List Bat):Prop:=x.length < 1000000/\∀k∈x,k.takes.length < 1000000
instance (x:List Bat):Decidable (QOR x):=inferInstanceAs (Decidable (_/\∀k∈x,_))
def s33:List D->Option D:=sp2 (QJ QQ) (QJ QQ) QaW λx y=>if QOR x then some (Qzg x y)else none
def QoU (r:Nat):List (Nat×Nat):=if r=6 then [(7,10)]else []
set_option maxHeartbeats 4000000 in
theorem ok33:∀ds d,s33 ds=some d->PureC Tryz.prog 54 ds d:=Qay λx y r hr=>by
 split at hr
 .rename_i iI;cases hr;obtain⟨l1,l2⟩:=iI;refine Qf (Qby Qs Qb6 Qbn Qcx 81 QmW [] QoU (λ_=>0)) Tryz.func54 rfl rfl (Zb rfl) (by kernel_rfl) ?_
  unfold Qzg;by_cases h1:x.length=y.length
  .have hB:∀j,j < x.length->∃(hj:j < x.length) (cM:j < y.length),(j:Int) < x.length/\(j:Int) < y.length/\QCO (x.getD j default) (y.getD j default)=QCO x[j] y[j]/\x[j].takes.length < 1000000:=λj hj=>by
    have cM:j < y.length:=by omega
    exact⟨hj,cM,by omega,by omega,by rw[Ql _ _ _ hj,Ql _ _ _ cM],l2 _ (Ze hj)⟩
   have nE:∀(j:Nat) (hj:j < x.length) (cM:j < y.length),QCO x[j] y[j]=true->(x[j].name.toList==y[j].name.toList)=true/\(x[j].grams != y[j].grams)=false/\(x[j].fresh != y[j].fresh)=false/\(x[j].lost != y[j].lost)=false/\x[j].takes.length=y[j].takes.length/\∀k,k < x[j].takes.length->QNL (x[j].takes.getD k default) (y[j].takes.getD k default)=true:=λj hj cM h=>by
    unfold QCO QAZ at h;simp only[Za,decide_eq_true_eq]at h;obtain⟨⟨h1,h2,h3,h4,h5⟩,h6⟩:=h;exact⟨h1,by unfold bne; rw[h2]; rfl,by unfold bne; rw[h3]; rfl,by unfold bne; rw[h4]; rfl,h5,(Qh5.1 h6).2⟩
   rcases Qbf (λi=>QCO (x.getD i default) (y.getD i default)) x.length with hall | ⟨k,hk,aM,aT⟩
   .rw[Qh5.2 ⟨h1,hall⟩];simp[QmW,Qj,h1]
    (generalize aC:Cx.loop _ _ _=aE; apply Qi aC (λk=>⟨[(0,.d (.sl 5 (x.map QQ.enc))),(1,.d (.sl 5 (y.map QQ.enc))),(5,.d (DI k))],[],[],[]⟩) x.length rfl; rotate_left; (show _ < 281474976710656; omega); rfl; rotate_left; all_goals clear aC)
    .intro j fD;have zQ:j < x.length:=by omega
     have w1:=Qa ((j:Int)+1) (by omega) (by omega)
     obtain⟨eE,dY,kU,n6,xC,hj6⟩:=hB j zQ;have hx:=hall j zQ;rw[xC]at hx;obtain⟨g1,g2,g3,g4,g5,g6⟩:=nE j eE dY hx;simp[QmW,QoU,Qe,eE,dY,kU,n6,g1,g2,g3,g4,g5]
     (generalize aC:Cx.loop _ _ _=aE; apply Qi aC (λi=>⟨[(0,.d (.sl 5 (x.map QQ.enc))),(1,.d (.sl 5 (y.map QQ.enc))),(5,.d (DI j)),(6,.loc 6 0),(7,.loc 7 0),(8,.d (DI i))],[(6,[.d (DS x[j].name),.d (DI x[j].grams),.d (DI x[j].fresh),.d (DB x[j].lost),.d (.sl 2 (x[j].takes.map Qce.enc))]),(7,[.d (DS y[j].name),.d (DI y[j].grams),.d (DI y[j].fresh),.d (DB y[j].lost),.d (.sl 2 (y[j].takes.map Qce.enc))])],[],[]⟩) x[j].takes.length rfl; rotate_left; (show _ < 281474976710656; omega); rfl; rotate_left; all_goals clear aC)
     .intro i hi;have w2:=Qa ((i:Int)+1) (by omega) (by omega)
      have hi':i < y[j].takes.length:=by omega
      have dW:(i:Int) < x[j].takes.length:=by omega
      have kC:(i:Int) < y[j].takes.length:=by omega
      have hx:=g6 i hi;rw[Ql _ _ _ hi,Ql _ _ _ hi']at hx;have hx:([x[j].takes[i].fr,x[j].takes[i].gr] != [y[j].takes[i].fr,y[j].takes[i].gr])=false:=by unfold bne; rw[show([x[j].takes[i].fr,x[j].takes[i].gr]==[y[j].takes[i].fr,y[j].takes[i].gr])=true from hx]; rfl
      simp[QmW,QoU,Qr,hi,hi',dW,kC,hx,w2]
     .simp[QmW,g5,w1]
    .simp[QmW,h1]
   .rw[Qwi hk aM];simp[QmW,Qj,h1]
    (generalize aC:Cx.loop _ _ _=aE; apply Qi aC (λk=>⟨[(0,.d (.sl 5 (x.map QQ.enc))),(1,.d (.sl 5 (y.map QQ.enc))),(5,.d (DI k))],[],[],[]⟩) k rfl; rotate_left; (show _ < 281474976710656; omega); rfl; rotate_left; all_goals clear aC)
    .intro j fD;have zQ:j < x.length:=by omega
     have w1:=Qa ((j:Int)+1) (by omega) (by omega)
     obtain⟨eE,dY,kU,n6,xC,hj6⟩:=hB j zQ;have hx:=aT j fD;rw[xC]at hx;obtain⟨g1,g2,g3,g4,g5,g6⟩:=nE j eE dY hx;simp[QmW,QoU,Qe,eE,dY,kU,n6,g1,g2,g3,g4,g5]
     (generalize aC:Cx.loop _ _ _=aE; apply Qi aC (λi=>⟨[(0,.d (.sl 5 (x.map QQ.enc))),(1,.d (.sl 5 (y.map QQ.enc))),(5,.d (DI j)),(6,.loc 6 0),(7,.loc 7 0),(8,.d (DI i))],[(6,[.d (DS x[j].name),.d (DI x[j].grams),.d (DI x[j].fresh),.d (DB x[j].lost),.d (.sl 2 (x[j].takes.map Qce.enc))]),(7,[.d (DS y[j].name),.d (DI y[j].grams),.d (DI y[j].fresh),.d (DB y[j].lost),.d (.sl 2 (y[j].takes.map Qce.enc))])],[],[]⟩) x[j].takes.length rfl; rotate_left; (show _ < 281474976710656; omega); rfl; rotate_left; all_goals clear aC)
     .intro i hi;have w2:=Qa ((i:Int)+1) (by omega) (by omega)
      have hi':i < y[j].takes.length:=by omega
      have dW:(i:Int) < x[j].takes.length:=by omega
      have kC:(i:Int) < y[j].takes.length:=by omega
      have hx:=g6 i hi;rw[Ql _ _ _ hi,Ql _ _ _ hi']at hx;have hx:([x[j].takes[i].fr,x[j].takes[i].gr] != [y[j].takes[i].fr,y[j].takes[i].gr])=false:=by unfold bne; rw[show([x[j].takes[i].fr,x[j].takes[i].gr]==[y[j].takes[i].fr,y[j].takes[i].gr])=true from hx]; rfl
      simp[QmW,QoU,Qr,hi,hi',dW,kC,hx,w2]
     .simp[QmW,g5,w1]
    .obtain⟨eE,dY,kU,n6,xC,hj6⟩:=hB k hk;rw[xC]at aM;have n1:∀(p q:Int),(p==q)=false->(p != q)=true:=λp q h=>by unfold bne; rw[h]; rfl
     have p1:∀(p q:Int),(p==q)=true->(p != q)=false:=λp q h=>by unfold bne; rw[h]; rfl
     cases e1:(x[k].name.toList==y[k].name.toList)with
     | false=>simp[QmW,QoU,Qe,eE,dY,kU,n6,e1]
     | true=>
      cases e2:(x[k].grams==y[k].grams)with
      | false=>simp[QmW,QoU,Qe,eE,dY,kU,n6,e1,n1 _ _ e2]
      | true=>
       cases e3:(x[k].fresh==y[k].fresh)with
       | false=>simp[QmW,QoU,Qe,eE,dY,kU,n6,e1,p1 _ _ e2,n1 _ _ e3]
       | true=>
        cases e4:(x[k].lost==y[k].lost)with
        | false=>
         have zR:(x[k].lost != y[k].lost)=true:=by unfold bne; rw[e4]; rfl
         simp[QmW,QoU,Qe,eE,dY,kU,n6,e1,p1 _ _ e2,p1 _ _ e3,zR]
        | true=>
         have zR:(x[k].lost != y[k].lost)=false:=by unfold bne; rw[e4]; rfl
         by_cases e5:x[k].takes.length=y[k].takes.length
         .have hb:eqI QNL default x[k].takes y[k].takes=false:=by
           have:QAZ x[k] y[k]=true:=by unfold QAZ; simp only[e1,e2,e3,e4,decide_eq_true e5,Bool.and_self]
           unfold QCO at aM;rw[this,Bool.true_and]at aM; exact aM
          rcases Qbf (λi=>QNL (x[k].takes.getD i default) (y[k].takes.getD i default)) x[k].takes.length with mZ | ⟨m,hm,m3,kA⟩
          .rw[Qh5.2 ⟨e5,mZ⟩]at hb; cases hb
          .simp[QmW,QoU,Qe,eE,dY,kU,n6,e1,p1 _ _ e2,p1 _ _ e3,zR,e5]
           (generalize aC:Cx.loop _ _ _=aE; apply Qi aC (λi=>⟨[(0,.d (.sl 5 (x.map QQ.enc))),(1,.d (.sl 5 (y.map QQ.enc))),(5,.d (DI k)),(6,.loc 6 0),(7,.loc 7 0),(8,.d (DI i))],[(6,[.d (DS x[k].name),.d (DI x[k].grams),.d (DI x[k].fresh),.d (DB x[k].lost),.d (.sl 2 (x[k].takes.map Qce.enc))]),(7,[.d (DS y[k].name),.d (DI y[k].grams),.d (DI y[k].fresh),.d (DB y[k].lost),.d (.sl 2 (y[k].takes.map Qce.enc))])],[],[]⟩) m rfl; rotate_left; (show _ < 281474976710656; omega); rfl; rotate_left; all_goals clear aC)
           .intro i m9;have hi:i < x[k].takes.length:=by omega
            have w2:=Qa ((i:Int)+1) (by omega) (by omega)
            have hi':i < y[k].takes.length:=by omega
            have dW:(i:Int) < x[k].takes.length:=by omega
            have kC:(i:Int) < y[k].takes.length:=by omega
            have hx:=kA i m9;rw[Ql _ _ _ hi,Ql _ _ _ hi']at hx;have hx:([x[k].takes[i].fr,x[k].takes[i].gr] != [y[k].takes[i].fr,y[k].takes[i].gr])=false:=by unfold bne; rw[show([x[k].takes[i].fr,x[k].takes[i].gr]==[y[k].takes[i].fr,y[k].takes[i].gr])=true from hx]; rfl
            simp[QmW,QoU,Qr,hi,hi',dW,kC,hx,w2]
           .have hi':m < y[k].takes.length:=by omega
            have dW:(m:Int) < x[k].takes.length:=by omega
            have kC:(m:Int) < y[k].takes.length:=by omega
            have hx:=m3;rw[Ql _ _ _ hm,Ql _ _ _ hi']at hx;have hx:([x[k].takes[m].fr,x[k].takes[m].gr] != [y[k].takes[m].fr,y[k].takes[m].gr])=true:=by unfold bne; rw[show([x[k].takes[m].fr,x[k].takes[m].gr]==[y[k].takes[m].fr,y[k].takes[m].gr])=false from hx]; rfl
            simp[QmW,QoU,Qr,hm,hi',dW,kC,hx]
         .have e5':((x[k].takes.length:Int) != (y[k].takes.length:Int))=true:=bne_iff_ne.2 (by omega)
          simp[QmW,QoU,Qe,eE,dY,kU,n6,e1,p1 _ _ e2,p1 _ _ e3,zR,e5']
  .have h1':((x.length:Int) != (y.length:Int))=true:=bne_iff_ne.2 (by omega)
   rw[QwR (q:=QCO) h1];simp[QmW,Qj,h1']
 .cases hr
theorem QKR (xs:Array Value) (w:World):(callFunc 54 xs).run Tryz.prog w= .ok (.enter 54 xs) w:=by kernel_rfl
end Go.Proofs.YticoemblgkemiaaGreatDoor
