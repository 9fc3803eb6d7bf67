/-
  Reference functions of the trace chapter: equality of lists of numbers and of books. Conditions: none.
-/
import Derived.Test.YtnfeakhkfehkhaaGreatDoorZRefA
set_option linter.unusedSimpArgs false
set_option linter.unusedVariables false
namespace Go.Proofs.YtnfeakhkfehkhaaGreatDoor
open Go.RowKit
def eqI {α:Type} (q:α->α->Bool) (d:α) (a b:List α):Bool:=decide (a.length=b.length)&&(List.range a.length).all λi=>q (a.getD i d) (b.getD i d)
theorem QfQ {α:Type} {q:α->α->Bool} {d:α} {a b:List α} :eqI q d a b=true↔a.length=b.length/\∀i,i < a.length->q (a.getD i d) (b.getD i d)=true:=by
 unfold eqI;rw[Za,decide_eq_true_eq,Zl];exact⟨λh=>⟨h.1,λi hi=>h.2 i (Zm.2 hi)⟩,λh=>⟨h.1,λi hi=>h.2 i (Zm.1 hi)⟩⟩
theorem Qtp {α:Type} {q:α->α->Bool} {d:α} {a b:List α} {k:Nat} (hk:k < a.length) (h:q (a.getD k d) (b.getD k d)=false):eqI q d a b=false:=by
 cases e:eqI q d a b with
 | false=>rfl
 | true=>have:=(QfQ.1 e).2 k hk; rw[h]at this; cases this
theorem QuO {α:Type} {q:α->α->Bool} {d:α} {a b:List α} (h:¬a.length=b.length):eqI q d a b=false:=by
 cases e:eqI q d a b with
 | false=>rfl
 | true=>exact absurd (QfQ.1 e).1 h
def QsM (a b:Int):Bool:=a==b
def Qls (r:Nat):List (Nat×Option Nat):=match r with
 | 0=>kpn [0,1]
 | 1=>kpn [0,1,13]
 | 2=>[(4,none)]
 | 3=>kpn [0,1,5]
 | 4=>kpn [0,1,5,17]
 | 5=>kpn [0,1,5]
 | 6=>kpn [0,1,5,6,7]
 | 7=>kpn [0,1,5,6,7,62]
 | 8=>[(4,none)]
 | 9=>kpn [0,1,5,6,7,8]
 | 10=>kpn [0,1,5,6,7,8,67]
 | 11=>kpn [0,1,5,6,7,8]
 | 12=>kpn [0,1,5,6,7,8,80]
 | 13=>[(4,none)]
 | 14=>[(4,none)]
 | _=>[]
def s21:List D->Option D:=sp2 (Qy Qt) (Qy Qt) QaI λa b=>if a.length < 1000000 then some (eqI QsM 0 a b)else none
theorem ok21:∀ds d,s21 ds=some d->PureC Tryz.prog 21 ds d:=QaR λa b r hr=>by
 split at hr
 .rename_i nU;cases hr;refine Qm (QE QB 26 Qy4 []) Tryz.func21 rfl rfl (Zb rfl) (by kernel_rfl) ?_
  rw[Tryz.results21];by_cases hl:a.length=b.length
  .rcases QaK (λi=>QsM (a.getD i 0) (b.getD i 0)) a.length with hall | ⟨k,hk,aL,aM⟩
   .rw[QfQ.2 ⟨hl,hall⟩];simp[Qy4,Qg,hl]
    (generalize aC:Cx.loop _ _ _=aE; apply Qi aC (λk=>⟨[(0,.d (.sl 1 (a.map Qt.enc))),(1,.d (.sl 1 (b.map Qt.enc))),(5,.d (DI k))],[],[],[]⟩) a.length rfl; rotate_left; (show _ < 281474976710656; omega); rfl; rotate_left; all_goals clear aC)
    .intro j hj;have w1:=Qa ((j:Int)+1) (by omega) (by omega)
     have aO:(j:Int) < a.length:=by omega
     have cM:j < b.length:=by omega
     have mW:(j:Int) < b.length:=by omega
     have hx:=hall j hj;rw[Qj _ _ _ hj,Qj _ _ _ cM]at hx;have fY:a[j]=b[j]:=by simpa[QsM]using hx
     have hx:(a[j] != b[j])=false:=by simp[fY]
     simp[Qy4,Qc,hj,cM,aO,mW,hx,w1]
    .simp[Qy4,hl]
   .rw[Qtp hk aL];simp[Qy4,Qg,hl]
    (generalize aC:Cx.loop _ _ _=aE; apply Qi aC (λk=>⟨[(0,.d (.sl 1 (a.map Qt.enc))),(1,.d (.sl 1 (b.map Qt.enc))),(5,.d (DI k))],[],[],[]⟩) k rfl; rotate_left; (show _ < 281474976710656; omega); rfl; rotate_left; all_goals clear aC)
    .intro j fQ;have hj:j < a.length:=by omega
     have w1:=Qa ((j:Int)+1) (by omega) (by omega)
     have aO:(j:Int) < a.length:=by omega
     have cM:j < b.length:=by omega
     have mW:(j:Int) < b.length:=by omega
     have hx:=aM j fQ;rw[Qj _ _ _ hj,Qj _ _ _ cM]at hx;have fY:a[j]=b[j]:=by simpa[QsM]using hx
     have hx:(a[j] != b[j])=false:=by simp[fY]
     simp[Qy4,Qc,hj,cM,aO,mW,hx,w1]
    .have aO:(k:Int) < a.length:=by omega
     have cZ:k < b.length:=by omega
     have mW:(k:Int) < b.length:=by omega
     have hx:=aL;rw[Qj _ _ _ hk,Qj _ _ _ cZ]at hx;have hx:(a[k] != b[k])=true:=by simpa[QsM]using hx
     simp[Qy4,Qc,hk,cZ,aO,mW,hx]
  .rw[QuO hl];have hl':((a.length:Int) != (b.length:Int))=true:=bne_iff_ne.2 (by omega)
   simp[Qy4,Qg,hl']
 .cases hr
theorem QDv (xs:Array Value) (w:World):(callFunc 21 xs).run Tryz.prog w= .ok (.enter 21 xs) w:=by kernel_rfl
def QGH (a b:Tak):Bool:=[a.fr,a.gr]==[b.fr,b.gr]
def Qw8 (x y:Bat):Bool:=(x.name.toList==y.name.toList)&&((x.grams==y.grams)&&((x.fresh==y.fresh)&&((x.lost==y.lost)&&decide (x.takes.length=y.takes.length))))
def Qy1 (x y:Bat):Bool:=Qw8 x y&&eqI QGH default x.takes y.takes
def Qup (a b:List Bat):Bool:=eqI Qy1 default a b
def QGY (x:List Bat):Prop:=x.length < 1000000/\∀k∈x,k.takes.length < 1000000
instance (x:List Bat):Decidable (QGY x):=inferInstanceAs (Decidable (_/\∀k∈x,_))
def s33:List D->Option D:=sp2 (Qy QO) (Qy QO) QaI λx y=>if QGY x then some (Qup x y)else none
def Qny (r:Nat):List (Nat×Nat):=if r=6 then [(7,10)]else []
set_option maxHeartbeats 4000000 in
theorem ok33:∀ds d,s33 ds=some d->PureC Tryz.prog 33 ds d:=QaR λx y r hr=>by
 split at hr
 .rename_i gQ;cases hr;obtain⟨l1,l2⟩:=gQ;refine Qm (QbT QB Qct QbC QcU 81 Qls [] Qny (λ_=>0)) Tryz.func33 rfl rfl (Zb rfl) (by kernel_rfl) ?_
  unfold Qup;by_cases h1:x.length=y.length
  .have hB:∀j,j < x.length->∃(hj:j < x.length) (cM:j < y.length),(j:Int) < x.length/\(j:Int) < y.length/\Qy1 (x.getD j default) (y.getD j default)=Qy1 x[j] y[j]/\x[j].takes.length < 1000000:=λj hj=>by
    have cM:j < y.length:=by omega
    exact⟨hj,cM,by omega,by omega,by rw[Qj _ _ _ hj,Qj _ _ _ cM],l2 _ (Ze hj)⟩
   have mX:∀(j:Nat) (hj:j < x.length) (cM:j < y.length),Qy1 x[j] y[j]=true->(x[j].name.toList==y[j].name.toList)=true/\(x[j].grams != y[j].grams)=false/\(x[j].fresh != y[j].fresh)=false/\(x[j].lost != y[j].lost)=false/\x[j].takes.length=y[j].takes.length/\∀k,k < x[j].takes.length->QGH (x[j].takes.getD k default) (y[j].takes.getD k default)=true:=λj hj cM h=>by
    unfold Qy1 Qw8 at h;simp only[Za,decide_eq_true_eq]at h;obtain⟨⟨h1,h2,h3,h4,h5⟩,h6⟩:=h;exact⟨h1,by unfold bne; rw[h2]; rfl,by unfold bne; rw[h3]; rfl,by unfold bne; rw[h4]; rfl,h5,(QfQ.1 h6).2⟩
   rcases QaK (λi=>Qy1 (x.getD i default) (y.getD i default)) x.length with hall | ⟨k,hk,aL,aM⟩
   .rw[QfQ.2 ⟨h1,hall⟩];simp[Qls,Qe,h1]
    (generalize aC:Cx.loop _ _ _=aE; apply Qi aC (λk=>⟨[(0,.d (.sl 5 (x.map QO.enc))),(1,.d (.sl 5 (y.map QO.enc))),(5,.d (DI k))],[],[],[]⟩) x.length rfl; rotate_left; (show _ < 281474976710656; omega); rfl; rotate_left; all_goals clear aC)
    .intro j fQ;have yY:j < x.length:=by omega
     have w1:=Qa ((j:Int)+1) (by omega) (by omega)
     obtain⟨eE,dW,kM,nQ,wF,hj6⟩:=hB j yY;have hx:=hall j yY;rw[wF]at hx;obtain⟨g1,g2,g3,g4,g5,g6⟩:=mX j eE dW hx;simp[Qls,Qny,Qh,eE,dW,kM,nQ,g1,g2,g3,g4,g5]
     (generalize aC:Cx.loop _ _ _=aE; apply Qi aC (λi=>⟨[(0,.d (.sl 5 (x.map QO.enc))),(1,.d (.sl 5 (y.map QO.enc))),(5,.d (DI j)),(6,.loc 6 0),(7,.loc 7 0),(8,.d (DI i))],[(6,[.d (DS x[j].name),.d (DI x[j].grams),.d (DI x[j].fresh),.d (DB x[j].lost),.d (.sl 2 (x[j].takes.map Qb1.enc))]),(7,[.d (DS y[j].name),.d (DI y[j].grams),.d (DI y[j].fresh),.d (DB y[j].lost),.d (.sl 2 (y[j].takes.map Qb1.enc))])],[],[]⟩) x[j].takes.length rfl; rotate_left; (show _ < 281474976710656; omega); rfl; rotate_left; all_goals clear aC)
     .intro i hi;have w2:=Qa ((i:Int)+1) (by omega) (by omega)
      have hi':i < y[j].takes.length:=by omega
      have dC:(i:Int) < x[j].takes.length:=by omega
      have j4:(i:Int) < y[j].takes.length:=by omega
      have hx:=g6 i hi;rw[Qj _ _ _ hi,Qj _ _ _ hi']at hx;have hx:([x[j].takes[i].fr,x[j].takes[i].gr] != [y[j].takes[i].fr,y[j].takes[i].gr])=false:=by unfold bne; rw[show([x[j].takes[i].fr,x[j].takes[i].gr]==[y[j].takes[i].fr,y[j].takes[i].gr])=true from hx]; rfl
      simp[Qls,Qny,Qo,hi,hi',dC,j4,hx,w2]
     .simp[Qls,g5,w1]
    .simp[Qls,h1]
   .rw[Qtp hk aL];simp[Qls,Qe,h1]
    (generalize aC:Cx.loop _ _ _=aE; apply Qi aC (λk=>⟨[(0,.d (.sl 5 (x.map QO.enc))),(1,.d (.sl 5 (y.map QO.enc))),(5,.d (DI k))],[],[],[]⟩) k rfl; rotate_left; (show _ < 281474976710656; omega); rfl; rotate_left; all_goals clear aC)
    .intro j fQ;have yY:j < x.length:=by omega
     have w1:=Qa ((j:Int)+1) (by omega) (by omega)
     obtain⟨eE,dW,kM,nQ,wF,hj6⟩:=hB j yY;have hx:=aM j fQ;rw[wF]at hx;obtain⟨g1,g2,g3,g4,g5,g6⟩:=mX j eE dW hx;simp[Qls,Qny,Qh,eE,dW,kM,nQ,g1,g2,g3,g4,g5]
     (generalize aC:Cx.loop _ _ _=aE; apply Qi aC (λi=>⟨[(0,.d (.sl 5 (x.map QO.enc))),(1,.d (.sl 5 (y.map QO.enc))),(5,.d (DI j)),(6,.loc 6 0),(7,.loc 7 0),(8,.d (DI i))],[(6,[.d (DS x[j].name),.d (DI x[j].grams),.d (DI x[j].fresh),.d (DB x[j].lost),.d (.sl 2 (x[j].takes.map Qb1.enc))]),(7,[.d (DS y[j].name),.d (DI y[j].grams),.d (DI y[j].fresh),.d (DB y[j].lost),.d (.sl 2 (y[j].takes.map Qb1.enc))])],[],[]⟩) x[j].takes.length rfl; rotate_left; (show _ < 281474976710656; omega); rfl; rotate_left; all_goals clear aC)
     .intro i hi;have w2:=Qa ((i:Int)+1) (by omega) (by omega)
      have hi':i < y[j].takes.length:=by omega
      have dC:(i:Int) < x[j].takes.length:=by omega
      have j4:(i:Int) < y[j].takes.length:=by omega
      have hx:=g6 i hi;rw[Qj _ _ _ hi,Qj _ _ _ hi']at hx;have hx:([x[j].takes[i].fr,x[j].takes[i].gr] != [y[j].takes[i].fr,y[j].takes[i].gr])=false:=by unfold bne; rw[show([x[j].takes[i].fr,x[j].takes[i].gr]==[y[j].takes[i].fr,y[j].takes[i].gr])=true from hx]; rfl
      simp[Qls,Qny,Qo,hi,hi',dC,j4,hx,w2]
     .simp[Qls,g5,w1]
    .obtain⟨eE,dW,kM,nQ,wF,hj6⟩:=hB k hk;rw[wF]at aL;have n1:∀(p q:Int),(p==q)=false->(p != q)=true:=λp q h=>by unfold bne; rw[h]; rfl
     have p1:∀(p q:Int),(p==q)=true->(p != q)=false:=λp q h=>by unfold bne; rw[h]; rfl
     cases e1:(x[k].name.toList==y[k].name.toList)with
     | false=>simp[Qls,Qny,Qh,eE,dW,kM,nQ,e1]
     | true=>
      cases e2:(x[k].grams==y[k].grams)with
      | false=>simp[Qls,Qny,Qh,eE,dW,kM,nQ,e1,n1 _ _ e2]
      | true=>
       cases e3:(x[k].fresh==y[k].fresh)with
       | false=>simp[Qls,Qny,Qh,eE,dW,kM,nQ,e1,p1 _ _ e2,n1 _ _ e3]
       | true=>
        cases e4:(x[k].lost==y[k].lost)with
        | false=>
         have yZ:(x[k].lost != y[k].lost)=true:=by unfold bne; rw[e4]; rfl
         simp[Qls,Qny,Qh,eE,dW,kM,nQ,e1,p1 _ _ e2,p1 _ _ e3,yZ]
        | true=>
         have yZ:(x[k].lost != y[k].lost)=false:=by unfold bne; rw[e4]; rfl
         by_cases e5:x[k].takes.length=y[k].takes.length
         .have hb:eqI QGH default x[k].takes y[k].takes=false:=by
           have:Qw8 x[k] y[k]=true:=by unfold Qw8; simp only[e1,e2,e3,e4,decide_eq_true e5,Bool.and_self]
           unfold Qy1 at aL;rw[this,Bool.true_and]at aL; exact aL
          rcases QaK (λi=>QGH (x[k].takes.getD i default) (y[k].takes.getD i default)) x[k].takes.length with mS | ⟨m,hm,mT,j3⟩
          .rw[QfQ.2 ⟨e5,mS⟩]at hb; cases hb
          .simp[Qls,Qny,Qh,eE,dW,kM,nQ,e1,p1 _ _ e2,p1 _ _ e3,yZ,e5]
           (generalize aC:Cx.loop _ _ _=aE; apply Qi aC (λi=>⟨[(0,.d (.sl 5 (x.map QO.enc))),(1,.d (.sl 5 (y.map QO.enc))),(5,.d (DI k)),(6,.loc 6 0),(7,.loc 7 0),(8,.d (DI i))],[(6,[.d (DS x[k].name),.d (DI x[k].grams),.d (DI x[k].fresh),.d (DB x[k].lost),.d (.sl 2 (x[k].takes.map Qb1.enc))]),(7,[.d (DS y[k].name),.d (DI y[k].grams),.d (DI y[k].fresh),.d (DB y[k].lost),.d (.sl 2 (y[k].takes.map Qb1.enc))])],[],[]⟩) m rfl; rotate_left; (show _ < 281474976710656; omega); rfl; rotate_left; all_goals clear aC)
           .intro i lN;have hi:i < x[k].takes.length:=by omega
            have w2:=Qa ((i:Int)+1) (by omega) (by omega)
            have hi':i < y[k].takes.length:=by omega
            have dC:(i:Int) < x[k].takes.length:=by omega
            have j4:(i:Int) < y[k].takes.length:=by omega
            have hx:=j3 i lN;rw[Qj _ _ _ hi,Qj _ _ _ hi']at hx;have hx:([x[k].takes[i].fr,x[k].takes[i].gr] != [y[k].takes[i].fr,y[k].takes[i].gr])=false:=by unfold bne; rw[show([x[k].takes[i].fr,x[k].takes[i].gr]==[y[k].takes[i].fr,y[k].takes[i].gr])=true from hx]; rfl
            simp[Qls,Qny,Qo,hi,hi',dC,j4,hx,w2]
           .have hi':m < y[k].takes.length:=by omega
            have dC:(m:Int) < x[k].takes.length:=by omega
            have j4:(m:Int) < y[k].takes.length:=by omega
            have hx:=mT;rw[Qj _ _ _ hm,Qj _ _ _ hi']at hx;have hx:([x[k].takes[m].fr,x[k].takes[m].gr] != [y[k].takes[m].fr,y[k].takes[m].gr])=true:=by unfold bne; rw[show([x[k].takes[m].fr,x[k].takes[m].gr]==[y[k].takes[m].fr,y[k].takes[m].gr])=false from hx]; rfl
            simp[Qls,Qny,Qo,hm,hi',dC,j4,hx]
         .have e5':((x[k].takes.length:Int) != (y[k].takes.length:Int))=true:=bne_iff_ne.2 (by omega)
          simp[Qls,Qny,Qh,eE,dW,kM,nQ,e1,p1 _ _ e2,p1 _ _ e3,yZ,e5']
  .have h1':((x.length:Int) != (y.length:Int))=true:=bne_iff_ne.2 (by omega)
   rw[QuO (q:=Qy1) h1];simp[Qls,Qe,h1']
 .cases hr
theorem QD6 (xs:Array Value) (w:World):(callFunc 33 xs).run Tryz.prog w= .ok (.enter 33 xs) w:=by kernel_rfl
end Go.Proofs.YtnfeakhkfehkhaaGreatDoor
