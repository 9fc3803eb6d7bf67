/-
  TraceRound: Read of what Write returns is the book, Write of what Read returns is the same text. Conditions: none.
-/
import Derived.Test.YtnfeakhkfehkhaaGreatDoorZLawA
set_option linter.unusedSimpArgs false
set_option linter.unusedVariables false
namespace Go.Proofs.YtnfeakhkfehkhaaGreatDoor
open Go.RowKit
def QPu (r:Nat):List (Nat×Option Nat):=match r with
 | 0=>kpn [0,1]
 | 1=>kpn [0,1,5,6]
 | 2=>kpn [0,1,5,16]
 | 3=>kpn [0,1,5,7,8]
 | 4=>kpn [1,34]
 | 5=>[(4,none)]
 | 6=>kpn [1,6,9]
 | 7=>kpn [1,9,41]
 | 8=>[(4,none)]
 | 9=>kpn [1,5,6]
 | 10=>[(4,none)]
 | _=>[]
theorem QPq {b:List Bat} (h:(Q5 b).2.2=0):QII (Qeu b)=(b,0)/\(Qeu b).size<=3000:=by
 have aQ:=((Qbl b).1 h).ok;have cC:(Qeu b).size<=3000:=by
  have h1:=QkN aQ b.length (Zr _);have h2:=aQ.le;have h3:(Qer b b.length).size<=3000:=by omega
  exact h3
 refine⟨?_,cC⟩;rw[<-QJM];exact QJL h aQ (QIX aQ) (by omega)
theorem QPp {t:ByteArray} (h:(QII t).2=0):(Q5 (QII t).1).2.2=0/\(Qeu (QII t).1).toList=t.toList:=by
 unfold QII at h|-;by_cases h2:3000 < t.size
 .rw[if_pos h2]at h; cases h
 .rw[if_neg h2]at h|-;by_cases h3:(Q5 (QIi t)).2.2=0/\(Qeu (QIi t)).toList=t.toList
  .rw[if_pos h3]; exact h3
  .rw[if_neg h3]at h; cases h
theorem QPs {t:ByteArray} (h:¬(QII t).2=0):QII t=([],(QII t).2):=by
 unfold QII at h|-;split
 .rfl
 .rename_i h2;rw[if_neg h2]at h;split
  .rename_i h3;rw[if_pos h3]at h; exact absurd rfl h
  .rfl
theorem QPo {b:List Bat} (h:(Q5 b).2.2=0):bkB b=true/\Qdx b/\QGY b:=by
 have aQ:=((Qbl b).1 h).ok;have aX:=aQ.le;have ht:∀x∈b,x.takes.length<=8/\x.name.size<=20:=λx hx=>by
  obtain⟨k,hk,rfl⟩:=List.getElem_of_mem hx;have hb:=aQ.at hk;have h1:=Qdy hb.asc hb.fr;exact⟨by omega,QvR hb.name⟩
 refine⟨?_,?_,by omega,λx hx=>by have:=(ht x hx).1; omega⟩
 .unfold bkB;rw[Zl];intro x hx;have:=(ht x hx).1;rw[decide_eq_true_eq]; omega
 .intro x hx;have:=(ht x hx).2;unfold Qxi;omega
noncomputable def QPn:List (Nat×(List D->Option D)):=(31,QKs)::QHV
theorem QPt:Qay Tryz.prog (Qas QPn):=Ql QHu QDN QKy
noncomputable def s16:List D->Option D:=sp2 (Qy QO) QmM QaI λb s=>if QcC b then some true else none
set_option maxHeartbeats 2000000 in
theorem ok16:∀ds d,s16 ds=some d->PureC Tryz.prog 16 ds d:=QaR λb s r hr=>by
 split at hr
 .rename_i hs;cases hr;refine Qm (QE QPt 63 QPu []) Tryz.func16 rfl rfl (Zb rfl) (by kernel_rfl) ?_
  rw[Tryz.results16];have e29:=QFS ⟨hs.1,hs.2.1⟩;have e31:∀t,QKs [DS t]=some (.tup [.sl 5 ((QII t).1.map QO.enc),DI (QII t).2]):=λt=>rfl;have second:(¬(QII s).2=0/\QII s=([],(QII s).2))\/∃m,QII s=(m,0)/\s29 [.sl 5 (m.map QO.enc)]=some (.tup [DS (Qeu m),DI 0])/\((Qeu m).toList==s.toList)=true:=by
   by_cases h:(QII s).2=0
   .obtain⟨h1,h2⟩:=QPp h;have e:=QFS ⟨(QPo h1).1,(QPo h1).2.1⟩;have hw:QhL (QII s).1=(Qeu (QII s).1,0):=by unfold QhL; rw[if_pos h1]
    rw[hw]at e;exact .inr ⟨(QII s).1,by rw[<-h],e,by rw[h2]; simp⟩
   .exact .inl ⟨h,QPs h⟩
  have eS:=e31 s;generalize hR:QII s=R at*;by_cases h:(Q5 b).2.2=0
  .have hw:QhL b=(Qeu b,0):=by unfold QhL; rw[if_pos h]
   obtain⟨hr,cC⟩:=QPq h;have eT:=e31 (Qeu b);rw[hr]at eT;rw[hw]at e29;have f1:=QKp b (QPo h).2.2;have hsz1:¬(3000:Int) < (Qeu b).size:=by omega
   have mQ:¬3000 < (Qeu b).size:=by omega
   generalize Qeu b=V at*;rcases second with⟨h1,h2⟩ | ⟨m,h2,h3,h4⟩
   .obtain⟨R1,e⟩:=R;simp only at h1 h2 eS;have h1':(e != 0)=true:=by simpa using h1
    obtain rfl:R1=[]:=congrArg Prod.fst h2;simp[QPu,QPn,QHV,QGa,s24,Qe,e29,eT,eS,f1,hsz1,h1']
   .subst h2;simp only at eS;simp[QPu,QPn,QHV,QGa,s24,Qe,e29,eT,eS,f1,hsz1,h3,h4]
  .have hw:QhL b=(⟨#[]⟩,(Q5 b).2.2):=by unfold QhL; rw[if_neg h]
   rw[hw]at e29;have lV:((Q5 b).2.2==0)=false:=by simpa using h
   generalize(Q5 b).2.2=f at*;rcases second with⟨h1,h2⟩ | ⟨m,h2,h3,h4⟩
   .obtain⟨R1,e⟩:=R;simp only at h1 h2 eS;have h1':(e != 0)=true:=by simpa using h1
    obtain rfl:R1=[]:=congrArg Prod.fst h2;simp[QPu,QPn,QHV,QGa,s24,Qe,e29,eS,lV,h1']
   .subst h2;simp only at eS;simp[QPu,QPn,QHV,QGa,s24,Qe,e29,eS,lV,h3,h4]
 .cases hr
end Go.Proofs.YtnfeakhkfehkhaaGreatDoor
