/-
  Reference functions of the trace chapter: can all batches take what they need? Conditions: none.
-/
import Derived.Test.YtnfeakhkfehkhaaGreatDoorZRefA
import Derived.Test.YtnfeakhkfehkhaaGreatDoorZPlan
set_option linter.unusedSimpArgs false
set_option linter.unusedVariables false
namespace Go.Proofs.YtnfeakhkfehkhaaGreatDoor
open Go.RowKit
def Qdo (r:Nat):List (Nat×Option Nat):=match r with
 | 0=>[(1,none)]
 | 1=>[(1,none),(3,some 1)]
 | 2=>[(1,none),(3,some 1),(4,none)]
 | 3=>[(1,none),(3,some 1),(4,none),(16,none)]
 | 4=>[(1,none),(3,some 1),(4,none)]
 | 5=>[(1,none),(3,some 1),(4,none),(32,none)]
 | 6=>[(2,none)]
 | 7=>[(1,none),(3,some 1),(4,none),(38,none)]
 | 8=>[(1,none),(3,some 1),(4,none)]
 | 9=>[(1,none),(3,some 1),(5,none)]
 | 10=>[(1,none),(3,some 1),(5,none),(47,none)]
 | 11=>[(1,none),(3,some 1),(5,none)]
 | 12=>[(1,none),(3,some 1),(5,none),(6,none),(7,none)]
 | 13=>[(1,none),(3,some 1),(5,none),(6,none),(7,none),(8,none)]
 | 14=>[(1,none),(3,some 1),(5,none),(6,none),(7,none),(8,none),(53,none)]
 | 15=>[(1,none),(3,some 1),(5,none),(6,none),(7,none),(8,none)]
 | 16=>[(1,none),(3,some 1),(5,none),(6,none),(7,none),(8,none),(61,none)]
 | 17=>[(1,none),(3,some 1),(5,none),(6,none),(7,none),(8,none)]
 | 18=>[(1,none),(3,some 1),(5,none),(6,none),(7,none),(9,none)]
 | 19=>[(1,none),(3,some 1),(5,none),(6,none),(7,none),(9,none),(76,none)]
 | 20=>[(1,none),(3,some 1),(5,none),(6,none),(7,none),(9,none)]
 | 21=>[(1,none),(3,some 1),(5,none),(6,none),(7,none),(9,none),(10,none)]
 | 22=>[(1,none),(3,some 1),(5,none),(6,none),(7,none),(9,none),(10,none),(11,none)]
 | 23=>[(1,none),(3,some 1),(5,none),(6,none),(7,none),(9,none),(10,none),(11,none),(82,none)]
 | 24=>[(1,none),(3,some 1),(5,none),(6,none),(7,none),(9,none),(10,none),(11,none)]
 | 25=>[(1,none),(3,some 1),(5,none),(6,none),(7,none),(9,none),(10,none),(11,none)]
 | 26=>[(1,none),(3,some 1),(5,none),(6,none),(7,none),(9,none),(103,none)]
 | 27=>[(1,none),(3,some 1),(5,none),(6,none),(7,none),(9,none)]
 | 28=>[(1,none),(3,some 1),(5,none),(113,none)]
 | 29=>[(2,none)]
 | 30=>[(2,none)]
 | _=>[]
def l5:List (Nat×(List D->Option D)):=[(97,s97),(98,s98)]
theorem del5:Qay Tryz.prog (Qas l5):=Ql (Ql QB QFr ok98) Qzc ok97
def pw (n:Nat):Int:=((2 ^ n:Nat):Int)
def dv (s n:Nat):Int:=((s / 2 ^ n:Nat):Int)
def QeB (s k:Nat):Bool:=decide (s / 2 ^ k % 2=1)
theorem QoE (n:Nat):¬pw n=0:=by
 have:0 < 2 ^ n:=Nat.two_pow_pos n;unfold pw; omega
theorem h97 (n:Nat) (h:n<=60):s97 [DI n]=some (DI (pw n)):=by
 have h0:(0:Int)<=n/\(n:Int)<=60:=by omega
 simp[s97,sp1,h0,pw]
theorem hr2 (s a:Nat):((dv s a).tmod 2==1)=QeB s a:=by
 unfold dv QeB;rw[show((2:Int))=((2:Nat):Int)from rfl,<-Int.ofNat_tmod];rcases Nat.mod_two_eq_zero_or_one (s / 2 ^ a)with h | h<;>simp[h]
theorem hq (s a:Nat) (hs:s < 9223372036854775808) (ha:a<=60):IntKind.i64.wrap ((s:Int) / (pw a))=dv s a:=by
 unfold pw dv;rw[<-Int.natCast_ediv];have:s / 2 ^ a<=s:=Nat.div_le_self _ _;generalize s / 2 ^ a=q at this|-;exact Qa _ (by omega) (by omega)
def QbJ (p:Pro) (k:Nat):List Int:=((List.range k).filter λi=>decide (0 < p.needs.getD i 0)).map λ(i:Nat)=>(i:Int)
theorem Qmb (p:Pro) (k:Nat):(QbJ p k).length<=k:=by
 unfold QbJ;rw[List.length_map];exact Nat.le_trans (List.length_filter_le _ _) (by simp)
theorem Qee {p:Pro} {k:Nat} (h:0 < p.needs.getD k 0):QbJ p (k+1)=QbJ p k++[(k:Int)]:=by
 rw[Zd]at h;simp[QbJ,List.range_succ,List.filter_append,h]
theorem Qiv {p:Pro} {k:Nat} (h:¬0 < p.needs.getD k 0):QbJ p (k+1)=QbJ p k:=by
 rw[Zd]at h;simp only[QbJ,List.range_succ,List.filter_append,List.filter_cons,List.filter_nil,Zd,h,decide_false,Bool.false_eq_true,if_false,List.append_nil]
theorem Qx7 {p:Pro} {k:Nat} {x:Int} (h:x∈QbJ p k):0<=x/\x < k:=by
 simp only[QbJ,List.mem_map,List.mem_filter,Zm]at h;obtain⟨i,⟨h1,_⟩,rfl⟩:=h;omega
def QcO (p:Pro) (l:List Int) (s k:Nat):Int:=QY k λa=>if QeB s a=true then p.needs.getD (l.getD a 0).toNat 0 else 0
def QeI (p:Pro) (l:List Int) (s i k:Nat):Bool:=(List.range k).any λa=>QeB s a&&QAz p i (l.getD a 0)
def Qi9 (p:Pro) (l:List Int) (s i:Nat):Int:=QY i λx=>if QeI p l s x l.length=true then p.has.getD x 0 else 0
@[simp] theorem needS_zero (p : Pro) (l : List Int) (s : Nat) : QcO p l s 0 = 0 := rfl
@[simp] theorem hasS_zero (p : Pro) (l : List Int) (s : Nat) : Qi9 p l s 0 = 0 := rfl
@[simp] theorem someS_zero (p : Pro) (l : List Int) (s i : Nat) : QeI p l s i 0 = false := rfl
theorem QdC (p:Pro) (l:List Int) (s k:Nat):QcO p l s (k+1)=QcO p l s k+if QeB s k=true then p.needs.getD (l.getD k 0).toNat 0 else 0:=rfl
theorem QgJ (p:Pro) (l:List Int) (s i:Nat):Qi9 p l s (i+1)=Qi9 p l s i+if QeI p l s i l.length=true then p.has.getD i 0 else 0:=rfl
theorem Qhl (p:Pro) (l:List Int) (s i k:Nat):QeI p l s i (k+1)=(QeI p l s i k||QeB s k&&QAz p i (l.getD k 0)):=by
 simp[QeI,List.range_succ]
structure PrOk (p:Pro):Prop where
 len:p.needs.length=p.has.length
 le:p.has.length<=8
 vals:∀i,-1000000000<=p.has.getD i 0/\p.has.getD i 0<=1000000000/\ -1000000000<=p.needs.getD i 0/\p.needs.getD i 0<=1000000000
 nev:p.never.length<=1000000
theorem QkM {p:Pro} (h:PrOk p) (i:Nat): -1000000000<=p.has.getD i 0/\p.has.getD i 0<=1000000000/\ -1000000000<=p.needs.getD i 0/\p.needs.getD i 0<=1000000000:=h.vals i
theorem Qh7 {p:Pro} (h:PrOk p) {l:List Int} (hl:l.length<=8) (s:Nat):∀k,k<=l.length-> -1000000000*(k:Int)<=QcO p l s k/\QcO p l s k<=1000000000*(k:Int)
 | 0,_=>by simp
 | k+1,hk=>by
  have ih:=Qh7 h hl s k (by omega)
  have:=h.vals (l.getD k 0).toNat;rw[QdC];split<;>omega
theorem Qma {p:Pro} (h:PrOk p) (l:List Int) (s:Nat):∀i,i<=p.has.length-> -1000000000*(i:Int)<=Qi9 p l s i/\Qi9 p l s i<=1000000000*(i:Int)
 | 0,_=>by simp
 | i+1,hi=>by
  have ih:=Qma h l s i (by omega)
  have:=h.vals i;rw[QgJ];split<;>omega
def QjW (p:Pro) (i:Nat):Bool:=decide (0<=p.has.getD i 0)&&decide (0<=p.needs.getD i 0)
def Qmv (p:Pro) (l:List Int) (s:Nat):Bool:=decide (QcO p l s l.length<=Qi9 p l s p.has.length)
def QaT (p:Pro):Bool:=(List.range p.needs.length).all (QjW p)&&(List.range (2 ^ (QbJ p p.needs.length).length)).all (Qmv p (QbJ p p.needs.length))
noncomputable instance (p:Pro):Decidable (PrOk p):=Classical.propDecidable _
noncomputable def s56:List D->Option D:=sp1 (QeC Qqw) QaI λp=>if PrOk p then some (QaT p)else none
set_option maxHeartbeats 8000000 in
theorem QG3:∀ds d,s56 ds=some d->PureC Tryz.prog 56 ds d:=Qb2 λp r hr=>by
 split at hr
 .rename_i aQ;cases hr;have rQ:=aQ.len;have aX:=aQ.le;have pW:=aQ.nev;have h98:∀x t:Int,s98 [.agg [.sl 1 (p.has.map Qt.enc),.sl 1 (p.needs.map Qt.enc),.sl 2 (p.never.map Qcg.enc)],DI x,DI t]=some (DB (QAz p x t)):=λx t=>by
   simp[s98,sp3,Qtd,pW]
  refine Qm (QE del5 114 Qdo []) Tryz.func56 rfl rfl (Zb rfl) (by kernel_rfl) ?_
  rw[Tryz.results56];unfold QaT;rcases QaK (QjW p) p.needs.length with hall | ⟨k,hk,aL,aM⟩
  .have e1:(List.range p.needs.length).all (QjW p)=true:=by
    rw[Zl]; intro i hi; exact hall i (Zm.1 hi)
   rw[e1,Bool.true_and];simp[Qdo,l5,QK]
   (generalize aC:Cx.loop _ _ _=aE; apply Qi aC (λk=>⟨[(1,.loc 1 0),(3,.sl 1 ((QbJ p k).map Qt.enc) (.tok 3)),(4,.d (DI k))],[(1,[.d (.sl 1 (p.has.map Qt.enc)),.d (.sl 1 (p.needs.map Qt.enc)),.d (.sl 2 (p.never.map Qcg.enc))])],[3],[]⟩) p.needs.length (by first | (simp; done) | (simp; rfl) | (simp; simp[*])); rotate_left; (show _ < 281474976710656; omega); rfl; rotate_left; all_goals clear aC)
   .intro j hj;have w1:=Qa ((j:Int)+1) (by omega) (by omega)
    have aO:(j:Int) < p.needs.length:=by omega
    have sH:j < p.has.length:=by omega
    have mU:(j:Int) < p.has.length:=by omega
    have hk:=Qmb p j;have h1:(QbJ p j).length+1<=140737488355328:=by omega
    have h2:((QbJ p j).length+1)*8<=140737488355328:=by omega
    have hg:=hall j hj;unfold QjW at hg;rw[Qj p.has j _ sH,Qj p.needs j _ hj,Za,decide_eq_true_eq,decide_eq_true_eq]at hg;have g1:¬p.has[j] < 0:=by omega
    have g2:¬p.needs[j] < 0:=by omega
    by_cases hp:0 < p.needs[j]
    .have e:=Qee (p:=p) (k:=j) (by rw[Qj p.needs j _ hj]; exact hp)
     rw[e];simp[Qdo,Qc,hj,aO,sH,mU,w1,g1,g2,hp,h1,h2]
    .have e:=Qiv (p:=p) (k:=j) (by rw[Qj p.needs j _ hj]; exact hp)
     rw[e];simp[Qdo,Qc,hj,aO,sH,mU,w1,g1,g2,hp]
   .have hL8:=Qmb p p.needs.length;have hLm:∀x∈QbJ p p.needs.length,0<=x/\x < (p.needs.length:Int):=λx hx=>Qx7 hx;generalize QbJ p p.needs.length=L at*;have nJ:L.length<=8:=by omega
    have sI:∀a (ha:a < L.length),0<=L[a]/\L[a] < (p.needs.length:Int):=λa ha=>hLm _ (Ze ha);have yU:pw L.length<=256:=by
     unfold pw;have:2 ^ L.length<=2 ^ 8:=Nat.pow_le_pow_right (by omega) nJ
     omega
    have oR:=h97 L.length (by omega)
    have kB:2 ^ L.length<=256:=by
     have:2 ^ L.length<=2 ^ 8:=Nat.pow_le_pow_right (by omega) nJ
     omega
    rcases QaK (Qmv p L) (2 ^ L.length)with hallS | ⟨s,hs,hbadS,hgoodS⟩
    .have e2:(List.range (2 ^ L.length)).all (Qmv p L)=true:=by
      rw[Zl]; intro i hi; exact hallS i (Zm.1 hi)
     rw[e2];simp[Qdo]
     (generalize aC:Cx.loop _ _ _=aE; apply Qi aC (λs=>⟨[(1,.loc 1 0),(3,.sl 1 (L.map Qt.enc) (.tok 3)),(5,.d (DI s))],[(1,[.d (.sl 1 (p.has.map Qt.enc)),.d (.sl 1 (p.needs.map Qt.enc)),.d (.sl 2 (p.never.map Qcg.enc))])],[3],[]⟩) (2 ^ L.length) (by first | (simp; done) | (simp; rfl) | (simp; simp[*])); rotate_left; (show _ < 281474976710656; omega); rfl; rotate_left; all_goals clear aC)
     .intro s hs;have sD:(s:Int) < pw L.length:=by unfold pw; omega
      have iV:s < 9223372036854775808:=by omega
      have ws1:=Qa ((s:Int)+1) (by omega) (by omega)
      have hg:=hallS s hs;unfold Qmv at hg;rw[decide_eq_true_eq]at hg;have jT:¬Qi9 p L s p.has.length < QcO p L s L.length:=by omega
      simp[Qdo,oR,sD]
      (generalize aC:Cx.loop _ _ _=aE; apply Qi aC (λa=>⟨[(1,.loc 1 0),(3,.sl 1 (L.map Qt.enc) (.tok 3)),(5,.d (DI s)),(6,.d (DI (QcO p L s a))),(7,.d (DI 0)),(8,.d (DI a))],[(1,[.d (.sl 1 (p.has.map Qt.enc)),.d (.sl 1 (p.needs.map Qt.enc)),.d (.sl 2 (p.never.map Qcg.enc))])],[3],[]⟩) L.length (by first | (simp; done) | (simp; rfl) | (simp; simp[*])); rotate_left; (show _ < 281474976710656; omega); rfl; rotate_left; all_goals clear aC)
      .intro a ha;have w1:=Qa ((a:Int)+1) (by omega) (by omega)
       have aP:(a:Int) < L.length:=by omega
       have iW:=h97 a (by omega)
       have q1:=hq s a iV (by omega)
       have q2:=hr2 s a;have q3:=QoE a;have pZ:=sI a ha;have hb:=Qh7 aQ nJ s a (by omega)
       have hv:=QkM aQ L[a].toNat;have e:=QdC p L s a;cases hbit:QeB s a with
       | false=>
        rw[hbit]at q2 e;simp at e;simp[Qdo,aP,iW,q1,q2,q3,w1,e]
       | true=>
        rw[hbit]at q2 e;simp only[if_true,Qj L a _ ha]at e;have hz:L[a].toNat < p.needs.length:=by omega
        have lK:p.needs.getD L[a].toNat 0=p.needs[L[a].toNat]:=Qj p.needs _ _ hz;rw[lK]at e hv;have ws:IntKind.i64.wrap (QcO p L s a+p.needs[L[a].toNat])=QcO p L s (a+1):=by rw[e]; exact Qa _ (by omega) (by omega)
        simp[Qdo,Qc,ha,aP,iW,q1,q2,q3,w1,hz,pZ.1,pZ.2,ws]
      .simp[Qdo]
       (generalize aC:Cx.loop _ _ _=aE; apply Qi aC (λi=>⟨[(1,.loc 1 0),(3,.sl 1 (L.map Qt.enc) (.tok 3)),(5,.d (DI s)),(6,.d (DI (QcO p L s L.length))),(7,.d (DI (Qi9 p L s i))),(9,.d (DI i))],[(1,[.d (.sl 1 (p.has.map Qt.enc)),.d (.sl 1 (p.needs.map Qt.enc)),.d (.sl 2 (p.never.map Qcg.enc))])],[3],[]⟩) p.has.length (by first | (simp; done) | (simp; rfl) | (simp; simp[*])); rotate_left; (show _ < 281474976710656; omega); rfl; rotate_left; all_goals clear aC)
       .intro i hi;have w1:=Qa ((i:Int)+1) (by omega) (by omega)
        have dC:(i:Int) < p.has.length:=by omega
        have hb:=Qma aQ L s i (by omega)
        have hv:=QkM aQ i;have e:=QgJ p L s i;have hh:p.has.getD i 0=p.has[i]:=Qj p.has i _ hi;simp[Qdo,dC]
        (generalize aC:Cx.loop _ _ _=aE; apply Qi aC (λa=>⟨[(1,.loc 1 0),(3,.sl 1 (L.map Qt.enc) (.tok 3)),(5,.d (DI s)),(6,.d (DI (QcO p L s L.length))),(7,.d (DI (Qi9 p L s i))),(9,.d (DI i)),(10,.d (DB (QeI p L s i a))),(11,.d (DI a))],[(1,[.d (.sl 1 (p.has.map Qt.enc)),.d (.sl 1 (p.needs.map Qt.enc)),.d (.sl 2 (p.never.map Qcg.enc))])],[3],[]⟩) L.length (by first | (simp; done) | (simp; rfl) | (simp; simp[*])); rotate_left; (show _ < 281474976710656; omega); rfl; rotate_left; all_goals clear aC)
        .intro a ha;have w1:=Qa ((a:Int)+1) (by omega) (by omega)
         have aP:(a:Int) < L.length:=by omega
         have iW:=h97 a (by omega)
         have q1:=hq s a iV (by omega)
         have q2:=hr2 s a;have q3:=QoE a;have wC:=h98 (i:Int) L[a];have e:=Qhl p L s i a;rw[Qj L a _ ha]at e;cases hsm:QeI p L s i a with
         | true=>
          rw[hsm]at e;simp[Qdo,aP,e,w1]
         | false=>
          rw[hsm]at e;cases hbit:QeB s a with
          | false=>
           rw[hbit]at q2 e;simp at e;simp[Qdo,aP,iW,q1,q2,q3,e,w1]
          | true=>
           rw[hbit]at q2 e;simp at e;simp[Qdo,Qc,ha,aP,iW,q1,q2,q3,wC,e,w1]
        .cases hsm:QeI p L s i L.length with
         | false=>
          rw[hsm]at e;simp at e;simp[Qdo,e,w1]
         | true=>
          rw[hsm,if_pos rfl,hh]at e;rw[hh]at hv;have ws:IntKind.i64.wrap (Qi9 p L s i+p.has[i])=Qi9 p L s (i+1):=by rw[e]; exact Qa _ (by omega) (by omega)
          simp[Qdo,Qc,hi,dC,ws,w1]
       .simp[Qdo,jT,ws1]
     .have cY:¬((2:Int) ^ L.length < pw L.length):=by
       have e:pw L.length=(2:Int) ^ L.length:=by unfold pw; simp
       rw[e]; exact Int.lt_irrefl _
      simp[Qdo,oR,cY]
    .have e2:(List.range (2 ^ L.length)).all (Qmv p L)=false:=by
      rw[List.all_eq_false]; exact⟨s,Zm.2 hs,by rw[hbadS]; simp⟩
     rw[e2];simp[Qdo];generalize hS0:s=S0 at*
     (generalize aC:Cx.loop _ _ _=aE; apply Qi aC (λs=>⟨[(1,.loc 1 0),(3,.sl 1 (L.map Qt.enc) (.tok 3)),(5,.d (DI s))],[(1,[.d (.sl 1 (p.has.map Qt.enc)),.d (.sl 1 (p.needs.map Qt.enc)),.d (.sl 2 (p.never.map Qcg.enc))])],[3],[]⟩) S0 (by first | (simp; done) | (simp; rfl) | (simp; simp[*])); rotate_left; (show _ < 281474976710656; omega); rfl; rotate_left; all_goals clear aC)
     .intro s m9;have sD:(s:Int) < pw L.length:=by unfold pw; omega
      have iV:s < 9223372036854775808:=by omega
      have ws1:=Qa ((s:Int)+1) (by omega) (by omega)
      have hg:=hgoodS s m9;unfold Qmv at hg;rw[decide_eq_true_eq]at hg;have jT:¬Qi9 p L s p.has.length < QcO p L s L.length:=by omega
      simp[Qdo,oR,sD]
      (generalize aC:Cx.loop _ _ _=aE; apply Qi aC (λa=>⟨[(1,.loc 1 0),(3,.sl 1 (L.map Qt.enc) (.tok 3)),(5,.d (DI s)),(6,.d (DI (QcO p L s a))),(7,.d (DI 0)),(8,.d (DI a))],[(1,[.d (.sl 1 (p.has.map Qt.enc)),.d (.sl 1 (p.needs.map Qt.enc)),.d (.sl 2 (p.never.map Qcg.enc))])],[3],[]⟩) L.length (by first | (simp; done) | (simp; rfl) | (simp; simp[*])); rotate_left; (show _ < 281474976710656; omega); rfl; rotate_left; all_goals clear aC)
      .intro a ha;have w1:=Qa ((a:Int)+1) (by omega) (by omega)
       have aP:(a:Int) < L.length:=by omega
       have iW:=h97 a (by omega)
       have q1:=hq s a iV (by omega)
       have q2:=hr2 s a;have q3:=QoE a;have pZ:=sI a ha;have hb:=Qh7 aQ nJ s a (by omega)
       have hv:=QkM aQ L[a].toNat;have e:=QdC p L s a;cases hbit:QeB s a with
       | false=>
        rw[hbit]at q2 e;simp at e;simp[Qdo,aP,iW,q1,q2,q3,w1,e]
       | true=>
        rw[hbit]at q2 e;simp only[if_true,Qj L a _ ha]at e;have hz:L[a].toNat < p.needs.length:=by omega
        have lK:p.needs.getD L[a].toNat 0=p.needs[L[a].toNat]:=Qj p.needs _ _ hz;rw[lK]at e hv;have ws:IntKind.i64.wrap (QcO p L s a+p.needs[L[a].toNat])=QcO p L s (a+1):=by rw[e]; exact Qa _ (by omega) (by omega)
        simp[Qdo,Qc,ha,aP,iW,q1,q2,q3,w1,hz,pZ.1,pZ.2,ws]
      .simp[Qdo]
       (generalize aC:Cx.loop _ _ _=aE; apply Qi aC (λi=>⟨[(1,.loc 1 0),(3,.sl 1 (L.map Qt.enc) (.tok 3)),(5,.d (DI s)),(6,.d (DI (QcO p L s L.length))),(7,.d (DI (Qi9 p L s i))),(9,.d (DI i))],[(1,[.d (.sl 1 (p.has.map Qt.enc)),.d (.sl 1 (p.needs.map Qt.enc)),.d (.sl 2 (p.never.map Qcg.enc))])],[3],[]⟩) p.has.length (by first | (simp; done) | (simp; rfl) | (simp; simp[*])); rotate_left; (show _ < 281474976710656; omega); rfl; rotate_left; all_goals clear aC)
       .intro i hi;have w1:=Qa ((i:Int)+1) (by omega) (by omega)
        have dC:(i:Int) < p.has.length:=by omega
        have hb:=Qma aQ L s i (by omega)
        have hv:=QkM aQ i;have e:=QgJ p L s i;have hh:p.has.getD i 0=p.has[i]:=Qj p.has i _ hi;simp[Qdo,dC]
        (generalize aC:Cx.loop _ _ _=aE; apply Qi aC (λa=>⟨[(1,.loc 1 0),(3,.sl 1 (L.map Qt.enc) (.tok 3)),(5,.d (DI s)),(6,.d (DI (QcO p L s L.length))),(7,.d (DI (Qi9 p L s i))),(9,.d (DI i)),(10,.d (DB (QeI p L s i a))),(11,.d (DI a))],[(1,[.d (.sl 1 (p.has.map Qt.enc)),.d (.sl 1 (p.needs.map Qt.enc)),.d (.sl 2 (p.never.map Qcg.enc))])],[3],[]⟩) L.length (by first | (simp; done) | (simp; rfl) | (simp; simp[*])); rotate_left; (show _ < 281474976710656; omega); rfl; rotate_left; all_goals clear aC)
        .intro a ha;have w1:=Qa ((a:Int)+1) (by omega) (by omega)
         have aP:(a:Int) < L.length:=by omega
         have iW:=h97 a (by omega)
         have q1:=hq s a iV (by omega)
         have q2:=hr2 s a;have q3:=QoE a;have wC:=h98 (i:Int) L[a];have e:=Qhl p L s i a;rw[Qj L a _ ha]at e;cases hsm:QeI p L s i a with
         | true=>
          rw[hsm]at e;simp[Qdo,aP,e,w1]
         | false=>
          rw[hsm]at e;cases hbit:QeB s a with
          | false=>
           rw[hbit]at q2 e;simp at e;simp[Qdo,aP,iW,q1,q2,q3,e,w1]
          | true=>
           rw[hbit]at q2 e;simp at e;simp[Qdo,Qc,ha,aP,iW,q1,q2,q3,wC,e,w1]
        .cases hsm:QeI p L s i L.length with
         | false=>
          rw[hsm]at e;simp at e;simp[Qdo,e,w1]
         | true=>
          rw[hsm,if_pos rfl,hh]at e;rw[hh]at hv;have ws:IntKind.i64.wrap (Qi9 p L s i+p.has[i])=Qi9 p L s (i+1):=by rw[e]; exact Qa _ (by omega) (by omega)
          simp[Qdo,Qc,hi,dC,ws,w1]
       .simp[Qdo,jT,ws1]
     .subst hS0;have sD:(s:Int) < pw L.length:=by unfold pw; omega
      have iV:s < 9223372036854775808:=by omega
      unfold Qmv at hbadS;rw[decide_eq_false_iff_not]at hbadS;have jT:Qi9 p L s p.has.length < QcO p L s L.length:=by omega
      simp[Qdo,oR,sD]
      (generalize aC:Cx.loop _ _ _=aE; apply Qi aC (λa=>⟨[(1,.loc 1 0),(3,.sl 1 (L.map Qt.enc) (.tok 3)),(5,.d (DI s)),(6,.d (DI (QcO p L s a))),(7,.d (DI 0)),(8,.d (DI a))],[(1,[.d (.sl 1 (p.has.map Qt.enc)),.d (.sl 1 (p.needs.map Qt.enc)),.d (.sl 2 (p.never.map Qcg.enc))])],[3],[]⟩) L.length (by first | (simp; done) | (simp; rfl) | (simp; simp[*])); rotate_left; (show _ < 281474976710656; omega); rfl; rotate_left; all_goals clear aC)
      .intro a ha;have w1:=Qa ((a:Int)+1) (by omega) (by omega)
       have aP:(a:Int) < L.length:=by omega
       have iW:=h97 a (by omega)
       have q1:=hq s a iV (by omega)
       have q2:=hr2 s a;have q3:=QoE a;have pZ:=sI a ha;have hb:=Qh7 aQ nJ s a (by omega)
       have hv:=QkM aQ L[a].toNat;have e:=QdC p L s a;cases hbit:QeB s a with
       | false=>
        rw[hbit]at q2 e;simp at e;simp[Qdo,aP,iW,q1,q2,q3,w1,e]
       | true=>
        rw[hbit]at q2 e;simp only[if_true,Qj L a _ ha]at e;have hz:L[a].toNat < p.needs.length:=by omega
        have lK:p.needs.getD L[a].toNat 0=p.needs[L[a].toNat]:=Qj p.needs _ _ hz;rw[lK]at e hv;have ws:IntKind.i64.wrap (QcO p L s a+p.needs[L[a].toNat])=QcO p L s (a+1):=by rw[e]; exact Qa _ (by omega) (by omega)
        simp[Qdo,Qc,ha,aP,iW,q1,q2,q3,w1,hz,pZ.1,pZ.2,ws]
      .simp[Qdo]
       (generalize aC:Cx.loop _ _ _=aE; apply Qi aC (λi=>⟨[(1,.loc 1 0),(3,.sl 1 (L.map Qt.enc) (.tok 3)),(5,.d (DI s)),(6,.d (DI (QcO p L s L.length))),(7,.d (DI (Qi9 p L s i))),(9,.d (DI i))],[(1,[.d (.sl 1 (p.has.map Qt.enc)),.d (.sl 1 (p.needs.map Qt.enc)),.d (.sl 2 (p.never.map Qcg.enc))])],[3],[]⟩) p.has.length (by first | (simp; done) | (simp; rfl) | (simp; simp[*])); rotate_left; (show _ < 281474976710656; omega); rfl; rotate_left; all_goals clear aC)
       .intro i hi;have w1:=Qa ((i:Int)+1) (by omega) (by omega)
        have dC:(i:Int) < p.has.length:=by omega
        have hb:=Qma aQ L s i (by omega)
        have hv:=QkM aQ i;have e:=QgJ p L s i;have hh:p.has.getD i 0=p.has[i]:=Qj p.has i _ hi;simp[Qdo,dC]
        (generalize aC:Cx.loop _ _ _=aE; apply Qi aC (λa=>⟨[(1,.loc 1 0),(3,.sl 1 (L.map Qt.enc) (.tok 3)),(5,.d (DI s)),(6,.d (DI (QcO p L s L.length))),(7,.d (DI (Qi9 p L s i))),(9,.d (DI i)),(10,.d (DB (QeI p L s i a))),(11,.d (DI a))],[(1,[.d (.sl 1 (p.has.map Qt.enc)),.d (.sl 1 (p.needs.map Qt.enc)),.d (.sl 2 (p.never.map Qcg.enc))])],[3],[]⟩) L.length (by first | (simp; done) | (simp; rfl) | (simp; simp[*])); rotate_left; (show _ < 281474976710656; omega); rfl; rotate_left; all_goals clear aC)
        .intro a ha;have w1:=Qa ((a:Int)+1) (by omega) (by omega)
         have aP:(a:Int) < L.length:=by omega
         have iW:=h97 a (by omega)
         have q1:=hq s a iV (by omega)
         have q2:=hr2 s a;have q3:=QoE a;have wC:=h98 (i:Int) L[a];have e:=Qhl p L s i a;rw[Qj L a _ ha]at e;cases hsm:QeI p L s i a with
         | true=>
          rw[hsm]at e;simp[Qdo,aP,e,w1]
         | false=>
          rw[hsm]at e;cases hbit:QeB s a with
          | false=>
           rw[hbit]at q2 e;simp at e;simp[Qdo,aP,iW,q1,q2,q3,e,w1]
          | true=>
           rw[hbit]at q2 e;simp at e;simp[Qdo,Qc,ha,aP,iW,q1,q2,q3,wC,e,w1]
        .cases hsm:QeI p L s i L.length with
         | false=>
          rw[hsm]at e;simp at e;simp[Qdo,e,w1]
         | true=>
          rw[hsm,if_pos rfl,hh]at e;rw[hh]at hv;have ws:IntKind.i64.wrap (Qi9 p L s i+p.has[i])=Qi9 p L s (i+1):=by rw[e]; exact Qa _ (by omega) (by omega)
          simp[Qdo,Qc,hi,dC,ws,w1]
       .simp[Qdo,jT]
  .have e1:(List.range p.needs.length).all (QjW p)=false:=by
    rw[List.all_eq_false]; exact⟨k,Zm.2 hk,by rw[aL]; simp⟩
   rw[e1,Bool.false_and];simp[Qdo,l5,QK]
   (generalize aC:Cx.loop _ _ _=aE; apply Qi aC (λk=>⟨[(1,.loc 1 0),(3,.sl 1 ((QbJ p k).map Qt.enc) (.tok 3)),(4,.d (DI k))],[(1,[.d (.sl 1 (p.has.map Qt.enc)),.d (.sl 1 (p.needs.map Qt.enc)),.d (.sl 2 (p.never.map Qcg.enc))])],[3],[]⟩) k (by first | (simp; done) | (simp; rfl) | (simp; simp[*])); rotate_left; (show _ < 281474976710656; omega); rfl; rotate_left; all_goals clear aC)
   .intro j cM;have hj:j < p.needs.length:=by omega
    have w1:=Qa ((j:Int)+1) (by omega) (by omega)
    have aO:(j:Int) < p.needs.length:=by omega
    have sH:j < p.has.length:=by omega
    have mU:(j:Int) < p.has.length:=by omega
    have hk:=Qmb p j;have h1:(QbJ p j).length+1<=140737488355328:=by omega
    have h2:((QbJ p j).length+1)*8<=140737488355328:=by omega
    have hg:=aM j cM;unfold QjW at hg;rw[Qj p.has j _ sH,Qj p.needs j _ hj,Za,decide_eq_true_eq,decide_eq_true_eq]at hg;have g1:¬p.has[j] < 0:=by omega
    have g2:¬p.needs[j] < 0:=by omega
    by_cases hp:0 < p.needs[j]
    .have e:=Qee (p:=p) (k:=j) (by rw[Qj p.needs j _ hj]; exact hp)
     rw[e];simp[Qdo,Qc,hj,aO,sH,mU,w1,g1,g2,hp,h1,h2]
    .have e:=Qiv (p:=p) (k:=j) (by rw[Qj p.needs j _ hj]; exact hp)
     rw[e];simp[Qdo,Qc,hj,aO,sH,mU,w1,g1,g2,hp]
   .have bB:(k:Int) < p.needs.length:=by omega
    have hkh:k < p.has.length:=by omega
    have wD:(k:Int) < p.has.length:=by omega
    unfold QjW at aL;rw[Qj p.has k _ hkh,Qj p.needs k _ hk]at aL;by_cases g1:p.has[k] < 0
    .simp[Qdo,Qc,bB,hkh,wD,g1]
    .have g2:p.needs[k] < 0:=by
      have:0<=p.has[k]:=by omega
      simpa[this]using aL
     simp[Qdo,Qc,hk,bB,hkh,wD,g1,g2]
 .cases hr
theorem Qud (xs:Array Value) (w:World):(callFunc 56 xs).run Tryz.prog w= .ok (.enter 56 xs) w:=by kernel_rfl
end Go.Proofs.YtnfeakhkfehkhaaGreatDoor
