/-
  Reference functions of the trace chapter: can all batches take what they need? Conditions: none.
-/
import Derived.Test.YticoemblgkemiaaGreatDoorZRefA
import Derived.Test.YticoemblgkemiaaGreatDoorZPlan
set_option linter.unusedSimpArgs false
set_option linter.unusedVariables false
namespace Go.Proofs.YticoemblgkemiaaGreatDoor
open Go.RowKit
def QdX (r:Nat):List (Nat×Option Nat):=match r with
 | 0=>[(1,none)]
 | 1=>[(1,none),(3,some 1)]
 | 2=>[(1,none),(3,some 1),(4,none)]
 | 3=>[(1,none),(3,some 1),(4,none),(16,none)]
 | 4=>[(1,none),(3,some 1),(4,none)]
 | 5=>[(1,none),(3,some 1),(4,none),(32,none)]
 | 6=>[(2,none)]
 | 7=>[(1,none),(3,some 1),(4,none),(38,none)]
 | 8=>[(1,none),(3,some 1),(4,none)]
 | 9=>[(1,none),(3,some 1),(5,none)]
 | 10=>[(1,none),(3,some 1),(5,none),(47,none)]
 | 11=>[(1,none),(3,some 1),(5,none)]
 | 12=>[(1,none),(3,some 1),(5,none),(6,none),(7,none)]
 | 13=>[(1,none),(3,some 1),(5,none),(6,none),(7,none),(8,none)]
 | 14=>[(1,none),(3,some 1),(5,none),(6,none),(7,none),(8,none),(53,none)]
 | 15=>[(1,none),(3,some 1),(5,none),(6,none),(7,none),(8,none)]
 | 16=>[(1,none),(3,some 1),(5,none),(6,none),(7,none),(8,none),(61,none)]
 | 17=>[(1,none),(3,some 1),(5,none),(6,none),(7,none),(8,none)]
 | 18=>[(1,none),(3,some 1),(5,none),(6,none),(7,none),(9,none)]
 | 19=>[(1,none),(3,some 1),(5,none),(6,none),(7,none),(9,none),(76,none)]
 | 20=>[(1,none),(3,some 1),(5,none),(6,none),(7,none),(9,none)]
 | 21=>[(1,none),(3,some 1),(5,none),(6,none),(7,none),(9,none),(10,none)]
 | 22=>[(1,none),(3,some 1),(5,none),(6,none),(7,none),(9,none),(10,none),(11,none)]
 | 23=>[(1,none),(3,some 1),(5,none),(6,none),(7,none),(9,none),(10,none),(11,none),(82,none)]
 | 24=>[(1,none),(3,some 1),(5,none),(6,none),(7,none),(9,none),(10,none),(11,none)]
 | 25=>[(1,none),(3,some 1),(5,none),(6,none),(7,none),(9,none),(10,none),(11,none)]
 | 26=>[(1,none),(3,some 1),(5,none),(6,none),(7,none),(9,none),(103,none)]
 | 27=>[(1,none),(3,some 1),(5,none),(6,none),(7,none),(9,none)]
 | 28=>[(1,none),(3,some 1),(5,none),(113,none)]
 | 29=>[(2,none)]
 | 30=>[(2,none)]
 | _=>[]
def l5:List (Nat×(List D->Option D)):=[(103,s97),(104,s98)]
theorem del5:QaE Tryz.prog (Qaw l5):=Qh (Qh Qs QJr ok98) QLg ok97
def pw (n:Nat):Int:=((2 ^ n:Nat):Int)
def dv (s n:Nat):Int:=((s / 2 ^ n:Nat):Int)
def Qc9 (s k:Nat):Bool:=decide (s / 2 ^ k % 2=1)
theorem Quj (n:Nat):¬pw n=0:=by
 have:0 < 2 ^ n:=Nat.two_pow_pos n;unfold pw; omega
theorem h97 (n:Nat) (h:n<=60):s97 [DI n]=some (DI (pw n)):=by
 have h0:(0:Int)<=n/\(n:Int)<=60:=by omega
 simp[s97,sp1,h0,pw]
theorem hr2 (s a:Nat):((dv s a).tmod 2==1)=Qc9 s a:=by
 unfold dv Qc9;rw[show((2:Int))=((2:Nat):Int)from rfl,<-Int.ofNat_tmod];rcases Nat.mod_two_eq_zero_or_one (s / 2 ^ a)with h | h<;>simp[h]
theorem hq (s a:Nat) (hs:s < 9223372036854775808) (ha:a<=60):IntKind.i64.wrap ((s:Int) / (pw a))=dv s a:=by
 unfold pw dv;rw[<-Int.natCast_ediv];have:s / 2 ^ a<=s:=Nat.div_le_self _ _;generalize s / 2 ^ a=q at this|-;exact Qa _ (by omega) (by omega)
def Qb4 (p:Pro) (k:Nat):List Int:=((List.range k).filter λi=>decide (0 < p.needs.getD i 0)).map λ(i:Nat)=>(i:Int)
theorem QmI (p:Pro) (k:Nat):(Qb4 p k).length<=k:=by
 unfold Qb4;rw[List.length_map];exact Nat.le_trans (List.length_filter_le _ _) (by simp)
theorem QeO {p:Pro} {k:Nat} (h:0 < p.needs.getD k 0):Qb4 p (k+1)=Qb4 p k++[(k:Int)]:=by
 rw[Zd]at h;simp[Qb4,List.range_succ,List.filter_append,h]
theorem QkK {p:Pro} {k:Nat} (h:¬0 < p.needs.getD k 0):Qb4 p (k+1)=Qb4 p k:=by
 rw[Zd]at h;simp only[Qb4,List.range_succ,List.filter_append,List.filter_cons,List.filter_nil,Zd,h,decide_false,Bool.false_eq_true,if_false,List.append_nil]
theorem Qz9 {p:Pro} {k:Nat} {x:Int} (h:x∈Qb4 p k):0<=x/\x < k:=by
 simp only[Qb4,List.mem_map,List.mem_filter,Zm]at h;obtain⟨i,⟨h1,_⟩,rfl⟩:=h;omega
def Qdf (p:Pro) (l:List Int) (s k:Nat):Int:=QK k λa=>if Qc9 s a=true then p.needs.getD (l.getD a 0).toNat 0 else 0
def Qfo (p:Pro) (l:List Int) (s i k:Nat):Bool:=(List.range k).any λa=>Qc9 s a&&QD2 p i (l.getD a 0)
def QjE (p:Pro) (l:List Int) (s i:Nat):Int:=QK i λx=>if Qfo p l s x l.length=true then p.has.getD x 0 else 0
@[simp] theorem needS_zero (p : Pro) (l : List Int) (s : Nat) : Qdf p l s 0 = 0 := rfl
@[simp] theorem hasS_zero (p : Pro) (l : List Int) (s : Nat) : QjE p l s 0 = 0 := rfl
@[simp] theorem someS_zero (p : Pro) (l : List Int) (s i : Nat) : Qfo p l s i 0 = false := rfl
theorem Qen (p:Pro) (l:List Int) (s k:Nat):Qdf p l s (k+1)=Qdf p l s k+if Qc9 s k=true then p.needs.getD (l.getD k 0).toNat 0 else 0:=rfl
theorem Qhi (p:Pro) (l:List Int) (s i:Nat):QjE p l s (i+1)=QjE p l s i+if Qfo p l s i l.length=true then p.has.getD i 0 else 0:=rfl
theorem Qie (p:Pro) (l:List Int) (s i k:Nat):Qfo p l s i (k+1)=(Qfo p l s i k||Qc9 s k&&QD2 p i (l.getD k 0)):=by
 simp[Qfo,List.range_succ]
structure PrOk (p:Pro):Prop where
 len:p.needs.length=p.has.length
 le:p.has.length<=8
 vals:∀i,-1000000000<=p.has.getD i 0/\p.has.getD i 0<=1000000000/\ -1000000000<=p.needs.getD i 0/\p.needs.getD i 0<=1000000000
 nev:p.never.length<=1000000
theorem Qmi {p:Pro} (h:PrOk p) (i:Nat): -1000000000<=p.has.getD i 0/\p.has.getD i 0<=1000000000/\ -1000000000<=p.needs.getD i 0/\p.needs.getD i 0<=1000000000:=h.vals i
theorem Qjq {p:Pro} (h:PrOk p) {l:List Int} (hl:l.length<=8) (s:Nat):∀k,k<=l.length-> -1000000000*(k:Int)<=Qdf p l s k/\Qdf p l s k<=1000000000*(k:Int)
 | 0,_=>by simp
 | k+1,hk=>by
  have ih:=Qjq h hl s k (by omega)
  have:=h.vals (l.getD k 0).toNat;rw[Qen];split<;>omega
theorem QnV {p:Pro} (h:PrOk p) (l:List Int) (s:Nat):∀i,i<=p.has.length-> -1000000000*(i:Int)<=QjE p l s i/\QjE p l s i<=1000000000*(i:Int)
 | 0,_=>by simp
 | i+1,hi=>by
  have ih:=QnV h l s i (by omega)
  have:=h.vals i;rw[Qhi];split<;>omega
def Qlh (p:Pro) (i:Nat):Bool:=decide (0<=p.has.getD i 0)&&decide (0<=p.needs.getD i 0)
def Qnt (p:Pro) (l:List Int) (s:Nat):Bool:=decide (Qdf p l s l.length<=QjE p l s p.has.length)
def Qcj (p:Pro):Bool:=(List.range p.needs.length).all (Qlh p)&&(List.range (2 ^ (Qb4 p p.needs.length).length)).all (Qnt p (Qb4 p p.needs.length))
noncomputable instance (p:Pro):Decidable (PrOk p):=Classical.propDecidable _
noncomputable def s56:List D->Option D:=sp1 (Qcf Qof) QaW λp=>if PrOk p then some (Qcj p)else none
set_option maxHeartbeats 8000000 in
theorem ok56:∀ds d,s56 ds=some d->PureC Tryz.prog 29 ds d:=Qbr λp r hr=>by
 split at hr
 .rename_i aP;cases hr;have sG:=aP.len;have bE:=aP.le;have pT:=aP.nev;have h98:∀x t:Int,s98 [.agg [.sl 1 (p.has.map QH.enc),.sl 1 (p.needs.map QH.enc),.sl 2 (p.never.map Qci.enc)],DI x,DI t]=some (DB (QD2 p x t)):=λx t=>by
   simp[s98,sp3,QHh,pT]
  refine Qf (Qw del5 114 QdX []) Tryz.func29 rfl rfl (Zb rfl) (by kernel_rfl) ?_
  rw[Tryz.results29];unfold Qcj;rcases Qbf (Qlh p) p.needs.length with hall | ⟨k,hk,aM,aT⟩
  .have e1:(List.range p.needs.length).all (Qlh p)=true:=by
    rw[Zl]; intro i hi; exact hall i (Zm.1 hi)
   rw[e1,Bool.true_and];simp[QdX,l5,Qu]
   (generalize aC:Cx.loop _ _ _=aE; apply Qi aC (λk=>⟨[(1,.loc 1 0),(3,.sl 1 ((Qb4 p k).map QH.enc) (.tok 3)),(4,.d (DI k))],[(1,[.d (.sl 1 (p.has.map QH.enc)),.d (.sl 1 (p.needs.map QH.enc)),.d (.sl 2 (p.never.map Qci.enc))])],[3],[]⟩) p.needs.length (by first | (simp; done) | (simp; rfl) | (simp; simp[*])); rotate_left; (show _ < 281474976710656; omega); rfl; rotate_left; all_goals clear aC)
   .intro j hj;have w1:=Qa ((j:Int)+1) (by omega) (by omega)
    have aO:(j:Int) < p.needs.length:=by omega
    have sQ:j < p.has.length:=by omega
    have m5:(j:Int) < p.has.length:=by omega
    have hk:=QmI p j;have h1:(Qb4 p j).length+1<=140737488355328:=by omega
    have h2:((Qb4 p j).length+1)*8<=140737488355328:=by omega
    have hg:=hall j hj;unfold Qlh at hg;rw[Ql p.has j _ sQ,Ql p.needs j _ hj,Za,decide_eq_true_eq,decide_eq_true_eq]at hg;have g1:¬p.has[j] < 0:=by omega
    have g2:¬p.needs[j] < 0:=by omega
    by_cases hp:0 < p.needs[j]
    .have e:=QeO (p:=p) (k:=j) (by rw[Ql p.needs j _ hj]; exact hp)
     rw[e];simp[QdX,Qd,hj,aO,sQ,m5,w1,g1,g2,hp,h1,h2]
    .have e:=QkK (p:=p) (k:=j) (by rw[Ql p.needs j _ hj]; exact hp)
     rw[e];simp[QdX,Qd,hj,aO,sQ,m5,w1,g1,g2,hp]
   .have hL8:=QmI p p.needs.length;have hLm:∀x∈Qb4 p p.needs.length,0<=x/\x < (p.needs.length:Int):=λx hx=>Qz9 hx;generalize Qb4 p p.needs.length=L at*;have nV:L.length<=8:=by omega
    have sR:∀a (ha:a < L.length),0<=L[a]/\L[a] < (p.needs.length:Int):=λa ha=>hLm _ (Ze ha);have zG:pw L.length<=256:=by
     unfold pw;have:2 ^ L.length<=2 ^ 8:=Nat.pow_le_pow_right (by omega) nV
     omega
    have pB:=h97 L.length (by omega)
    have kJ:2 ^ L.length<=256:=by
     have:2 ^ L.length<=2 ^ 8:=Nat.pow_le_pow_right (by omega) nV
     omega
    rcases Qbf (Qnt p L) (2 ^ L.length)with hallS | ⟨s,hs,hbadS,hgoodS⟩
    .have e2:(List.range (2 ^ L.length)).all (Qnt p L)=true:=by
      rw[Zl]; intro i hi; exact hallS i (Zm.1 hi)
     rw[e2];simp[QdX]
     (generalize aC:Cx.loop _ _ _=aE; apply Qi aC (λs=>⟨[(1,.loc 1 0),(3,.sl 1 (L.map QH.enc) (.tok 3)),(5,.d (DI s))],[(1,[.d (.sl 1 (p.has.map QH.enc)),.d (.sl 1 (p.needs.map QH.enc)),.d (.sl 2 (p.never.map Qci.enc))])],[3],[]⟩) (2 ^ L.length) (by first | (simp; done) | (simp; rfl) | (simp; simp[*])); rotate_left; (show _ < 281474976710656; omega); rfl; rotate_left; all_goals clear aC)
     .intro s hs;have qP:(s:Int) < pw L.length:=by unfold pw; omega
      have jD:s < 9223372036854775808:=by omega
      have ws1:=Qa ((s:Int)+1) (by omega) (by omega)
      have hg:=hallS s hs;unfold Qnt at hg;rw[decide_eq_true_eq]at hg;have k8:¬QjE p L s p.has.length < Qdf p L s L.length:=by omega
      simp[QdX,pB,qP]
      (generalize aC:Cx.loop _ _ _=aE; apply Qi aC (λa=>⟨[(1,.loc 1 0),(3,.sl 1 (L.map QH.enc) (.tok 3)),(5,.d (DI s)),(6,.d (DI (Qdf p L s a))),(7,.d (DI 0)),(8,.d (DI a))],[(1,[.d (.sl 1 (p.has.map QH.enc)),.d (.sl 1 (p.needs.map QH.enc)),.d (.sl 2 (p.never.map Qci.enc))])],[3],[]⟩) L.length (by first | (simp; done) | (simp; rfl) | (simp; simp[*])); rotate_left; (show _ < 281474976710656; omega); rfl; rotate_left; all_goals clear aC)
      .intro a ha;have w1:=Qa ((a:Int)+1) (by omega) (by omega)
       have aN:(a:Int) < L.length:=by omega
       have jE:=h97 a (by omega)
       have q1:=hq s a jD (by omega)
       have q2:=hr2 s a;have q3:=Quj a;have qQ:=sR a ha;have hb:=Qjq aP nV s a (by omega)
       have hv:=Qmi aP L[a].toNat;have e:=Qen p L s a;cases hbit:Qc9 s a with
       | false=>
        rw[hbit]at q2 e;simp at e;simp[QdX,aN,jE,q1,q2,q3,w1,e]
       | true=>
        rw[hbit]at q2 e;simp only[if_true,Ql L a _ ha]at e;have hz:L[a].toNat < p.needs.length:=by omega
        have lD:p.needs.getD L[a].toNat 0=p.needs[L[a].toNat]:=Ql p.needs _ _ hz;rw[lD]at e hv;have ws:IntKind.i64.wrap (Qdf p L s a+p.needs[L[a].toNat])=Qdf p L s (a+1):=by rw[e]; exact Qa _ (by omega) (by omega)
        simp[QdX,Qd,ha,aN,jE,q1,q2,q3,w1,hz,qQ.1,qQ.2,ws]
      .simp[QdX]
       (generalize aC:Cx.loop _ _ _=aE; apply Qi aC (λi=>⟨[(1,.loc 1 0),(3,.sl 1 (L.map QH.enc) (.tok 3)),(5,.d (DI s)),(6,.d (DI (Qdf p L s L.length))),(7,.d (DI (QjE p L s i))),(9,.d (DI i))],[(1,[.d (.sl 1 (p.has.map QH.enc)),.d (.sl 1 (p.needs.map QH.enc)),.d (.sl 2 (p.never.map Qci.enc))])],[3],[]⟩) p.has.length (by first | (simp; done) | (simp; rfl) | (simp; simp[*])); rotate_left; (show _ < 281474976710656; omega); rfl; rotate_left; all_goals clear aC)
       .intro i hi;have w1:=Qa ((i:Int)+1) (by omega) (by omega)
        have dW:(i:Int) < p.has.length:=by omega
        have hb:=QnV aP L s i (by omega)
        have hv:=Qmi aP i;have e:=Qhi p L s i;have hh:p.has.getD i 0=p.has[i]:=Ql p.has i _ hi;simp[QdX,dW]
        (generalize aC:Cx.loop _ _ _=aE; apply Qi aC (λa=>⟨[(1,.loc 1 0),(3,.sl 1 (L.map QH.enc) (.tok 3)),(5,.d (DI s)),(6,.d (DI (Qdf p L s L.length))),(7,.d (DI (QjE p L s i))),(9,.d (DI i)),(10,.d (DB (Qfo p L s i a))),(11,.d (DI a))],[(1,[.d (.sl 1 (p.has.map QH.enc)),.d (.sl 1 (p.needs.map QH.enc)),.d (.sl 2 (p.never.map Qci.enc))])],[3],[]⟩) L.length (by first | (simp; done) | (simp; rfl) | (simp; simp[*])); rotate_left; (show _ < 281474976710656; omega); rfl; rotate_left; all_goals clear aC)
        .intro a ha;have w1:=Qa ((a:Int)+1) (by omega) (by omega)
         have aN:(a:Int) < L.length:=by omega
         have jE:=h97 a (by omega)
         have q1:=hq s a jD (by omega)
         have q2:=hr2 s a;have q3:=Quj a;have wG:=h98 (i:Int) L[a];have e:=Qie p L s i a;rw[Ql L a _ ha]at e;cases iH:Qfo p L s i a with
         | true=>
          rw[iH]at e;simp[QdX,aN,e,w1]
         | false=>
          rw[iH]at e;cases hbit:Qc9 s a with
          | false=>
           rw[hbit]at q2 e;simp at e;simp[QdX,aN,jE,q1,q2,q3,e,w1]
          | true=>
           rw[hbit]at q2 e;simp at e;simp[QdX,Qd,ha,aN,jE,q1,q2,q3,wG,e,w1]
        .cases iH:Qfo p L s i L.length with
         | false=>
          rw[iH]at e;simp at e;simp[QdX,e,w1]
         | true=>
          rw[iH,if_pos rfl,hh]at e;rw[hh]at hv;have ws:IntKind.i64.wrap (QjE p L s i+p.has[i])=QjE p L s (i+1):=by rw[e]; exact Qa _ (by omega) (by omega)
          simp[QdX,Qd,hi,dW,ws,w1]
       .simp[QdX,k8,ws1]
     .have cY:¬((2:Int) ^ L.length < pw L.length):=by
       have e:pw L.length=(2:Int) ^ L.length:=by unfold pw; simp
       rw[e]; exact Int.lt_irrefl _
      simp[QdX,pB,cY]
    .have e2:(List.range (2 ^ L.length)).all (Qnt p L)=false:=by
      rw[List.all_eq_false]; exact⟨s,Zm.2 hs,by rw[hbadS]; simp⟩
     rw[e2];simp[QdX];generalize hS0:s=S0 at*
     (generalize aC:Cx.loop _ _ _=aE; apply Qi aC (λs=>⟨[(1,.loc 1 0),(3,.sl 1 (L.map QH.enc) (.tok 3)),(5,.d (DI s))],[(1,[.d (.sl 1 (p.has.map QH.enc)),.d (.sl 1 (p.needs.map QH.enc)),.d (.sl 2 (p.never.map Qci.enc))])],[3],[]⟩) S0 (by first | (simp; done) | (simp; rfl) | (simp; simp[*])); rotate_left; (show _ < 281474976710656; omega); rfl; rotate_left; all_goals clear aC)
     .intro s nM;have qP:(s:Int) < pw L.length:=by unfold pw; omega
      have jD:s < 9223372036854775808:=by omega
      have ws1:=Qa ((s:Int)+1) (by omega) (by omega)
      have hg:=hgoodS s nM;unfold Qnt at hg;rw[decide_eq_true_eq]at hg;have k8:¬QjE p L s p.has.length < Qdf p L s L.length:=by omega
      simp[QdX,pB,qP]
      (generalize aC:Cx.loop _ _ _=aE; apply Qi aC (λa=>⟨[(1,.loc 1 0),(3,.sl 1 (L.map QH.enc) (.tok 3)),(5,.d (DI s)),(6,.d (DI (Qdf p L s a))),(7,.d (DI 0)),(8,.d (DI a))],[(1,[.d (.sl 1 (p.has.map QH.enc)),.d (.sl 1 (p.needs.map QH.enc)),.d (.sl 2 (p.never.map Qci.enc))])],[3],[]⟩) L.length (by first | (simp; done) | (simp; rfl) | (simp; simp[*])); rotate_left; (show _ < 281474976710656; omega); rfl; rotate_left; all_goals clear aC)
      .intro a ha;have w1:=Qa ((a:Int)+1) (by omega) (by omega)
       have aN:(a:Int) < L.length:=by omega
       have jE:=h97 a (by omega)
       have q1:=hq s a jD (by omega)
       have q2:=hr2 s a;have q3:=Quj a;have qQ:=sR a ha;have hb:=Qjq aP nV s a (by omega)
       have hv:=Qmi aP L[a].toNat;have e:=Qen p L s a;cases hbit:Qc9 s a with
       | false=>
        rw[hbit]at q2 e;simp at e;simp[QdX,aN,jE,q1,q2,q3,w1,e]
       | true=>
        rw[hbit]at q2 e;simp only[if_true,Ql L a _ ha]at e;have hz:L[a].toNat < p.needs.length:=by omega
        have lD:p.needs.getD L[a].toNat 0=p.needs[L[a].toNat]:=Ql p.needs _ _ hz;rw[lD]at e hv;have ws:IntKind.i64.wrap (Qdf p L s a+p.needs[L[a].toNat])=Qdf p L s (a+1):=by rw[e]; exact Qa _ (by omega) (by omega)
        simp[QdX,Qd,ha,aN,jE,q1,q2,q3,w1,hz,qQ.1,qQ.2,ws]
      .simp[QdX]
       (generalize aC:Cx.loop _ _ _=aE; apply Qi aC (λi=>⟨[(1,.loc 1 0),(3,.sl 1 (L.map QH.enc) (.tok 3)),(5,.d (DI s)),(6,.d (DI (Qdf p L s L.length))),(7,.d (DI (QjE p L s i))),(9,.d (DI i))],[(1,[.d (.sl 1 (p.has.map QH.enc)),.d (.sl 1 (p.needs.map QH.enc)),.d (.sl 2 (p.never.map Qci.enc))])],[3],[]⟩) p.has.length (by first | (simp; done) | (simp; rfl) | (simp; simp[*])); rotate_left; (show _ < 281474976710656; omega); rfl; rotate_left; all_goals clear aC)
       .intro i hi;have w1:=Qa ((i:Int)+1) (by omega) (by omega)
        have dW:(i:Int) < p.has.length:=by omega
        have hb:=QnV aP L s i (by omega)
        have hv:=Qmi aP i;have e:=Qhi p L s i;have hh:p.has.getD i 0=p.has[i]:=Ql p.has i _ hi;simp[QdX,dW]
        (generalize aC:Cx.loop _ _ _=aE; apply Qi aC (λa=>⟨[(1,.loc 1 0),(3,.sl 1 (L.map QH.enc) (.tok 3)),(5,.d (DI s)),(6,.d (DI (Qdf p L s L.length))),(7,.d (DI (QjE p L s i))),(9,.d (DI i)),(10,.d (DB (Qfo p L s i a))),(11,.d (DI a))],[(1,[.d (.sl 1 (p.has.map QH.enc)),.d (.sl 1 (p.needs.map QH.enc)),.d (.sl 2 (p.never.map Qci.enc))])],[3],[]⟩) L.length (by first | (simp; done) | (simp; rfl) | (simp; simp[*])); rotate_left; (show _ < 281474976710656; omega); rfl; rotate_left; all_goals clear aC)
        .intro a ha;have w1:=Qa ((a:Int)+1) (by omega) (by omega)
         have aN:(a:Int) < L.length:=by omega
         have jE:=h97 a (by omega)
         have q1:=hq s a jD (by omega)
         have q2:=hr2 s a;have q3:=Quj a;have wG:=h98 (i:Int) L[a];have e:=Qie p L s i a;rw[Ql L a _ ha]at e;cases iH:Qfo p L s i a with
         | true=>
          rw[iH]at e;simp[QdX,aN,e,w1]
         | false=>
          rw[iH]at e;cases hbit:Qc9 s a with
          | false=>
           rw[hbit]at q2 e;simp at e;simp[QdX,aN,jE,q1,q2,q3,e,w1]
          | true=>
           rw[hbit]at q2 e;simp at e;simp[QdX,Qd,ha,aN,jE,q1,q2,q3,wG,e,w1]
        .cases iH:Qfo p L s i L.length with
         | false=>
          rw[iH]at e;simp at e;simp[QdX,e,w1]
         | true=>
          rw[iH,if_pos rfl,hh]at e;rw[hh]at hv;have ws:IntKind.i64.wrap (QjE p L s i+p.has[i])=QjE p L s (i+1):=by rw[e]; exact Qa _ (by omega) (by omega)
          simp[QdX,Qd,hi,dW,ws,w1]
       .simp[QdX,k8,ws1]
     .subst hS0;have qP:(s:Int) < pw L.length:=by unfold pw; omega
      have jD:s < 9223372036854775808:=by omega
      unfold Qnt at hbadS;rw[decide_eq_false_iff_not]at hbadS;have k8:QjE p L s p.has.length < Qdf p L s L.length:=by omega
      simp[QdX,pB,qP]
      (generalize aC:Cx.loop _ _ _=aE; apply Qi aC (λa=>⟨[(1,.loc 1 0),(3,.sl 1 (L.map QH.enc) (.tok 3)),(5,.d (DI s)),(6,.d (DI (Qdf p L s a))),(7,.d (DI 0)),(8,.d (DI a))],[(1,[.d (.sl 1 (p.has.map QH.enc)),.d (.sl 1 (p.needs.map QH.enc)),.d (.sl 2 (p.never.map Qci.enc))])],[3],[]⟩) L.length (by first | (simp; done) | (simp; rfl) | (simp; simp[*])); rotate_left; (show _ < 281474976710656; omega); rfl; rotate_left; all_goals clear aC)
      .intro a ha;have w1:=Qa ((a:Int)+1) (by omega) (by omega)
       have aN:(a:Int) < L.length:=by omega
       have jE:=h97 a (by omega)
       have q1:=hq s a jD (by omega)
       have q2:=hr2 s a;have q3:=Quj a;have qQ:=sR a ha;have hb:=Qjq aP nV s a (by omega)
       have hv:=Qmi aP L[a].toNat;have e:=Qen p L s a;cases hbit:Qc9 s a with
       | false=>
        rw[hbit]at q2 e;simp at e;simp[QdX,aN,jE,q1,q2,q3,w1,e]
       | true=>
        rw[hbit]at q2 e;simp only[if_true,Ql L a _ ha]at e;have hz:L[a].toNat < p.needs.length:=by omega
        have lD:p.needs.getD L[a].toNat 0=p.needs[L[a].toNat]:=Ql p.needs _ _ hz;rw[lD]at e hv;have ws:IntKind.i64.wrap (Qdf p L s a+p.needs[L[a].toNat])=Qdf p L s (a+1):=by rw[e]; exact Qa _ (by omega) (by omega)
        simp[QdX,Qd,ha,aN,jE,q1,q2,q3,w1,hz,qQ.1,qQ.2,ws]
      .simp[QdX]
       (generalize aC:Cx.loop _ _ _=aE; apply Qi aC (λi=>⟨[(1,.loc 1 0),(3,.sl 1 (L.map QH.enc) (.tok 3)),(5,.d (DI s)),(6,.d (DI (Qdf p L s L.length))),(7,.d (DI (QjE p L s i))),(9,.d (DI i))],[(1,[.d (.sl 1 (p.has.map QH.enc)),.d (.sl 1 (p.needs.map QH.enc)),.d (.sl 2 (p.never.map Qci.enc))])],[3],[]⟩) p.has.length (by first | (simp; done) | (simp; rfl) | (simp; simp[*])); rotate_left; (show _ < 281474976710656; omega); rfl; rotate_left; all_goals clear aC)
       .intro i hi;have w1:=Qa ((i:Int)+1) (by omega) (by omega)
        have dW:(i:Int) < p.has.length:=by omega
        have hb:=QnV aP L s i (by omega)
        have hv:=Qmi aP i;have e:=Qhi p L s i;have hh:p.has.getD i 0=p.has[i]:=Ql p.has i _ hi;simp[QdX,dW]
        (generalize aC:Cx.loop _ _ _=aE; apply Qi aC (λa=>⟨[(1,.loc 1 0),(3,.sl 1 (L.map QH.enc) (.tok 3)),(5,.d (DI s)),(6,.d (DI (Qdf p L s L.length))),(7,.d (DI (QjE p L s i))),(9,.d (DI i)),(10,.d (DB (Qfo p L s i a))),(11,.d (DI a))],[(1,[.d (.sl 1 (p.has.map QH.enc)),.d (.sl 1 (p.needs.map QH.enc)),.d (.sl 2 (p.never.map Qci.enc))])],[3],[]⟩) L.length (by first | (simp; done) | (simp; rfl) | (simp; simp[*])); rotate_left; (show _ < 281474976710656; omega); rfl; rotate_left; all_goals clear aC)
        .intro a ha;have w1:=Qa ((a:Int)+1) (by omega) (by omega)
         have aN:(a:Int) < L.length:=by omega
         have jE:=h97 a (by omega)
         have q1:=hq s a jD (by omega)
         have q2:=hr2 s a;have q3:=Quj a;have wG:=h98 (i:Int) L[a];have e:=Qie p L s i a;rw[Ql L a _ ha]at e;cases iH:Qfo p L s i a with
         | true=>
          rw[iH]at e;simp[QdX,aN,e,w1]
         | false=>
          rw[iH]at e;cases hbit:Qc9 s a with
          | false=>
           rw[hbit]at q2 e;simp at e;simp[QdX,aN,jE,q1,q2,q3,e,w1]
          | true=>
           rw[hbit]at q2 e;simp at e;simp[QdX,Qd,ha,aN,jE,q1,q2,q3,wG,e,w1]
        .cases iH:Qfo p L s i L.length with
         | false=>
          rw[iH]at e;simp at e;simp[QdX,e,w1]
         | true=>
          rw[iH,if_pos rfl,hh]at e;rw[hh]at hv;have ws:IntKind.i64.wrap (QjE p L s i+p.has[i])=QjE p L s (i+1):=by rw[e]; exact Qa _ (by omega) (by omega)
          simp[QdX,Qd,hi,dW,ws,w1]
       .simp[QdX,k8]
  .have e1:(List.range p.needs.length).all (Qlh p)=false:=by
    rw[List.all_eq_false]; exact⟨k,Zm.2 hk,by rw[aM]; simp⟩
   rw[e1,Bool.false_and];simp[QdX,l5,Qu]
   (generalize aC:Cx.loop _ _ _=aE; apply Qi aC (λk=>⟨[(1,.loc 1 0),(3,.sl 1 ((Qb4 p k).map QH.enc) (.tok 3)),(4,.d (DI k))],[(1,[.d (.sl 1 (p.has.map QH.enc)),.d (.sl 1 (p.needs.map QH.enc)),.d (.sl 2 (p.never.map Qci.enc))])],[3],[]⟩) k (by first | (simp; done) | (simp; rfl) | (simp; simp[*])); rotate_left; (show _ < 281474976710656; omega); rfl; rotate_left; all_goals clear aC)
   .intro j cM;have hj:j < p.needs.length:=by omega
    have w1:=Qa ((j:Int)+1) (by omega) (by omega)
    have aO:(j:Int) < p.needs.length:=by omega
    have sQ:j < p.has.length:=by omega
    have m5:(j:Int) < p.has.length:=by omega
    have hk:=QmI p j;have h1:(Qb4 p j).length+1<=140737488355328:=by omega
    have h2:((Qb4 p j).length+1)*8<=140737488355328:=by omega
    have hg:=aT j cM;unfold Qlh at hg;rw[Ql p.has j _ sQ,Ql p.needs j _ hj,Za,decide_eq_true_eq,decide_eq_true_eq]at hg;have g1:¬p.has[j] < 0:=by omega
    have g2:¬p.needs[j] < 0:=by omega
    by_cases hp:0 < p.needs[j]
    .have e:=QeO (p:=p) (k:=j) (by rw[Ql p.needs j _ hj]; exact hp)
     rw[e];simp[QdX,Qd,hj,aO,sQ,m5,w1,g1,g2,hp,h1,h2]
    .have e:=QkK (p:=p) (k:=j) (by rw[Ql p.needs j _ hj]; exact hp)
     rw[e];simp[QdX,Qd,hj,aO,sQ,m5,w1,g1,g2,hp]
   .have aX:(k:Int) < p.needs.length:=by omega
    have hkh:k < p.has.length:=by omega
    have wH:(k:Int) < p.has.length:=by omega
    unfold Qlh at aM;rw[Ql p.has k _ hkh,Ql p.needs k _ hk]at aM;by_cases g1:p.has[k] < 0
    .simp[QdX,Qd,aX,hkh,wH,g1]
    .have g2:p.needs[k] < 0:=by
      have:0<=p.has[k]:=by omega
      simpa[this]using aM
     simp[QdX,Qd,hk,aX,hkh,wH,g1,g2]
 .cases hr
theorem QMn (xs:Array Value) (w:World):(callFunc 29 xs).run Tryz.prog w= .ok (.enter 29 xs) w:=by kernel_rfl
end Go.Proofs.YticoemblgkemiaaGreatDoor
