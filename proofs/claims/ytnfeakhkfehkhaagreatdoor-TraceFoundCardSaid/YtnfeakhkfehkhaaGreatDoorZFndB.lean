/-
  How the law draws a truth: bounds. Conditions: none.
-/
import Derived.Test.YtnfeakhkfehkhaaGreatDoorZFndA
set_option linter.unusedSimpArgs false
set_option linter.unusedVariables false
namespace Go.Proofs.YtnfeakhkfehkhaaGreatDoor
open Go.RowKit
structure PBd (p:Pro) (N:Nat):Prop where
 len:PLen p N
 pos:1<=N
 nev:p.never.length<=1000
 has:∀i,0<=Qem p i/\Qem p i<=100000
 need:∀i,0<=QaM p i/\QaM p i<=100000
theorem hr1 (s a:Nat):((dv s a).tmod 2==1)=QeB s a:=by
 unfold dv QeB;rw[show((2:Int))=((2:Nat):Int)from rfl,<-Int.ofNat_tmod];rcases Nat.mod_two_eq_zero_or_one (s / 2 ^ a)with h | h<;>simp[h]
theorem QMm (s k:Nat) (hk:k<=8):(s:Int) / 2 ^ (min k IntKind.i64.bits)=dv s k:=by
 rw[show min k IntKind.i64.bits=k from Nat.min_eq_left (Nat.le_trans hk (by decide))]
 unfold dv;rw[Int.natCast_ediv,Int.natCast_pow]; rfl
theorem QMU {f:Nat->Int} (h:∀i,0<=f i/\f i<=100000):∀n,0<=QY n f/\QY n f<=100000*n
 | 0=>⟨Int.le_refl _,Int.le_refl _⟩
 | n+1=>by
  have h1:=QMU h n;have h2:=h n;rw[QY]; omega
theorem QLm {p:Pro} {N:Nat} (h:PBd p N) (s n:Nat):0<=QuK p s n/\QuK p s n<=100000*n:=QMU (λi=>by
 have:=h.need i;split<;>omega) n
theorem QLB {p:Pro} {N:Nat} (h:PBd p N) (f t s n:Nat):0<=Qze p f t s n/\Qze p f t s n<=100000*n:=QMU (λi=>by
 have:=h.has i;split<;>omega) n
theorem QMe {p:Pro} {N:Nat} (h:PBd p N) (f t:Nat):∀k,(0<=(QLz p f t k).1/\(QLz p f t k).1<=800000)/\(-800000<=(QLz p f t k).2/\(QLz p f t k).2<=100000)
 | 0=>by
  have h1:=h.has f;have h2:=h.need t;refine⟨⟨Int.le_refl _,by show(0:Int)<=800000; omega⟩,?_⟩
  show _<=min _ _/\min _ _<=_;omega
 | k+1=>by
  have h0:=QMe h f t k;have h1:=QLm h (k+1) p.needs.length;have h2:=QLB h f t (k+1) p.has.length;have hm:=h.len.m;have hh:=h.len.h;have hl:=h.len.le;rw[QLz]; unfold QA8;dsimp only;constructor
  .split<;>omega
  .split<;>omega
def g84:List (Nat×(List D->Option D)):=[(116,QN0)]
theorem dg84:Qay Tryz.prog (Qas g84):=Ql QB QNq QN4
noncomputable instance (p:Pro) (N:Nat):Decidable (PBd p N):=Classical.propDecidable _
noncomputable def s84:List D->Option D:=sp3 (QeC Qqw) Qbh Qbh (Qex Qbh Qbh) λp x y=>if PBd p p.has.length/\0<=x/\x < y/\y < p.has.length then some (QxQ p x.toNat y.toNat)else none
theorem QNu {p:Pro} (h:p.never.length<=1000) (i k:Nat):QN0 [.agg [.sl 1 (p.has.map Qt.enc),.sl 1 (p.needs.map Qt.enc),.sl 2 (p.never.map Qcg.enc)],DI i,DI k]=some (DB (nvP p i k)):=by
 have e:Qqw.dec [.sl 1 (p.has.map Qt.enc),.sl 1 (p.needs.map Qt.enc),.sl 2 (p.never.map Qcg.enc)]=some p:=QMt p;simp only[QN0,sp3,Qbq,e,Qam];rw[if_pos (by omega),QNJ]; rfl
theorem QNL (p:Pro) (f t s i k:Nat) (hk:k < i+1):Qwf p f t s i k=false:=by
 unfold Qwf;rw[decide_eq_false (by omega)]; rfl
theorem QMT {p:Pro} {i N:Nat} (f t s:Nat) (h:p.needs.length=N) (hi:i < N):((List.range (N - (i+1))).any λj=>Qwf p f t s i (i+1+j))=Qpq p f t s i:=by
 unfold Qpq;rw[h,Bool.eq_iff_iff,Zy,Zy];constructor
 .rintro⟨j,h1,h2⟩;have:=Zm.1 h1;exact⟨i+1+j,Zm.2 (by omega),h2⟩
 .rintro⟨k,h1,h2⟩;have h3:=Zm.1 h1;by_cases q:k < i+1
  .rw[QNL p f t s i k q]at h2; cases h2
  .exact⟨k - (i+1),Zm.2 (by omega),by rw[show i+1+(k - (i+1))=k by omega]; exact h2⟩
set_option maxHeartbeats 8000000 in
theorem ok84:∀ds d,s84 ds=some d->PureC Tryz.prog 84 ds d:=QcG λp x y r hr=>by
 split at hr
 .rename_i hc;cases hr;obtain⟨hP,h0,h1,h2⟩:=hc;obtain⟨f,rfl⟩:∃k:Nat,x=k:=⟨x.toNat,by omega⟩
  obtain⟨t,rfl⟩:∃k:Nat,y=k:=⟨y.toNat,by omega⟩
  generalize hN:p.has.length=N at*;have hm:=hP.len.m;have aX:=hP.len.le;have gW:=hP.pos;have zM:f < t:=by omega
  have htN:t < N:=by omega
  refine Qm (QE dg84 148 QLH []) Tryz.func84 rfl rfl (Zb rfl) (by kernel_rfl) ?_
  rw[Tryz.results84,Int.toNat_natCast,Int.toNat_natCast];have tS:(f:Int) < N:=by omega
  have tT:(t:Int) < N:=by omega
  have hfN:f < N:=by omega
  have hfh:f < p.has.length:=by omega
  have hth:t < p.needs.length:=by omega
  have ef:Qem p f=p.has[f]:=Qj _ _ _ hfh;have et:QaM p t=p.needs[t]:=Qj _ _ _ hth;have e0:QLz p f t 0=(0,min (Qem p f) (QaM p t)):=rfl;have zE:(if p.needs[t] < p.has[f]then p.needs[t]else p.has[f])=(QLz p f t 0).2:=by
   rw[e0,ef,et];show _=min _ _;split<;>omega
  have hmz:(0:Int)=(QLz p f t 0).1:=rfl;have tD:1<=2 ^ N:=Nat.pos_of_ne_zero (by simp)
  have hp256:2 ^ N<=256:=Nat.pow_le_pow_right (by omega) aX
  have yU:((2 ^ N:Nat):Int)=(2:Int) ^ N:=by rw[Int.natCast_pow]; rfl
  have xR:IntKind.i64.wrap (2 ^ min N IntKind.i64.bits)=(2:Int) ^ N:=by
   rw[show min N IntKind.i64.bits=N from Nat.min_eq_left (Nat.le_trans aX (by decide)),<-yU]
   exact Qa _ (by omega) (by omega)
  simp[QLH,g84,QK,Qc,hm,hN,tS,tT,hfN,htN,zE];unfold QxQ;rw[hm]
  (generalize aC:Cx.loop _ _ _=aE; apply Qi aC (λk=>⟨[(1,.d (DI f)),(2,.d (DI t)),(3,.loc 3 0),(8,.d (DI (QLz p f t k).1)),(9,.d (DI (QLz p f t k).2)),(10,.d (DI ((k+1:Nat):Int)))],[(3,[.d (.sl 1 (p.has.map Qt.enc)),.d (.sl 1 (p.needs.map Qt.enc)),.d (.sl 2 (p.never.map Qcg.enc))])],[],[]⟩) (2 ^ N - 1) (by first | (simp; done) | (simp; rfl) | (simp; simp[*])); rotate_left; (show _ < 281474976710656; omega); rfl; rotate_left; all_goals clear aC)
  .intro q hq;obtain⟨s,hs⟩:∃s,s=q+1:=⟨_,rfl⟩;have xS:(s:Int) < 256:=by omega
   have cO:=QMe hP f t q;have iC:QLz p f t (q+1)=QA8 p f t s (QLz p f t q):=by rw[hs]; rfl
   rw[iC,<-hs];generalize QLz p f t q=R at*;obtain⟨lo,hi⟩:=R;dsimp only at cO;have w1:=Qa ((s:Int)+1) (by omega) (by omega)
   have u7:¬((2:Int) ^ N<=(s:Int)):=by rw[<-yU]; omega
   have n0:QuK p s 0=0:=rfl;have g0:Qze p f t s 0=0:=rfl;clear hs iC;simp[QLH,xS]
   (generalize aC:Cx.loop _ _ _=aE; apply Qi aC (λk=>⟨[(1,.d (DI f)),(2,.d (DI t)),(3,.loc 3 0),(8,.d (DI lo)),(9,.d (DI hi)),(10,.d (DI s)),(11,.d (DI (QuK p s k))),(12,.d (DI 0)),(13,.d (DB false)),(14,.d (DI k))],[(3,[.d (.sl 1 (p.has.map Qt.enc)),.d (.sl 1 (p.needs.map Qt.enc)),.d (.sl 2 (p.never.map Qcg.enc))])],[],[]⟩) N (by first | (simp; done) | (simp; rfl) | (simp; simp[*])); rotate_left; (show _ < 281474976710656; omega); rfl; rotate_left; all_goals clear aC)
   .intro k hk;have eQ:(k:Int) < N:=by omega
    have kR:k < p.needs.length:=by omega
    have w2:=Qa ((k:Int)+1) (by omega) (by omega)
    have e1:=QMm s k (by omega)
    have e2:=hr1 s k;have b1:=QLm hP s k;have b2:=QLm hP s (k+1);have en:QuK p s (k+1)=QuK p s k+if QeB s k=true then QaM p k else 0:=rfl;have ek:QaM p k=p.needs[k]:=Qj _ _ _ kR;rw[ek]at en;cases hb:QeB s k with
    | true=>
     rw[hb]at e2 en;rw[if_pos rfl]at en;have w3:IntKind.i64.wrap (QuK p s k+p.needs[k])=QuK p s (k+1):=by rw[<-en]; exact Qa _ (by omega) (by omega)
     simp[QLH,Qc,hm,hk,eQ,w2,e1,e2,w3]
    | false=>
     rw[hb]at e2 en;rw[if_neg (by simp),Int.add_zero]at en
     simp[QLH,hm,eQ,w2,e1,e2,en]
   .simp[QLH,hm,xR,u7]
    (generalize aC:Cx.loop _ _ _=aE; apply Qi aC (λi=>⟨[(1,.d (DI f)),(2,.d (DI t)),(3,.loc 3 0),(8,.d (DI lo)),(9,.d (DI hi)),(10,.d (DI s)),(11,.d (DI (QuK p s N))),(12,.d (DI (Qze p f t s i))),(13,.d (DB (decide (f < i)&&Qpq p f t s f))),(15,.d (DI i))],[(3,[.d (.sl 1 (p.has.map Qt.enc)),.d (.sl 1 (p.needs.map Qt.enc)),.d (.sl 2 (p.never.map Qcg.enc))])],[],[]⟩) N (by first | (simp; done) | (simp; rfl) | (simp; simp[*])); rotate_left; (show _ < 281474976710656; omega); rfl; rotate_left; all_goals clear aC)
    .intro i hi';have zN:(i:Int) < N:=by omega
     have hih:i < p.has.length:=by omega
     have w4:=Qa ((i:Int)+1) (by omega) (by omega)
     have jH:=λk=>QNu hP.nev i k;simp[QLH,hN,zN,w4]
     (generalize aC:Cx.loop _ _ _=aE; apply Qi aC (λa=>⟨[(1,.d (DI f)),(2,.d (DI t)),(3,.loc 3 0),(8,.d (DI lo)),(9,.d (DI hi)),(10,.d (DI s)),(11,.d (DI (QuK p s N))),(12,.d (DI (Qze p f t s i))),(13,.d (DB (decide (f < i)&&Qpq p f t s f))),(15,.d (DI i)),(16,.d (DB ((List.range a).any λj=>Qwf p f t s i (i+1+j)))),(17,.d (DI ((i+1+a:Nat):Int)))],[(3,[.d (.sl 1 (p.has.map Qt.enc)),.d (.sl 1 (p.needs.map Qt.enc)),.d (.sl 2 (p.never.map Qcg.enc))])],[],[]⟩) (N - (i+1)) (by first | (simp; done) | (simp; rfl) | (simp; simp[*])); rotate_left; (show _ < 281474976710656; omega); rfl; rotate_left; all_goals clear aC)
     .intro a ha;obtain⟨k,hk⟩:∃k,k=i+1+a:=⟨_,rfl⟩;rw[show i+1+(a+1)=k+1 by omega,<-hk]
      have sK:k < N:=by omega
      have eQ:(k:Int) < N:=by omega
      have kR:k < p.needs.length:=by omega
      have w2:=Qa ((k:Int)+1) (by omega) (by omega)
      have e1:=QMm s k (by omega)
      have e2:=hr1 s k;have jH:=jH k;have ek:QaM p k=p.needs[k]:=Qj _ _ _ kR;rw[List.range_succ,List.any_append];generalize((List.range a).any λj=>Qwf p f t s i (i+1+j))=V;have eS:([a].any λj=>Qwf p f t s i (i+1+j))=(QeB s k&&(decide (0 < QaM p k)&&(!nvP p i k&&!(decide (i=f)&&decide (k=t))))):=by
       simp only[List.any_cons,List.any_nil,Bool.or_false,<-hk,Qwf];rw[decide_eq_true (show i < k by omega),Bool.true_and]
      rw[eS,ek];clear eS;cases hb:QeB s k with
      | false=>
       rw[hb]at e2;simp[QLH,hm,eQ,w2,e1,e2]
      | true=>
       rw[hb]at e2;by_cases hq:0 < p.needs[k]
       .cases hn:nvP p i k with
        | true=>
         rw[hn]at jH;simp[QLH,Qc,hm,sK,eQ,w2,e1,e2,hq,jH]
        | false=>
         rw[hn]at jH;by_cases q1:i=f
         .have tO:((i:Int)==(f:Int))=true:=by rw[q1]; simp
          by_cases q2:k=t
          .have tP:((k:Int)==(t:Int))=true:=by rw[q2]; simp
           simp[QLH,Qc,hm,sK,eQ,w2,e1,e2,hq,jH,tO,tP,decide_eq_true q1,decide_eq_true q2]
          .have tP:((k:Int)==(t:Int))=false:=beq_eq_false_iff_ne.2 (by omega)
           simp[QLH,Qc,hm,sK,eQ,w2,e1,e2,hq,jH,tO,tP,decide_eq_true q1,decide_eq_false q2]
         .have tO:((i:Int)==(f:Int))=false:=beq_eq_false_iff_ne.2 (by omega)
          simp[QLH,Qc,hm,sK,eQ,w2,e1,e2,hq,jH,tO,decide_eq_false q1]
       .simp[QLH,Qc,hm,sK,eQ,w2,e1,e2,hq]
     .rw[show i+1+(N - (i+1))=N by omega]
      rw[QMT f t s hm hi'];have b1:=QLB hP f t s i;have b2:=QLB hP f t s (i+1);have en:Qze p f t s (i+1)=Qze p f t s i+if Qpq p f t s i=true then Qem p i else 0:=rfl;have ek:Qem p i=p.has[i]:=Qj _ _ _ hih;rw[ek]at en;cases hb:Qpq p f t s i with
      | false=>
       rw[hb,if_neg (by simp),Int.add_zero]at en
       rw[<-en];have ed:(decide (f < i+1)&&Qpq p f t s f)=(decide (f < i)&&Qpq p f t s f):=by
        by_cases q:f=i
        .subst q; rw[hb]; simp
        .congr 1;rw[decide_eq_decide]; omega
       rw[ed];simp[QLH,hm,w4]
      | true=>
       rw[hb,if_pos rfl]at en;have w3:IntKind.i64.wrap (Qze p f t s i+p.has[i])=Qze p f t s (i+1):=by rw[<-en]; exact Qa _ (by omega) (by omega)
       have ed:(decide (f < i+1)&&Qpq p f t s f)=((decide (f < i)&&Qpq p f t s f)||((i:Int)==(f:Int))):=by
        by_cases q:f=i
        .subst q; rw[hb]; simp
        .have:((i:Int)==(f:Int))=false:=by simp; omega
         rw[this,Bool.or_false];congr 1;rw[decide_eq_decide]; omega
       rw[ed];generalize(decide (f < i)&&Qpq p f t s f)=W;cases W with
       | true=>simp[QLH,Qc,hm,hN,hi',zN,w4,w3]
       | false=>simp[QLH,Qc,hm,hN,hi',zN,w4,w3]
    .have eW:(decide (f < N)&&Qpq p f t s f)=Qpq p f t s f:=by rw[decide_eq_true hfN,Bool.true_and]
     rw[eW];have b1:=QLm hP s N;have b2:=QLB hP f t s N;have e1:=QMm s t (by omega)
     have e2:=hr1 s t;have e3:=hr0 s t;have w5:=Qa (QuK p s N - Qze p f t s N) (by omega) (by omega)
     have w6:=Qa (Qze p f t s N - QuK p s N) (by omega) (by omega)
     have hmx:(if lo < QuK p s N - Qze p f t s N then QuK p s N - Qze p f t s N else lo)=max lo (QuK p s N - Qze p f t s N):=by split<;>omega
     have hmi:(if Qze p f t s N - QuK p s N < hi then Qze p f t s N - QuK p s N else hi)=min hi (Qze p f t s N - QuK p s N):=by split<;>omega
     unfold QA8;rw[hm,hN];dsimp only;cases hb:QeB s t with
     | true=>
      rw[hb]at e2 e3;cases kB:Qpq p f t s f with
      | true=>simp[QLH,hN,w1,e1,e2,e3]
      | false=>simp[QLH,hN,w1,e1,e2,e3,w5,hmx]
     | false=>
      rw[hb]at e2 e3;cases kB:Qpq p f t s f with
      | true=>simp[QLH,hN,w1,e1,e2,e3,w6,hmi]
      | false=>simp[QLH,hN,w1,e1,e2,e3]
  .obtain⟨s,hs⟩:∃s,s=2 ^ N:=⟨_,rfl⟩;rw[show 2 ^ N - 1+1=s by omega]
   generalize QLz p f t (2 ^ N - 1)=R at*;obtain⟨lo,hi⟩:=R;by_cases h8:N=8
   .subst h8;have kB:¬(s:Int) < 256:=by rw[hs]; decide
    simp[QLH,kB]
   .have kB:(s:Int) < 256:=by
     have:2 ^ N<=128:=Nat.pow_le_pow_right (i:=N) (j:=7) (by omega) (by omega)
     omega
    have u7:(2:Int) ^ N<=(s:Int):=by rw[<-yU]; omega
    have n0:QuK p s 0=0:=rfl;simp[QLH,kB]
    (generalize aC:Cx.loop _ _ _=aE; apply Qi aC (λk=>⟨[(1,.d (DI f)),(2,.d (DI t)),(3,.loc 3 0),(8,.d (DI lo)),(9,.d (DI hi)),(10,.d (DI s)),(11,.d (DI (QuK p s k))),(12,.d (DI 0)),(13,.d (DB false)),(14,.d (DI k))],[(3,[.d (.sl 1 (p.has.map Qt.enc)),.d (.sl 1 (p.needs.map Qt.enc)),.d (.sl 2 (p.never.map Qcg.enc))])],[],[]⟩) N (by first | (simp; done) | (simp; rfl) | (simp; simp[*])); rotate_left; (show _ < 281474976710656; omega); rfl; rotate_left; all_goals clear aC)
    .intro k hk;have eQ:(k:Int) < N:=by omega
     have kR:k < p.needs.length:=by omega
     have w2:=Qa ((k:Int)+1) (by omega) (by omega)
     have e1:=QMm s k (by omega)
     have e2:=hr1 s k;have b1:=QLm hP s k;have b2:=QLm hP s (k+1);have en:QuK p s (k+1)=QuK p s k+if QeB s k=true then QaM p k else 0:=rfl;have ek:QaM p k=p.needs[k]:=Qj _ _ _ kR;rw[ek]at en;cases hb:QeB s k with
     | true=>
      rw[hb]at e2 en;rw[if_pos rfl]at en;have w3:IntKind.i64.wrap (QuK p s k+p.needs[k])=QuK p s (k+1):=by rw[<-en]; exact Qa _ (by omega) (by omega)
      simp[QLH,Qc,hm,hk,eQ,w2,e1,e2,w3]
     | false=>
      rw[hb]at e2 en;rw[if_neg (by simp),Int.add_zero]at en
      simp[QLH,hm,eQ,w2,e1,e2,en]
    .simp[QLH,hm,xR,u7]
 .cases hr
theorem QNW (xs:Array Value) (w:World):(callFunc 84 xs).run Tryz.prog w= .ok (.enter 84 xs) w:=by kernel_rfl
end Go.Proofs.YtnfeakhkfehkhaaGreatDoor
