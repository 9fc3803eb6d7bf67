/-
  How the law draws a truth: bounds. Conditions: none.
-/
import Derived.Test.YticoemblgkemiaaGreatDoorZFndA
set_option linter.unusedSimpArgs false
set_option linter.unusedVariables false
namespace Go.Proofs.YticoemblgkemiaaGreatDoor
open Go.RowKit
structure PBd (p:Pro) (N:Nat):Prop where
 len:PLen p N
 pos:1<=N
 nev:p.never.length<=1000
 has:∀i,0<=Qb2 p i/\Qb2 p i<=100000
 need:∀i,0<=Q4 p i/\Q4 p i<=100000
theorem hr1 (s a:Nat):((dv s a).tmod 2==1)=Qc9 s a:=by
 unfold dv Qc9;rw[show((2:Int))=((2:Nat):Int)from rfl,<-Int.ofNat_tmod];rcases Nat.mod_two_eq_zero_or_one (s / 2 ^ a)with h | h<;>simp[h]
theorem Qs5 (s k:Nat) (hk:k<=8):(s:Int) / 2 ^ (min k IntKind.i64.bits)=dv s k:=by
 rw[show min k IntKind.i64.bits=k from Nat.min_eq_left (Nat.le_trans hk (by decide))]
 unfold dv;rw[Int.natCast_ediv,Int.natCast_pow]; rfl
theorem Qxv {f:Nat->Int} (h:∀i,0<=f i/\f i<=100000):∀n,0<=QK n f/\QK n f<=100000*n
 | 0=>⟨Int.le_refl _,Int.le_refl _⟩
 | n+1=>by
  have h1:=Qxv h n;have h2:=h n;rw[QK]; omega
theorem Qdy {p:Pro} {N:Nat} (h:PBd p N) (s n:Nat):0<=Q8 p s n/\Q8 p s n<=100000*n:=Qxv (λi=>by
 have:=h.need i;split<;>omega) n
theorem Qhn {p:Pro} {N:Nat} (h:PBd p N) (f t s n:Nat):0<=Qbc p f t s n/\Qbc p f t s n<=100000*n:=Qxv (λi=>by
 have:=h.has i;split<;>omega) n
theorem Qqv {p:Pro} {N:Nat} (h:PBd p N) (f t:Nat):∀k,(0<=(Qg1 p f t k).1/\(Qg1 p f t k).1<=800000)/\(-800000<=(Qg1 p f t k).2/\(Qg1 p f t k).2<=100000)
 | 0=>by
  have h1:=h.has f;have h2:=h.need t;refine⟨⟨Int.le_refl _,by show(0:Int)<=800000; omega⟩,?_⟩
  show _<=min _ _/\min _ _<=_;omega
 | k+1=>by
  have h0:=Qqv h f t k;have h1:=Qdy h (k+1) p.needs.length;have h2:=Qhn h f t (k+1) p.has.length;have hm:=h.len.m;have hh:=h.len.h;have hl:=h.len.le;rw[Qg1]; unfold QgW;dsimp only;constructor
  .split<;>omega
  .split<;>omega
def g84:List (Nat×(List D->Option D)):=[(146,QNB)]
theorem dg84:QaE Tryz.prog (Qaw g84):=Qh Qs QE8 QNM
noncomputable instance (p:Pro) (N:Nat):Decidable (PBd p N):=Classical.propDecidable _
noncomputable def s84:List D->Option D:=sp3 (Qcf Qof) QaY QaY (Qgw QaY QaY) λp x y=>if PBd p p.has.length/\0<=x/\x < y/\y < p.has.length then some (Qey p x.toNat y.toNat)else none
theorem QEy {p:Pro} (h:p.never.length<=1000) (i k:Nat):QNB [.agg [.sl 1 (p.has.map QH.enc),.sl 1 (p.needs.map QH.enc),.sl 2 (p.never.map Qci.enc)],DI i,DI k]=some (DB (nvP p i k)):=by
 have e:Qof.dec [.sl 1 (p.has.map QH.enc),.sl 1 (p.needs.map QH.enc),.sl 2 (p.never.map Qci.enc)]=some p:=Qsm p;simp only[QNB,sp3,QaQ,e,Qak];rw[if_pos (by omega),QFI]; rfl
theorem QHE (p:Pro) (f t s i k:Nat) (hk:k < i+1):QcY p f t s i k=false:=by
 unfold QcY;rw[decide_eq_false (by omega)]; rfl
theorem Qv1 {p:Pro} {i N:Nat} (f t s:Nat) (h:p.needs.length=N) (hi:i < N):((List.range (N - (i+1))).any λj=>QcY p f t s i (i+1+j))=QaF p f t s i:=by
 unfold QaF;rw[h,Bool.eq_iff_iff,Zy,Zy];constructor
 .rintro⟨j,h1,h2⟩;have:=Zm.1 h1;exact⟨i+1+j,Zm.2 (by omega),h2⟩
 .rintro⟨k,h1,h2⟩;have h3:=Zm.1 h1;by_cases q:k < i+1
  .rw[QHE p f t s i k q]at h2; cases h2
  .exact⟨k - (i+1),Zm.2 (by omega),by rw[show i+1+(k - (i+1))=k by omega]; exact h2⟩
set_option maxHeartbeats 8000000 in
theorem ok84:∀ds d,s84 ds=some d->PureC Tryz.prog 66 ds d:=QcN λp x y r hr=>by
 split at hr
 .rename_i hc;cases hr;obtain⟨hP,h0,h1,h2⟩:=hc;obtain⟨f,rfl⟩:∃k:Nat,x=k:=⟨x.toNat,by omega⟩
  obtain⟨t,rfl⟩:∃k:Nat,y=k:=⟨y.toNat,by omega⟩
  generalize hN:p.has.length=N at*;have hm:=hP.len.m;have bE:=hP.len.le;have gD:=hP.pos;have hft:f < t:=by omega
  have htN:t < N:=by omega
  refine Qf (Qw dg84 148 QiX []) Tryz.func66 rfl rfl (Zb rfl) (by kernel_rfl) ?_
  rw[Tryz.results66,Int.toNat_natCast,Int.toNat_natCast];have uK:(f:Int) < N:=by omega
  have uL:(t:Int) < N:=by omega
  have hfN:f < N:=by omega
  have hfh:f < p.has.length:=by omega
  have hth:t < p.needs.length:=by omega
  have ef:Qb2 p f=p.has[f]:=Ql _ _ _ hfh;have et:Q4 p t=p.needs[t]:=Ql _ _ _ hth;have e0:Qg1 p f t 0=(0,min (Qb2 p f) (Q4 p t)):=rfl;have zY:(if p.needs[t] < p.has[f]then p.needs[t]else p.has[f])=(Qg1 p f t 0).2:=by
   rw[e0,ef,et];show _=min _ _;split<;>omega
  have hmz:(0:Int)=(Qg1 p f t 0).1:=rfl;have tS:1<=2 ^ N:=Nat.pos_of_ne_zero (by simp)
  have hp256:2 ^ N<=256:=Nat.pow_le_pow_right (by omega) bE
  have zG:((2 ^ N:Nat):Int)=(2:Int) ^ N:=by rw[Int.natCast_pow]; rfl
  have yC:IntKind.i64.wrap (2 ^ min N IntKind.i64.bits)=(2:Int) ^ N:=by
   rw[show min N IntKind.i64.bits=N from Nat.min_eq_left (Nat.le_trans bE (by decide)),<-zG]
   exact Qa _ (by omega) (by omega)
  simp[QiX,g84,Qu,Qd,hm,hN,uK,uL,hfN,htN,zY];unfold Qey;rw[hm]
  (generalize aC:Cx.loop _ _ _=aE; apply Qi aC (λk=>⟨[(1,.d (DI f)),(2,.d (DI t)),(3,.loc 3 0),(8,.d (DI (Qg1 p f t k).1)),(9,.d (DI (Qg1 p f t k).2)),(10,.d (DI ((k+1:Nat):Int)))],[(3,[.d (.sl 1 (p.has.map QH.enc)),.d (.sl 1 (p.needs.map QH.enc)),.d (.sl 2 (p.never.map Qci.enc))])],[],[]⟩) (2 ^ N - 1) (by first | (simp; done) | (simp; rfl) | (simp; simp[*])); rotate_left; (show _ < 281474976710656; omega); rfl; rotate_left; all_goals clear aC)
  .intro q hq;obtain⟨s,hs⟩:∃s,s=q+1:=⟨_,rfl⟩;have yD:(s:Int) < 256:=by omega
   have cL:=Qqv hP f t q;have gE:Qg1 p f t (q+1)=QgW p f t s (Qg1 p f t q):=by rw[hs]; rfl
   rw[gE,<-hs];generalize Qg1 p f t q=R at*;obtain⟨lo,hi⟩:=R;dsimp only at cL;have w1:=Qa ((s:Int)+1) (by omega) (by omega)
   have vE:¬((2:Int) ^ N<=(s:Int)):=by rw[<-zG]; omega
   have n0:Q8 p s 0=0:=rfl;have g0:Qbc p f t s 0=0:=rfl;clear hs gE;simp[QiX,yD]
   (generalize aC:Cx.loop _ _ _=aE; apply Qi aC (λk=>⟨[(1,.d (DI f)),(2,.d (DI t)),(3,.loc 3 0),(8,.d (DI lo)),(9,.d (DI hi)),(10,.d (DI s)),(11,.d (DI (Q8 p s k))),(12,.d (DI 0)),(13,.d (DB false)),(14,.d (DI k))],[(3,[.d (.sl 1 (p.has.map QH.enc)),.d (.sl 1 (p.needs.map QH.enc)),.d (.sl 2 (p.never.map Qci.enc))])],[],[]⟩) N (by first | (simp; done) | (simp; rfl) | (simp; simp[*])); rotate_left; (show _ < 281474976710656; omega); rfl; rotate_left; all_goals clear aC)
   .intro k hk;have cZ:(k:Int) < N:=by omega
    have j8:k < p.needs.length:=by omega
    have w2:=Qa ((k:Int)+1) (by omega) (by omega)
    have e1:=Qs5 s k (by omega)
    have e2:=hr1 s k;have b1:=Qdy hP s k;have b2:=Qdy hP s (k+1);have en:Q8 p s (k+1)=Q8 p s k+if Qc9 s k=true then Q4 p k else 0:=rfl;have ek:Q4 p k=p.needs[k]:=Ql _ _ _ j8;rw[ek]at en;cases hb:Qc9 s k with
    | true=>
     rw[hb]at e2 en;rw[if_pos rfl]at en;have w3:IntKind.i64.wrap (Q8 p s k+p.needs[k])=Q8 p s (k+1):=by rw[<-en]; exact Qa _ (by omega) (by omega)
     simp[QiX,Qd,hm,hk,cZ,w2,e1,e2,w3]
    | false=>
     rw[hb]at e2 en;rw[if_neg (by simp),Int.add_zero]at en
     simp[QiX,hm,cZ,w2,e1,e2,en]
   .simp[QiX,hm,yC,vE]
    (generalize aC:Cx.loop _ _ _=aE; apply Qi aC (λi=>⟨[(1,.d (DI f)),(2,.d (DI t)),(3,.loc 3 0),(8,.d (DI lo)),(9,.d (DI hi)),(10,.d (DI s)),(11,.d (DI (Q8 p s N))),(12,.d (DI (Qbc p f t s i))),(13,.d (DB (decide (f < i)&&QaF p f t s f))),(15,.d (DI i))],[(3,[.d (.sl 1 (p.has.map QH.enc)),.d (.sl 1 (p.needs.map QH.enc)),.d (.sl 2 (p.never.map Qci.enc))])],[],[]⟩) N (by first | (simp; done) | (simp; rfl) | (simp; simp[*])); rotate_left; (show _ < 281474976710656; omega); rfl; rotate_left; all_goals clear aC)
    .intro i hi';have oA:(i:Int) < N:=by omega
     have hih:i < p.has.length:=by omega
     have w4:=Qa ((i:Int)+1) (by omega) (by omega)
     have jQ:=λk=>QEy hP.nev i k;simp[QiX,hN,oA,w4]
     (generalize aC:Cx.loop _ _ _=aE; apply Qi aC (λa=>⟨[(1,.d (DI f)),(2,.d (DI t)),(3,.loc 3 0),(8,.d (DI lo)),(9,.d (DI hi)),(10,.d (DI s)),(11,.d (DI (Q8 p s N))),(12,.d (DI (Qbc p f t s i))),(13,.d (DB (decide (f < i)&&QaF p f t s f))),(15,.d (DI i)),(16,.d (DB ((List.range a).any λj=>QcY p f t s i (i+1+j)))),(17,.d (DI ((i+1+a:Nat):Int)))],[(3,[.d (.sl 1 (p.has.map QH.enc)),.d (.sl 1 (p.needs.map QH.enc)),.d (.sl 2 (p.never.map Qci.enc))])],[],[]⟩) (N - (i+1)) (by first | (simp; done) | (simp; rfl) | (simp; simp[*])); rotate_left; (show _ < 281474976710656; omega); rfl; rotate_left; all_goals clear aC)
     .intro a ha;obtain⟨k,hk⟩:∃k,k=i+1+a:=⟨_,rfl⟩;rw[show i+1+(a+1)=k+1 by omega,<-hk]
      have s5:k < N:=by omega
      have cZ:(k:Int) < N:=by omega
      have j8:k < p.needs.length:=by omega
      have w2:=Qa ((k:Int)+1) (by omega) (by omega)
      have e1:=Qs5 s k (by omega)
      have e2:=hr1 s k;have jQ:=jQ k;have ek:Q4 p k=p.needs[k]:=Ql _ _ _ j8;rw[List.range_succ,List.any_append];generalize((List.range a).any λj=>QcY p f t s i (i+1+j))=V;have eS:([a].any λj=>QcY p f t s i (i+1+j))=(Qc9 s k&&(decide (0 < Q4 p k)&&(!nvP p i k&&!(decide (i=f)&&decide (k=t))))):=by
       simp only[List.any_cons,List.any_nil,Bool.or_false,<-hk,QcY];rw[decide_eq_true (show i < k by omega),Bool.true_and]
      rw[eS,ek];clear eS;cases hb:Qc9 s k with
      | false=>
       rw[hb]at e2;simp[QiX,hm,cZ,w2,e1,e2]
      | true=>
       rw[hb]at e2;by_cases hq:0 < p.needs[k]
       .cases hn:nvP p i k with
        | true=>
         rw[hn]at jQ;simp[QiX,Qd,hm,s5,cZ,w2,e1,e2,hq,jQ]
        | false=>
         rw[hn]at jQ;by_cases q1:i=f
         .have uB:((i:Int)==(f:Int))=true:=by rw[q1]; simp
          by_cases q2:k=t
          .have uC:((k:Int)==(t:Int))=true:=by rw[q2]; simp
           simp[QiX,Qd,hm,s5,cZ,w2,e1,e2,hq,jQ,uB,uC,decide_eq_true q1,decide_eq_true q2]
          .have uC:((k:Int)==(t:Int))=false:=beq_eq_false_iff_ne.2 (by omega)
           simp[QiX,Qd,hm,s5,cZ,w2,e1,e2,hq,jQ,uB,uC,decide_eq_true q1,decide_eq_false q2]
         .have uB:((i:Int)==(f:Int))=false:=beq_eq_false_iff_ne.2 (by omega)
          simp[QiX,Qd,hm,s5,cZ,w2,e1,e2,hq,jQ,uB,decide_eq_false q1]
       .simp[QiX,Qd,hm,s5,cZ,w2,e1,e2,hq]
     .rw[show i+1+(N - (i+1))=N by omega]
      rw[Qv1 f t s hm hi'];have b1:=Qhn hP f t s i;have b2:=Qhn hP f t s (i+1);have en:Qbc p f t s (i+1)=Qbc p f t s i+if QaF p f t s i=true then Qb2 p i else 0:=rfl;have ek:Qb2 p i=p.has[i]:=Ql _ _ _ hih;rw[ek]at en;cases hb:QaF p f t s i with
      | false=>
       rw[hb,if_neg (by simp),Int.add_zero]at en
       rw[<-en];have ed:(decide (f < i+1)&&QaF p f t s f)=(decide (f < i)&&QaF p f t s f):=by
        by_cases q:f=i
        .subst q; rw[hb]; simp
        .congr 1;rw[decide_eq_decide]; omega
       rw[ed];simp[QiX,hm,w4]
      | true=>
       rw[hb,if_pos rfl]at en;have w3:IntKind.i64.wrap (Qbc p f t s i+p.has[i])=Qbc p f t s (i+1):=by rw[<-en]; exact Qa _ (by omega) (by omega)
       have ed:(decide (f < i+1)&&QaF p f t s f)=((decide (f < i)&&QaF p f t s f)||((i:Int)==(f:Int))):=by
        by_cases q:f=i
        .subst q; rw[hb]; simp
        .have:((i:Int)==(f:Int))=false:=by simp; omega
         rw[this,Bool.or_false];congr 1;rw[decide_eq_decide]; omega
       rw[ed];generalize(decide (f < i)&&QaF p f t s f)=W;cases W with
       | true=>simp[QiX,Qd,hm,hN,hi',oA,w4,w3]
       | false=>simp[QiX,Qd,hm,hN,hi',oA,w4,w3]
    .have eW:(decide (f < N)&&QaF p f t s f)=QaF p f t s f:=by rw[decide_eq_true hfN,Bool.true_and]
     rw[eW];have b1:=Qdy hP s N;have b2:=Qhn hP f t s N;have e1:=Qs5 s t (by omega)
     have e2:=hr1 s t;have e3:=hr0 s t;have w5:=Qa (Q8 p s N - Qbc p f t s N) (by omega) (by omega)
     have w6:=Qa (Qbc p f t s N - Q8 p s N) (by omega) (by omega)
     have hmx:(if lo < Q8 p s N - Qbc p f t s N then Q8 p s N - Qbc p f t s N else lo)=max lo (Q8 p s N - Qbc p f t s N):=by split<;>omega
     have hmi:(if Qbc p f t s N - Q8 p s N < hi then Qbc p f t s N - Q8 p s N else hi)=min hi (Qbc p f t s N - Q8 p s N):=by split<;>omega
     unfold QgW;rw[hm,hN];dsimp only;cases hb:Qc9 s t with
     | true=>
      rw[hb]at e2 e3;cases kJ:QaF p f t s f with
      | true=>simp[QiX,hN,w1,e1,e2,e3]
      | false=>simp[QiX,hN,w1,e1,e2,e3,w5,hmx]
     | false=>
      rw[hb]at e2 e3;cases kJ:QaF p f t s f with
      | true=>simp[QiX,hN,w1,e1,e2,e3,w6,hmi]
      | false=>simp[QiX,hN,w1,e1,e2,e3]
  .obtain⟨s,hs⟩:∃s,s=2 ^ N:=⟨_,rfl⟩;rw[show 2 ^ N - 1+1=s by omega]
   generalize Qg1 p f t (2 ^ N - 1)=R at*;obtain⟨lo,hi⟩:=R;by_cases h8:N=8
   .subst h8;have kJ:¬(s:Int) < 256:=by rw[hs]; decide
    simp[QiX,kJ]
   .have kJ:(s:Int) < 256:=by
     have:2 ^ N<=128:=Nat.pow_le_pow_right (i:=N) (j:=7) (by omega) (by omega)
     omega
    have vE:(2:Int) ^ N<=(s:Int):=by rw[<-zG]; omega
    have n0:Q8 p s 0=0:=rfl;simp[QiX,kJ]
    (generalize aC:Cx.loop _ _ _=aE; apply Qi aC (λk=>⟨[(1,.d (DI f)),(2,.d (DI t)),(3,.loc 3 0),(8,.d (DI lo)),(9,.d (DI hi)),(10,.d (DI s)),(11,.d (DI (Q8 p s k))),(12,.d (DI 0)),(13,.d (DB false)),(14,.d (DI k))],[(3,[.d (.sl 1 (p.has.map QH.enc)),.d (.sl 1 (p.needs.map QH.enc)),.d (.sl 2 (p.never.map Qci.enc))])],[],[]⟩) N (by first | (simp; done) | (simp; rfl) | (simp; simp[*])); rotate_left; (show _ < 281474976710656; omega); rfl; rotate_left; all_goals clear aC)
    .intro k hk;have cZ:(k:Int) < N:=by omega
     have j8:k < p.needs.length:=by omega
     have w2:=Qa ((k:Int)+1) (by omega) (by omega)
     have e1:=Qs5 s k (by omega)
     have e2:=hr1 s k;have b1:=Qdy hP s k;have b2:=Qdy hP s (k+1);have en:Q8 p s (k+1)=Q8 p s k+if Qc9 s k=true then Q4 p k else 0:=rfl;have ek:Q4 p k=p.needs[k]:=Ql _ _ _ j8;rw[ek]at en;cases hb:Qc9 s k with
     | true=>
      rw[hb]at e2 en;rw[if_pos rfl]at en;have w3:IntKind.i64.wrap (Q8 p s k+p.needs[k])=Q8 p s (k+1):=by rw[<-en]; exact Qa _ (by omega) (by omega)
      simp[QiX,Qd,hm,hk,cZ,w2,e1,e2,w3]
     | false=>
      rw[hb]at e2 en;rw[if_neg (by simp),Int.add_zero]at en
      simp[QiX,hm,cZ,w2,e1,e2,en]
    .simp[QiX,hm,yC,vE]
 .cases hr
theorem QKc (xs:Array Value) (w:World):(callFunc 66 xs).run Tryz.prog w= .ok (.enter 66 xs) w:=by kernel_rfl
end Go.Proofs.YticoemblgkemiaaGreatDoor
