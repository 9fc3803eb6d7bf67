/-
  TopMade: what is left of all batches, and a sort. Conditions: none.
-/
import Derived.Test.YticoemblgkemiaaGreatDoorZTopP
import Derived.Test.YticoemblgkemiaaGreatDoorZStT
import Derived.Test.YticoemblgkemiaaGreatDoorZLawD
set_option linter.unusedSimpArgs false
set_option linter.unusedVariables false
namespace Go.Proofs.YticoemblgkemiaaGreatDoor
open Go.RowKit
def kj3 (r:Nat):List (Nat×Option Nat):=match r with
 | 0=>kpn [0,3]
 | 1=>kpn [0,3,7]
 | 2=>kpn [0,3,42]
 | 3=>[(4,none)]
 | 4=>kpn [0,3,8]
 | 5=>kpn [0,3,8,9]
 | 6=>kpn [0,3,8,9,53]
 | 7=>kpn [0,3,8,9]
 | 8=>kpn [0,3,8,9,59]
 | 9=>kpn [0,3,8,9]
 | 10=>[(0,none),(3,none),(8,none),(10,some 3)]
 | 11=>[(0,none),(3,none),(8,none),(10,some 3),(11,none)]
 | 12=>[(0,none),(3,none),(8,none),(10,some 3),(11,none),(77,none)]
 | 13=>[(0,none),(3,none),(8,none),(10,some 3),(11,none)]
 | 14=>[(0,none),(3,none),(8,none),(10,some 3),(11,none),(13,none),(14,none)]
 | 15=>[(0,none),(3,none),(8,none),(10,some 3),(11,none),(13,none),(14,none),(15,none),(16,none)]
 | 16=>[(0,none),(3,none),(8,none),(10,some 3),(11,none),(13,none),(15,none),(98,none)]
 | 17=>[(4,none)]
 | 18=>[(0,none),(3,none),(8,none),(10,some 3),(11,none),(13,none),(15,none),(17,none)]
 | 19=>[(0,none),(3,none),(8,none),(10,some 3),(11,none),(13,none),(15,none),(17,none)]
 | 20=>[(0,none),(3,none),(8,none),(10,some 3),(11,none),(13,none),(15,none),(17,none),(18,none)]
 | 21=>[(0,none),(3,none),(8,none),(10,some 3),(11,none),(13,none),(15,none),(17,none),(18,none),(115,none)]
 | 22=>[(0,none),(3,none),(8,none),(10,some 3),(11,none),(13,none),(15,none),(17,none),(18,none)]
 | 23=>[(0,none),(3,none),(8,none),(10,some 3),(11,none),(13,none),(15,none),(17,none),(18,none),(130,none)]
 | 24=>[(4,none)]
 | 25=>[(0,none),(3,none),(8,none),(10,some 3),(11,none),(13,none),(15,none),(17,none),(18,none)]
 | 26=>[(0,none),(3,none),(8,none),(10,some 3),(11,none),(17,none),(19,none)]
 | 27=>[(0,none),(3,none),(8,none),(10,some 3),(11,none),(17,none),(19,none),(20,none)]
 | 28=>[(0,none),(3,none),(8,none),(10,some 3),(11,none),(17,none),(19,none),(20,none),(166,none)]
 | 29=>[(0,none),(3,none),(8,none),(10,some 3),(11,none),(17,none),(19,none),(20,none)]
 | 30=>[(0,none),(3,none),(8,none),(10,some 3),(11,none),(17,none),(19,none),(20,none),(172,none)]
 | 31=>[(0,none),(3,none),(8,none),(10,some 3),(11,none),(17,none),(19,none),(20,none)]
 | 32=>[(0,none),(3,none),(8,none),(10,some 3),(11,none)]
 | 33=>kpn [0,3,7,8,21]
 | 34=>kpn [0,3,8,21,191]
 | 35=>[(4,none)]
 | 36=>kpn [0,3,8,21,22]
 | 37=>kpn [0,3,8,21,22,23]
 | 38=>kpn [0,3,8,21,22,23,24,25]
 | 39=>kpn [0,3,8,21,22,23,24,25,26]
 | 40=>kpn [0,3,8,21,22,23,24,25,26,201]
 | 41=>kpn [0,3,8,21,22,23,24,25,26]
 | 42=>kpn [0,3,8,21,22,23,24,25,26,27]
 | 43=>kpn [0,3,8,21,22,23,24,25,26,27,28]
 | 44=>kpn [0,3,8,21,22,23,24,25,26,27,28,206]
 | 45=>kpn [0,3,8,21,22,23,24,25,26,27,28]
 | 46=>kpn [0,3,8,21,22,23,24,25,26,27,28]
 | 47=>kpn [0,3,8,21,22,23,24,25,26,27]
 | 48=>kpn [0,3,8,21,22,23,24,25,26,243]
 | 49=>kpn [0,3,8,21,22,23,24,25,26]
 | 50=>[(4,none)]
 | _=>[]
structure Mad where
 s:Srt
 ks:List Int
 cards:List Int
def QHd:Row Mad:=⟨4,λx=>[DI x.s.kinds,DI x.s.fo,.sl 1 (x.ks.map (rK .u8).enc),.sl 1 (x.cards.map (rK .u32).enc)],λd=>match d with
 | [.v (.int .i64 a),.v (.int .i64 b),y,z]=>(match(QJ (rK .u8)).dec y,(QJ (rK .u32)).dec z with | some s,some r=>some ⟨⟨a,b⟩,s,r⟩ | _,_=>none)
 | _=>none,λx=>by simp[Qnf],λd x h=>by
 split at h
 .split at h
  .rename_i h1 h2;cases h;exact QaX (DImp.refl _) (QaX (DImp.refl _) (QaX ((QJ (rK .u8)).ed _ _ h1) (QaX ((QJ (rK .u32)).ed _ _ h2) (LImp.refl _))))
  .cases h
 .cases h⟩
theorem QaI (x:Mad):QHd.enc x=[DI x.s.kinds,DI x.s.fo,.sl 1 (x.ks.map (rK .u8).enc),.sl 1 (x.cards.map (rK .u32).enc)]:=rfl
def QMm (y:List Int):Prop:=∀z∈y,Qpy z
noncomputable instance (y:List Int):Decidable (QMm y):=Classical.propDecidable _
theorem QIu {b:List Bat} (h:Qc0 b):s18 [.sl 5 (b.map QQ.enc)]=some (.tup [DI (Qaf b).1,DI (Qaf b).2.1,DI (Qaf b).2.2]):=by
 simp only[s18,sp1,Q9];rw[if_pos h.1]; rfl
theorem QLh (s:Srt) (k:Nat):sj7 [.agg [DI s.kinds,DI s.fo],.sl k []]=some (DI (QIh s)):=by
 simp only[sj7,sp2,QaQ,Qjv,Qb9]; rfl
theorem QEN {s:Srt} {l:List Bag} (hs:Qj3 s) (hl:Qe9 l):QMW [.agg [DI s.kinds,DI s.fo],.sl 3 (l.map QiJ.enc)]=some (.tup [DI (Qlx s l),DI 0]):=by
 simp only[QMW,sp2,QaQ,Qjv,QfK];rw[if_pos ⟨hs,hl⟩]; rfl
noncomputable def Qdu:List (Nat×(List D->Option D)):=[(6,s18),(7,sj7),(8,sj8),(9,s24),(10,s22),(11,s25),(12,QIg),(13,QMW),(14,s37),(15,s40),(16,QNi),(17,s38)]
theorem QIN:QaE Tryz.prog (Qaw Qdu):=Qh (Qh (Qh (Qh (Qh (Qh (Qh (Qh (Qh (Qh (Qh (Qh Qs QJw ok38) QHH QOa) Qxx ok40) QJR ok37) QGN QOy) Qqh QEc) QDD ok25) QC1 ok22) QMz ok24) QLd okj8) QL9 okj7) QIZ ok18
def Qvd (K:List Int) (k:Nat):Nat->D:=λj=>DI ((if j < k then Qd7 K j else 0:Nat))
theorem Qyi (K:List Int):(λ_=>DI 0)=Qvd K 0:=by funext j; simp[Qvd]
theorem QvG (K:List Int) (k:Nat):QZ (Qvd K k) k (DI (Qd7 K k))=Qvd K (k+1):=by
 funext j;unfold QZ Qvd;by_cases h:j=k
 .subst h; simp
 .rw[if_neg h];have:(j < k+1)=(j < k):=by simp only[eq_iff_iff]; omega
  simp only[this]
theorem QBY (K:List Int) (n:Nat):Qk n (Qvd K n)=Qk n λj=>DI (Qd7 K j):=Qdc λt ht=>by
 unfold Qvd; rw[if_pos ht]
theorem Qz4 (k:Nat):Qvd [] (k+1)=Qvd [] k:=by
 funext j; simp[Qvd,Qd7]
theorem Qpp (H:Nat->Bool) {k:Nat} (hk:k<=8):0<=Qeg H k/\Qeg H k<=256:=by
 have h:=QnP H k;have h2:(2:Int) ^ k<=256:=by
  have:∀j:Nat,j<=8->(2:Int) ^ j<=256:=by decide
  exact this k hk
 omega
noncomputable def sj3:List D->Option D:=sp2 (QJ QQ) (Qcf QHd) QaW λb x=>if Qc0 b/\QMm x.ks/\Qlg x.cards then some true else none
set_option maxHeartbeats 8000000 in
theorem okj3:∀ds d,sj3 ds=some d->PureC Tryz.prog 3 ds d:=Qay λb x r hr=>by
 split at hr
 .rename_i hc;obtain⟨hs,hK,hy⟩:=hc;cases hr;obtain⟨s,K,y⟩:=x;dsimp only at hK hy;refine Qf (Qw QIN 268 kj3 []) Tryz.func3 rfl rfl (Zb rfl) (by kernel_rfl) ?_
  rw[Tryz.results3];have yK:=QIu hs;have e7:=λk=>QLh s k;have e8:sj8 []=some (DB true):=rfl;have e9:s24 []=some (DB true):=rfl;by_cases hv:(Qaf b).2.2=0
  .by_cases hso:Qj3 s
   .have h7:QIh s=0:=if_pos hso;rw[h7]at e7;rw[hv]at yK;have hV:=(QbQ b).1 hv;have bE:=hV.ok.le;have gD:=hV.ok.pos;have cL:=hso;obtain⟨so1,so2,so3,so4⟩:=cL;obtain⟨g,hg,hT⟩:=Qzq hV (Qs4 hy);have e14:=QJi hV hy;rw[hT]at e14;have wZ:=Qxf b g;have hTV:=QhJ hV hg;have vL:=hTV.ok;have e15:=QK2 vL;have hlaw:=QGp hV hg hso K;have e13:=QEN hso (QFf hV K);have nZ:∀k,k < b.length->0<=Qba (QdY b g) k/\Qba (QdY b g) k<=100000:=λk hk=>⟨hTV.kept k (by omega),(QhP vL (by omega)).2⟩
    have e17:∀k,k < b.length->s38 [.sl 5 ((QdY b g).map QQ.enc),DI k,.sl 0 []]=some (.sl 1 (((List.range b.length).map (Qam (QdY b g) k [] b.length)).map rBl.enc)):=λk hk=>by
     have:=QJd vL (i:=k) (by omega)
     rw[wZ]at this;exact this
    have hask:∀i:Nat,i < b.length->QbB b i=0:=λi hi=>(QhI b i).2 ⟨hV,by omega,by omega⟩
    have e10:∀i:Nat,i < b.length->∃M,s22 [.sl 5 (b.map QQ.enc),DI i]=some (.tup [.sl 1 M,.sl 1 ((QcE (Qb3 b i) b.length).map QH.enc),DI 0]):=λi hi=>by
     have:=QDI hs i;unfold Qgz at this;rw[if_pos (hask i hi),Int.toNat_natCast]at this;exact⟨_,this⟩
    have kL:Qpr b=true:=by unfold Qpr; rw[hv]; rfl
    have e11:∀i:Nat,i < b.length->s25 [.sl 5 (b.map QQ.enc),DI i]=some (.tup [.agg [DI (QbH b i).lo,DI (QbH b i).hi],DI 0]):=λi hi=>by
     have:=QC7 hs i;rw[QFF kL hi]at this;exact this
    have lO:(b.length:Int)<=140737488355328:=by omega
    have lP:8*(b.length:Int)<=140737488355328:=by omega
    have nN:(Qk b.length λ_=>D.v (Value.int IntKind.i64 0))=Qk b.length (Qvd K 0):=by rw[<-Qyi]
    simp[-List.reduceReplicate,kj3,Qdu,QaI,Qj,Qaj,QA,yK,e7,QO7,lO,lP,nN]
    (generalize aC:Cx.loop _ _ _=aE; apply Qi aC (λk=>⟨[(0,.d (.sl 5 (b.map QQ.enc))),(3,.loc 3 0),(8,.bs 49 0 b.length 1),(9,.d (DI k))],[(3,[.d (DI s.kinds),.d (DI s.fo),.d (.sl 1 (K.map (rK .u8).enc)),.d (.sl 1 (y.map (rK .u32).enc))]),(49,Qk b.length (Qvd K k))],[],[]⟩) b.length rfl; rotate_left; (show _ < 281474976710656; omega); rfl; rotate_left; all_goals clear aC)
    .intro k hk;have cZ:(k:Int) < b.length:=by omega
     have w1:=Qa ((k:Int)+1) (by omega) (by omega)
     by_cases zS:K=[]
     .subst zS;rw[Qz4];simp[kj3,Qaj,QA,cZ,w1]
     .have hKl:0 < K.length:=List.length_pos_iff.2 zS;have hKlI:0 < (K.length:Int):=by omega
      have hKnI:¬(K.length:Int)=0:=by omega
      have gT:(k:Int).tmod K.length=((k % K.length:Nat):Int):=by
       rw[Int.tmod_eq_emod_of_nonneg (by omega)]; rfl
      have gL:k % K.length < K.length:=Nat.mod_lt _ hKl;have j8:Qd7 K k=(K[k % K.length]).toNat % 8:=by
       unfold Qd7;rw[if_neg (by omega),Ql _ _ _ gL]
      rw[<-QvG,j8];have hz:=hK _ (Ze gL);unfold Qpy at hz;generalize k % K.length=q at*;have tD:(q:Int) < K.length:=by omega
      have w2:=Qa K[q] (by omega) (by omega)
      obtain⟨r,hr⟩:∃r:Nat,r=K[q].toNat % 8:=⟨_,rfl⟩;have hm:K[q].tmod 8=(r:Int):=by
       rw[Int.tmod_eq_emod_of_nonneg (by omega)]; omega
      have m8:k+1<=b.length:=hk;rw[<-hr];simp[kj3,QbN,Qaj,QA,Qb,Qo,hk,cZ,w1,zS,hKl,gT,gL,tD,w2,hm,m8]
    .rw[QBY];simp[kj3,Qaj,QA]
     (generalize aC:Cx.loop _ _ _=aE; apply Qi aC (λi=>⟨[(0,.d (.sl 5 (b.map QQ.enc))),(3,.loc 3 0),(8,.bs 49 0 b.length 1),(10,.sl 3 ((QcM b K i).map QiJ.enc) (.tok 10)),(11,.d (DI i))],[(3,[.d (DI s.kinds),.d (DI s.fo),.d (.sl 1 (K.map (rK .u8).enc)),.d (.sl 1 (y.map (rK .u32).enc))]),(49,Qk b.length λj=>DI (Qd7 K j))],[10],[]⟩) b.length rfl; rotate_left; (show _ < 281474976710656; omega); rfl; rotate_left; all_goals clear aC)
     .intro i hi;have oA:(i:Int) < b.length:=by omega
      have w1:=Qa ((i:Int)+1) (by omega) (by omega)
      obtain⟨M,e22⟩:=e10 i hi;have e25:=e11 i hi;have aX:=QjK K i;have hkl':Qd7 K i<=7:=by omega
      have hklI:(Qd7 K i:Int) < 8:=by omega
      have zD:Qpz b i=decide (0 < b[i].fresh):=by
       unfold Qpz; rw[Qao hi]
      have hLm:∀j (hj:j < (QcE (Qb3 b i) b.length).length),∃a:Nat,(QcE (Qb3 b i) b.length)[j]=a/\a < i/\a < b.length:=λj hj=>by
       obtain⟨a,h1,h2,h3,_⟩:=QoF hV (Ze hj);exact⟨a,h1,h2,h3⟩
      have hLl:(QcE (Qb3 b i) b.length).length<=b.length:=Qju _ _;have hall:=Qz3 hV K hi;obtain⟨lb1,lb2,lb3⟩:=Qw3 hV hi;rw[Qqc];have hbag:QqN b K i=⟨(QbH b i).lo,(QbH b i).hi,Qeg (Qp1 b (Qd7 K) i) 8⟩:=rfl;have fK:=Qf7 b K i;generalize QcM b K i=BG at*;rw[hbag,List.map_append];generalize Qp1 b (Qd7 K) i=H at*;generalize QbH b i=lv at*;obtain⟨lo,hi'⟩:=lv;dsimp only at e25 lb1 lb2 lb3;dsimp only;generalize QcE (Qb3 b i) b.length=L at*;have jT:Qk 8 (QZ (λ_=>D.v (Value.bool false)) (Qd7 K i) (DB (decide (0 < b[i].fresh))))=Qk 8 (λk=>DB (QwO b K L i 0 k)):=by rw[Qw1,zD]
      simp[-List.reduceReplicate,kj3,Qe,Qan,Qaj,QA,Qb,Qg,Qo,QO7,e22,e25,hi,oA,aX,hkl',hklI,jT]
      (generalize aC:Cx.loop _ _ _=aE; apply Qi aC (λj=>⟨[(0,.d (.sl 5 (b.map QQ.enc))),(3,.loc 3 0),(8,.bs 49 0 b.length 1),(10,.sl 3 (BG.map QiJ.enc) (.tok 10)),(11,.d (DI i)),(13,.d (.sl 1 (L.map QH.enc))),(15,.loc 15 0),(17,.bs 99 0 8 1),(18,.d (DI j))],[(3,[.d (DI s.kinds),.d (DI s.fo),.d (.sl 1 (K.map (rK .u8).enc)),.d (.sl 1 (y.map (rK .u32).enc))]),(49,Qk b.length λj=>DI (Qd7 K j)),(15,[.d (DI lo),.d (DI hi')]),(99,Qk 8 λk=>DB (QwO b K L i j k))],[10],[]⟩) L.length rfl; rotate_left; (show _ < 281474976710656; omega); rfl; rotate_left; all_goals clear aC)
      .intro j hj;have n7:(j:Int) < L.length:=by omega
       have w2:=Qa ((j:Int)+1) (by omega) (by omega)
       obtain⟨a,ha,hai,nQ⟩:=hLm j hj;have hsu:=Qwt b K L i hj;have hfa:Qpz b a=decide (0 < b[a].fresh):=by
        unfold Qpz; rw[Qao nQ]
       rw[ha,Int.toNat_natCast,hfa]at hsu;rw[hsu];have hka:=QjK K a;have hka':Qd7 K a<=7:=by omega
       have yL:(Qd7 K a:Int) < 8:=by omega
       have yM:(a:Int) < b.length:=by omega
       have haiI:(a:Int) < i:=by omega
       have yN:¬(i:Int)<=a:=by omega
       have haiM:¬i<=a:=by omega
       have yO:¬(a:Int) < 0:=by omega
       cases hm:QwO b K L i j (Qd7 K a)with
       | true=>simp[kj3,Qd,Qaj,QA,Qb,Qg,Qo,hj,n7,w2,ha,hka,yL,nQ,yM,yN,yO,hm,show Qd7 K a+1<=8 by omega]
       | false=>simp[kj3,Qe,Qd,Qaj,QA,Qb,Qg,Qo,hj,n7,w2,ha,hka,yL,nQ,yM,yN,yO,hm,show Qd7 K a+1<=8 by omega]
      .rw[hall];have hb0:Qeg H 0=0:=rfl;simp[kj3,Qaj,QA]
       (generalize aC:Cx.loop _ _ _=aE; apply Qi aC (λk=>⟨[(0,.d (.sl 5 (b.map QQ.enc))),(3,.loc 3 0),(8,.bs 49 0 b.length 1),(10,.sl 3 (BG.map QiJ.enc) (.tok 10)),(11,.d (DI i)),(17,.bs 99 0 8 1),(19,.loc 19 0),(20,.d (DI k))],[(3,[.d (DI s.kinds),.d (DI s.fo),.d (.sl 1 (K.map (rK .u8).enc)),.d (.sl 1 (y.map (rK .u32).enc))]),(49,Qk b.length λj=>DI (Qd7 K j)),(99,Qk 8 λk=>DB (H k)),(19,[.d (DI lo),.d (DI hi'),.d (DI (Qeg H k))])],[10],[]⟩) 8 (by first | (simp; done) | (simp; rfl) | (simp; simp[*])); rotate_left; (show _ < 281474976710656; omega); rfl; rotate_left; all_goals clear aC)
       .intro k hk;have cZ:(k:Int) < 8:=by omega
        have w2:=Qa ((k:Int)+1) (by omega) (by omega)
        have e12:=QqS (k:=k) (by omega)
        have jU:=Qpp H (k:=k) (by omega)
        have hp:=Qx3 k (by omega)
        have gE:Qeg H (k+1)=Qeg H k+if H k=true then 2 ^ k else 0:=rfl;cases hH:H k with
        | true=>
         rw[gE,hH,if_pos rfl];have w3:=Qa (Qeg H k+2 ^ k) (by omega) (by omega)
         simp[kj3,Qaj,QA,Qb,Qg,hk,cZ,w2,w3,e12,hH]
        | false=>
         rw[gE,hH,if_neg (by simp),Int.add_zero]
         simp[kj3,Qaj,QA,Qb,Qg,hk,cZ,w2,hH]
       .have hc1:BG.length+1<=140737488355328:=by omega
        have hc2:(BG.length+1)*24<=140737488355328:=by omega
        simp[kj3,Qaj,QA,w1,hc1,hc2]
     .generalize Qlx s (QcM b K b.length)=v at*;generalize QdY b g=T at*;clear hT hg;have aX:=QU T;have hke:∀k (h:k < (QT T).length),(QT T)[k]=Qba T k:=λk h=>by simp[QT]
      have b1:∀n,n<=b.length->0<=QK n (Qba T)/\QK n (Qba T)<=100000*n:=by
       intro n
       induction n with
       | zero=>intro _; exact⟨Int.le_refl _,Int.le_refl _⟩
       | succ n ih=>
        intro hn;have h1:=ih (by omega)
        have h2:=nZ n (by omega)
        rw[QK]; omega
      have b2:∀n,n<=b.length->0<=QK n (QsJ b s.kinds K T)/\QK n (QsJ b s.kinds K T)<=100000*n:=by
       intro n
       induction n with
       | zero=>intro _; exact⟨Int.le_refl _,Int.le_refl _⟩
       | succ n ih=>
        intro hn;have h1:=ih (by omega)
        have h2:=nZ n (by omega)
        rw[QK];unfold QsJ;unfold QsJ at h1;split<;>omega
      simp[kj3,Qaj,QA,e13,e14,e15];have dE:∀f:Nat->Int,QK 0 f=0:=λ_=>rfl;have hS0:∀i,QxP b s.kinds K T i 0=false:=λ_=>rfl
      (generalize aC:Cx.loop _ _ _=aE; apply Qi aC (λi=>⟨[(0,.d (.sl 5 (b.map QQ.enc))),(3,.loc 3 0),(8,.bs 49 0 b.length 1),(21,.d (DI v)),(22,.d (.sl 5 (T.map QQ.enc))),(23,.d (.sl 1 ((QT T).map QH.enc))),(24,.d (DI (QK i (QsJ b s.kinds K T)))),(25,.d (DI (QK i (Qba T)))),(26,.d (DI i))],[(3,[.d (DI s.kinds),.d (DI s.fo),.d (.sl 1 (K.map (rK .u8).enc)),.d (.sl 1 (y.map (rK .u32).enc))]),(49,Qk b.length λj=>DI (Qd7 K j))],[],[]⟩) b.length (by first | (simp; done) | (simp; rfl) | (simp; simp[*])); rotate_left; (show _ < 281474976710656; omega); rfl; rotate_left; all_goals clear aC)
      .intro i hi;have oA:(i:Int) < b.length:=by omega
       have w1:=Qa ((i:Int)+1) (by omega) (by omega)
       simp[kj3,Qaj,QA,oA]
       (generalize aC:Cx.loop _ _ _=aE; apply Qi aC (λk=>⟨[(0,.d (.sl 5 (b.map QQ.enc))),(3,.loc 3 0),(8,.bs 49 0 b.length 1),(21,.d (DI v)),(22,.d (.sl 5 (T.map QQ.enc))),(23,.d (.sl 1 ((QT T).map QH.enc))),(24,.d (DI (QK i (QsJ b s.kinds K T)))),(25,.d (DI (QK i (Qba T)))),(26,.d (DI i)),(27,.d (DB (QxP b s.kinds K T i k))),(28,.d (DI k))],[(3,[.d (DI s.kinds),.d (DI s.fo),.d (.sl 1 (K.map (rK .u8).enc)),.d (.sl 1 (y.map (rK .u32).enc))]),(49,Qk b.length λj=>DI (Qd7 K j))],[],[]⟩) (i+1) (by first | (simp; done) | (simp; rfl) | (simp; simp[*])); rotate_left; (show _ < 281474976710656; omega); rfl; rotate_left; all_goals clear aC)
       .intro k hk;have pP:(k:Int)<=i:=by omega
        have hki:k<=i:=by omega
        have nJ:k < b.length:=by omega
        have tM:(k:Int) < b.length:=by omega
        have w2:=Qa ((k:Int)+1) (by omega) (by omega)
        rw[QwH];cases hS:QxP b s.kinds K T i k with
        | true=>simp[kj3,Qaj,QA,pP,w2]
        | false=>
         have hfk:Qpz b k=decide (0 < b[k].fresh):=by
          unfold Qpz; rw[Qao nJ]
         rw[hfk];by_cases hf:0 < b[k].fresh
         .have e16:=QEG (S:=s.kinds) (by omega) so2 (k:=Qd7 K k) (by have:=QjK K k; omega)
          cases hh:QzO s.kinds (Qd7 K k)with
          | true=>
           rw[hh]at e16;simp[kj3,Qe,Qaj,QA,Qb,Qg,pP,nJ,tM,w2,hf,e16]
          | false=>
           rw[hh]at e16;have e17k:=e17 k nJ;have uJ:((List.range b.length).map (Qam T k [] b.length)).length=b.length:=by simp
           have hBe:∀j (h:j < ((List.range b.length).map (Qam T k [] b.length)).length),((List.range b.length).map (Qam T k [] b.length))[j]=Qam T k [] b.length j:=λj h=>by simp
           generalize(List.range b.length).map (Qam T k [] b.length)=BL at*;have hiB:i < BL.length:=by omega
           have hiBI:(i:Int) < BL.length:=by omega
           simp[kj3,Qe,Qa9,Qaj,QA,Qb,Qg,pP,nJ,tM,w2,hf,e16,e17k,hBe,hiB,hiBI]
         .simp[kj3,Qe,Qaj,QA,pP,nJ,tM,w2,hf]
       .have hni:¬((i+1:Nat):Int)<=i:=by omega
        have yP:¬(i:Int)+1<=i:=by omega
        have hiK:i < (QT T).length:=by omega
        have yQ:(i:Int) < ((QT T).length:Int):=by omega
        have q1:QK (i+1) (Qba T)=QK i (Qba T)+Qba T i:=rfl;have q2:QK (i+1) (QsJ b s.kinds K T)=QK i (QsJ b s.kinds K T)+QsJ b s.kinds K T i:=rfl;have c1:=b1 i (by omega)
        have c2:=b2 i (by omega)
        have c3:=nZ i hi;rw[q1,q2];have tY:QsJ b s.kinds K T i=if QxP b s.kinds K T i (i+1)=true then Qba T i else 0:=rfl;rw[tY];have w3:=Qa (QK i (Qba T)+Qba T i) (by omega) (by omega)
        have w4:=Qa (QK i (QsJ b s.kinds K T)+Qba T i) (by omega) (by omega)
        generalize QK i (Qba T)=A at*;generalize QK i (QsJ b s.kinds K T)=F at*;cases hS:QxP b s.kinds K T i (i+1)with
        | true=>simp[kj3,Qd,Qaj,QA,yP,hiK,yQ,hke,w1,w3,w4]
        | false=>simp[kj3,Qd,Qaj,QA,yP,hiK,yQ,hke,w1,w3]
      .have c1:=b1 b.length (Zr _);have c2:=b2 b.length (Zr _);generalize QK b.length (Qba T)=A at*;generalize QK b.length (QsJ b s.kinds K T)=F at*;have w3:=Qa (F*1000) (by omega) (by omega)
       have hA:s.fo*A<=1000*800000:=Int.le_trans (Int.mul_le_mul_of_nonneg_right so4 c1.1) (by omega)
       have pF:0<=s.fo*A:=Int.mul_nonneg so3 c1.1;have w4:=Qa (s.fo*A) (by omega) (by omega)
       by_cases s9:v=1
       .have hl:=hlaw s9;subst s9;simp[kj3,Qaj,QA,w3,w4,hl,e8,e9]
       .have qV:(v != 1)=true:=bne_iff_ne.2 s9;simp[kj3,Qaj,QA,qV,e8,e9]
   .have h7:QIh s=7:=if_neg hso;rw[h7]at e7;rw[hv]at yK;simp[kj3,Qdu,QaI,Qj,yK,e7,e8,e9]
  .have gR:((Qaf b).2.2 != 0)=true:=bne_iff_ne.2 hv;simp[kj3,Qdu,QaI,Qj,yK,gR,e8,e9]
 .cases hr
end Go.Proofs.YticoemblgkemiaaGreatDoor
