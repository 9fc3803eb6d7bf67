/-
  What is made of what is left of all batches: the plain law of TopMade. Plain; no program here. Conditions: none.
-/
import Derived.Test.YticoemblgkemiaaGreatDoorZTr
import Derived.Test.YticoemblgkemiaaGreatDoorZStJ
set_option linter.unusedSimpArgs false
set_option linter.unusedVariables false
namespace Go.Proofs.YticoemblgkemiaaGreatDoor
theorem QGD {N:Nat} {lo hi left:Nat->Int} {F s:Nat->Bool} (hb:∀i,i < N->0<=lo i/\lo i<=left i/\left i<=hi i) (hs:∀i,i < N->s i=true->F i=true) {fo:Int} (h0:0<=fo/\fo<=1000)
  (d8:(QK N λi=>if F i=true then hi i else 0)*1000<=fo*(QK N λi=>if F i=true then hi i else lo i)):(QK N λi=>if s i=true then left i else 0)*1000<=fo*QK N left:=by
 have e1:(QK N λi=>if F i=true then hi i else lo i)=(QK N λi=>if F i=true then hi i else 0)+QK N λi=>if F i=true then 0 else lo i:=by
  rw[<-Qax];exact QB λi _=>by split<;>omega
 have e2:QK N left=(QK N λi=>if F i=true then left i else 0)+QK N λi=>if F i=true then 0 else left i:=by
  rw[<-Qax];exact QB λi _=>by split<;>omega
 have l1:(QK N λi=>if s i=true then left i else 0)<=QK N λi=>if F i=true then left i else 0:=Qa2 λi hi=>by
  have h1:=hb i hi;have h2:=hs i hi;cases q:s i with
  | true=>rw[h2 q]; exact Int.le_refl _
  | false=>
   rw[if_neg (by simp)]
   split<;>omega
 have l2:(QK N λi=>if F i=true then left i else 0)<=QK N λi=>if F i=true then hi i else 0:=Qa2 λi hi=>by
  have h1:=hb i hi;split<;>omega
 have l3:(QK N λi=>if F i=true then 0 else lo i)<=QK N λi=>if F i=true then 0 else left i:=Qa2 λi hi=>by
  have h1:=hb i hi;split<;>omega
 rw[e1]at d8;rw[e2];generalize(QK N λi=>if F i=true then hi i else 0)=B at*;generalize(QK N λi=>if F i=true then 0 else lo i)=A at*;generalize(QK N λi=>if F i=true then left i else 0)=B2 at*;generalize(QK N λi=>if F i=true then 0 else left i)=A2 at*;generalize(QK N λi=>if s i=true then left i else 0)=C at*;have m1:(1000 - fo)*B2<=(1000 - fo)*B:=Int.mul_le_mul_of_nonneg_left l2 (by omega)
 have m2:fo*A<=fo*A2:=Int.mul_le_mul_of_nonneg_left l3 h0.1;rw[Int.mul_add]at d8|-;rw[Int.sub_mul,Int.sub_mul]at m1;omega
theorem Qyu {b:List Bat} (h:ValidB b) {g:Nat->Nat->Int} (hg:Tru (QM b) g):∀{i:Nat},i < b.length->∃j,j<=i/\0 < (b.getD j default).fresh/\Rch (Qew (QM b) g) j i:=by
 intro i
 induction i using Nat.strongRecOn with
 | _ i ih=>
  intro hi;by_cases h0:0 < (b.getD i default).fresh
  .exact⟨i,Zr _,h0,.self⟩
  .have hT:=Qsy (C:=λ_=>true) h hg hi;have hf:=(QlU (b:=b) (g:=g) (C:=λ_=>true) hi).2;have hl:((QeP b g λ_=>true).getD i default).lost=false:=by
    have:=QpE (b:=b) (g:=g) (C:=λ_=>true) i;unfold QbV at this;rw[this]; simp
   have hs:=hT.sum hl;have pA:=hT.grams;have cE:=hT.fresh;rw[hf]at hs cE;have aS:((QeP b g λ_=>true).getD i default).takes≠[]:=λe=>by
    rw[e]at hs;have:QaR []=0:=rfl;omega
   obtain⟨t,ht⟩:=List.exists_mem_of_ne_nil _ aS;have hb:=hT.fr t ht;obtain⟨x,hx⟩:∃x:Nat,t.fr=x:=⟨t.fr.toNat,by omega⟩
   have hfix:Qk7 (QeP b g λ_=>true) x i=true:=by
    unfold Qk7;exact Zy.2 ⟨t,ht,by rw[hx]; simp⟩
   have xW:Qew (QM b) g x i:=by
    rcases(Qr3 h hg x i).1 hfix with q | ⟨_,q⟩
    .exact .inl q
    .exact .inr q
   obtain⟨j,h1,h2,h3⟩:=ih x (by omega) (by omega)
   exact⟨j,by omega,h2,.step h3 xW⟩
def Qeg (H:Nat->Bool) (n:Nat):Int:=QK n λk=>if H k=true then 2 ^ k else 0
noncomputable def Qp1 (b:List Bat) (kind:Nat->Nat) (i k:Nat):Bool:=(List.range (i+1)).any λj=>decide (0 < (b.getD j default).fresh)&&(decide (kind j=k)&&(decide (j=i)||Qve b j i))
theorem QzE {b:List Bat} (h:ValidB b) {kind:Nat->Nat} {i:Nat} (hi:i < b.length) (hk:∀j,kind j < 8):∃k,k < 8/\Qp1 b kind i k=true:=by
 obtain⟨g,hg⟩:=Qsn h;obtain⟨j,h1,h2,h3⟩:=Qyu h hg hi;refine⟨kind j,hk j,?_⟩;unfold Qp1;rw[Zy];refine⟨j,Zm.2 (by omega),?_⟩
 have:Qve b j i=true:=Qgb.2 ⟨g,hg,h3⟩;rw[decide_eq_true h2,this]; simp
theorem QnP (H:Nat->Bool):∀n,0<=Qeg H n/\Qeg H n < 2 ^ n
 | 0=>by unfold Qeg QK; decide
 | n+1=>by
  have ih:=QnP H n;have e:Qeg H (n+1)=Qeg H n+if H n=true then 2 ^ n else 0:=rfl;rw[e,Int.pow_succ];split<;>omega
theorem QGz {b:List Bat} (h:ValidB b) {g:Nat->Nat->Int} (hg:Tru (QM b) g) {kind:Nat->Nat} {S:Nat->Bool} {F:Nat->Bool} (hF:∀i,i < b.length->(F i=true↔∃k,k < 8/\Qp1 b kind i k=true/\S k=false)) (hk:∀j,kind j < 8) {fo:Int} (h0:0<=fo/\fo<=1000)
  {s:Nat->Bool} (hs:∀i,i < b.length->s i=true->∃j,j<=i/\0 < (b.getD j default).fresh/\S (kind j)=false/\Qam (QdY b g) j [] b.length i=true)
  (d8:(QK b.length λi=>if F i=true then(QbH b i).hi else 0)*1000<=fo*(QK b.length λi=>if F i=true then(QbH b i).hi else(QbH b i).lo)):(QK b.length λi=>if s i=true then Qba (QdY b g) i else 0)*1000<=fo*QK b.length (Qba (QdY b g)):=by
 refine QGD (F:=F) (lo:=λi=>(QbH b i).lo) (hi:=λi=>(QbH b i).hi) (λi hi=>?_) (λi hi xX=>?_) h0 d8
 .have h1:=QxM h hg hi;rw[<-Qje h hg hi]at h1;obtain⟨⟨g1,t1,e1⟩,_⟩:=QkE h hi;have h2:=(QhJ h t1).kept i (by simpa[QdY]using hi)
  rw[Qje h t1 hi,e1]at h2;exact⟨h2,h1.1,h1.2⟩
 .obtain⟨j,h1,h2,h3,h4⟩:=hs i hi xX;refine(hF i hi).2 ⟨kind j,hk j,?_,h3⟩;unfold Qp1;rw[Zy];refine⟨j,Zm.2 (by omega),?_⟩
  have:Qve b j i=true:=Qgb.2 ⟨g,hg,(Qza h hg hi).1 h4⟩;rw[decide_eq_true h2,this]; simp
end Go.Proofs.YticoemblgkemiaaGreatDoor
namespace Go.Proofs.YticoemblgkemiaaGreatDoor
open Go.RowKit
theorem Qu0 (x y:Nat) (hx:x < 9223372036854775808) (hy:y < 9223372036854775808):∃z:Nat,bits .andNot .i64 (x:Int) (y:Int)=(z:Int)/\∀j,z.testBit j=(x.testBit j&&!y.testBit j):=by
 refine⟨x&&& (2 ^ 64 - (y+1)),?_,?_⟩
 .have h1:x&&& (2 ^ 64 - (y+1)) < 9223372036854775808:=Nat.lt_of_le_of_lt Nat.and_le_left hx;have e:bits .andNot .i64 (x:Int) (y:Int)=IntKind.i64.wrap ((BitVec.ofNat 64 x&&& ~~~BitVec.ofNat 64 y).toNat:Int):=rfl;rw[e,BitVec.toNat_and,BitVec.toNat_not,BitVec.toNat_ofNat,BitVec.toNat_ofNat,Nat.mod_eq_of_lt (by omega),Nat.mod_eq_of_lt (by omega),show 2 ^ 64 - 1 - y=2 ^ 64 - (y+1)from by omega]
  exact Qa _ (by omega) (by omega)
 .intro j;rw[Nat.testBit_and,Nat.testBit_two_pow_sub_succ (by omega)]
  by_cases hj:j < 64
  .simp[hj]
  .have:x.testBit j=false:=Nat.testBit_lt_two_pow (Nat.lt_of_lt_of_le (Nat.lt_trans hx (by decide)) (Nat.pow_le_pow_right (n:=2) (by decide) (show 64<=j by omega)))
   simp[this]
def Qfj (H:Nat->Bool):Nat->Nat
 | 0=>0
 | n+1=>Qfj H n+if H n=true then 2 ^ n else 0
theorem QnJ (H:Nat->Bool):∀n,Qfj H n < 2 ^ n
 | 0=>by simp[Qfj]
 | n+1=>by
  have ih:=QnJ H n;have e:Qfj H (n+1)=Qfj H n+if H n=true then 2 ^ n else 0:=rfl;rw[e,Nat.pow_succ];split<;>omega
theorem Qrr (H:Nat->Bool):∀n,Qeg H n=(Qfj H n:Int)
 | 0=>rfl
 | n+1=>by
  have ih:=Qrr H n;have e:Qeg H (n+1)=Qeg H n+if H n=true then 2 ^ n else 0:=rfl;have e2:Qfj H (n+1)=Qfj H n+if H n=true then 2 ^ n else 0:=rfl;rw[e,e2,ih];split<;>simp
theorem Qgf (H:Nat->Bool):∀n k,(Qfj H n).testBit k=(decide (k < n)&&H k)
 | 0,k=>by simp[Qfj]
 | n+1,k=>by
  have ih:=Qgf H n k;have hl:=QnJ H n;cases e:H n with
  | false=>
   have:Qfj H (n+1)=Qfj H n:=by simp[Qfj,e]
   rw[this,ih];by_cases hk:k=n
   .subst hk; simp[e]
   .have:(k < n+1)=(k < n):=by simp only[eq_iff_iff]; omega
    simp only[this]
  | true=>
   have:Qfj H (n+1)=2 ^ n*1+Qfj H n:=by simp[Qfj,e]; omega
   rw[this,Nat.testBit_two_pow_mul_add _ hl];by_cases hk:k < n
   .rw[if_pos hk,ih,decide_eq_true hk,decide_eq_true (show k < n+1 by omega)]
   .rw[if_neg hk];by_cases wK:k=n
    .subst wK; simp[e]
    .rw[decide_eq_false (show ¬k < n+1 by omega),Bool.false_and,show(1:Nat)=2 ^ 0 from rfl,Nat.testBit_two_pow]
     simp; omega
theorem Qo9 (y k:Nat):QzO (y:Int) k=y.testBit k:=by
 unfold QzO;rw[Int.tdiv_eq_ediv_of_nonneg (by omega)]
 have e:((y:Int) / 2 ^ k)=((y / 2 ^ k:Nat):Int):=by push_cast; rfl
 rw[e,Nat.testBit_eq_decide_div_mod_eq];generalize y / 2 ^ k=n;rw[Int.tmod_eq_emod_of_nonneg (by omega)]
 rcases Nat.mod_two_eq_zero_or_one n with h | h
 .have:((n:Int) % 2)=0:=by omega
  rw[this,h]; rfl
 .have:((n:Int) % 2)=1:=by omega
  rw[this,h]; rfl
theorem QAk {S:Int} (h1:0<=S) (h2:S<=255) (H:Nat->Bool):(bits .andNot .i64 (Qeg H 8) S != 0)=true↔∃k,k < 8/\H k=true/\QzO S k=false:=by
 obtain⟨y,rfl⟩:∃y:Nat,S=y:=⟨S.toNat,by omega⟩
 have hl:=QnJ H 8;obtain⟨z,hz,hb⟩:=Qu0 (Qfj H 8) y (by omega) (by omega)
 rw[Qrr,hz,bne_iff_ne];constructor
 .intro aS;have jT:z≠0:=by omega
  obtain⟨k,hk⟩:∃k,z.testBit k=true:=by
   refine Classical.byContradiction λbC=>jT (Nat.eq_of_testBit_eq λk=>?_);rw[Nat.zero_testBit];cases e:z.testBit k with
   | false=>rfl
   | true=>exact absurd ⟨k,e⟩ bC
  rw[hb,Qgf]at hk;simp only[Za,decide_eq_true_eq,Bool.not_eq_true']at hk;exact⟨k,hk.1.1,hk.1.2,by rw[Qo9]; exact hk.2⟩
 .rintro⟨k,h3,h4,h5⟩ h0;have jT:z=0:=by omega
  have:=hb k;rw[jT,Nat.zero_testBit,Qgf,h4,decide_eq_true h3,<-Qo9,h5]at this;cases this
def Qd7 (K:List Int) (i:Nat):Nat:=if K.length=0 then 0 else(K.getD (i % K.length) 0).toNat % 8
theorem QjK (K:List Int) (i:Nat):Qd7 K i < 8:=by
 unfold Qd7;split<;>omega
def Qpz (b:List Bat) (j:Nat):Bool:=decide (0 < (b.getD j default).fresh)
def QwO (b:List Bat) (K L:List Int) (i n:Nat):Nat->Bool:=λk=>(decide (k=Qd7 K i)&&Qpz b i)||(L.take n).any λj=>decide (k=Qd7 K j.toNat)&&Qpz b j.toNat
theorem Qw1 (b:List Bat) (K L:List Int) (i:Nat):(λk=>DB (QwO b K L i 0 k))=QZ (λ_=>DB false) (Qd7 K i) (DB (Qpz b i)):=by
 funext k;unfold QwO QZ;by_cases h:k=Qd7 K i<;>simp[h]
theorem Qwt (b:List Bat) (K L:List Int) (i:Nat) {n:Nat} (h:n < L.length):(λk=>DB (QwO b K L i (n+1) k))=QZ (λk=>DB (QwO b K L i n k)) (Qd7 K L[n].toNat) (DB (QwO b K L i n (Qd7 K L[n].toNat)||Qpz b L[n].toNat)):=by
 funext k;unfold QwO QZ;rw[List.take_succ_eq_append_getElem h];by_cases hk:k=Qd7 K L[n].toNat
 .rw[if_pos hk,List.any_append,<-hk];simp[hk,Bool.or_assoc]
 .rw[if_neg hk,List.any_append];simp[hk]
theorem QoF {b:List Bat} (h:ValidB b) {i:Nat} {x:Int} (hx:x∈QcE (Qb3 b i) b.length):∃a:Nat,x=a/\a < i/\a < b.length/\Qve b a i=true:=by
 obtain⟨a,rfl,h1,h2⟩:=Qsx.1 hx;unfold Qb3 at h2;simp only[Za,bne_iff_ne,ne_eq]at h2;have:=Qyf h (Qgb.1 h2.2);exact⟨a,rfl,by omega,h1,h2.2⟩
theorem Qz3 {b:List Bat} (h:ValidB b) (K:List Int) {i:Nat} (hi:i < b.length):QwO b K (QcE (Qb3 b i) b.length) i (QcE (Qb3 b i) b.length).length=Qp1 b (Qd7 K) i:=by
 funext k;rw[Bool.eq_iff_iff];unfold QwO Qp1;rw[List.take_length,Bool.or_eq_true,Zy,Zy];constructor
 .rintro(hh | ⟨x,hx,hh⟩)
  .simp only[Qpz,Za,decide_eq_true_eq]at hh;exact⟨i,Zm.2 (by omega),by simp[-List.getD_eq_getElem?_getD,hh.1,hh.2]⟩
  .obtain⟨a,rfl,h1,h2,h3⟩:=QoF h hx;simp only[Qpz,Za,decide_eq_true_eq,Int.toNat_natCast]at hh;exact⟨a,Zm.2 (by omega),by simp[-List.getD_eq_getElem?_getD,hh.1,hh.2,h3]⟩
 .rintro⟨j,hj,hh⟩;rw[Zm]at hj;simp only[Za,Bool.or_eq_true,decide_eq_true_eq]at hh;by_cases lA:j=i
  .left;subst lA;simp[-List.getD_eq_getElem?_getD,Qpz,hh.1,hh.2.1]
  .right;have hm:Qve b j i=true:=hh.2.2.resolve_left lA;refine⟨(j:Int),Qsx.2 ⟨j,rfl,by omega,?_⟩,by simp[-List.getD_eq_getElem?_getD,Qpz,hh.1,hh.2.1]⟩
   unfold Qb3;simp[lA,hm]
noncomputable def QqN (b:List Bat) (K:List Int) (i:Nat):Bag:=⟨(QbH b i).lo,(QbH b i).hi,Qeg (Qp1 b (Qd7 K) i) 8⟩
noncomputable def QcM (b:List Bat) (K:List Int) (n:Nat):List Bag:=(List.range n).map (QqN b K)
theorem Qqc (b:List Bat) (K:List Int) (n:Nat):QcM b K (n+1)=QcM b K n++[QqN b K n]:=by simp[QcM,List.range_succ]
theorem Qf7 (b:List Bat) (K:List Int) (n:Nat):(QcM b K n).length=n:=by simp[QcM]
theorem Qpl (b:List Bat) (K:List Int) {n i:Nat} (h:i < n):(QcM b K n).getD i default=QqN b K i:=by
 rw[Ql _ _ _ (by rw[Qf7]; exact h)]; simp[QcM]
theorem Qw3 {b:List Bat} (h:ValidB b) {i:Nat} (hi:i < b.length):0<=(QbH b i).lo/\(QbH b i).lo<=(QbH b i).hi/\(QbH b i).hi<=100000:=by
 obtain⟨⟨g1,t1,e1⟩,g2,t2,e2⟩:=QkE h hi;have h2:=(QhJ h t1).kept i (by simpa[QdY]using hi)
 rw[Qje h t1 hi,e1]at h2;have h3:=(QhP (QhJ h t2).ok (by simpa[QdY]using hi)).2
 rw[Qje h t2 hi,e2]at h3;have h4:=QxM h t1 hi;rw[e1]at h4;exact⟨h2,h4.2,h3⟩
theorem QFf {b:List Bat} (h:ValidB b) (K:List Int):Qe9 (QcM b K b.length):=by
 have hl:=h.ok.le;refine⟨by rw[Qf7]; omega,λx hx=>?_⟩
 obtain⟨i,hi,rfl⟩:=List.mem_map.1 hx;rw[Zm]at hi;obtain⟨l1,l2,l3⟩:=Qw3 h hi;have hb:=QnP (Qp1 b (Qd7 K) i) 8;have e8:(2:Int) ^ 8=256:=by decide
 rw[e8]at hb;have aS:¬Qeg (Qp1 b (Qd7 K) i) 8=0:=λe=>by
  obtain⟨k,hk,hm⟩:=QzE h hi (QjK K);have:=Qgf (Qp1 b (Qd7 K) i) 8 k;rw[Qrr]at e;have e0:Qfj (Qp1 b (Qd7 K) i) 8=0:=by omega
  rw[e0,hm,decide_eq_true hk,Nat.zero_testBit]at this;cases this
 show 0<=(QbH b i).lo/\(QbH b i).lo<=(QbH b i).hi/\(QbH b i).hi<=1000000/\1<=Qeg (Qp1 b (Qd7 K) i) 8/\Qeg (Qp1 b (Qd7 K) i) 8<=255;omega
def QxP (b:List Bat) (S:Int) (K:List Int) (T:List Bat) (i n:Nat):Bool:=(List.range n).any λk=>Qpz b k&&(!QzO S (Qd7 K k)&&Qam T k [] b.length i)
theorem QwH (b:List Bat) (S:Int) (K:List Int) (T:List Bat) (i n:Nat):QxP b S K T i (n+1)=(QxP b S K T i n||(Qpz b n&&(!QzO S (Qd7 K n)&&Qam T n [] b.length i))):=by
 simp[QxP,List.range_succ,List.any_append]
def QsJ (b:List Bat) (S:Int) (K:List Int) (T:List Bat) (i:Nat):Int:=if QxP b S K T i (i+1)=true then Qba T i else 0
theorem QGp {b:List Bat} (h:ValidB b) {g:Nat->Nat->Int} (hg:Tru (QM b) g) {s:Srt} (hs:Qj3 s) (K:List Int) (hj:Qlx s (QcM b K b.length)=1):QK b.length (QsJ b s.kinds K (QdY b g))*1000<=s.fo*QK b.length (Qba (QdY b g)):=by
 obtain⟨s1,s2,s3,s4⟩:=hs;have d8:Qqb s (QcM b K b.length)=true:=by
  unfold Qlx at hj;split at hj
  .assumption
  .split at hj<;>cases hj
 unfold Qqb Qq7 QtV Qua at d8;rw[decide_eq_true_eq,Qf7]at d8;refine QGz h hg (F:=λi=>Qu9 s (QqN b K i)) (kind:=Qd7 K) (S:=λk=>QzO s.kinds k) (λi hi=>?_) (QjK K) ⟨s3,s4⟩ (s:=λi=>QxP b s.kinds K (QdY b g) i (i+1)) (λi hi xX=>?_) ?_
 .exact QAk (by omega) s2 (Qp1 b (Qd7 K) i)
 .unfold QxP at xX;rw[Zy]at xX;obtain⟨j,h1,h2⟩:=xX;rw[Zm]at h1;simp only[Qpz,Za,decide_eq_true_eq,Bool.not_eq_true']at h2;exact⟨j,by omega,h2.1,h2.2.1,h2.2.2⟩
 .have e1:(QK b.length λi=>if Qu9 s ((QcM b K b.length).getD i default)=true then QaP true ((QcM b K b.length).getD i default)else 0)=QK b.length λi=>if Qu9 s (QqN b K i)=true then(QbH b i).hi else 0:=QB λi hi=>by
   rw[Qpl b K hi]; rfl
  have e2:(QK b.length λi=>if Qu9 s ((QcM b K b.length).getD i default)=true then QaP true ((QcM b K b.length).getD i default)else QaP false ((QcM b K b.length).getD i default))=QK b.length λi=>if Qu9 s (QqN b K i)=true then(QbH b i).hi else(QbH b i).lo:=QB λi hi=>by
   rw[Qpl b K hi]; rfl
  rw[e1,e2]at d8;exact d8
end Go.Proofs.YticoemblgkemiaaGreatDoor
