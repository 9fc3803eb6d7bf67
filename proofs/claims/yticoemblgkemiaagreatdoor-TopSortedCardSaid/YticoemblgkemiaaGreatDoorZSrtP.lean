/-
  What TopSorted looks at, as plain functions; its plain law. Conditions: valid tables, sorts and truths. No program here.
-/
import Derived.Test.YticoemblgkemiaaGreatDoorZTopP
import Derived.Test.YticoemblgkemiaaGreatDoorZWxLawT
set_option linter.unusedSimpArgs false
set_option linter.unusedVariables false
namespace Go.Proofs.YticoemblgkemiaaGreatDoor
open Go.RowKit
def gmN (G:List Int) (i:Nat):Int:=if G.length=0 then 0 else G.getD (i % G.length) 0
def QVx (x:Tbl) (m:Mlt) (k:Nat):Bool:=decide (k < x.kinds.length)&&QRj (QT3 x (QRN x m x.props.length)) k
def QVS (x:Tbl) (m:Mlt) (g:Int):Bag:=⟨g - g / 10,g,Qeg (QVx x m) 8⟩
def QWg (L:List Int) (j:Nat):Int:=QK j fun t=>QRJ (L.getD t 0).toNat
theorem QUz (q:Nat→Bool):∀n,QWg (QQu q n) (QQu q n).length=Qeg q n
 | 0=>rfl
 | n+1=>by
  have ih:=QUz q n;have e:Qeg q (n+1)=Qeg q n+if q n=true then 2 ^ n else 0:=rfl;rw[e,←ih,QQu];by_cases h:q n=true
  ·rw[if_pos h,if_pos h,List.length_append,List.length_singleton];unfold QWg;rw[QK];congr 1
   ·refine QB fun t ht=>?_;rw[List.getD_eq_getElem?_getD,List.getElem?_append_left ht,←List.getD_eq_getElem?_getD]
   ·rw[List.getD_eq_getElem?_getD,List.getElem?_append_right (Nat.le_refl _),Nat.sub_self];simp[QRJ]
  ·rw[if_neg h,if_neg h,List.append_nil,Int.add_zero]
theorem QYe (q:Nat→Bool) (n:Nat):∀m,n≤m→Qeg (fun k=>decide (k < n)&&q k) m=Qeg q n:=by
 intro m
 induction m with
 | zero=>
  intro h;obtain rfl:n=0:=by omega
  rfl
 | succ m ih=>
  intro h;have e:Qeg (fun k=>decide (k < n)&&q k) (m+1)=Qeg (fun k=>decide (k < n)&&q k) m+if(decide (m < n)&&q m)=true then 2 ^ m else 0:=rfl;by_cases hm:n≤m
  ·rw[e,ih hm,decide_eq_false (show ¬m < n by omega),Bool.false_and,if_neg (by simp),Int.add_zero]
  ·obtain rfl:n=m+1:=by omega
   unfold Qeg;refine QB fun k hk=>?_;simp[hk]
theorem Q0p (x:Tbl) (m:Mlt) (h8:x.kinds.length≤8):QWg (QQu (QRj (QT3 x (QRN x m x.props.length))) x.kinds.length) (QQu (QRj (QT3 x (QRN x m x.props.length))) x.kinds.length).length=(QVS x m 0).kinds:=by
 rw[QUz];exact(QYe _ _ 8 h8).symm
theorem QT4 {x:Tbl} (hT:okT x) {m:Mlt} (hm:QRx m):∃must,QUC x (QRN x m x.props.length)=(must,QQu (QRj (QT3 x (QRN x m x.props.length))) x.kinds.length,0)∧QVx x m (QQ6 x m)=true∧(QQB x m < 1000→QVx x m (QQ7 x m)=true):=by
 obtain⟨hR,hM⟩:=Q1W hT hm;obtain⟨must,may,h1,h2,h3⟩:=QWa hR hM;have hw:=h1;unfold QUC at hw;split at hw
 ·rename_i h0;simp only[Prod.mk.injEq]at hw;exact absurd hw.2.2 h0
 ·split at hw
  ·simp only[Prod.mk.injEq]at hw;exact absurd hw.2.2 (by decide)
  ·simp only[Prod.mk.injEq]at hw;obtain⟨_,rfl,_⟩:=hw;have key:∀k:Nat,inB (QQu (QRj (QT3 x (QRN x m x.props.length))) x.kinds.length) k=true→QVx x m k=true:=fun k hk=>by
    obtain⟨i,hi,hq,e⟩:=QRB.1 (QT6.1 hk);obtain rfl:k=i:=by omega
    unfold QVx;rw[decide_eq_true hi,hq]; rfl
   exact⟨must,h1,key _ h2,fun h=>key _ (h3.1 h)⟩
def QZj (x:Tbl) (S:Int) (m:Mlt) (g:Int):Int:=(if QzO S (QQ6 x m)=true then 0 else QQB x m*g)+if QQ6 x m≠QQ7 x m∧QzO S (QQ7 x m)=false then(1000 - QQB x m)*g else 0
theorem QVs (c:Int) (f:Nat→Int):∀n,QK n (fun i=>c*f i)=c*QK n f
 | 0=>by show(0:Int)=c*0; omega
 | n+1=>by
  have ih:=QVs c f n;show QK n (fun i=>c*f i)+c*f n=c*(QK n f+f n);rw[ih,Int.mul_add]
theorem QZ8 {x:Tbl} (hT:okT x) {m:Mlt} (hm:QRx m) {g:Int} (h0:0≤g) (h1:g≤65535):QtG (QVS x m g):=by
 obtain⟨must,_,ha,_⟩:=QT4 hT hm;have hb:=QnP (QVx x m) 8;have e8:(2:Int) ^ 8=256:=by decide
 rw[e8]at hb;have f:=QQv hT;have hA:=QVR f m;have h8:=f.k8;have hne:¬Qeg (QVx x m) 8=0:=fun e=>by
  have:=Qgf (QVx x m) 8 (QQ6 x m);rw[Qrr]at e;have e0:Qfj (QVx x m) 8=0:=by omega
  rw[e0,ha,decide_eq_true (show QQ6 x m < 8 by omega),Nat.zero_testBit]at this
  cases this
 show 0≤g - g / 10∧g - g / 10≤g∧g≤1000000∧1≤Qeg (QVx x m) 8∧Qeg (QVx x m) 8≤255;omega
instance:Inhabited Mlt:=⟨⟨0,0,0,[],[],0⟩⟩
def QRe (x:Tbl) (M:List Mlt) (G:List Int) (n:Nat):List Bag:=(List.range n).map fun i=>QVS x (M.getD i default) (gmN G i)
theorem QV3 (x:Tbl) (M:List Mlt) (G:List Int) (n:Nat):QRe x M G (n+1)=QRe x M G n++[QVS x (M.getD n default) (gmN G n)]:=by simp[QRe,List.range_succ]
theorem QR7 (x:Tbl) (M:List Mlt) (G:List Int) (n:Nat):(QRe x M G n).length=n:=by simp[QRe]
theorem QVq (x:Tbl) (M:List Mlt) (G:List Int) {n i:Nat} (h:i < n):(QRe x M G n).getD i default=QVS x (M.getD i default) (gmN G i):=by
 rw[Ql _ _ _ (by rw[QR7]; exact h)]; simp[QRe]
theorem QTh {G:List Int} (h:∀z∈G,0≤z∧z≤65535) (i:Nat):0≤gmN G i∧gmN G i≤65535:=by
 unfold gmN;split
 ·omega
 ·rename_i h0;have hl:i % G.length < G.length:=Nat.mod_lt _ (by omega)
  rw[Ql _ _ _ hl];exact h _ (List.getElem_mem hl)
def QRh (G:List Int) (i:Nat):Int:=gmN G i - gmN G i / 20
theorem QXE {x:Tbl} (hT:okT x) {M:List Mlt} (hM:∀m∈M,QRx m) {G:List Int} (hG:∀z∈G,0≤z∧z≤65535) {n:Nat} (hn:n≤M.length) {s:Srt} (hs:Qj3 s) (hj:Qlx s (QRe x M G n)=1):QK n (fun i=>QZj x s.kinds (M.getD i default) (QRh G i))≤s.fo*QK n (QRh G):=by
 obtain⟨s1,s2,s3,s4⟩:=hs;have hsure:Qqb s (QRe x M G n)=true:=by
  unfold Qlx at hj;split at hj
  ·assumption
  ·split at hj<;>cases hj
 unfold Qqb Qq7 QtV Qua at hsure;rw[decide_eq_true_eq,QR7]at hsure;have f:=QQv hT;have h8:=f.k8;have hmi:∀i,i < n→QRx (M.getD i default):=fun i hi=>by
  rw[Ql _ _ _ (by omega:i < M.length)]
  exact hM _ (List.getElem_mem _)
 have e1:(QK n fun i=>if Qu9 s ((QRe x M G n).getD i default)=true then QaP true ((QRe x M G n).getD i default)else 0)=QK n fun i=>if Qu9 s (QVS x (M.getD i default) (gmN G i))=true then gmN G i else 0:=QB fun i hi=>by
  rw[QVq x M G hi]; rfl
 have e2:(QK n fun i=>if Qu9 s ((QRe x M G n).getD i default)=true then QaP true ((QRe x M G n).getD i default)else QaP false ((QRe x M G n).getD i default))=QK n fun i=>if Qu9 s (QVS x (M.getD i default) (gmN G i))=true then gmN G i else gmN G i - gmN G i / 10:=QB fun i hi=>by
  rw[QVq x M G hi]; rfl
 rw[e1,e2]at hsure;have hsum:=QGD (F:=fun i=>Qu9 s (QVS x (M.getD i default) (gmN G i))) (s:=fun i=>Qu9 s (QVS x (M.getD i default) (gmN G i))) (lo:=fun i=>gmN G i - gmN G i / 10) (hi:=gmN G) (left:=QRh G) (fun i hi=>by
  have:=QTh hG i;unfold QRh; omega) (fun i hi h=>h) ⟨s3,s4⟩ hsure
 refine Int.le_trans ?_ hsum;rw[Int.mul_comm,←QVs];refine Qa2 fun i hi=>?_;have hmo:=hmi i hi;have hg:=QTh hG i;have hnt:0≤QRh G i:=by unfold QRh; omega
 have hnb:=QVb x hmo;obtain⟨must,_,ha,hb⟩:=QT4 hT hmo;have hA:=QVR f (M.getD i default);have hB:=QWp f (M.getD i default);generalize hmm:M.getD i default=m at*;generalize QRh G i=t at*;have p1:0≤QQB x m*t:=Int.mul_nonneg (by omega) hnt
 have p2:0≤(1000 - QQB x m)*t:=Int.mul_nonneg (by omega) hnt
 have p3:QQB x m*t+(1000 - QQB x m)*t=1000*t:=by rw[←Int.add_mul]; congr 1; omega
 cases hF:Qu9 s (QVS x m (gmN G i))with
 | true=>
  rw[if_pos rfl];unfold QZj;split<;>split<;>omega
 | false=>
  rw[if_neg (by simp)]
  have hno:∀k,k < 8→QVx x m k=true→QzO s.kinds k=true:=fun k hk hm=>by
   cases e:QzO s.kinds k with
   | true=>rfl
   | false=>
    have:=(QAk (by omega) s2 (QVx x m)).2 ⟨k,hk,hm,e⟩
    have hF':(bits .andNot .i64 (Qeg (QVx x m) 8) s.kinds != 0)=false:=hF;rw[hF']at this; cases this
  have ka:=hno _ (by omega) ha
  unfold QZj;rw[if_pos ka];by_cases h1:QQB x m < 1000
  ·rw[hno _ (by omega) (hb h1),if_neg (by simp)]; omega
  ·have:(1000 - QQB x m)*t=0:=by rw[show 1000 - QQB x m=0 by omega,Int.zero_mul]
   split<;>omega
end Go.Proofs.YticoemblgkemiaaGreatDoor
