/-
  Reference functions of the trace chapter: Comes, Holds. Conditions: none.
-/
import Derived.Test.YtnfeakhkfehkhaaGreatDoorZRefI
set_option linter.unusedSimpArgs false
set_option linter.unusedVariables false
namespace Go.Proofs.YtnfeakhkfehkhaaGreatDoor
open Go.RowKit
def Qc6 (f:Nat->Bool) (k:Nat):List Int:=((List.range k).filter f).map λ(x:Nat)=>(x:Int)
theorem Qvi (f:Nat->Bool):Qc6 f 0=[]:=rfl
attribute [simp] Qvi
theorem Qe5 {f:Nat->Bool} {k:Nat} (h:f k=true):Qc6 f (k+1)=Qc6 f k++[(k:Int)]:=by
 simp[Qc6,List.range_succ,List.filter_append,h]
theorem QeL {f:Nat->Bool} {k:Nat} (h:f k=false):Qc6 f (k+1)=Qc6 f k:=by
 simp[Qc6,List.range_succ,List.filter_append,h]
theorem Qlu (f:Nat->Bool) (k:Nat):(Qc6 f k).length<=k:=by
 unfold Qc6;rw[List.length_map];exact Nat.le_trans (List.length_filter_le _ _) (by simp)
theorem QMv {f:Nat->Bool} {k:Nat} {x:Int} :x∈Qc6 f k↔∃a:Nat,x=a/\a < k/\f a=true:=by
 simp only[Qc6,List.mem_map,List.mem_filter,Zm];constructor
 .rintro⟨a,⟨h1,h2⟩,rfl⟩; exact⟨a,rfl,h1,h2⟩
 .rintro⟨a,rfl,h1,h2⟩; exact⟨a,⟨h1,h2⟩,rfl⟩
theorem QjN (b:List Bat) (i:Int):QbH b i=0↔ValidB b/\0<=i/\i < b.length:=by
 unfold QbH;by_cases h:(Q5 b).2.2=0
 .rw[if_pos h];have hv:=(Qbl b).1 h;cases h2:inR i 0 ((b.length:Int) - 1)with
  | true=>
   have:=Qau.1 h2;simp[hv]; omega
  | false=>
   have:=QBw.1 h2;simp[hv]; omega
 .rw[if_neg h];have hv:¬ValidB b:=λhv=>h ((Qbl b).2 hv);simp[h,hv]
noncomputable def comesM (b:List Bat) (i k:Nat):Bool:=k != i&&Qgj b i k
noncomputable def comesY (b:List Bat) (i k:Nat):Bool:=k != i&&QoL b i k
noncomputable def Qek (b:List Bat) (i k:Nat):Bool:=k != i&&Qgj b k i
noncomputable def Qep (b:List Bat) (i k:Nat):Bool:=k != i&&QoL b k i
noncomputable def QeU (b:List Bat) (i:Int):List Int×List Int×Int:=if QbH b i=0 then(Qc6 (comesM b i.toNat) b.length,Qc6 (comesY b i.toNat) b.length,0)else([],[],QbH b i)
noncomputable def QgQ (b:List Bat) (i:Int):List Int×List Int×Int:=if QbH b i=0 then(Qc6 (Qek b i.toNat) b.length,Qc6 (Qep b i.toNat) b.length,0)else([],[],QbH b i)
noncomputable def QcW (b:List Bat) (g:List Int) (i:Int):Bool:=g.all λk=>!Qgj b i.toNat k.toNat
def QhC (b:List Bat) (l:List Int):Prop:=l.length<=17592186044416/\∀n∈l,0<=n/\n < b.length
noncomputable instance (b:List Bat) (l:List Int):Decidable (QhC b l):=Classical.propDecidable _
def rLi:Row (List Int):=⟨1,λx=>[.sl 1 (x.map Qt.enc)],λd=>match d with | [y]=>(Qy Qt).dec y | _=>none,λx=>by simp[QQ],λd x h=>by
 split at h
 .exact QbQ ((Qy Qt).ed _ _ h) (LImp.refl _)
 .cases h⟩
theorem Qad (x:List Int):rLi.enc x=[.sl 1 (x.map Qt.enc)]:=rfl
theorem Qba:rLi.k=1:=rfl
def Qyx (S:List (List Int)) (g:List Int) (k:Int):Bool:=g.any λi=>QwI (S.getD i.toNat []) k
def QbA (S:List (List Int)) (c g:List Int):Bool:=c.all (Qyx S g)
def QkD (f:Nat->List Int×Bool):Nat->Nat->List Int×Bool
 | 0,_=>([],false)
 | k+1,i=>if(f i).2=true then f i else QkD f k (i+1)
theorem QeD {f:Nat->List Int×Bool} :∀{k i:Nat},(∀j,j < k->(f (i+j)).2=false)->QkD f k i=([],false)
 | 0,_,_=>rfl
 | k+1,i,h=>by
  have h0:=h 0 (by omega)
  rw[Nat.add_zero]at h0;rw[QkD,if_neg (by rw[h0]; simp)]
  exact QeD λj hj=>by
   have:=h (j+1) (by omega)
   rwa [show i+(j+1)=i+1+j by omega]at this
theorem QeO {f:Nat->List Int×Bool} :∀{k i j:Nat},j < k->(f (i+j)).2=true->(∀q,q < j->(f (i+q)).2=false)->QkD f k i=f (i+j)
 | k+1,i,0,_,h1,_=>by
  rw[Nat.add_zero]at h1;rw[QkD,if_pos h1,Nat.add_zero]
 | k+1,i,j+1,h,h1,h2=>by
  have h0:=h2 0 (by omega)
  rw[Nat.add_zero]at h0;rw[QkD,if_neg (by rw[h0]; simp),QeO (j:=j) (by omega) (by rwa [show i+1+j=i+(j+1) by omega]) λq hq=>by
   have:=h2 (q+1) (by omega)
   rwa [show i+(q+1)=i+1+q by omega]at this]
  rw[show i+1+j=i+(j+1) by omega]
 | 0,i,j,h,_,_=>by omega
def Qcf (g:List Int):Nat:=if 0 < g.length then(g.getD (g.length - 1) 0).toNat+1 else 0
def QaV (ok:List Int->Bool) (n:Nat):Nat->List Int->List Int×Bool
 | 0,g=>if ok g=true then(g,true)else([],false)
 | m+1,g=>QkD (λi=>QaV ok n m (g++[(i:Int)])) (n - Qcf g) (Qcf g)
theorem QiU:Qcf []=0:=rfl
attribute [local simp] QiU
def QrR (S:List (List Int)) (c g:List Int):Prop:=S.length<=8/\(∀x∈S,x.length<=17592186044416)/\c.length<=17592186044416/\g.length<=100/\∀i∈g,0<=i/\i < S.length
noncomputable instance (S:List (List Int)) (c g:List Int):Decidable (QrR S c g):=Classical.propDecidable _
end Go.Proofs.YtnfeakhkfehkhaaGreatDoor
namespace Go.Proofs.YtnfeakhkfehkhaaGreatDoor
open Go.RowKit
def Qo4 (b:List Bat) (i:Int):Spn×Int:=if QbH b i=0 then(Qj7 b i.toNat,0)else(⟨0,0⟩,QbH b i)
def xK (c h:Int):Nat->Int
 | 0=>h
 | k+1=>((bsK c 0 h k).1+(bsK c 0 h k).2) / 2
theorem Qxo (c l h:Int):bsK c l h 0=(l,h):=rfl
theorem QBG (c h:Int):xK c h 0=h:=rfl
attribute [local simp] Qxo QBG
end Go.Proofs.YtnfeakhkfehkhaaGreatDoor
namespace Go.Proofs.YtnfeakhkfehkhaaGreatDoor
open Go.RowKit
noncomputable def QsN (b:List Bat) (i:Nat) (k:Int):Bool:=QoL b i k.toNat
noncomputable def QsT (b:List Bat) (c g:List Int) (i:Nat):List Int:=if QcW b g (i:Int)=true then c.filter (QsN b i)else []
noncomputable def Qur (b:List Bat) (c g:List Int) (k:Nat):List (List Int):=(List.range k).map (QsT b c g)
noncomputable def QhN (b:List Bat) (c g:List Int):List (List Int):=Qur b c g b.length
noncomputable def Qqq (b:List Bat) (c g:List Int):List Int×Bool:=QkD (λm=>QaV (QbA (QhN b c g) c) b.length m []) (b.length+1) 0
def QmO (b:List Bat) (c g:List Int):Int:=if(Q5 b).2.2=0 then(if(Qnc b c&&Qnc b g)=true then 0 else 4)else(Q5 b).2.2
noncomputable def QjZ (b:List Bat) (c g:List Int):List Int×Int:=if QmO b c g=0 then(if(Qqq b c g).2=true then((Qqq b c g).1,0)else([],9))else([],QmO b c g)
theorem Qe8 {b:List Bat} {l:List Int} :Qnc b l=true↔∀n∈l,0<=n/\n < b.length:=by
 unfold Qnc;rw[Bool.not_eq_true',List.any_eq_false];constructor
 .intro h n hn;have:=h n hn;have h2:inR n 0 ((b.length:Int) - 1)=true:=by simpa using this
  have:=Qau.1 h2;omega
 .intro h n hn;have:=h n hn;have h2:inR n 0 ((b.length:Int) - 1)=true:=Qau.2 (by omega)
  rw[h2]; simp
theorem Qqj (b:List Bat) (c g:List Int):QmO b c g=0↔ValidB b/\Qnc b c=true/\Qnc b g=true:=by
 unfold QmO;by_cases h:(Q5 b).2.2=0
 .rw[if_pos h];have hv:=(Qbl b).1 h;cases h1:Qnc b c<;>cases h2:Qnc b g<;>simp[hv]
 .rw[if_neg h];have hv:¬ValidB b:=λhv=>h ((Qbl b).2 hv);simp[h,hv]
end Go.Proofs.YtnfeakhkfehkhaaGreatDoor
