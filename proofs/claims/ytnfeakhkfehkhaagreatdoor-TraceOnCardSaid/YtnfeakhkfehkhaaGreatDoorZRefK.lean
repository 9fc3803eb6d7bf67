/-
  Reference functions of the trace chapter: Comes, Holds. Conditions: none.
-/
import Derived.Test.YtnfeakhkfehkhaaGreatDoorZRefI
set_option linter.unusedSimpArgs false
set_option linter.unusedVariables false
namespace Go.Proofs.YtnfeakhkfehkhaaGreatDoor
open Go.RowKit
def QKE (r:Nat):List (Nat×Option Nat):=match r with
 | 0=>kpn [0,1]
 | 1=>kpn [0,1,7]
 | 2=>kpn [0,1,7,15]
 | 3=>[(4,some 1),(5,some 1),(6,none)]
 | 4=>[(0,none),(1,none),(8,some 1),(9,some 1)]
 | 5=>[(0,none),(1,none),(8,some 1),(9,some 1),(10,none)]
 | 6=>[(0,none),(1,none),(8,some 1),(9,some 1),(10,none),(20,none)]
 | 7=>[(0,none),(1,none),(8,some 1),(9,some 1),(10,none)]
 | 8=>[(0,none),(1,none),(8,some 1),(9,some 1),(10,none),(31,none)]
 | 9=>[(0,none),(1,none),(8,some 1),(9,some 1),(10,none)]
 | 10=>[(0,none),(1,none),(8,some 1),(9,some 1),(10,none),(44,none)]
 | 11=>[(0,none),(1,none),(8,some 1),(9,some 1),(10,none)]
 | 12=>[(4,some 1),(5,some 1),(6,none)]
 | _=>[]
def QKD (r:Nat):List (Nat×Option Nat):=match r with
 | 0=>kpn [0,1]
 | 1=>kpn [0,1,7]
 | 2=>kpn [0,1,7,15]
 | 3=>[(4,some 1),(5,some 1),(6,none)]
 | 4=>[(0,none),(1,none),(8,some 1),(9,some 1)]
 | 5=>[(0,none),(1,none),(8,some 1),(9,some 1),(10,none)]
 | 6=>[(0,none),(1,none),(8,some 1),(9,some 1),(10,none),(20,none)]
 | 7=>[(0,none),(1,none),(8,some 1),(9,some 1),(10,none)]
 | 8=>[(0,none),(1,none),(8,some 1),(9,some 1),(10,none),(31,none)]
 | 9=>[(0,none),(1,none),(8,some 1),(9,some 1),(10,none)]
 | 10=>[(0,none),(1,none),(8,some 1),(9,some 1),(10,none),(44,none)]
 | 11=>[(0,none),(1,none),(8,some 1),(9,some 1),(10,none)]
 | 12=>[(4,some 1),(5,some 1),(6,none)]
 | _=>[]
def Qc6 (f:Nat->Bool) (k:Nat):List Int:=((List.range k).filter f).map λ(x:Nat)=>(x:Int)
theorem Qvi (f:Nat->Bool):Qc6 f 0=[]:=rfl
attribute [simp] Qvi
theorem Qe5 {f:Nat->Bool} {k:Nat} (h:f k=true):Qc6 f (k+1)=Qc6 f k++[(k:Int)]:=by
 simp[Qc6,List.range_succ,List.filter_append,h]
theorem QeL {f:Nat->Bool} {k:Nat} (h:f k=false):Qc6 f (k+1)=Qc6 f k:=by
 simp[Qc6,List.range_succ,List.filter_append,h]
theorem Qlu (f:Nat->Bool) (k:Nat):(Qc6 f k).length<=k:=by
 unfold Qc6;rw[List.length_map];exact Nat.le_trans (List.length_filter_le _ _) (by simp)
theorem QMv {f:Nat->Bool} {k:Nat} {x:Int} :x∈Qc6 f k↔∃a:Nat,x=a/\a < k/\f a=true:=by
 simp only[Qc6,List.mem_map,List.mem_filter,Zm];constructor
 .rintro⟨a,⟨h1,h2⟩,rfl⟩; exact⟨a,rfl,h1,h2⟩
 .rintro⟨a,rfl,h1,h2⟩; exact⟨a,⟨h1,h2⟩,rfl⟩
theorem QjN (b:List Bat) (i:Int):QbH b i=0↔ValidB b/\0<=i/\i < b.length:=by
 unfold QbH;by_cases h:(Q5 b).2.2=0
 .rw[if_pos h];have hv:=(Qbl b).1 h;cases h2:inR i 0 ((b.length:Int) - 1)with
  | true=>
   have:=Qau.1 h2;simp[hv]; omega
  | false=>
   have:=QBw.1 h2;simp[hv]; omega
 .rw[if_neg h];have hv:¬ValidB b:=λhv=>h ((Qbl b).2 hv);simp[h,hv]
noncomputable def QnT (b:List Bat) (i k:Nat):Bool:=k != i&&Qgj b i k
noncomputable def Qnl (b:List Bat) (i k:Nat):Bool:=k != i&&QoL b i k
noncomputable def Qek (b:List Bat) (i k:Nat):Bool:=k != i&&Qgj b k i
noncomputable def Qep (b:List Bat) (i k:Nat):Bool:=k != i&&QoL b k i
noncomputable def QeU (b:List Bat) (i:Int):List Int×List Int×Int:=if QbH b i=0 then(Qc6 (QnT b i.toNat) b.length,Qc6 (Qnl b i.toNat) b.length,0)else([],[],QbH b i)
noncomputable def QgQ (b:List Bat) (i:Int):List Int×List Int×Int:=if QbH b i=0 then(Qc6 (Qek b i.toNat) b.length,Qc6 (Qep b i.toNat) b.length,0)else([],[],QbH b i)
noncomputable def l20:List (Nat×(List D->Option D)):=[(61,s61),(62,s62),(63,s63)]
theorem QKH:Qay Tryz.prog (Qas l20):=Ql (Ql (Ql QB QyY QRO) QFz ok62) QKL ok61
noncomputable def s20:List D->Option D:=sp2 (Qy QO) Qbh (QlK (Qy Qt) (Qy Qt) Qbh) λb i=>if bkB b=true then some (QeU b i)else none
set_option maxHeartbeats 2000000 in
theorem ok20:∀ds d,s20 ds=some d->PureC Tryz.prog 20 ds d:=QaR λb i r hr=>by
 split at hr
 .rename_i cO;cases hr;refine Qbz (QlK (Qy Qt) (Qy Qt) Qbh) (QeU b i) (QE QKH 51 QKE []) Tryz.func20 rfl rfl (Zb rfl) (by kernel_rfl) ?_
  rw[Tryz.results20];unfold QeU;have h61:s61 [.sl 5 (b.map QO.enc),DI i]=some (DI (QbH b i)):=by simp[s61,sp2,QR,cO]
  by_cases h:QbH b i=0
  .obtain⟨hv,h0,h1⟩:=(QjN b i).1 h;obtain⟨n,rfl⟩:∃n:Nat,i=n:=⟨i.toNat,by omega⟩
   have aX:=hv.ok.le;have hn:n < b.length:=by omega
   rw[h]at h61;rw[if_pos h,Int.toNat_natCast];have h62:∀k,k < b.length->s62 [.sl 5 (b.map QO.enc),DI n,DI k]=some (DB (Qgj b n k)):=λk hk=>by
    have c:ValidB b/\(0:Int)<=(n:Int)/\(n:Int) < b.length/\(0:Int)<=(k:Int)/\(k:Int) < b.length:=⟨hv,by omega,by omega,by omega,by omega⟩
    simp[s62,sp3,QR,c]
   have h63:∀k,k < b.length->s63 [.sl 5 (b.map QO.enc),DI n,DI k]=some (DB (QoL b n k)):=λk hk=>by
    have c:ValidB b/\(0:Int)<=(n:Int)/\(n:Int) < b.length/\(0:Int)<=(k:Int)/\(k:Int) < b.length:=⟨hv,by omega,by omega,by omega,by omega⟩
    simp[s63,sp3,QR,c]
   simp[QKE,l20,Qe,h61]
   (generalize aC:Cx.loop _ _ _=aE; apply Qi aC (λk=>⟨[(0,.d (.sl 5 (b.map QO.enc))),(1,.d (DI n)),(8,.sl 1 ((Qc6 (QnT b n) k).map Qt.enc) (.tok 8)),(9,.sl 1 ((Qc6 (Qnl b n) k).map Qt.enc) (.tok 9)),(10,.d (DI k))],[],[9,8],[]⟩) b.length (by first | (simp; done) | (simp; rfl) | (simp; simp[*])); rotate_left; (show _ < 281474976710656; omega); rfl; rotate_left; all_goals clear aC)
   .intro k hk;have bB:(k:Int) < b.length:=by omega
    have w1:=Qa ((k:Int)+1) (by omega) (by omega)
    have l1:=Qlu (QnT b n) k;have l2:=Qlu (Qnl b n) k;have a1:(Qc6 (QnT b n) k).length+1<=140737488355328:=by omega
    have a2:((Qc6 (QnT b n) k).length+1)*8<=140737488355328:=by omega
    have a3:(Qc6 (Qnl b n) k).length+1<=140737488355328:=by omega
    have a4:((Qc6 (Qnl b n) k).length+1)*8<=140737488355328:=by omega
    have h62k:=h62 k hk;have h63k:=h63 k hk;by_cases e:k=n
    .have ei:((k:Int) != (n:Int))=false:=by rw[e]; simp
     have e1:QnT b n k=false:=by simp[QnT,e]
     have e2:Qnl b n k=false:=by simp[Qnl,e]
     rw[QeL e1,QeL e2];simp[QKE,bB,ei,w1]
    .have ei:((k:Int) != (n:Int))=true:=by simp; omega
     have en:(k != n)=true:=by simpa using e
     cases c1:Qgj b n k with
     | true=>
      have e1:QnT b n k=true:=by simp[QnT,e,c1]
      rw[c1]at h62k;rw[Qe5 e1];cases c2:QoL b n k with
      | true=>
       have e2:Qnl b n k=true:=by simp[Qnl,e,c2]
       rw[c2]at h63k;rw[Qe5 e2];simp[QKE,Qc,bB,ei,w1,h62k,h63k,a1,a2,a3,a4]
      | false=>
       have e2:Qnl b n k=false:=by simp[Qnl,c2]
       rw[c2]at h63k;rw[QeL e2];simp[QKE,Qc,bB,ei,w1,h62k,h63k,a1,a2]
     | false=>
      have e1:QnT b n k=false:=by simp[QnT,c1]
      rw[c1]at h62k;rw[QeL e1];cases c2:QoL b n k with
      | true=>
       have e2:Qnl b n k=true:=by simp[Qnl,e,c2]
       rw[c2]at h63k;rw[Qe5 e2];simp[QKE,Qc,bB,ei,w1,h62k,h63k,a3,a4]
      | false=>
       have e2:Qnl b n k=false:=by simp[Qnl,c2]
       rw[c2]at h63k;rw[QeL e2];simp[QKE,bB,ei,w1,h62k,h63k]
   .simp[QKE,QQ]
  .have h':(QbH b i != 0)=true:=bne_iff_ne.2 h;rw[if_neg h];simp[QKE,l20,Qe,h61,h',Qar]
 .cases hr
theorem QKI (xs:Array Value) (w:World):(callFunc 20 xs).run Tryz.prog w= .ok (.enter 20 xs) w:=by kernel_rfl
noncomputable def s23:List D->Option D:=sp2 (Qy QO) Qbh (QlK (Qy Qt) (Qy Qt) Qbh) λb i=>if bkB b=true then some (QgQ b i)else none
set_option maxHeartbeats 2000000 in
theorem ok23:∀ds d,s23 ds=some d->PureC Tryz.prog 23 ds d:=QaR λb i r hr=>by
 split at hr
 .rename_i cO;cases hr;refine Qbz (QlK (Qy Qt) (Qy Qt) Qbh) (QgQ b i) (QE QKH 51 QKD []) Tryz.func23 rfl rfl (Zb rfl) (by kernel_rfl) ?_
  rw[Tryz.results23];unfold QgQ;have h61:s61 [.sl 5 (b.map QO.enc),DI i]=some (DI (QbH b i)):=by simp[s61,sp2,QR,cO]
  by_cases h:QbH b i=0
  .obtain⟨hv,h0,h1⟩:=(QjN b i).1 h;obtain⟨n,rfl⟩:∃n:Nat,i=n:=⟨i.toNat,by omega⟩
   have aX:=hv.ok.le;have hn:n < b.length:=by omega
   rw[h]at h61;rw[if_pos h,Int.toNat_natCast];have h62:∀k,k < b.length->s62 [.sl 5 (b.map QO.enc),DI k,DI n]=some (DB (Qgj b k n)):=λk hk=>by
    have c:ValidB b/\(0:Int)<=(k:Int)/\(k:Int) < b.length/\(0:Int)<=(n:Int)/\(n:Int) < b.length:=⟨hv,by omega,by omega,by omega,by omega⟩
    simp[s62,sp3,QR,c]
   have h63:∀k,k < b.length->s63 [.sl 5 (b.map QO.enc),DI k,DI n]=some (DB (QoL b k n)):=λk hk=>by
    have c:ValidB b/\(0:Int)<=(k:Int)/\(k:Int) < b.length/\(0:Int)<=(n:Int)/\(n:Int) < b.length:=⟨hv,by omega,by omega,by omega,by omega⟩
    simp[s63,sp3,QR,c]
   simp[QKD,l20,Qe,h61]
   (generalize aC:Cx.loop _ _ _=aE; apply Qi aC (λk=>⟨[(0,.d (.sl 5 (b.map QO.enc))),(1,.d (DI n)),(8,.sl 1 ((Qc6 (Qek b n) k).map Qt.enc) (.tok 8)),(9,.sl 1 ((Qc6 (Qep b n) k).map Qt.enc) (.tok 9)),(10,.d (DI k))],[],[9,8],[]⟩) b.length (by first | (simp; done) | (simp; rfl) | (simp; simp[*])); rotate_left; (show _ < 281474976710656; omega); rfl; rotate_left; all_goals clear aC)
   .intro k hk;have bB:(k:Int) < b.length:=by omega
    have w1:=Qa ((k:Int)+1) (by omega) (by omega)
    have l1:=Qlu (Qek b n) k;have l2:=Qlu (Qep b n) k;have a1:(Qc6 (Qek b n) k).length+1<=140737488355328:=by omega
    have a2:((Qc6 (Qek b n) k).length+1)*8<=140737488355328:=by omega
    have a3:(Qc6 (Qep b n) k).length+1<=140737488355328:=by omega
    have a4:((Qc6 (Qep b n) k).length+1)*8<=140737488355328:=by omega
    have h62k:=h62 k hk;have h63k:=h63 k hk;by_cases e:k=n
    .have ei:((k:Int) != (n:Int))=false:=by rw[e]; simp
     have e1:Qek b n k=false:=by simp[Qek,e]
     have e2:Qep b n k=false:=by simp[Qep,e]
     rw[QeL e1,QeL e2];simp[QKD,bB,ei,w1]
    .have ei:((k:Int) != (n:Int))=true:=by simp; omega
     have en:(k != n)=true:=by simpa using e
     cases c1:Qgj b k n with
     | true=>
      have e1:Qek b n k=true:=by simp[Qek,e,c1]
      rw[c1]at h62k;rw[Qe5 e1];cases c2:QoL b k n with
      | true=>
       have e2:Qep b n k=true:=by simp[Qep,e,c2]
       rw[c2]at h63k;rw[Qe5 e2];simp[QKD,Qc,bB,ei,w1,h62k,h63k,a1,a2,a3,a4]
      | false=>
       have e2:Qep b n k=false:=by simp[Qep,c2]
       rw[c2]at h63k;rw[QeL e2];simp[QKD,Qc,bB,ei,w1,h62k,h63k,a1,a2]
     | false=>
      have e1:Qek b n k=false:=by simp[Qek,c1]
      rw[c1]at h62k;rw[QeL e1];cases c2:QoL b k n with
      | true=>
       have e2:Qep b n k=true:=by simp[Qep,e,c2]
       rw[c2]at h63k;rw[Qe5 e2];simp[QKD,Qc,bB,ei,w1,h62k,h63k,a3,a4]
      | false=>
       have e2:Qep b n k=false:=by simp[Qep,c2]
       rw[c2]at h63k;rw[QeL e2];simp[QKD,bB,ei,w1,h62k,h63k]
   .simp[QKD,QQ]
  .have h':(QbH b i != 0)=true:=bne_iff_ne.2 h;rw[if_neg h];simp[QKD,l20,Qe,h61,h',Qar]
 .cases hr
theorem QKN (xs:Array Value) (w:World):(callFunc 23 xs).run Tryz.prog w= .ok (.enter 23 xs) w:=by kernel_rfl
end Go.Proofs.YtnfeakhkfehkhaaGreatDoor
namespace Go.Proofs.YtnfeakhkfehkhaaGreatDoor
open Go.RowKit
noncomputable def QcW (b:List Bat) (g:List Int) (i:Int):Bool:=g.all λk=>!Qgj b i.toNat k.toNat
def QhC (b:List Bat) (l:List Int):Prop:=l.length<=17592186044416/\∀n∈l,0<=n/\n < b.length
noncomputable instance (b:List Bat) (l:List Int):Decidable (QhC b l):=Classical.propDecidable _
def rLi:Row (List Int):=⟨1,λx=>[.sl 1 (x.map Qt.enc)],λd=>match d with | [y]=>(Qy Qt).dec y | _=>none,λx=>by simp[QQ],λd x h=>by
 split at h
 .exact QbQ ((Qy Qt).ed _ _ h) (LImp.refl _)
 .cases h⟩
theorem Qad (x:List Int):rLi.enc x=[.sl 1 (x.map Qt.enc)]:=rfl
theorem Qba:rLi.k=1:=rfl
def Qyx (S:List (List Int)) (g:List Int) (k:Int):Bool:=g.any λi=>QwI (S.getD i.toNat []) k
def QbA (S:List (List Int)) (c g:List Int):Bool:=c.all (Qyx S g)
def QkD (f:Nat->List Int×Bool):Nat->Nat->List Int×Bool
 | 0,_=>([],false)
 | k+1,i=>if(f i).2=true then f i else QkD f k (i+1)
theorem QeD {f:Nat->List Int×Bool} :∀{k i:Nat},(∀j,j < k->(f (i+j)).2=false)->QkD f k i=([],false)
 | 0,_,_=>rfl
 | k+1,i,h=>by
  have h0:=h 0 (by omega)
  rw[Nat.add_zero]at h0;rw[QkD,if_neg (by rw[h0]; simp)]
  exact QeD λj hj=>by
   have:=h (j+1) (by omega)
   rwa [show i+(j+1)=i+1+j by omega]at this
theorem QeO {f:Nat->List Int×Bool} :∀{k i j:Nat},j < k->(f (i+j)).2=true->(∀q,q < j->(f (i+q)).2=false)->QkD f k i=f (i+j)
 | k+1,i,0,_,h1,_=>by
  rw[Nat.add_zero]at h1;rw[QkD,if_pos h1,Nat.add_zero]
 | k+1,i,j+1,h,h1,h2=>by
  have h0:=h2 0 (by omega)
  rw[Nat.add_zero]at h0;rw[QkD,if_neg (by rw[h0]; simp),QeO (j:=j) (by omega) (by rwa [show i+1+j=i+(j+1) by omega]) λq hq=>by
   have:=h2 (q+1) (by omega)
   rwa [show i+(q+1)=i+1+q by omega]at this]
  rw[show i+1+j=i+(j+1) by omega]
 | 0,i,j,h,_,_=>by omega
def Qcf (g:List Int):Nat:=if 0 < g.length then(g.getD (g.length - 1) 0).toNat+1 else 0
def QaV (ok:List Int->Bool) (n:Nat):Nat->List Int->List Int×Bool
 | 0,g=>if ok g=true then(g,true)else([],false)
 | m+1,g=>QkD (λi=>QaV ok n m (g++[(i:Int)])) (n - Qcf g) (Qcf g)
theorem QiU:Qcf []=0:=rfl
attribute [local simp] QiU
def QrR (S:List (List Int)) (c g:List Int):Prop:=S.length<=8/\(∀x∈S,x.length<=17592186044416)/\c.length<=17592186044416/\g.length<=100/\∀i∈g,0<=i/\i < S.length
noncomputable instance (S:List (List Int)) (c g:List Int):Decidable (QrR S c g):=Classical.propDecidable _
end Go.Proofs.YtnfeakhkfehkhaaGreatDoor
namespace Go.Proofs.YtnfeakhkfehkhaaGreatDoor
open Go.RowKit
def QK5 (r:Nat):List (Nat×Option Nat):=match r with
 | 0=>kpn [0,1,4]
 | 1=>kpn [0,1,4,6]
 | 2=>kpn [0,1,4,6,18]
 | 3=>kpn [4,5]
 | 4=>kpn [0,1,4,7]
 | 5=>kpn [0,1,4,7,8]
 | 6=>kpn [0,1,4,7,8,9]
 | 7=>kpn [0,1,4,7,8,9,28]
 | 8=>kpn [0,1,4,7,8,9]
 | 9=>kpn [0,1,4,7,8,9]
 | 10=>kpn [1,4,7,8,10]
 | 11=>kpn [1,4,7,8,10,11,12]
 | 12=>kpn [1,4,7,8,10,11,12,46]
 | 13=>kpn [1,4,7,8,10,11,12,13]
 | 14=>kpn [1,4,7,8,10,11,12,13]
 | 15=>kpn [1,4,7,8,10,11,12,13,57]
 | 16=>kpn [1,4,7,8,10,11,12]
 | 17=>kpn [1,4,7,8,10,11,12]
 | 18=>kpn [4,5]
 | _=>[]
def Qo4 (b:List Bat) (i:Int):Spn×Int:=if QbH b i=0 then(Qj7 b i.toNat,0)else(⟨0,0⟩,QbH b i)
noncomputable def l26:List (Nat×(List D->Option D)):=[(61,s61),(56,s56)]
theorem QLg:Qay Tryz.prog (Qas l26):=Ql (Ql QB Qud QG3) QKL ok61
def QK0:List (Nat×Nat×Nat):=[(5000,100,0),(5000,101,0)]
theorem QKW (n:Nat) (g:Nat->D) (b i:Nat) (h5:(b==5000)=false) (av nw:List Nat):Qaw [(5000,100,0),(5000,101,0)] b i (QPw n g) av nw=(QPw n g,av,nw):=Qbv QK0 b _ i av nw (Qeh h5 (Qeh h5 (Qeb b))) Qbr
def xK (c h:Int):Nat->Int
 | 0=>h
 | k+1=>((bsK c 0 h k).1+(bsK c 0 h k).2) / 2
theorem Qxo (c l h:Int):bsK c l h 0=(l,h):=rfl
theorem QBG (c h:Int):xK c h 0=h:=rfl
attribute [local simp] Qxo QBG
noncomputable def s26:List D->Option D:=sp2 (Qy QO) Qbh (Qex (QeC QGL) Qbh) λb i=>if bkB b=true then some (Qo4 b i)else none
set_option maxHeartbeats 2000000 in
theorem ok26:∀ds d,s26 ds=some d->PureC Tryz.prog 26 ds d:=QaR λb i r hr=>by
 split at hr
 .rename_i cO;cases hr;have cS:=QE QLg 70 QK5 QK0;refine QdD Tryz.func26 rfl rfl (Zb rfl) λm w a I tV=>?_;have h61:s61 [.sl 5 (b.map QO.enc),DI i]=some (DI (QbH b i)):=by simp[s61,sp2,QR,cO]
  refine QgG cS 2 _ rfl (by kernel_rfl) (by kernel_rfl) (λ_ _=>rfl) _ _ _ _ I ?_
  unfold Qo4;by_cases h:QbH b i=0
  .obtain⟨hv,h0,h1⟩:=(QjN b i).1 h;obtain⟨n,rfl⟩:∃n:Nat,i=n:=⟨i.toNat,by omega⟩
   have aQ:=hv.ok;have aX:=aQ.le;have fV:b.length<=140737488355328:=by omega
   have hn:n < b.length:=by omega
   rw[h]at h61;rw[if_pos h,Int.toNat_natCast];simp[QeQ,QK5,QK0,l26,Qe,h61,QT];intro g1 a1 w1 I1;show Code.wpIn _ _ _ (Qon 2 _) _ _ _;refine wpIn_seq ?_;refine Qwc cS 1 22 41 (QpX b.length) (Qhz b) rfl rfl rfl rfl rfl (by decide) rfl rfl (by simp[Qan,QcP]) (λ_ _=>rfl) QtI I1 ?_
   have cH:=Qt2 aQ;rw[Qbk]at cH;simp[Qwl,QK5,QK0,l26,QN,QS,QKW,QLf,QGU,Qrf,Qhz,QpX,Qh6,QCZ];refine⟨cH,λg2 a2 w2 I2=>?_⟩;show Code.wpIn _ _ _ _ _ _ _;refine QfO cS (by kernel_rfl) (by kernel_rfl) I2 (λ_ _=>rfl) ?_
   have wi:=Qa ((n:Int)+1) (by omega) (by omega)
   have hnI:(n:Int) < b.length:=h1;have pA:n+1<=b.length:=hn;have hkh:(QI b)[n]?.getD 0=QfE b n:=by simp[QI,hn]
   have hknl:n < (QI b).length:=by rw[QN]; exact hn
   have hkh':(QI b)[n]=QfE b n:=by simp[QI]
   have oO:=Qqm aQ hn;have kW:=QE3 hv hn;have tG:=QK1 aQ n;have haa:=QK6 aX n;have ha0':=QKZ b n (n+1) (Zr _);simp[QK5,QK0,l26,Qaf,QKW,wi]
   (generalize aC:Cx.loop _ _ _=aE; apply Qc2 aC (λk=>⟨[(0,.d (.sl 5 (b.map QO.enc))),(1,.d (DI n)),(4,.loc 4 0),(7,.loc 7 0),(8,.d (DI (QK4 b n (n+1+k)))),(9,.d (DI ((n+1+k:Nat):Int)))],[(4,[.d (DI 0),.d (DI 0)]),(7,[.bs 100 0 b.length 1,.bs 101 0 b.length 1,.d (.v (.slice none 0 0))]),(100,QPw b.length (λj=>DI ((QI b).getD j 0))),(101,QPw b.length (λj=>DI ((QV b).getD j 0)))],[],[]⟩) (b.length - (n+1)) (by first | (simp; done) | (simp; rfl) | (simp[*]; done) | (simp; simp[*])); rotate_left; (show _ < 281474976710656; omega); (exact λh=>h); rotate_left; all_goals clear aC)
   .intro k hk;obtain⟨t,ht⟩:∃t,t=n+1+k:=⟨_,rfl⟩;rw[show n+1+(k+1)=t+1 by omega,<-ht]
    have dJ:t < b.length:=by omega
    have jL:(t:Int) < b.length:=by omega
    have w2:=Qa ((t:Int)+1) (by omega) (by omega)
    have e:=QKY b n t;rw[if_pos (by omega)]at e
    have htn:t < (QV b).length:=by rw[QS]; exact dJ
    have e2:QaM (Qac b) t=(QV b)[t]:=by simp[QaM,Qac,Zd,htn]
    rw[e2]at e;have eR:=tG (t+1);have w3:IntKind.i64.wrap (QK4 b n t+(QV b)[t])=QK4 b n (t+1):=by rw[<-e]; exact Qa _ (by omega) (by omega)
    simp[QK5,QS,Qaf,QKW,Qb,Qf,dJ,jL,w2,w3]
   .rw[show n+1+(b.length - (n+1))=b.length by omega,haa]
    obtain⟨N,hN,eD,eR,tW⟩:=QK2 (QpT (Qaa b) n) (QfE b n).toNat 0 (QfE b n) (by omega) kW.1 kW.2
    have ha:=tG b.length;rw[haa]at ha;have bY:∀x,((QI b).set n x).length=b.length:=λx=>by rw[List.length_set,QN]
    simp[QK5,QN,Qaf,QKW,Qb,Qf,hn,hnI,hkh'];have dG:(λj=>DI ((QI b)[j]?.getD 0))=λj=>DI (((QI b).set n (xK (QpT (Qaa b) n) (QfE b n) 0)).getD j 0):=by
     funext j;simp only[Zd,List.getElem?_set,xK];by_cases e:n=j
     .subst e;rw[if_pos rfl,if_pos (by rw[QN]; exact hn),hkh]; rfl
     .rw[if_neg e]
    rw[dG];have hsn2:=QzN (QV b);rw[QS]at hsn2;simp only[Zd]at hsn2
    (generalize aC:Cx.loop _ _ _=aE; apply Qc2 aC (λk=>⟨[(1,.d (DI n)),(4,.loc 4 0),(7,.loc 7 0),(8,.d (DI (QfK (Qaa b) n))),(10,.d (DI (QfE b n))),(11,.d (DI (bsK (QpT (Qaa b) n) 0 (QfE b n) k).1)),(12,.d (DI (bsK (QpT (Qaa b) n) 0 (QfE b n) k).2))],[(4,[.d (DI 0),.d (DI 0)]),(7,[.bs 100 0 b.length 1,.bs 101 0 b.length 1,.d (.v (.slice none 0 0))]),(100,QPw b.length (λj=>DI (((QI b).set n (xK (QpT (Qaa b) n) (QfE b n) k)).getD j 0))),(101,QPw b.length (λj=>DI ((QV b).getD j 0)))],[],[]⟩) N (by first | (simp; done) | (simp; rfl) | (simp[*]; done) | (simp; simp[*])); rotate_left; (show _ < 281474976710656; omega); (exact λh=>h); rotate_left; all_goals clear aC)
    .intro k hk;have q1:=eD k hk;have q2:=tW k (by omega)
     have ex:xK (QpT (Qaa b) n) (QfE b n) (k+1)=((bsK (QpT (Qaa b) n) 0 (QfE b n) k).1+(bsK (QpT (Qaa b) n) 0 (QfE b n) k).2) / 2:=rfl;have eb:bsK (QpT (Qaa b) n) 0 (QfE b n) (k+1)=bsS (QpT (Qaa b) n) (bsK (QpT (Qaa b) n) 0 (QfE b n) k):=rfl;rw[ex,eb];generalize xK (QpT (Qaa b) n) (QfE b n) k=x;generalize bsK (QpT (Qaa b) n) 0 (QfE b n) k=B at*;obtain⟨l,u⟩:=B;simp only at q1 q2;have w3:=Qa (l+u) (by omega) (by omega)
     have hq:(l+u).tdiv 2=(l+u) / 2:=Int.tdiv_eq_ediv_of_nonneg (by omega)
     have w4:IntKind.i64.wrap ((l+u).tdiv 2)=(l+u) / 2:=by rw[hq]; exact Qa _ (by omega) (by omega)
     have w4':=Qa ((l+u) / 2) (by omega) (by omega)
     have w5:=Qa ((l+u) / 2+1) (by omega) (by omega)
     have hm:=QK9 hv hn (m:=(l+u) / 2) (by omega) (by omega)
     have hmo:=QK7 aQ (i:=n) ((l+u) / 2) (by omega) (by omega)
     unfold bsS;simp only;generalize hM:(l+u) / 2=M at*;have u1:=QpS (L:=(QI b).set n x) (x:=n) (v:=M) (by rw[bY]; exact hn)
     rw[List.set_set]at u1;have hLl:((QI b).set n M).length=b.length:=bY M;have hsn1:=QzN ((QI b).set n M);generalize(QI b).set n x=Lx at*;generalize(QI b).set n M=L at*;have y6:s56 [.agg [.sl 1 (L.map Qt.enc),.sl 1 ((QV b).map Qt.enc),.sl 0 []]]=some (DB (decide (QpT (Qaa b) n<=M))):=by
      have e:Qqw.dec [.sl 1 (L.map Qt.enc),.sl 1 ((QV b).map Qt.enc),.sl 0 []]=some ⟨L,QV b,[]⟩:=by simp only[Qqw,QQ,Qar]; rfl
      rw[<-hm];simp[s56,sp1,Qbq,e,hmo]
     rw[hLl]at hsn1;simp only[Zd]at hsn1 u1;by_cases hc:QpT (Qaa b) n<=M
     .simp[QK5,Qaf,QKW,Qb,Qp,Qx,QaG,Function.comp_def,q1,w3,w4,hn,hnI,pA,u1,fV,hsn1,hsn2,y6,hc]
     .simp[QK5,Qaf,QKW,Qb,Qp,Qx,QaG,Function.comp_def,q1,w3,w4,w5,hn,hnI,pA,u1,fV,hsn1,hsn2,y6,hc]
    .rw[eR];have cW:(if QfK (Qaa b) n < QfE b n then QfK (Qaa b) n else QfE b n)=min (QfE b n) (QfK (Qaa b) n):=by split<;>omega
     have w7:=Qa (QfE b n - min (QfE b n) (QfK (Qaa b) n)) (by omega) (by omega)
     have w8:=Qa (QfE b n - QpT (Qaa b) n) (by omega) (by omega)
     simp[QK5,Qaf,QKW,cW,w7,w8,QT];intro g3 a3 w3 I3;exact QmT (Qex (QeC QGL) Qbh) (Qj7 b n,0) cS I3 (rs:=[.agg [DI (QfE b n - min (QfE b n) (QfK (Qaa b) n)),DI (QfE b n - QpT (Qaa b) n)],DI 0]) (by rw[Tryz.results26]; simp) (by simp[Qew,QK3,Qj7])
  .have h':(QbH b i != 0)=true:=bne_iff_ne.2 h;rw[if_neg h];simp[QeQ,QK5,QK0,l26,Qe,h61,h',QT];intro g1 a1 w1 I1;exact QmT (Qex (QeC QGL) Qbh) (⟨0,0⟩,QbH b i) cS I1 (rs:=[.agg [DI 0,DI 0],DI (QbH b i)]) (by rw[Tryz.results26]; simp) (by simp[Qew,QK3])
 .cases hr
theorem QLd (xs:Array Value) (w:World):(callFunc 26 xs).run Tryz.prog w= .ok (.enter 26 xs) w:=by kernel_rfl
end Go.Proofs.YtnfeakhkfehkhaaGreatDoor
namespace Go.Proofs.YtnfeakhkfehkhaaGreatDoor
open Go.RowKit
noncomputable def QsN (b:List Bat) (i:Nat) (k:Int):Bool:=QoL b i k.toNat
noncomputable def QsT (b:List Bat) (c g:List Int) (i:Nat):List Int:=if QcW b g (i:Int)=true then c.filter (QsN b i)else []
noncomputable def Qur (b:List Bat) (c g:List Int) (k:Nat):List (List Int):=(List.range k).map (QsT b c g)
noncomputable def QhN (b:List Bat) (c g:List Int):List (List Int):=Qur b c g b.length
noncomputable def Qqq (b:List Bat) (c g:List Int):List Int×Bool:=QkD (λm=>QaV (QbA (QhN b c g) c) b.length m []) (b.length+1) 0
def QmO (b:List Bat) (c g:List Int):Int:=if(Q5 b).2.2=0 then(if(Qnc b c&&Qnc b g)=true then 0 else 4)else(Q5 b).2.2
noncomputable def QjZ (b:List Bat) (c g:List Int):List Int×Int:=if QmO b c g=0 then(if(Qqq b c g).2=true then((Qqq b c g).1,0)else([],9))else([],QmO b c g)
theorem Qe8 {b:List Bat} {l:List Int} :Qnc b l=true↔∀n∈l,0<=n/\n < b.length:=by
 unfold Qnc;rw[Bool.not_eq_true',List.any_eq_false];constructor
 .intro h n hn;have:=h n hn;have h2:inR n 0 ((b.length:Int) - 1)=true:=by simpa using this
  have:=Qau.1 h2;omega
 .intro h n hn;have:=h n hn;have h2:inR n 0 ((b.length:Int) - 1)=true:=Qau.2 (by omega)
  rw[h2]; simp
theorem Qqj (b:List Bat) (c g:List Int):QmO b c g=0↔ValidB b/\Qnc b c=true/\Qnc b g=true:=by
 unfold QmO;by_cases h:(Q5 b).2.2=0
 .rw[if_pos h];have hv:=(Qbl b).1 h;cases h1:Qnc b c<;>cases h2:Qnc b g<;>simp[hv]
 .rw[if_neg h];have hv:¬ValidB b:=λhv=>h ((Qbl b).2 hv);simp[h,hv]
end Go.Proofs.YtnfeakhkfehkhaaGreatDoor
