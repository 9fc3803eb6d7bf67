/-
  The program's Read as a plain function. No walk here. Conditions: none.
-/
import Derived.Test.YticoemblgkemiaaGreatDoorZWxRdC
import Derived.Test.YticoemblgkemiaaGreatDoorZWxRefD
import Derived.Test.YticoemblgkemiaaGreatDoorZSpl
set_option linter.unusedSimpArgs false
set_option linter.unusedVariables false
namespace Go.Proofs.YticoemblgkemiaaGreatDoor
open Go.RowKit Go.Lib
def QQM (W:List ByteArray):Nat→Option (List Prp)
 | 0=>some []
 | k+1=>match QQM W k,QQs (W.getD (2*k+2) ⟨#[]⟩)with
  | some l,some n=>some (l++[⟨W.getD (2*k+1) ⟨#[]⟩,n⟩])
  | _,_=>none
def QQV (W:List ByteArray):Nat→Option (List Spn)
 | 0=>some []
 | k+1=>match QQV W k,QQs (W.getD (2*k+2) ⟨#[]⟩),QQs (W.getD (2*k+1) ⟨#[]⟩)with
  | some l,some hi,some lo=>some (l++[⟨lo,hi⟩])
  | _,_,_=>none
@[simp] theorem propsO_zero (W : List ByteArray) : QQM W 0 = some [] := rfl
@[simp] theorem spansO_zero (W : List ByteArray) : QQV W 0 = some [] := rfl
def Qkj (i:Nat) (W:List ByteArray) (t:Tbl):Option Tbl:=
 if i=1 then(if W.length=2 then(QQs (W.getD 1 ⟨#[]⟩)).map fun n=>⟨t.props,t.kinds,n⟩else none)
 else if W.length % 2=0 then none
 else if i=0 then(QQM W (QPj W)).map fun ps=>⟨t.props++ps,t.kinds,t.purity⟩
 else(QQV W (QPj W)).map fun sp=>⟨t.props,t.kinds++[⟨W.getD 0 ⟨#[]⟩,sp⟩],t.purity⟩
def QQF (L:List ByteArray) (k:Nat):List ByteArray:=QiO (L.getD k ⟨#[]⟩) spB
def runP (L:List ByteArray):Nat→Option Tbl
 | 0=>some noT
 | k+1=>(runP L k).bind (Qkj k (QQF L k))
def QQa (s:ByteArray):List ByteArray:=QiO (QTW s nlB) nlB
def QWP (s:ByteArray):Option Tbl:=runP (QQa s) (QQa s).length
def QkC (s:ByteArray):Tbl×Int:=if 2000 < s.size then(noT,3)else match QWP s with
 | some t=>if okT t∧(QQy t).toList=s.toList then(t,0)else(noT,6)
 | none=>(noT,6)
def QSq (L:List ByteArray) (k:Nat):Tbl:=(runP L k).getD noT
theorem QUn (L:List ByteArray):∀m,∃n,n≤m∧(∀k,k≤n→runP L k=some (QSq L k))∧(n=m∨(n < m∧Qkj n (QQF L n) (QSq L n)=none∧runP L m=none))
 | 0=>⟨0,Nat.le_refl _,fun k hk=>by rw[show k=0 by omega]; rfl,.inl rfl⟩
 | m+1=>by
  obtain⟨n,h1,h2,h3⟩:=QUn L m;rcases h3 with rfl | ⟨h3,h4,h5⟩
  ·cases hs:Qkj n (QQF L n) (QSq L n)with
   | none=>exact⟨n,by omega,h2,.inr ⟨by omega,hs,by rw[runP,h2 n (Nat.le_refl _)]; exact hs⟩⟩
   | some t=>
    have hr:runP L (n+1)=some t:=by rw[runP,h2 n (Nat.le_refl _)]; exact hs
    refine⟨n+1,Nat.le_refl _,fun k hk=>?_,.inl rfl⟩;by_cases e:k=n+1
    ·subst e; rw[QSq,hr]; rfl
    ·exact h2 k (by omega)
  ·exact⟨n,by omega,h2,.inr ⟨by omega,h4,by rw[runP,h5]; rfl⟩⟩
theorem QVG {L:List ByteArray} {n:Nat} (h:∀k,k≤n→runP L k=some (QSq L k)) {j:Nat} (hj:j < n):Qkj j (QQF L j) (QSq L j)=some (QSq L (j+1)):=by
 have h1:=h (j+1) (by omega)
 rw[runP,h j (by omega)]at h1
 exact h1
theorem QSH (s p:ByteArray):(QTW s p).size≤s.size:=by
 show(Lib.trimSuffix s.data.toList p.data.toList).toArray.size≤s.data.size;have:s.data.size=s.data.toList.length:=by simp
 rw[this,List.size_toArray];unfold Lib.trimSuffix;split
 ·simp
 ·exact Nat.le_refl _
theorem Ql0 (sep:ByteArray) (save:Nat):∀(k:Nat) (s:ByteArray),∀p∈Lib.splitB sep save k s,p.size≤s.size
 | 0,s,p,h=>by simp only[Lib.splitB_zero,List.mem_singleton]at h; subst h; exact Nat.le_refl _
 | k+1,s,p,h=>by
  rcases Lib.indexB_cases s sep with h1 | ⟨i,h1,h2⟩
  ·rw[Lib.splitB_miss sep save (k+1) s h1,List.mem_singleton]at h; subst h; exact Nat.le_refl _
  ·rw[Lib.splitB_hit sep save k s i h1]at h;rcases List.mem_cons.1 h with rfl | h
   ·rw[ByteArray.size_extract]; omega
   ·have:=Ql0 sep save k _ p h;rw[ByteArray.size_extract]at this; omega
theorem QTk (s sep:ByteArray):∀p∈QiO s sep,p.size≤s.size:=fun p hp=>Ql0 sep 0 _ _ p hp
theorem QTg (s sep:ByteArray) (h1:1≤sep.size):1≤(QiO s sep).length∧(QiO s sep).length≤s.size+1:=by
 have hlen:(QiO s sep).length=countB s sep+1:=splitB_all sep h1 0 _ s rfl;have hle:=countB_le sep h1 s.size s (Nat.le_refl _);omega
theorem QS2 (s:ByteArray):∀p∈QQa s,p.size≤s.size:=fun p hp=>Nat.le_trans (QTk _ _ p hp) (QSH _ _)
theorem QWA (s:ByteArray):(QQa s).length≤s.size+1:=by
 have:=(QTg (QTW s nlB) nlB (by rw[Q2E]; omega)).2
 have:=QSH s nlB;unfold QQa; omega
theorem QkP {s:ByteArray} {k:Nat} (hk:k < (QQa s).length):∀p∈QQF (QQa s) k,p.size≤s.size:=fun p hp=>by
 unfold QQF at hp;rw[Ql _ _ _ hk]at hp;exact Nat.le_trans (QTk _ _ p hp) (QS2 s _ (List.getElem_mem hk))
theorem QkN {s:ByteArray} {k:Nat} (hk:k < (QQa s).length):1≤(QQF (QQa s) k).length∧(QQF (QQa s) k).length≤s.size+1:=by
 unfold QQF;rw[Ql _ _ _ hk];have:=QTg (QQa s)[k] spB (by rw[Q2R]; omega)
 have:=QS2 s _ (List.getElem_mem hk);omega
theorem QRF {W:List ByteArray} :∀{k:Nat} {l:List Prp},QQM W k=some l→l.length=k
 | 0,l,h=>by cases h; rfl
 | k+1,l,h=>by
  unfold QQM at h;split at h
  ·rename_i h1 _; cases h; rw[List.length_append,QRF h1]; rfl
  ·cases h
theorem QRG {W:List ByteArray} :∀{k:Nat} {l:List Spn},QQV W k=some l→l.length=k
 | 0,l,h=>by cases h; rfl
 | k+1,l,h=>by
  unfold QQV at h;split at h
  ·rename_i h1 _ _; cases h; rw[List.length_append,QRG h1]; rfl
  ·cases h
def QSS (W:List ByteArray) (k:Nat):List Prp:=(QQM W k).getD []
def QSs (W:List ByteArray) (k:Nat):List Spn:=(QQV W k).getD []
theorem QRR (W:List ByteArray):∀m,∃n,n≤m∧(∀k,k≤n→QQM W k=some (QSS W k))∧(n=m∨(n < m∧QQs (W.getD (2*n+2) ⟨#[]⟩)=none∧QQM W m=none))
 | 0=>⟨0,Nat.le_refl _,fun k hk=>by rw[show k=0 by omega]; rfl,.inl rfl⟩
 | m+1=>by
  obtain⟨n,h1,h2,h3⟩:=QRR W m;rcases h3 with rfl | ⟨h3,h4,h5⟩
  ·cases hs:QQs (W.getD (2*n+2) ⟨#[]⟩)with
   | none=>exact⟨n,by omega,h2,.inr ⟨by omega,hs,by rw[QQM,h2 n (Nat.le_refl _),hs]⟩⟩
   | some v=>
    have hr:QQM W (n+1)=some (QSS W n++[⟨W.getD (2*n+1) ⟨#[]⟩,v⟩]):=by rw[QQM,h2 n (Nat.le_refl _),hs]
    refine⟨n+1,Nat.le_refl _,fun k hk=>?_,.inl rfl⟩;by_cases e:k=n+1
    ·subst e; rw[QSS,hr]; rfl
    ·exact h2 k (by omega)
  ·exact⟨n,by omega,h2,.inr ⟨by omega,h4,by rw[QQM,h5]⟩⟩
theorem QRV (W:List ByteArray):∀m,∃n,n≤m∧(∀k,k≤n→QQV W k=some (QSs W k))∧(n=m∨(n < m∧(QQs (W.getD (2*n+2) ⟨#[]⟩)=none∨((∃v,QQs (W.getD (2*n+2) ⟨#[]⟩)=some v)∧QQs (W.getD (2*n+1) ⟨#[]⟩)=none))∧QQV W m=none))
 | 0=>⟨0,Nat.le_refl _,fun k hk=>by rw[show k=0 by omega]; rfl,.inl rfl⟩
 | m+1=>by
  obtain⟨n,h1,h2,h3⟩:=QRV W m;rcases h3 with rfl | ⟨h3,h4,h5⟩
  ·cases hs:QQs (W.getD (2*n+2) ⟨#[]⟩)with
   | none=>exact⟨n,by omega,h2,.inr ⟨by omega,.inl hs,by rw[QQV,h2 n (Nat.le_refl _),hs]⟩⟩
   | some v=>
    cases hs2:QQs (W.getD (2*n+1) ⟨#[]⟩)with
    | none=>exact⟨n,by omega,h2,.inr ⟨by omega,.inr ⟨⟨v,hs⟩,hs2⟩,by rw[QQV,h2 n (Nat.le_refl _),hs,hs2]⟩⟩
    | some u=>
     have hr:QQV W (n+1)=some (QSs W n++[⟨u,v⟩]):=by rw[QQV,h2 n (Nat.le_refl _),hs,hs2]
     refine⟨n+1,Nat.le_refl _,fun k hk=>?_,.inl rfl⟩;by_cases e:k=n+1
     ·subst e; rw[QSs,hr]; rfl
     ·exact h2 k (by omega)
  ·exact⟨n,by omega,h2,.inr ⟨by omega,h4,by rw[QQV,h5]⟩⟩
theorem QTD {W:List ByteArray} {n:Nat} (h:∀k,k≤n→QQM W k=some (QSS W k)) {j:Nat} (hj:j < n):∃v,QQs (W.getD (2*j+2) ⟨#[]⟩)=some v∧QSS W (j+1)=QSS W j++[⟨W.getD (2*j+1) ⟨#[]⟩,v⟩]:=by
 have h1:=h (j+1) (by omega)
 rw[QQM,h j (by omega)]at h1
 cases hs:QQs (W.getD (2*j+2) ⟨#[]⟩)with
 | none=>rw[hs]at h1; cases h1
 | some v=>rw[hs]at h1; simp only[Option.some.injEq]at h1; exact⟨v,rfl,h1.symm⟩
theorem QTm {W:List ByteArray} {n:Nat} (h:∀k,k≤n→QQV W k=some (QSs W k)) {j:Nat} (hj:j < n):∃u v,QQs (W.getD (2*j+2) ⟨#[]⟩)=some v∧QQs (W.getD (2*j+1) ⟨#[]⟩)=some u∧QSs W (j+1)=QSs W j++[⟨u,v⟩]:=by
 have h1:=h (j+1) (by omega)
 rw[QQV,h j (by omega)]at h1
 cases hs:QQs (W.getD (2*j+2) ⟨#[]⟩)with
 | none=>rw[hs]at h1; cases h1
 | some v=>
  cases hs2:QQs (W.getD (2*j+1) ⟨#[]⟩)with
  | none=>rw[hs,hs2]at h1; cases h1
  | some u=>rw[hs,hs2]at h1; simp only[Option.some.injEq]at h1; exact⟨u,v,rfl,rfl,h1.symm⟩
end Go.Proofs.YticoemblgkemiaaGreatDoor
