/-
  Small laws of worlds. Conditions: none.
-/
import Derived.Test.YticoemblgkemiaaGreatDoorProg
import Derived.WalkKit
import Derived.WalkSpells
import Derived.WalkLawsBesides
import Derived.Handy
import Derived.Lib.Hide
import Derived.BigQuiet
import Derived.Lib.AppendZeros
import Derived.Lib.Walk
import Derived.Test.YticoemblgkemiaaGreatDoorZTys
import Derived.Test.YticoemblgkemiaaGreatDoorZAmF
import Derived.Test.YticoemblgkemiaaGreatDoorZShelf
import Derived.Test.YticoemblgkemiaaGreatDoorZAmA
import Derived.Lib.ItoaNum
import Derived.Lib.AppendIntMem
import Derived.Lib.SplitLaws
set_option linter.unusedSimpArgs false
set_option linter.unusedVariables false
namespace Go.Proofs.YticoemblgkemiaaGreatDoor
open Go.RowKit
theorem Qha {a b:Bool} (h:a=b):Ending.returned (.bool a)= .returned (.bool b):=by rw[h]
end Go.Proofs.YticoemblgkemiaaGreatDoor
namespace Go.Proofs.YticoemblgkemiaaGreatDoor
open Go.RowKit
end Go.Proofs.YticoemblgkemiaaGreatDoor
namespace Go.Proofs.YticoemblgkemiaaGreatDoor
def QK:Nat→(Nat→Int)→Int
 | 0,_=>0
 | n+1,f=>QK n f+f n
def QZ {α:Type} (f:Nat→α) (i:Nat) (v:α):Nat→α:=fun j=>if j=i then v else f j
theorem Qac {α:Type} (f:Nat→α) (i:Nat) (v:α):QZ f i v i=v:=if_pos rfl
theorem QXi {α:Type} (f:Nat→α) {i j:Nat} (v:α) (h:¬j=i):QZ f i v j=f j:=if_neg h
structure Fl where
 has:Nat→Int
 g:Nat→Nat→Int
def Fl.more (s:Fl) (x t:Nat) (n:Int):Fl:=⟨s.has,fun y=>if y=x then QZ (s.g x) t (s.g x t+n)else s.g y⟩
def Fl.take (s:Fl) (x t:Nat) (n:Int):Fl:=Fl.more ⟨QZ s.has x (s.has x - n),s.g⟩ x t n
def Fl.turn (s:Fl) (x o t:Nat) (n:Int):Fl:=(s.more x o (0 - n)).more x t n
abbrev Qn3:=Int×(Nat→Bool)×Fl
def QhH (rec:Nat→Int→(Nat→Bool)→Fl→Qn3) (t x:Nat) (most:Int) (row:Nat→Int):Nat→(Nat→Bool)→Fl→Qn3
 | 0,seen,s=>(0,seen,s)
 | k+1,seen,s=>
  if 7 - k=t∨row (7 - k)=0 then QhH rec t x most row k seen s else
  if 0 < (rec (7 - k) (min most (row (7 - k))) seen s).1 then((rec (7 - k) (min most (row (7 - k))) seen s).1,(rec (7 - k) (min most (row (7 - k))) seen s).2.1,(rec (7 - k) (min most (row (7 - k))) seen s).2.2.turn x (7 - k) t (rec (7 - k) (min most (row (7 - k))) seen s).1)
  else QhH rec t x most row k (rec (7 - k) (min most (row (7 - k))) seen s).2.1 (rec (7 - k) (min most (row (7 - k))) seen s).2.2
def Qoa (rec:Nat→Int→(Nat→Bool)→Fl→Qn3) (nv:Nat→Nat→Bool) (t:Nat) (most:Int):Nat→(Nat→Bool)→Fl→Qn3
 | 0,seen,s=>(0,seen,s)
 | k+1,seen,s=>
  if seen (t - (k+1))=true∨nv (t - (k+1)) t=true then Qoa rec nv t most k seen s else
  if 0 < min most (s.has (t - (k+1)))then(min most (s.has (t - (k+1))),QZ seen (t - (k+1)) true,s.take (t - (k+1)) t (min most (s.has (t - (k+1)))))else
  if 0 < (QhH rec t (t - (k+1)) most (s.g (t - (k+1))) 8 (QZ seen (t - (k+1)) true) s).1 then QhH rec t (t - (k+1)) most (s.g (t - (k+1))) 8 (QZ seen (t - (k+1)) true) s
  else Qoa rec nv t most k (QhH rec t (t - (k+1)) most (s.g (t - (k+1))) 8 (QZ seen (t - (k+1)) true) s).2.1 (QhH rec t (t - (k+1)) most (s.g (t - (k+1))) 8 (QZ seen (t - (k+1)) true) s).2.2
def QUU (nv:Nat→Nat→Bool):Nat→Nat→Int→(Nat→Bool)→Fl→Qn3
 | 0,_,_,seen,s=>(0,seen,s)
 | f+1,t,most,seen,s=>Qoa (QUU nv f) nv t most t seen s
def cnB (nv:Nat→Nat→Bool) (x t:Nat):Prop:=x < t∧nv x t=false
structure FlOk (nv:Nat→Nat→Bool) (s:Fl):Prop where
 has:∀x,0≤s.has x
 g:∀x t,0≤s.g x t
 sup:∀x t,0 < s.g x t→cnB nv x t∧t < 8
def ClosedX (nv:Nat→Nat→Bool) (s:Fl) (seen seen':Nat→Bool) (but:Nat→Prop) (x:Nat):Prop:=s.has x=0∧∀o,¬but o→0 < s.g x o→∀y,cnB nv y o→seen' y=true
theorem ClosedX.mono {nv:Nat→Nat→Bool} {s:Fl} {a b c:Nat→Bool} {p q:Nat→Prop} {x:Nat} (h:ClosedX nv s a b p x) (hb:∀y,b y=true→c y=true) (hp:∀o,p o→q o):ClosedX nv s a c q x:=
 ⟨h.1,fun o ho hg y hy=>hb y (h.2 o (fun hp'=>ho (hp o hp')) hg y hy)⟩
theorem QdC (s:Fl) (x t:Nat) (n:Int) (y o:Nat):(s.more x t n).g y o=if y=x∧o=t then s.g y o+n else s.g y o:=by
 unfold Fl.more;simp only;by_cases h:y=x
 ·subst h;rw[if_pos rfl];unfold QZ;by_cases h2:o=t
  ·subst h2; simp
  ·simp[h2]
 ·rw[if_neg h,if_neg (fun q=>h q.1)]
def Qi6 (seen:Nat→Bool):Int:=QK 8 fun x=>if seen x=true then 0 else 1
structure Dead (nv:Nat→Nat→Bool) (s:Fl) (A B:Nat→Prop):Prop where
 pre:∀o,B o→∀y,cnB nv y o→A y
 has:∀x,A x→s.has x=0
 g:∀x,A x→∀o,0≤s.g x o
 out:∀x,A x→∀o,0 < s.g x o→B o
theorem Dead.of {nv:Nat→Nat→Bool} {s s':Fl} {A B:Nat→Prop} (h:Dead nv s A B) (k:∀x,A x→s'.has x=s.has x∧s'.g x=s.g x):Dead nv s' A B:=
 ⟨h.pre,fun x hx=>by rw[(k x hx).1]; exact h.has x hx,fun x hx o=>by rw[(k x hx).2]; exact h.g x hx o,fun x hx o ho=>h.out x hx o (by rw[(k x hx).2]at ho; exact ho)⟩
def Qka (nv:Nat→Nat→Bool) (t:Nat):Nat→Int→Fl→Int×Fl
 | 0,need,s=>(need,s)
 | k+1,need,s=>
  if need≤0 then(0,s)else
  if(QUU nv 8 t need (fun _=>false) s).1=0 then(need,(QUU nv 8 t need (fun _=>false) s).2.2)
  else Qka nv t k (need - (QUU nv 8 t need (fun _=>false) s).1) (QUU nv 8 t need (fun _=>false) s).2.2
def Qbq (nv:Nat→Nat→Bool) (needs:Nat→Int) (s:Fl):Nat→Int×Fl
 | 0=>(0,s)
 | t+1=>((Qbq nv needs s t).1+(Qka nv t ((needs t).toNat+1) (needs t) (Qbq nv needs s t).2).1,(Qka nv t ((needs t).toNat+1) (needs t) (Qbq nv needs s t).2).2)
def Qd2 (nv:Nat→Nat→Bool) (has needs:Nat→Int):Int:=(Qbq nv needs ⟨has,fun _ _=>0⟩ 8).1
end Go.Proofs.YticoemblgkemiaaGreatDoor
namespace Go.Proofs.YticoemblgkemiaaGreatDoor
open Go.RowKit
def Qk (n:Nat) (g:Nat→D):List X:=(List.range n).map fun t=>X.d (g t)
theorem Qb (n:Nat) (g:Nat→D):(Qk n g).length=n:=by simp[Qk]
theorem Qc {n:Nat} {g:Nat→D} {p:Nat} (h:p < n):(Qk n g)[p]?=some (.d (g p)):=by simp[Qk,h]
theorem Qg {n:Nat} {g:Nat→D} {p:Nat} (h:p < (Qk n g).length):(Qk n g)[p]= .d (g p):=by simp[Qk]
theorem Qo {n:Nat} {g:Nat→D} {p:Nat} {v:D} (h:p < n):(Qk n g).take p++X.d v::(Qk n g).drop (p+1)=Qk n (QZ g p v):=by
 refine List.ext_getElem? fun q=>?_;have e:(Qk n g).take p++X.d v::(Qk n g).drop (p+1)=(Qk n g).set p (.d v):=by
  rw[List.set_eq_take_append_cons_drop,if_pos (by rw[Qb]; exact h)]
 rw[e,List.getElem?_set];by_cases hq:p=q
 ·subst hq;rw[if_pos rfl,if_pos (by rw[Qb]; exact h),Qc h,Qac]
 ·rw[if_neg hq];by_cases hn:q < n
  ·rw[Qc hn,Qc hn,QXi _ _ (fun h=>hq h.symm)]
  ·rw[List.getElem?_eq_none (by rw[Qb]; omega),List.getElem?_eq_none (by rw[Qb]; omega)]
theorem QbJ {n:Nat} {g:Nat→D} :∀c∈Qk n g,∃d,c= .d d:=by
 intro c hc;obtain⟨d,_,rfl⟩:=List.mem_map.1 hc;exact⟨_,rfl⟩
theorem Qaj (n:Nat) (g:Nat→D) (P:X→Prop) (h:∀d,P (.d d)):(∀c,c∈Qk n g→P c)=True:=by
 refine eq_true fun c hc=>?_;obtain⟨d,rfl⟩:=QbJ c hc;exact h d
theorem QbM (kb:List (Nat×Nat×Nat)) (b:Nat):∀(cs:List X) (i:Nat) (av nw:List Nat),(∀j,Qeu kb b j=none)→(∀c∈cs,∃d,c= .d d)→Qaz kb b i cs av nw=(cs,av,nw)
 | [],_,_,_,_,_=>rfl
 | c::t,i,av,nw,hk,h=>by
  obtain⟨d,rfl⟩:=h c (by simp)
  unfold Qaz;rw[hk];simp only[QbM kb b t _ _ _ hk fun c hc=>h c (by simp[hc])]
  rfl
theorem QeM (b j:Nat):Qeu [] b j=none:=rfl
theorem QA (n:Nat) (g:Nat→D) (b i:Nat) (av nw:List Nat):Qaz [] b i (Qk n g) av nw=(Qk n g,av,nw):=QbM [] b _ i av nw (QeM b) QbJ
theorem QIp (g:Nat→D):∀l:List Nat,Qbp (l.map fun t=>X.d (g t))=some (l.map g)
 | []=>rfl
 | a::t=>by simp only[List.map_cons,Qbp,X.data,QIp g t]
theorem Qv (n:Nat) (g:Nat→D):Qbp (Qk n g)=some ((List.range n).map g):=QIp g _
theorem QaG (n:Nat) (g:Nat→D):(Qk n g).take n=Qk n g:=List.take_of_length_le (by rw[Qb]; exact Nat.le_refl _)
theorem QO7 (n:Nat) (d:D):List.replicate n (X.d d)=Qk n (fun _=>d):=by
 refine List.ext_getElem (by simp[Qk]) fun i h1 h2=>?_
 simp[Qk]
end Go.Proofs.YticoemblgkemiaaGreatDoor
namespace Go.Proofs.YticoemblgkemiaaGreatDoor
open Go.RowKit
def s54:List D→Option D:=sp3 QaY QaY QaY QaW fun n lo hi=>some (inR n lo hi)
def Qo5:List D→Option D:=sp3 QaY QaY QaY QaW fun n lo hi=>some (inR n lo hi)
def l1:List (Nat×(List D→Option D)):=[(68,Qo5)]
theorem Qkr (s:ByteArray) (i:Nat):0≤QaL s i∧QaL s i≤255:=by
 unfold QaL;have:=(s[i]?.getD 0).toNat_lt;omega
def s96:List D→Option D:=sp1 Qoe QaW fun s=>some (Qbz s)
def l2:List (Nat×(List D→Option D)):=(102,s96)::l1
def l3:List (Nat×(List D→Option D)):=[(26,s54)]
def s97:List D→Option D:=sp1 QaY QaY fun n=>if 0≤n∧n≤60 then some (2 ^ n.toNat)else none
end Go.Proofs.YticoemblgkemiaaGreatDoor
namespace Go.Proofs.YticoemblgkemiaaGreatDoor
open Go.RowKit
def bkB (b:List Bat):Bool:=b.all fun x=>decide (x.takes.length≤17592186044416)
def Qm4 (l:List Tak) (k:Nat):Int:=QaR (l.take k)
@[simp] theorem takK_zero (l : List Tak) : Qm4 l 0 = 0 := by simp [Qm4, QaR]
end Go.Proofs.YticoemblgkemiaaGreatDoor
namespace Go.Proofs.YticoemblgkemiaaGreatDoor
open Go.RowKit
def QD2 (p:Pro) (x t:Int):Bool:=!(p.never.any fun e=>e.fr==x&&e.to==t)&&decide (x < t)
end Go.Proofs.YticoemblgkemiaaGreatDoor
namespace Go.Proofs.YticoemblgkemiaaGreatDoor
open Go.RowKit
def pw (n:Nat):Int:=((2 ^ n:Nat):Int)
def dv (s n:Nat):Int:=((s / 2 ^ n:Nat):Int)
def Qc9 (s k:Nat):Bool:=decide (s / 2 ^ k % 2=1)
theorem h97 (n:Nat) (h:n≤60):s97 [DI n]=some (DI (pw n)):=by
 have h0:(0:Int)≤n∧(n:Int)≤60:=by omega
 simp[s97,sp1,h0,h,pw]
theorem hr2 (s a:Nat):((dv s a).tmod 2==1)=Qc9 s a:=by
 unfold dv Qc9;rw[show((2:Int))=((2:Nat):Int)from rfl,←Int.ofNat_tmod];rcases Nat.mod_two_eq_zero_or_one (s / 2 ^ a)with h | h<;>simp[h]
theorem hq (s a:Nat) (hs:s < 9223372036854775808) (ha:a≤60):IntKind.i64.wrap ((s:Int) / (pw a))=dv s a:=by
 unfold pw dv;rw[←Int.natCast_ediv];have:s / 2 ^ a≤s:=Nat.div_le_self _ _;generalize s / 2 ^ a=q at this⊢;exact Qa _ (by omega) (by omega)
def Qb4 (p:Pro) (k:Nat):List Int:=((List.range k).filter fun i=>decide (0 < p.needs.getD i 0)).map fun(i:Nat)=>(i:Int)
def Qdf (p:Pro) (l:List Int) (s k:Nat):Int:=QK k fun a=>if Qc9 s a=true then p.needs.getD (l.getD a 0).toNat 0 else 0
def Qfo (p:Pro) (l:List Int) (s i k:Nat):Bool:=(List.range k).any fun a=>Qc9 s a&&QD2 p i (l.getD a 0)
def QjE (p:Pro) (l:List Int) (s i:Nat):Int:=QK i fun x=>if Qfo p l s x l.length=true then p.has.getD x 0 else 0
@[simp] theorem needS_zero (p : Pro) (l : List Int) (s : Nat) : Qdf p l s 0 = 0 := rfl
@[simp] theorem hasS_zero (p : Pro) (l : List Int) (s : Nat) : QjE p l s 0 = 0 := rfl
@[simp] theorem someS_zero (p : Pro) (l : List Int) (s i : Nat) : Qfo p l s i 0 = false := rfl
structure PrOk (p:Pro):Prop where
 len:p.needs.length=p.has.length
 le:p.has.length≤8
 vals:∀i,-1000000000≤p.has.getD i 0∧p.has.getD i 0≤1000000000∧ -1000000000≤p.needs.getD i 0∧p.needs.getD i 0≤1000000000
 nev:p.never.length≤1000000
def Qlh (p:Pro) (i:Nat):Bool:=decide (0≤p.has.getD i 0)&&decide (0≤p.needs.getD i 0)
def Qnt (p:Pro) (l:List Int) (s:Nat):Bool:=decide (Qdf p l s l.length≤QjE p l s p.has.length)
def Qcj (p:Pro):Bool:=(List.range p.needs.length).all (Qlh p)&&(List.range (2 ^ (Qb4 p p.needs.length).length)).all (Qnt p (Qb4 p p.needs.length))
noncomputable instance (p:Pro):Decidable (PrOk p):=Classical.propDecidable _
end Go.Proofs.YticoemblgkemiaaGreatDoor
namespace Go.Proofs.YticoemblgkemiaaGreatDoor
def noN:Nat→Nat→Bool:=fun _ _=>false
end Go.Proofs.YticoemblgkemiaaGreatDoor
namespace Go.Proofs.YticoemblgkemiaaGreatDoor
end Go.Proofs.YticoemblgkemiaaGreatDoor
namespace Go.Proofs.YticoemblgkemiaaGreatDoor
open Go.RowKit
structure BookOk (b:List Bat):Prop where
 le:b.length≤8
 pos:1≤b.length
 bat:∀i (hi:i < b.length),QmK b i b[i]=0
structure BatOk (i:Nat) (x:Bat):Prop where
 name:Qbz x.name=true
 grams:1≤x.grams∧x.grams≤100000
 fresh:0≤x.fresh∧x.fresh≤x.grams
 lost:x.lost=true→x.takes=[]
 fr:∀t∈x.takes,0≤t.fr∧t.fr < i
 gr:∀t∈x.takes,1≤t.gr∧t.gr≤100000
 asc:Qp0 x.takes=true
 sum:x.lost=false→x.fresh+QaR x.takes=x.grams
theorem BookOk.at {b:List Bat} (h:BookOk b) {i:Nat} (hi:i < b.length):BatOk i b[i]:=by
 have h0:=h.bat i hi;unfold QmK at h0;split at h0
 ·omega
 rename_i e1;split at h0
 ·omega
 split at h0
 ·omega
 rename_i e3;split at h0
 ·omega
 rename_i e4;split at h0
 ·omega
 rename_i e5;split at h0
 ·omega
 rename_i e6;split at h0
 ·omega
 rename_i e7;split at h0
 ·omega
 rename_i e8;have e3':inR b[i].grams 1 100000=true∧inR b[i].fresh 0 b[i].grams=true:=by
  constructor
  ·cases hc:inR b[i].grams 1 100000 with
   | true=>rfl
   | false=>exact absurd (.inl hc) e3
  ·cases hc:inR b[i].fresh 0 b[i].grams with
   | true=>rfl
   | false=>exact absurd (.inr hc) e3
 refine⟨by simpa using e1,Qal.1 e3'.1,Qal.1 e3'.2,fun hl=>?_,fun t ht=>?_,fun t ht=>?_,by simpa using e6,fun hl=>?_⟩
 ·refine List.length_eq_zero_iff.1 ?_;rcases Nat.eq_zero_or_pos b[i].takes.length with h | h
  ·exact h
  ·exact absurd ⟨hl,h⟩ e4
 ·have:inR t.fr 0 ((i:Int) - 1)=true:=by
   cases hc:inR t.fr 0 ((i:Int) - 1)with
   | true=>rfl
   | false=>exact absurd (List.any_eq_true.2 ⟨t,ht,by rw[hc]; rfl⟩) e5
  have:=Qal.1 this;omega
 ·have:inR t.gr 1 100000=true:=by
   cases hc:inR t.gr 1 100000 with
   | true=>rfl
   | false=>exact absurd (List.any_eq_true.2 ⟨t,ht,by rw[hc]; rfl⟩) e7
  exact Qal.1 this
 ·by_cases hc:b[i].fresh+QaR b[i].takes=b[i].grams
  ·exact hc
  ·exact absurd ⟨hl,hc⟩ e8
def Qob (L:List Int) (t:Tak):List Int:=L.set t.fr.toNat (L.getD t.fr.toNat 0 - t.gr)
def BdL (L:List Int) (m:Int):Prop:=∀j,0 - m≤L.getD j 0∧L.getD j 0≤100000
theorem QmC (L:List Int) (t:Tak) (h0:0≤t.fr) (hl:t.fr < L.length) (j:Nat):(Qob L t).getD j 0=L.getD j 0 - if t.fr=(j:Int)then t.gr else 0:=by
 unfold Qob;obtain⟨f,hf⟩:∃f:Nat,t.fr=f:=⟨t.fr.toNat,by omega⟩
 rw[hf]at hl⊢;have hl':f < L.length:=by omega
 simp only[Int.toNat_natCast,List.getD_eq_getElem?_getD,List.getElem?_set];by_cases hj:f=j
 ·subst hj; simp[hl']
 ·have:¬(f:Int)=(j:Int):=by omega
  simp[hj,this]
theorem BdL.sub {L:List Int} {m:Int} (h:BdL L m) {t:Tak} (h0:0≤t.fr) (hl:t.fr < L.length) (hg:0≤t.gr):BdL (Qob L t) (m+t.gr):=by
 intro j;have:=h j;rw[QmC L t h0 hl j];split<;>omega
end Go.Proofs.YticoemblgkemiaaGreatDoor
namespace Go.Proofs.YticoemblgkemiaaGreatDoor
structure ValidB (b:List Bat):Prop where
 ok:BookOk b
 lost:(Qae b).length≤3
 kept:∀j,j < b.length→0≤Qba b j
 sol:Qcj (QV b)=true
def QcB (d:Nat→Bool) (n:Nat):List Edg:=(List.range n).flatMap fun t=>if d t=true then []else((List.range t).filter d).map fun(x:Nat)=>⟨(x:Int),(t:Int)⟩
end Go.Proofs.YticoemblgkemiaaGreatDoor
namespace Go.Proofs.YticoemblgkemiaaGreatDoor
structure EdgOk (b:List Bat) (more:List Edg):Prop where
 tk:∀t,∀k∈(b.getD t default).takes,0≤k.fr∧k.fr < t
 ed:∀e∈more,0≤e.fr∧e.fr < e.to∧e.to < b.length
structure ChS where
 has:List Int
 needs:List Int
 more:List Edg
 is:Bool
def Qyh (n:Nat) (l v:List Nat) (s:ChS) (k:Nat):ChS:=
 if v.getD k 0=n then s else⟨s.has.set (v.getD k 0) (s.has.getD (v.getD k 0) 0 - 1),s.needs.set (l.getD k 0) (s.needs.getD (l.getD k 0) 0 - 1),s.more++[⟨(v.getD k 0:Nat),(l.getD k 0:Nat)⟩],s.is&&decide (v.getD k 0 < l.getD k 0)⟩
def chK (n:Nat) (l v:List Nat) (has needs:List Int):Nat→ChS
 | 0=>⟨has,needs,[],true⟩
 | k+1=>Qyh n l v (chK n l v has needs k) k
end Go.Proofs.YticoemblgkemiaaGreatDoor
namespace Go.Proofs.YticoemblgkemiaaGreatDoor
open Go.RowKit
def eqI {α:Type} (q:α→α→Bool) (d:α) (a b:List α):Bool:=decide (a.length=b.length)&&(List.range a.length).all fun i=>q (a.getD i d) (b.getD i d)
theorem Qh5 {α:Type} {q:α→α→Bool} {d:α} {a b:List α} :eqI q d a b=true↔a.length=b.length∧∀i,i < a.length→q (a.getD i d) (b.getD i d)=true:=by
 unfold eqI;rw[Bool.and_eq_true,decide_eq_true_eq,List.all_eq_true];exact⟨fun h=>⟨h.1,fun i hi=>h.2 i (List.mem_range.2 hi)⟩,fun h=>⟨h.1,fun i hi=>h.2 i (List.mem_range.1 hi)⟩⟩
theorem Qwi {α:Type} {q:α→α→Bool} {d:α} {a b:List α} {k:Nat} (hk:k < a.length) (h:q (a.getD k d) (b.getD k d)=false):eqI q d a b=false:=by
 cases e:eqI q d a b with
 | false=>rfl
 | true=>have:=(Qh5.1 e).2 k hk; rw[h]at this; cases this
theorem QwR {α:Type} {q:α→α→Bool} {d:α} {a b:List α} (h:¬a.length=b.length):eqI q d a b=false:=by
 cases e:eqI q d a b with
 | false=>rfl
 | true=>exact absurd (Qh5.1 e).1 h
def QzU (a b:Int):Bool:=a==b
def QOR (x:List Bat):Prop:=x.length < 1000000∧∀k∈x,k.takes.length < 1000000
instance (x:List Bat):Decidable (QOR x):=inferInstanceAs (Decidable (_∧∀k∈x,_))
end Go.Proofs.YticoemblgkemiaaGreatDoor
namespace Go.Proofs.YticoemblgkemiaaGreatDoor
open Go.RowKit
def mid (R:Nat→Bool) (i:Nat) (v:Bool):Nat→D:=fun t=>DB (if t < i then R t else if t=i then v else false)
noncomputable instance (b:List Bat) (more:List Edg):Decidable (EdgOk b more):=Classical.propDecidable _
end Go.Proofs.YticoemblgkemiaaGreatDoor
namespace Go.Proofs.YticoemblgkemiaaGreatDoor
end Go.Proofs.YticoemblgkemiaaGreatDoor
namespace Go.Proofs.YticoemblgkemiaaGreatDoor
open Go.RowKit
noncomputable instance (b:List Bat):Decidable (BookOk b):=Classical.propDecidable _
end Go.Proofs.YticoemblgkemiaaGreatDoor
namespace Go.Proofs.YticoemblgkemiaaGreatDoor
open Go.RowKit
end Go.Proofs.YticoemblgkemiaaGreatDoor
namespace Go.Proofs.YticoemblgkemiaaGreatDoor
open Go.RowKit
noncomputable instance (b:List Bat):Decidable (ValidB b):=Classical.propDecidable _
theorem QAn (R:Nat→Bool):mid R 0 false=fun _=>DB false:=by
 funext t; unfold mid; simp
theorem Qri (d:Nat→Bool):QcB d 0=[]:=rfl
attribute [local simp] QAn Qri
def QCX (d:Nat→Bool) (t x:Nat):List Edg:=QcB d t++((List.range x).filter d).map fun(y:Nat)=>⟨(y:Int),(t:Int)⟩
theorem Qrd (d:Nat→Bool) (t:Nat):QCX d t 0=QcB d t:=by simp[QCX]
attribute [local simp] Qrd
end Go.Proofs.YticoemblgkemiaaGreatDoor
namespace Go.Proofs.YticoemblgkemiaaGreatDoor
open Go.RowKit
theorem QCk (n:Nat) (l v:List Nat) (has needs:List Int):chK n l v has needs 0=⟨has,needs,[],true⟩:=rfl
attribute [local simp] QCk
end Go.Proofs.YticoemblgkemiaaGreatDoor
namespace Go.Proofs.YticoemblgkemiaaGreatDoor
open Go.RowKit
def QcE (f:Nat→Bool) (k:Nat):List Int:=((List.range k).filter f).map fun(x:Nat)=>(x:Int)
theorem Qv0 (f:Nat→Bool):QcE f 0=[]:=rfl
attribute [simp] Qv0
end Go.Proofs.YticoemblgkemiaaGreatDoor
namespace Go.Proofs.YticoemblgkemiaaGreatDoor
open Go.RowKit
end Go.Proofs.YticoemblgkemiaaGreatDoor
namespace Go.Proofs.YticoemblgkemiaaGreatDoor
open Go.RowKit
def Qin (g:List Int):Nat:=if 0 < g.length then(g.getD (g.length - 1) 0).toNat+1 else 0
theorem QjN:Qin []=0:=rfl
attribute [local simp] QjN
end Go.Proofs.YticoemblgkemiaaGreatDoor
namespace Go.Proofs.YticoemblgkemiaaGreatDoor
open Go.RowKit
def CcB (W:World) (g:Gh) (w:World) (base:Option Addr) (C T:Nat) (fl:List Int):Prop:=
 T≤C∧(T=0∨∃(blk:Nat) (cs:Array Value),base=some ⟨blk,0,none⟩∧W.heap.size≤blk∧blk < w.heap.size∧Away g blk∧w.heap[blk]?=some (.cells cs 3 (0,0))∧T≤cs.size∧∀(j:Nat) (x:Int),fl[j]?=some x→cs[j]?=some (.int .i64 x))
theorem CcB.next {W:World} {g g':Gh} {w w':World} {base:Option Addr} {C T:Nat} {fl:List Int} (h:CcB W g w base C T fl) (hs:w.heap.size≤w'.heap.size) (hf:∀b,b < w.heap.size→Away g b→Away g' b∧w'.heap[b]?=w.heap[b]?):CcB W g' w' base C T fl:=by
 refine⟨h.1,h.2.imp id ?_⟩;rintro⟨blk,cs,h1,h2,h3,h4,h5,h6,h7⟩;obtain⟨k1,k2⟩:=hf blk h3 h4;exact⟨blk,cs,h1,h2,by omega,k1,k2.trans h5,h6,h7⟩
end Go.Proofs.YticoemblgkemiaaGreatDoor
namespace Go.Proofs.YticoemblgkemiaaGreatDoor
open Go.RowKit
def QcL:List UInt8→Int→Bool
 | [],last=>!(last==45)
 | x::t,last=>if(x.toNat:Int)=45 then(if last=45 then false else QcL t 45)
   else if(x.toNat:Int) < 97∨122 < (x.toNat:Int)then false else QcL t x.toNat
def Qop (s:ByteArray):Bool:=QcL s.data.toList 45&&decide (s.size≤20)
theorem Qzw (s:ByteArray) (last:Int) (hl:¬last=45) (h:QcL [] last=QcL s.data.toList 45):(last != 45&&decide ((s.size:Int)≤20))=Qop s:=by
 have h1:(last==45)=false:=by simpa using hl
 rw[Qop,←h];simp[QcL,bne,h1]
 try omega
theorem QF9 (s:ByteArray) (k:Nat) (h:k < s.size):s.data.toList.drop k=s[k]::s.data.toList.drop (k+1):=by
 rw[List.drop_eq_getElem_cons (by simpa using h)]; rfl
theorem QB9 (s:ByteArray) (k:Nat) (h:¬k < s.size):s.data.toList.drop k=[]:=by
 apply List.drop_eq_nil_of_le; simp; omega
theorem Qel (w:World) (s:ByteArray) (k:Nat):Below w.heap.size w (w.iter s k):=(Below.refl _ w).alloc (Nat.le_refl _) _
theorem QFJ {P:Program} (w:World) (s:ByteArray) (k:Nat) (h:k < s.size):
  ∃(r:Int) (p:Nat),(∀ty,(Instr.next (.pointer (some ⟨w.heap.size,0,none⟩)) true ty).run P (w.iter s k)= .ok (.tuple #[.bool true,.int .i64 k,.int .i32 r]) (w.iter s p))∧
   ((r=(s[k].toNat:Int)∧p=k+1)∨(128≤r∧128≤(s[k].toNat:Int))):=by
 by_cases ha:s[k].toNat < 128
 ·exact⟨_,_,fun ty=>run_next_ascii w s k ty h ha,.inl ⟨rfl,rfl⟩⟩
 ·have hd:=decode_high s k h (by omega)
  exact⟨_,_,fun ty=>run_next_any w s k ty h,.inr ⟨by omega,by omega⟩⟩
theorem QAp (s:ByteArray) (w:World) (hs:s.size≤140737488355328):
  Calls Tryz.prog 77 #[.string s] w fun e w'=>e= .returned (.bool (Qop s))∧Below w.heap.size w w':=by
 go_enter Tryz.func77,Tryz.ntmps77
 go_wp2
 go_loopw [3] (fun c wr=>∃(k:Nat) (last:Int),wr=w.iter s k∧k≤s.size∧c= .int .i32 last∧QcL (s.data.toList.drop k) last=QcL s.data.toList 45) (fun _ wr=>s.size - wr.iterPos w.heap.size)
 case atStart=>exact⟨0,45,rfl,by omega,rfl,rfl⟩
 case round=>
  obtain⟨k,last,rfl,hk,rfl,hn⟩:=hrel;by_cases hp:k < s.size
  ·obtain⟨r,p,hnx,hr⟩:=QFJ (P:=Tryz.prog) w s k hp;rw[QF9 s k hp]at hn;have hfin:(r=45∧last=45)∨(¬r=45∧(r < 97∨122 < r))→Qop s=false:=by
    intro h;have:QcL s.data.toList 45=false:=by
     rw[←hn];rcases hr with⟨rfl,rfl⟩ | ⟨h1,h2⟩
     ·rcases h with⟨h3,h4⟩ | ⟨h3,h4⟩
      ·simp only[QcL]; rw[if_pos h3,if_pos h4]
      ·simp only[QcL]; rw[if_neg h3,if_pos h4]
     ·simp only[QcL]; rw[if_neg (by omega),if_pos (by omega)]
    simp[Qop,this]
   have hgo:¬((r=45∧last=45)∨(¬r=45∧(r < 97∨122 < r)))→p=k+1∧QcL (s.data.toList.drop (k+1)) r=QcL s.data.toList 45:=by
    intro h;rcases hr with⟨rfl,rfl⟩ | ⟨h1,h2⟩
    ·refine⟨rfl,?_⟩;rw[←hn];simp only[QcL];by_cases h3:(s[k].toNat:Int)=45
     ·rw[if_pos h3,if_neg (by omega),h3]
     ·rw[if_neg h3,if_neg (by omega)]
    ·omega
   have H_hn:=Lib.hid hn; clear hn; have H_hfin:=Lib.hid hfin; clear hfin; have H_hgo:=Lib.hid hgo; clear hgo; have H_hr:=Lib.hid hr; clear hr;by_cases h45:r=45
   ·subst h45;by_cases hl:last=45
    ·subst hl
     go_wp2
     go_ret
     exact⟨Qha (H_hfin.out (by simp)).symm,Qel _ _ _⟩
    ·have hl':(last==45)=false:=by simpa using hl
     go_wp2
     go_roundw
     obtain⟨rfl,h2⟩:=H_hgo.out (by omega)
     case rel=>exact⟨k+1,45,rfl,by omega,rfl,h2⟩
     case measure=>obtain⟨rfl,h2⟩:=H_hgo.out (by omega); simp; omega
   ·have h45':(r==45)=false:=by simpa using h45
    by_cases h97:r < 97
    ·go_wp2
     go_ret
     exact⟨Qha (H_hfin.out (by omega)).symm,Qel _ _ _⟩
    ·by_cases h122:122 < r
     ·go_wp2
      go_ret
      exact⟨Qha (H_hfin.out (by omega)).symm,Qel _ _ _⟩
     ·go_wp2
      go_roundw
      case rel=>obtain⟨rfl,h2⟩:=H_hgo.out (by omega); exact⟨k+1,r,rfl,by omega,rfl,h2⟩
      case measure=>obtain⟨rfl,h2⟩:=H_hgo.out (by omega); simp; omega
  ·have hnx:∀ty,(Instr.next (.pointer (some ⟨w.heap.size,0,none⟩)) true ty).run Tryz.prog (w.iter s k)=_:=fun ty=>run_next_end w s k ty hp
   rw[QB9 s k hp]at hn;have H_hn:=Lib.hid hn; clear hn;by_cases hl:last=45
   ·subst hl
    go_wp2
    go_ret
    exact⟨Qha (by rw[Qop,←H_hn.out]; rfl),Qel _ _ _⟩
   ·have hl':(last==45)=false:=by simpa using hl
    go_wp2
    go_ret
    exact⟨Qha (Qzw s last hl H_hn.out),Qel _ _ _⟩
end Go.Proofs.YticoemblgkemiaaGreatDoor
namespace Go.Proofs.YticoemblgkemiaaGreatDoor
open Go.RowKit
def QC5 (r:Nat):List (Nat×Option Nat):=match r with
 | 0=>kpn [0,1,2]
 | 1=>[(4,none)]
 | _=>[]
def Qvf (r:Nat):List (Nat×Option Nat):=match r with
 | 0=>kpn [0,1]
 | 1=>kpn [0,1,7,8]
 | 2=>kpn [0,1,7,8,9]
 | 3=>kpn [0,1,5,7,8]
 | 4=>kpn [0,1,5,7,8,16]
 | 5=>[(4,none)]
 | 6=>kpn [0,1,7,8]
 | 7=>[(4,none)]
 | _=>[]
def kp87 (r:Nat):List (Nat×Option Nat):=match r with
 | 0=>kpn [0,1]
 | 1=>[(4,none)]
 | _=>[]
def QBs {α:Type} (p:α→Bool) (l:List α):Int:=match l.findIdx? p with | some k=>(k:Int) | none=> -1
theorem Qeo {α:Type} (p:α→Bool) (l:List α):(QBs p l= -1∧l.any p=false∧∀k (h:k < l.length),p l[k]=false)∨∃k,∃h:k < l.length,QBs p l=k∧l.any p=true∧p l[k]=true∧∀j (hj:j < l.length),j < k→p l[j]=false:=by
 unfold QBs;cases h:l.findIdx? p with
 | none=>
  have:=List.findIdx?_eq_none_iff.1 h;refine .inl ⟨rfl,?_,fun k hk=>this _ (List.getElem_mem hk)⟩;rw[List.any_eq_false];intro x hx;simp[this x hx]
 | some k=>
  obtain⟨h1,h2,h3⟩:=List.findIdx?_eq_some_iff_getElem.1 h;refine .inr ⟨k,h1,rfl,?_,h2,fun j hj hjk=>?_⟩
  ·rw[List.any_eq_true]; exact⟨_,List.getElem_mem h1,h2⟩
  ·have:=h3 j hjk;simpa using this
def Qp7:Cod Int:=⟨fun n=> .dat 1 [[DI n]] 0 0,fun d=>match d with | .dat 1 [[.v (.int .i64 n)]] 0 0=>some n | _=>none,fun d x h=>by
 split at h
 ·cases h; exact DImp.refl _
 ·cases h⟩
inductive Prd where
 | out (lo hi:Int)
 | outS (lo hi:Int)
 | neg
def Prd.is:Prd→Int→Bool
 | .out lo hi,n=>!inR n lo hi
 | .outS lo hi,n=>!inR n lo hi
 | .neg,n=>decide (n < 0)
def Prd.enc:Prd→D
 | .out lo hi=> .fn 201 [] [.dat 1 [[DI lo]] 0 0,.dat 1 [[DI hi]] 0 0]
 | .outS lo hi=> .fn 189 [] [.dat 1 [[DI lo]] 0 0,.dat 1 [[DI hi]] 0 0]
 | .neg=> .v (.func (.func 194) #[] #[])
def QGr (f:Nat):Value→Bool
 | .func (.func g) a b=>g==f&&a.isEmpty&&b.isEmpty
 | _=>false
theorem Qkc {f:Nat} {v:Value} (h:QGr f v=true):v= .func (.func f) #[] #[]:=by
 unfold QGr at h;split at h
 ·rename_i g a b;simp only[Bool.and_eq_true,beq_iff_eq,Array.isEmpty_iff]at h;obtain⟨⟨rfl,rfl⟩,rfl⟩:=h; rfl
 ·cases h
def QEV:Cod Prd:=⟨Prd.enc,fun d=>match d with
 | .fn 201 [] [.dat 1 [[.v (.int .i64 a)]] 0 0,.dat 1 [[.v (.int .i64 b)]] 0 0]=>some (.out a b)
 | .fn 189 [] [.dat 1 [[.v (.int .i64 a)]] 0 0,.dat 1 [[.v (.int .i64 b)]] 0 0]=>some (.outS a b)
 | .v v=>if QGr 194 v=true then some .neg else none
 | _=>none,fun d x h=>by
 split at h
 ·cases h; exact DImp.refl _
 ·cases h; exact DImp.refl _
 ·split at h
  ·rename_i hf;cases h;rw[Qkc hf]; exact DImp.refl _
  ·cases h
 ·cases h⟩
theorem QdG (n:Int):Qp7.enc n= .dat 1 [[DI n]] 0 0:=rfl
theorem QdI (n:Int):Qp7.dec (.dat 1 [[DI n]] 0 0)=some n:=rfl
def s88:List D→Option D:=sp3 QaY Qp7 Qp7 QaW fun n lo hi=>some (!inR n lo hi)
def QLE:List D→Option D:=sp3 QaY Qp7 Qp7 QaW fun n lo hi=>some (!inR n lo hi)
def s52:List D→Option D:=sp1 QaY QaW fun n=>some (decide (n < 0))
def p1:List (Nat×(List D→Option D)):=[(189,QLE),(201,s88),(194,s52)]
def s51:List D→Option D:=sp2 (QJ QH) QEV QaY fun l p=>if l.length≤35184372088832 then some (QBs p.is l)else none
theorem QrS {α:Type} (p:α→Bool) (l:List α):decide (0≤QBs p l)=l.any p:=by
 rcases Qeo p l with⟨e1,e2,_⟩ | ⟨k,hk,e1,e2,_⟩
 ·rw[e1,e2]; rfl
 ·rw[e1,e2]; simp
def p2:List (Nat×(List D→Option D)):=(193,s51)::p1
def s87:List D→Option D:=sp2 (QJ QH) QEV QaW fun l p=>if l.length≤35184372088832 then some (l.any p.is)else none
def p3:List (Nat×(List D→Option D)):=(179,s87)::p2
def Qk3 (lo hi:Int) (l:List Int):Bool:=l.any fun n=>!inR n lo hi
def s48:List D→Option D:=sp3 QaY QaY (QJ QH) QaW fun lo hi l=>if l.length≤35184372088832 then some (Qk3 lo hi l)else none
def QeV (l:List UInt8) (last:Int) (i:Nat):Int:=if i=0 then last else(l.getD (i - 1) 0).toNat
theorem Qmh:∀(l:List UInt8) (last:Int),QcL l last=true↔(∀i,i < l.length→(((l.getD i 0).toNat:Int)=45∨(97≤((l.getD i 0).toNat:Int)∧((l.getD i 0).toNat:Int)≤122))∧¬(((l.getD i 0).toNat:Int)=45∧QeV l last i=45))∧¬QeV l last l.length=45
 | [],last=>by simp[QcL,QeV]
 | x::t,last=>by
  have hfr:∀i,QeV (x::t) last (i+1)=QeV t x.toNat i:=by
   intro i;unfold QeV;cases i with
   | zero=>simp
   | succ i=>simp
  have ih:=Qmh t x.toNat;rw[QcL];by_cases h1:(x.toNat:Int)=45
  ·rw[if_pos h1];by_cases h2:last=45
   ·rw[if_pos h2];constructor
    ·intro h; cases h
    ·intro h; exact absurd ⟨by simpa using h1,by simpa[QeV]using h2⟩ (h.1 0 (by simp)).2
   ·rw[if_neg h2];rw[h1]at ih;rw[ih,List.length_cons,hfr,h1];constructor
    ·rintro⟨h,h'⟩;refine⟨fun i hi=>?_,h'⟩;cases i with
     | zero=>exact⟨.inl (by simpa using h1),fun hh=>h2 (by simpa[QeV]using hh.2)⟩
     | succ i=>rw[hfr,h1]; simpa using h i (by simpa using hi)
    ·rintro⟨h,h'⟩;refine⟨fun i hi=>?_,h'⟩;have:=h (i+1) (by simpa using hi)
     rw[hfr,h1]at this; simpa using this
  ·rw[if_neg h1];by_cases h2:(x.toNat:Int) < 97∨122 < (x.toNat:Int)
   ·rw[if_pos h2];constructor
    ·intro h; cases h
    ·intro h;have:=(h.1 0 (by simp)).1
     simp at this;omega
   ·rw[if_neg h2,ih,List.length_cons,hfr];constructor
    ·rintro⟨h,h'⟩;refine⟨fun i hi=>?_,h'⟩;cases i with
     | zero=>exact⟨.inr (by simp; omega),fun hh=>h1 (by simpa using hh.1)⟩
     | succ i=>rw[hfr]; simpa using h i (by simpa using hi)
    ·rintro⟨h,h'⟩;refine⟨fun i hi=>?_,h'⟩;have:=h (i+1) (by simpa using hi)
     rw[hfr]at this; simpa using this
theorem Qru (s:ByteArray) (i:Nat):QaL s i=((s.data.toList.getD i 0).toNat:Int):=by
 unfold QaL;by_cases h:i < s.size
 ·have h2:i < s.data.toList.length:=by simpa using h
  rw[Ql _ _ _ h2];simp[getElem?_pos,h];rfl
 ·have h2:s.data.toList.length≤i:=by simpa using h
  simp[List.getD,h2,getElem?_neg,h]
theorem QrW (s:ByteArray) (i:Nat):QzJ s i=true↔(QaL s i=45∨(97≤QaL s i∧QaL s i≤122))∧(0 < i→QaL s i=45→¬QaL s (i - 1)=45):=by
 unfold QzJ inR;by_cases h1:QaL s i=45<;>by_cases h2:0 < i<;>by_cases h3:QaL s (i - 1)=45<;>simp[h1,h2,h3]
theorem Qrg (s:ByteArray):Qbz s=true↔(1≤(s.size:Int)∧(s.size:Int)≤20)∧¬QaL s 0=45∧¬QaL s (s.size - 1)=45∧∀i,i < s.size→QzJ s i=true:=by
 unfold Qbz;simp[inR,and_assoc]
theorem QtA (s:ByteArray):Qbz s=Qop s:=by
 have hlen:s.data.toList.length=s.size:=by simp
 rw[Bool.eq_iff_iff,Qrg];unfold Qop;rw[Bool.and_eq_true,Qmh,hlen];simp only[←Qru,decide_eq_true_eq,QeV];constructor
 ·rintro⟨⟨h1,h2⟩,h3,h4,h5⟩;refine⟨⟨fun i hi=>?_,?_⟩,by omega⟩
  ·have:=(QrW s i).1 (h5 i hi);refine⟨this.1,?_⟩;by_cases hi0:i=0
   ·subst hi0; intro hh; exact h3 hh.1
   ·rw[if_neg hi0]; intro hh; exact this.2 (by omega) hh.1 hh.2
  ·rw[if_neg (by omega)]; exact h4
 ·rintro⟨⟨h1,h2⟩,h3⟩;have hs:¬s.size=0:=fun h=>by rw[if_pos h]at h2; exact h2 rfl
  rw[if_neg hs]at h2;refine⟨by omega,fun h=>(h1 0 (by omega)).2 ⟨h,by simp⟩,h2,fun i hi=>(QrW s i).2 ⟨(h1 i hi).1,fun hi0 hb hb2=>(h1 i hi).2 ⟨hb,by rw[if_neg (by omega)]; exact hb2⟩⟩⟩
theorem Qf1 {P:Program} {f:Nat} {ds:List D} {d:D} (h:∀(m:Nat→Nat→Prop) (w:World) (vs:List Value),(∀b o,m b o→b < w.heap.size)→GlobIn m w→RelL m w ds vs→∃v,Calls P f vs.toArray w (fun e w'=>e= .returned v∧Below w.heap.size w w')∧∀m' w',Rel m' w' d v):PureC P f ds d:=fun m w vs hm hG hr=>by
 obtain⟨v,h1,h2⟩:=h m w vs hm hG hr;exact h1.mono fun e w' ⟨he,hb⟩=>⟨v,fun _ _=>False,he,hb,fun b o h=>h.elim,h2 _ _⟩
def QAO (s:ByteArray):Prop:=s.size≤140737488355328
instance (s:ByteArray):Decidable (QAO s):=inferInstanceAs (Decidable (_≤_))
def s89:List D→Option D:=sp1 Qoe QaW fun s=>if QAO s then some (Qbz s)else none
theorem ok89:∀ds d,s89 ds=some d→PureC Tryz.prog 77 ds d:=Qbr fun s r hr=>by
 split at hr
 ·rename_i hs;cases hr;refine Qf1 fun m w vs hm hG hr=>?_;simp only[RelL,Rel,Qdr]at hr;obtain⟨v,t,rfl,rfl,rfl⟩:=hr;refine⟨_,QAp s w hs,fun m' w'=>?_⟩;rw[QtA,QkF];simp[Rel]
 ·cases hr
theorem QDx (xs:Array Value) (w:World):(callFunc 77 xs).run Tryz.prog w= .ok (.enter 77 xs) w:=by kernel_rfl
end Go.Proofs.YticoemblgkemiaaGreatDoor
namespace Go.Proofs.YticoemblgkemiaaGreatDoor
open Go.RowKit
noncomputable def QCf {α:Type} (k:Nat) (enc:α→List D) (inj:∀x y,enc x=enc y→x=y):Row α:=⟨k,enc,fun d=> @dite _ (∃x,enc x=d) (Classical.propDecidable _) (fun h=>some h.choose) (fun _=>none),fun x=>by
 have h:∃y,enc y=enc x:=⟨x,rfl⟩;rw[dif_pos h]; exact congrArg some (inj _ _ h.choose_spec),fun d x h=>by
 split at h
 ·rename_i hd;cases h;rw[hd.choose_spec]; exact LImp.refl _
 ·cases h⟩
def QbA (h n:Nat→Int) (v:Nat→Nat→Bool) (k:Nat):D:=if k < 8 then DI (h k)else if k < 16 then DI (n (k - 8))else DB (v ((k - 16) / 8) ((k - 16) % 8))
def QdW (h n:Nat→Int) (v:Nat→Nat→Bool):List D:=(List.range 80).map (QbA h n v)
theorem QX (h n:Nat→Int) (v:Nat→Nat→Bool):(QdW h n v).length=80:=by simp[QdW]
abbrev Sup:= {cs:List D // ∃h n v,cs=QdW h n v}
def Sup.of (h n:Nat→Int) (v:Nat→Nat→Bool):Sup:=⟨QdW h n v,h,n,v,rfl⟩
def QPK:D→Int
 | .v (.int .i64 x)=>x
 | _=>0
def QGK:D→Bool
 | .v (.bool x)=>x
 | _=>false
def Sup.h (s:Sup) (k:Nat):Int:=if k < 8 then QPK (s.1.getD k (DI 0))else 0
def Sup.n (s:Sup) (k:Nat):Int:=if k < 8 then QPK (s.1.getD (8+k) (DI 0))else 0
def Sup.v (s:Sup) (x t:Nat):Bool:=if x < 8∧t < 8 then QGK (s.1.getD (16+x*8+t) (DB false))else false
theorem Qol {h n:Nat→Int} {v:Nat→Nat→Bool} {k:Nat} (hk:k < 8):QbA h n v k=DI (h k):=by simp[QbA,hk]
theorem QpH {h n:Nat→Int} {v:Nat→Nat→Bool} {k:Nat} (hk:k < 8):QbA h n v (8+k)=DI (n k):=by
 unfold QbA; rw[if_neg (by omega),if_pos (by omega),show 8+k - 8=k by omega]
theorem QDl {h n:Nat→Int} {v:Nat→Nat→Bool} {x t:Nat} (hx:x < 8) (ht:t < 8):QbA h n v (16+x*8+t)=DB (v x t):=by
 unfold QbA; rw[if_neg (by omega),if_neg (by omega),show(16+x*8+t - 16) / 8=x by omega,show(16+x*8+t - 16) % 8=t by omega]
theorem Qqo {h n:Nat→Int} {v:Nat→Nat→Bool} {k:Nat} (hk:k < 80) (d:D):(QdW h n v).getD k d=QbA h n v k:=by
 simp[QdW,List.getD_eq_getElem?_getD,hk]
theorem QFc (h n:Nat→Int) (v:Nat→Nat→Bool) (k:Nat):(Sup.of h n v).h k=if k < 8 then h k else 0:=by
 unfold Sup.h Sup.of;split
 ·rename_i hk; dsimp only; rw[Qqo (by omega),Qol hk]; rfl
 ·rfl
theorem QGA (h n:Nat→Int) (v:Nat→Nat→Bool) (k:Nat):(Sup.of h n v).n k=if k < 8 then n k else 0:=by
 unfold Sup.n Sup.of;split
 ·rename_i hk; dsimp only; rw[Qqo (by omega),QpH hk]; rfl
 ·rfl
theorem QHT (h n:Nat→Int) (v:Nat→Nat→Bool) (x t:Nat):(Sup.of h n v).v x t=if x < 8∧t < 8 then v x t else false:=by
 unfold Sup.v Sup.of;split
 ·rename_i hk; dsimp only; rw[Qqo (by omega),QDl hk.1 hk.2]; rfl
 ·rfl
theorem QtF {h n h' n':Nat→Int} {v v':Nat→Nat→Bool} (e1:∀k,k < 8→h k=h' k) (e2:∀k,k < 8→n k=n' k) (e3:∀x t,x < 8→t < 8→v x t=v' x t):∀k,k < 80→QbA h n v k=QbA h' n' v' k:=by
 intro k hk;unfold QbA;split
 ·rename_i h1; rw[e1 k h1]
 ·split
  ·rw[e2 _ (by omega)]
  ·rw[e3 _ _ (by omega) (by omega)]
theorem Qt1 {h n h' n':Nat→Int} {v v':Nat→Nat→Bool} (e1:∀k,k < 8→h k=h' k) (e2:∀k,k < 8→n k=n' k) (e3:∀x t,x < 8→t < 8→v x t=v' x t):QdW h n v=QdW h' n' v':=
 List.map_congr_left fun k hk=>QtF e1 e2 e3 k (List.mem_range.1 hk)
theorem Sup.eq (s:Sup):s.1=QdW s.h s.n s.v:=by
 obtain⟨cs,h,n,v,rfl⟩:=s;refine Qt1 (fun k hk=>?_) (fun k hk=>?_) (fun x t hx ht=>?_)
 ·exact(((QFc h n v k)).trans (if_pos hk)).symm
 ·exact(((QGA h n v k)).trans (if_pos hk)).symm
 ·exact(((QHT h n v x t)).trans (if_pos ⟨hx,ht⟩)).symm
noncomputable def Qtl:Row Sup:=QCf 80 (fun s=>s.1) fun _ _ h=>Subtype.ext h
structure Bx where
 sup:Sup
 bats:List Bat
 lost:List Int
theorem QgI {α:Type} (r:Row α) {l l':List α} (h:l.map r.enc=l'.map r.enc):l=l':=by
 have h1:=Qbd r l r.k rfl;rw[h,Qbd r l' r.k rfl]at h1;exact(Option.some.inj h1).symm
noncomputable def rBx:Row Bx:=QCf 82 (fun x=>x.sup.1++[.sl 5 (x.bats.map QQ.enc),.sl 1 (x.lost.map QH.enc)]) fun x y h=>by
 obtain⟨s,b,l⟩:=x;obtain⟨s',b',l'⟩:=y;dsimp only at h;have hs:s.1.length=s'.1.length:=by rw[s.eq,s'.eq,QX,QX]
 obtain⟨h1,h2⟩:=List.append_inj h hs;simp only[List.cons.injEq,D.sl.injEq,true_and,and_true]at h2;rw[Subtype.ext h1,QgI QQ h2.1,QgI QH h2.2]
end Go.Proofs.YticoemblgkemiaaGreatDoor
namespace Go.Proofs.YticoemblgkemiaaGreatDoor
open Go.RowKit
structure Nrm (seen:Nat→Bool) (s:Fl):Prop where
 seen:∀x,8≤x→seen x=false
 has:∀x,8≤x→s.has x=0
 g:∀x y,8≤x∨8≤y→s.g x y=0
theorem Nrm.more {seen:Nat→Bool} {s:Fl} (h:Nrm seen s) {x t:Nat} (hx:x < 8) (ht:t < 8) (n:Int):Nrm seen (s.more x t n):=
 ⟨h.seen,h.has,fun a b hab=>by rw[QdC,if_neg (by omega)]; exact h.g a b hab⟩
theorem Nrm.turn {seen:Nat→Bool} {s:Fl} (h:Nrm seen s) {x o t:Nat} (hx:x < 8) (ho:o < 8) (ht:t < 8) (n:Int):Nrm seen (s.turn x o t n):=(h.more hx ho _).more hx ht _
theorem Nrm.take {seen:Nat→Bool} {s:Fl} (h:Nrm seen s) {x t:Nat} (hx:x < 8) (ht:t < 8) (n:Int):Nrm seen (s.take x t n):=by
 have h0:Nrm seen (⟨QZ s.has x (s.has x - n),s.g⟩:Fl):=⟨h.seen,fun y hy=>by
  show QZ s.has x _ y=0;rw[QXi _ _ (by omega)]; exact h.has y hy,h.g⟩
 exact h0.more hx ht n
end Go.Proofs.YticoemblgkemiaaGreatDoor
namespace Go.Proofs.YticoemblgkemiaaGreatDoor
open Go.RowKit
def noS:Nat→Bool:=fun _=>false
def fJ (nv:Nat→Nat→Bool) (t:Nat) (need:Int) (s:Fl):Nat→Int×Fl
 | 0=>(need,s)
 | q+1=>((fJ nv t need s q).1 - (QUU nv 8 t (fJ nv t need s q).1 noS (fJ nv t need s q).2).1,(QUU nv 8 t (fJ nv t need s q).1 noS (fJ nv t need s q).2).2.2)
end Go.Proofs.YticoemblgkemiaaGreatDoor
namespace Go.Proofs.YticoemblgkemiaaGreatDoor
open Go.RowKit
def Qi2:Cod Bat:=⟨fun x=> .dat 5 [QQ.enc x] 0 0,fun d=>match d with | .dat 5 [r] 0 0=>QQ.dec r | _=>none,fun d x h=>by
 split at h
 ·rename_i r;intro m w y hy;simp only[Rel]at hy⊢;obtain⟨h0,b,o,h1,h2⟩:=hy;refine⟨by simp,b,o,h1,?_⟩
  simp only[RelRows]at h2⊢;obtain⟨⟨h3,h4⟩,_⟩:=h2;exact⟨⟨rfl,(QQ.ed _ _ h).cells h4⟩,trivial⟩
 ·cases h⟩
def Qll (x y:Bat):Bool:=y.name.toList==x.name.toList
def s91:List D→Option D:=sp2 (Qcf QQ) Qi2 QaW fun y x=>some (Qll x y)
def QrI:Cod Bat:=⟨fun x=> .fn 234 [] [Qi2.enc x],fun d=>match d with | .fn 234 [] [y]=>Qi2.dec y | _=>none,fun d x h=>by
 split at h
 ·rename_i y;intro m w v hv;simp only[Rel,RelL]at hv⊢;obtain⟨fs,cs,h1,h2,u,t,h3,h4,h5⟩:=hv;exact⟨fs,cs,h1,h2,u,t,h3,Qi2.ed _ _ h _ _ _ h4,h5⟩
 ·cases h⟩
def q1:List (Nat×(List D→Option D)):=[(234,s91)]
def QOo:List D→Option D:=sp2 (QJ QQ) QrI QaY fun l x=>if l.length≤1000000 then some (QBs (Qll x) l)else none
def q2:List (Nat×(List D→Option D)):=[(258,QOo)]
end Go.Proofs.YticoemblgkemiaaGreatDoor
namespace Go.Proofs.YticoemblgkemiaaGreatDoor
open Go.RowKit
def s93:List D→Option D:=sp3 QaY (Qcf Qce) Qp7 QaW fun _ t i=>if 0≤i∧i≤1000000 then some (!inR t.fr 0 (i - 1))else none
def QDo (x:Bat) (k:Int) (t:Tak):Bool:=decide (0 < k)&&decide (t.fr≤(x.takes.getD (k - 1).toNat default).fr)
def s94:List D→Option D:=sp3 QaY (Qcf Qce) Qi2 QaW fun k t x=>if 0≤k∧k≤x.takes.length∧x.takes.length≤17592186044416 then some (QDo x k t)else none
def s95:List D→Option D:=sp2 QaY (Qcf Qce) QaW fun _ t=>some (!inR t.gr 1 100000)
inductive TPr where
 | none (i:Int)
 | asc (x:Bat)
 | rng
def TPr.is:TPr→Nat→Tak→Bool
 | .none i,_,t=>!inR t.fr 0 (i - 1)
 | .asc x,k,t=>QDo x k t
 | .rng,_,t=>!inR t.gr 1 100000
def TPr.enc:TPr→D
 | .none i=> .fn 235 [] [.dat 1 [[DI i]] 0 0]
 | .asc x=> .fn 236 [] [.dat 5 [QQ.enc x] 0 0]
 | .rng=> .v (.func (.func 237) #[] #[])
def TPr.ok:TPr→List Tak→Prop
 | .none i,_=>0≤i∧i≤1000000
 | .asc x,l=>l.length≤x.takes.length∧x.takes.length≤17592186044416
 | .rng,_=>True
instance (p:TPr) (l:List Tak):Decidable (p.ok l):=by cases p<;>(unfold TPr.ok; infer_instance)
def q3:List (Nat×(List D→Option D)):=[(235,s93),(236,s94),(237,s95)]
def QGn (x:Bat):Nat→Int
 | 0=>x.fresh
 | k+1=>IntKind.i64.wrap (QGn x k+(x.takes.getD k default).gr)
theorem QvE (x:Bat):QGn x 0=x.fresh:=rfl
attribute [local simp] QvE
def Qee (b:List Bat):Prop:=∀x∈b,QAO x.name
instance (b:List Bat):Decidable (Qee b):=inferInstanceAs (Decidable (∀x∈b,_))
def s49:List D→Option D:=sp2 (QJ QQ) QaY QaY fun b n=>if 0≤n∧n < b.length∧b.length≤8∧bkB b=true∧Qee b then some (QmK b n.toNat (b.getD n.toNat default))else none
end Go.Proofs.YticoemblgkemiaaGreatDoor
namespace Go.Proofs.YticoemblgkemiaaGreatDoor
open Go.RowKit
def Qek (b:List Bat):Bx:=⟨Sup.of (fun j=>(QT b).getD j 0) (fun j=>(QaD b).getD j 0) noN,b,Qae b⟩
noncomputable def s50:List D→Option D:=sp1 (QJ QQ) (Qcf rBx) fun b=>if BookOk b then some (Qek b)else none
end Go.Proofs.YticoemblgkemiaaGreatDoor
namespace Go.Proofs.YticoemblgkemiaaGreatDoor
open Go.RowKit
structure FA where
 t:Nat
 most:Int
 seen:Nat→Bool
 sup:Sup
 g:Nat→Nat→Int
 hs:∀x,8≤x→seen x=false
 hg:∀x y,8≤x∨8≤y→g x y=0
def FA.fl (a:FA):Fl:=⟨a.sup.h,a.g⟩
def QeR:List (Sum Nat D):=[.inl 1001,.inl 1002,.inl 1003]
attribute [local simp] QeR
structure FindOk (f:Nat) (a:FA):Prop where
 t:a.t < 8
 most:0 < a.most∧a.most≤1000000000
 cnt:Qi6 a.seen≤f
 ok:FlOk a.sup.v a.fl
 bd:∀x,a.sup.h x+QK 8 (a.g x)≤1000000000
noncomputable instance (f:Nat) (a:FA):Decidable (FindOk f a):=Classical.propDecidable _
end Go.Proofs.YticoemblgkemiaaGreatDoor
namespace Go.Proofs.YticoemblgkemiaaGreatDoor
open Go.RowKit
def QFe (s:Sup):Prop:=(∀x,0≤s.h x∧s.h x≤1000000)∧∀t,0≤s.n t∧s.n t≤1000000
noncomputable instance (s:Sup):Decidable (QFe s):=Classical.propDecidable _
theorem QqC (nv:Nat→Nat→Bool) (needs:Nat→Int) (s:Fl):Qbq nv needs s 0=(0,s):=rfl
attribute [local simp] QqC
theorem QEj (nv:Nat→Nat→Bool) (t:Nat) (need:Int) (s:Fl):fJ nv t need s 0=(need,s):=rfl
attribute [local simp] QEj
end Go.Proofs.YticoemblgkemiaaGreatDoor
namespace Go.Proofs.YticoemblgkemiaaGreatDoor
open Go.RowKit
def hL (s:Sup):List Int:=(List.range 8).map s.h
def nL (s:Sup):List Int:=(List.range 8).map s.n
def Qc2 (s:Sup):Bool:=!Qk3 0 100000 (hL s++nL s)&&decide (Qd2 s.v s.h s.n=0)
noncomputable def s53:List D→Option D:=sp1 (Qcf Qtl) QaW fun s=>some (Qc2 s)
end Go.Proofs.YticoemblgkemiaaGreatDoor
namespace Go.Proofs.YticoemblgkemiaaGreatDoor
open Go.RowKit
noncomputable def g17:List (Nat×(List D→Option D)):=[(133,s48),(192,s49),(134,s50),(193,s51),(138,s53)]
end Go.Proofs.YticoemblgkemiaaGreatDoor
namespace Go.Proofs.YticoemblgkemiaaGreatDoor
open Go.RowKit
end Go.Proofs.YticoemblgkemiaaGreatDoor
namespace Go.Proofs.YticoemblgkemiaaGreatDoor
open Go.RowKit
attribute [local simp] Quu QqG Quy Qw5 Qrb QxJ QEa QEx QGe Qry QKI QLz QMp Que QFL QGl QuE Qud Qy7 QGC Qty QAC QCa QAG Qz6 QzD QFa QE4 QEI QDV QH0 QGu QAH QeN Qrw X.known QM8 QoW Qor Qpu exA Qqz
def Qp2 (l:List Int) (s:Nat):Nat→(Nat→Bool)
 | 0=>fun _=>false
 | k+1=>QZ (Qp2 l s k) (l.getD k 0).toNat (Qc9 s k)
theorem Qzr (l:List Int) (s:Nat):Qp2 l s 0=fun _=>false:=rfl
attribute [local simp] Qzr
def Qv9 (l:List Int):Prop:=l.length≤3∧∀x∈l,0≤x∧x < 8
instance (l:List Int):Decidable (Qv9 l):=inferInstanceAs (Decidable (_∧_))
end Go.Proofs.YticoemblgkemiaaGreatDoor
namespace Go.Proofs.YticoemblgkemiaaGreatDoor
open Go.RowKit
structure BldAt (b:Nat) (v:Value) (bs:List Value) (w:World):Prop where
 blk:w.heap[b]?=some (.cells #[.pointer none,v] 220 (0,0))∨w.heap[b]?=some (.cells #[.pointer (some ⟨b,0,none⟩),v] 220 (0,0))
 own:w.ownsRow 0 5 1 v bs.length bs
 ne:v.ownBlock≠some b
theorem BldAt.is {b:Nat} {v:Value} {bs:List Value} {w:World} (h:BldAt b v bs w):Lib.IsBuilder 220 5 0 b bs w:=by
 rcases h.blk with h1 | h1
 ·exact .inl ⟨Nat.zero_le _,v,h1,h.own,h.ne⟩
 ·exact .inr ⟨Nat.zero_le _,v,h1,h.own,h.ne⟩
theorem BldAt.lt {b:Nat} {v:Value} {bs:List Value} {w:World} (h:BldAt b v bs w):b < w.heap.size:=by
 rcases h.blk with h1 | h1<;>exact(Array.getElem?_eq_some_iff.1 h1).1
theorem BldAt.keep {b:Nat} {v:Value} {bs:List Value} {w w':World} (h:BldAt b v bs w) (h1:w'.heap[b]?=w.heap[b]?) (h2:∀k,v.ownBlock=some k→w'.heap[k]?=w.heap[k]?):BldAt b v bs w':=by
 refine⟨by rw[h1]; exact h.blk,⟨h.own.1,?_⟩,h.ne⟩
 rcases h.own.2 with h3 | ⟨g,cap,cur,rfl,q1,q2,q3⟩
 ·exact .inl h3
 ·exact .inr ⟨g,cap,cur,rfl,q1,(h2 g rfl).trans q2,q3⟩
end Go.Proofs.YticoemblgkemiaaGreatDoor
namespace Go.Proofs.YticoemblgkemiaaGreatDoor
open Go.RowKit
def QDz (n:Nat):ByteArray:=⟨(Lib.decDigits n).toArray⟩
theorem QlH:∀(k u:Nat),1≤k→u < 10 ^ k→Lib.nDigits u≤k
 | 0,u,h,_=>by omega
 | k+1,u,_,h=>by
  rw[Lib.nDigits];split
  ·omega
  ·rename_i h10;have hk:1≤k:=by
    cases k with
    | zero=>simp at h; omega
    | succ k=>omega
   have:=QlH k (u / 10) hk (by rw[Nat.pow_succ]at h; omega)
   omega
theorem Qxy {n k:Nat} (hk:1≤k) (h:n < 10 ^ k):(QDz n).size≤k:=by
 have:=QlH k n hk h;unfold QDz;simp only[ByteArray.size,List.size_toArray,Lib.decDigits_length];exact this
def Qpm (s:ByteArray) (b:Int):Nat→List ByteArray×Nat
 | 0=>([],0)
 | i+1=>if QaL s i=b then((Qpm s b i).1++[s.extract (Qpm s b i).2 i],i+1)else Qpm s b i
def QJM (s:ByteArray) (b:Int):List ByteArray:=(Qpm s b s.size).1++[s.extract (Qpm s b s.size).2 s.size]
def digB (s:ByteArray) (i:Nat):Bool:=inR (QaL s i) 48 57
def Q0N (s:ByteArray):Nat→Int
 | 0=>0
 | i+1=>10*Q0N s i+(QaL s i - 48)
def QO3 (s:ByteArray):Int:=if inR s.size 1 6=false then -1 else if(List.range s.size).all (digB s)=true then Q0N s s.size else -1
def spB:ByteArray:=⟨#[32]⟩
def nlB:ByteArray:=⟨#[10]⟩
theorem Q2R:spB.size=1:=rfl
theorem Q2E:nlB.size=1:=rfl
def Qqx (b:List Bat) (x:Bat) (o:ByteArray):Nat→ByteArray
 | 0=>o
 | j+1=>Qqx b x o j++spB++(b.getD (x.takes.getD j default).fr.toNat default).name++spB++QDz (x.takes.getD j default).gr.toNat
@[simp] theorem textT_zero (b : List Bat) (x : Bat) (o : ByteArray) : Qqx b x o 0 = o := rfl
theorem QvU {s:ByteArray} (h:Qbz s=true):s.size≤20:=by
 unfold Qbz at h;simp only[Bool.and_eq_true,Qal]at h;omega
theorem QOf {n:Int} (h:n≤100000):(QDz n.toNat).size≤6:=Qxy (by omega) (by omega)
end Go.Proofs.YticoemblgkemiaaGreatDoor
namespace Go.Proofs.YticoemblgkemiaaGreatDoor
open Go.RowKit Go.Lib
theorem Qso {m:Nat→Nat→Prop} {w:World} (h:GlobIn m w):∃k,w.cell? ⟨0,0,none⟩=some (.int .i64 k):=by
 obtain⟨_,cs,ty,fr,h1,_,k,rfl⟩:=h _ (List.mem_cons_self ..);exact⟨k,by simp[World.cell?,h1]⟩
def Qou (n:Int):Prop:= -9223372036854775808≤n∧n≤9223372036854775807
instance (n:Int):Decidable (Qou n):=inferInstanceAs (Decidable (_∧_))
def QiO (s sep:ByteArray):List ByteArray:=splitB sep 0 (countB s sep) s
def Qfp (l:List ByteArray) (sep:ByteArray):ByteArray:=⟨(Lib.join (l.map (·.data.toList)) sep.data.toList).toArray⟩
end Go.Proofs.YticoemblgkemiaaGreatDoor
namespace Go.Proofs.YticoemblgkemiaaGreatDoor
open Go.RowKit Go.Lib
def Qlo:Value:= .iface 29 (.int .i64 6)
end Go.Proofs.YticoemblgkemiaaGreatDoor
