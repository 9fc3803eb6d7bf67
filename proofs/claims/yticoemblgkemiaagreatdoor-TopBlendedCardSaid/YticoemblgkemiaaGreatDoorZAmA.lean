/-
  The package variables of the program that library functions read: what they hold. No walk here. Conditions: none.
-/
import Derived.Lib.LaidTab
import Derived.Lib.ItoaNum
import Derived.Orders
import Derived.Below
import Derived.WalkKit
import Derived.Lib.Hide
import Derived.RangeFuncNested
import Derived.Maps.Own
import Derived.DeepKeys4
import Derived.WideKeyEntry
import Derived.Laws.BytesArg
import Derived.Room.Make
import Derived.RangeFuncCalls
import Derived.RangeFuncLeaves
import Derived.TacticsIn
import Derived.OrdersIn
set_option linter.unusedSectionVars false
set_option linter.unusedSimpArgs false
set_option linter.unusedVariables false
namespace Go.Proofs.YticoemblgkemiaaGreatDoor
def QLU:List (Nat×(Array Value→Prop)):=[(0,fun cs=>∃m,cs= #[.int .i64 m]),(1,fun cs=>cs=(Lib.pow10Tab.map fun z=>Value.int .u64 z).toArray),(2,fun cs=>∃t p,cs= #[.iface t p]),(3,fun cs=>∃t p,cs= #[.iface t p])]
def abL:List (Nat×Nat):=[(5,6)]
def QIi:List Nat:=[]
end Go.Proofs.YticoemblgkemiaaGreatDoor
namespace Go.Proofs.YticoemblgkemiaaGreatDoor
open Go.RowKit
inductive D where
 | top
 | v (x:Value)
 | agg (cs:List D)
 | tup (ds:List D)
 | sl (k:Nat) (rows:List (List D))
 | dat (k:Nat) (rows:List (List D)) (i off:Nat)
 | fn (f:Nat) (first caps:List D)
  /-- The address of a cell, which is known. -/
 | datA (b o k:Nat) (rows:List (List D)) (i off:Nat)
structure Gh where
 imm:Nat→Nat→Prop
 box:Nat→Option Nat
 tok:Nat→Option Nat
 used:Nat→Prop
mutual
def Rel (m:Nat→Nat→Prop) (w:World):D→Value→Prop
 | .top,_=>True
 | .v x,y=>y=x
 | .agg ds,y=>∃vs:List Value,y= .agg vs.toArray∧(∀v∈vs,v.oneCell'=true)∧RelL m w ds vs
 | .tup ds,y=>∃vs:List Value,y= .tuple vs.toArray∧RelL m w ds vs
 | .sl k rows,y=>rows.length≤140737488355328∧∃a c,y= .slice a rows.length c∧rows.length≤c∧(rows=[]∨∃b o,a=some ⟨b,o,none⟩∧RelRows m w rows b o k)
 | .dat k rows i off,y=>i < rows.length∧∃b o,y= .pointer (some ⟨b,o+(i*k+off),none⟩)∧RelRows m w rows b o k
 | .fn f first caps,y=>∃fs cs:List Value,y= .func (.func f) fs.toArray cs.toArray∧RelL m w first fs∧RelL m w caps cs
 | .datA b o k rows i off,y=>i < rows.length∧y= .pointer (some ⟨b,o+(i*k+off),none⟩)∧RelRows m w rows b o k
def RelL (m:Nat→Nat→Prop) (w:World):List D→List Value→Prop
 | [],vs=>vs=[]
 | d::ds,vs=>∃v t,vs=v::t∧Rel m w d v∧RelL m w ds t
def RelCells (m:Nat→Nat→Prop) (w:World):List D→Nat→Nat→Prop
 | [],_,_=>True
 | d::ds,b,o=>(∃v,m b o∧w.cell? ⟨b,o,none⟩=some v∧v.oneCell'=true∧Rel m w d v)∧RelCells m w ds b (o+1)
def RelRows (m:Nat→Nat→Prop) (w:World):List (List D)→Nat→Nat→Nat→Prop
 | [],_,_,_=>True
 | r::rs,b,o,k=>(r.length=k∧RelCells m w r b o)∧RelRows m w rs b (o+k) k
end
structure Base where
 w:World
 out:Nat→Option Nat
 tout:Nat→Option Nat:=fun _=>none
 fz:List (Nat×Obj):=[]
  /-- May loops over functions be entered? -/
 dOk:Prop:=True
  /-- Calls that were deferred before. -/
 df:List Deferred:=[]
def Base.writ (B:Base) (b:Nat):Prop:=(∃i,B.out i=some b)∨∃s,B.tout s=some b
abbrev Base.heap (B:Base):Array Obj:=B.w.heap
structure KeepsW (w:World) (q:Nat→Prop) (w':World):Prop where
 os:w'.os=w.os
 tape:w'.tape=w.tape
 output:w'.output=w.output
 size:w.heap.size≤w'.heap.size
 block:∀k,k < w.heap.size→¬q k→w'.heap[k]?=w.heap[k]?
def KeepN (w w':World):Prop:=∀(b:Nat) (o:Obj),w.heap[b]?=some o→o.isCells=false→w'.heap[b]?=some o
theorem KeepN.refl (w:World):KeepN w w:=fun _ _ h _=>h
theorem KeepN.trans {w w' w'':World} (h:KeepN w w') (k:KeepN w' w''):KeepN w w'':=fun b o h1 h2=>k b o (h b o h1 h2) h2
theorem KeepN.of_below {w w':World} (h:Below w.heap.size w w'):KeepN w w':=fun b o h1 _=>(h.block b (Array.getElem?_eq_some_iff.1 h1).1).trans h1
theorem KeepN.of_cells {w w':World} (q:Nat→Prop) (h:∀b,b < w.heap.size→¬q b→w'.heap[b]?=w.heap[b]?) (hq:∀b,q b→∃cs ty f,w.heap[b]?=some (.cells cs ty f)):KeepN w w':=fun b o h1 h2=>by
 by_cases hb:q b
 ·obtain⟨cs,ty,f,h3⟩:=hq b hb;rw[h3]at h1; cases h1; cases h2
 ·exact(h b (Array.getElem?_eq_some_iff.1 h1).1 hb).trans h1
abbrev QN8 (B:Base) (w':World):Prop:=KeepsW B.w B.writ w'
theorem KeepsW.refl (w:World) (q:Nat→Prop):KeepsW w q w:=⟨rfl,rfl,rfl,Nat.le_refl _,fun _ _ _=>rfl⟩
theorem KeepsW.trans {w0 w w':World} {q:Nat→Prop} (h:KeepsW w0 q w) (k:Below w0.heap.size w w'):KeepsW w0 q w':=
 ⟨k.os.trans h.os,k.tape.trans h.tape,k.output.trans h.output,Nat.le_trans h.size k.size,fun i hi hm=>(k.block i hi).trans (h.block i hi hm)⟩
theorem KeepsW.but {w0 w w':World} {p q:Nat→Prop} (h:KeepsW w0 p w) (k:KeepsW w q w') (hq:∀b,b < w0.heap.size→q b→p b):KeepsW w0 p w':=
 ⟨k.os.trans h.os,k.tape.trans h.tape,k.output.trans h.output,Nat.le_trans h.size k.size,fun i hi hm=>(k.block i (Nat.lt_of_lt_of_le hi h.size) (fun e=>hm (hq i hi e))).trans (h.block i hi hm)⟩
theorem KeepsW.below {w w':World} {q:Nat→Prop} (h:KeepsW w q w') (hq:∀k,¬q k):Below w.heap.size w w':=⟨h.os,h.tape,h.output,h.size,fun k hk=>h.block k hk (hq k)⟩
structure ExtM (m:Nat→Nat→Prop) (w:World) (m':Nat→Nat→Prop) (w':World):Prop where
 imm:∀b o,m b o→m' b o
 cell:∀b o,m b o→w'.cell? ⟨b,o,none⟩=w.cell? ⟨b,o,none⟩
def GlobIn (m:Nat→Nat→Prop) (w:World):Prop:=∀x∈QLU,(∀o,m x.1 o)∧∃cs ty fr,w.heap[x.1]?=some (.cells cs ty fr)∧0 < cs.size∧x.2 cs
theorem GlobIn.ext {m m':Nat→Nat→Prop} {w w':World} (h:GlobIn m w) (e:ExtM m w m' w'):GlobIn m' w':=by
 intro x hx;obtain⟨h1,cs,ty,fr,h2,h3,h4⟩:=h x hx;refine⟨fun o=>e.imm _ _ (h1 o),?_⟩;have hc:∀o,w'.cell? ⟨x.1,o,none⟩=cs[o]?:=fun o=>by
  rw[e.cell _ _ (h1 o)];simp[World.cell?,h2]
 have h0:=hc 0;rw[Array.getElem?_eq_getElem h3]at h0;unfold World.cell? at h0 hc;simp only at h0 hc;cases hb:w'.heap[x.1]? with
 | none=>rw[hb]at h0; cases h0
 | some ob=>
  rw[hb]at h0 hc;cases ob with
  | cells cs' ty' fr'=>
   refine⟨cs',ty',fr',rfl,?_⟩;have:cs'=cs:=Array.ext_getElem? fun i=>by simpa using hc i
   subst this;exact⟨h3,h4⟩
  | _=>simp at h0
theorem ExtM.refl (m:Nat→Nat→Prop) (w:World):ExtM m w m w:=⟨fun _ _ h=>h,fun _ _ _=>rfl⟩
theorem ExtM.trans {m m' m'':Nat→Nat→Prop} {w w' w'':World} (h:ExtM m w m' w') (k:ExtM m' w' m'' w''):ExtM m w m'' w'':=
 ⟨fun b o x=>k.imm b o (h.imm b o x),fun b o x=>(k.cell b o (h.imm b o x)).trans (h.cell b o x)⟩
mutual
theorem Rel.ext {m m':Nat→Nat→Prop} {w w':World} (e:ExtM m w m' w'):∀(d:D) (y:Value),Rel m w d y→Rel m' w' d y
 | .top,_,_=>by simp[Rel]
 | .v x,y,h=>by simpa[Rel]using h
 | .agg ds,y,h=>by
  simp only[Rel]at h⊢;obtain⟨vs,h1,h3,h2⟩:=h;exact⟨vs,h1,h3,RelL.ext e ds vs h2⟩
 | .tup ds,y,h=>by
  simp only[Rel]at h⊢;obtain⟨vs,h1,h2⟩:=h;exact⟨vs,h1,RelL.ext e ds vs h2⟩
 | .sl k rows,y,h=>by
  simp only[Rel]at h⊢;obtain⟨h0,a,c,h1,h2,h3⟩:=h;refine⟨h0,a,c,h1,h2,h3.imp id ?_⟩;rintro⟨b,o,ha,hr⟩;exact⟨b,o,ha,RelRows.ext e rows b o k hr⟩
 | .dat k rows i off,y,h=>by
  simp only[Rel]at h⊢;obtain⟨h0,b,o,h1,h2⟩:=h;exact⟨h0,b,o,h1,RelRows.ext e rows b o k h2⟩
 | .fn f first caps,y,h=>by
  simp only[Rel]at h⊢;obtain⟨fs,cs,h1,h2,h3⟩:=h;exact⟨fs,cs,h1,RelL.ext e first fs h2,RelL.ext e caps cs h3⟩
 | .datA b o k rows i off,y,h=>by
  simp only[Rel]at h⊢;obtain⟨h0,h1,h2⟩:=h;exact⟨h0,h1,RelRows.ext e rows b o k h2⟩
theorem RelL.ext {m m':Nat→Nat→Prop} {w w':World} (e:ExtM m w m' w'):∀(ds:List D) (vs:List Value),RelL m w ds vs→RelL m' w' ds vs
 | [],vs,h=>by simpa[RelL]using h
 | d::ds,vs,h=>by
  simp only[RelL]at h⊢;obtain⟨v,t,h1,h2,h3⟩:=h;exact⟨v,t,h1,Rel.ext e d v h2,RelL.ext e ds t h3⟩
theorem RelCells.ext {m m':Nat→Nat→Prop} {w w':World} (e:ExtM m w m' w'):∀(ds:List D) (b o:Nat),RelCells m w ds b o→RelCells m' w' ds b o
 | [],b,o,h=>by simp[RelCells]
 | d::ds,b,o,h=>by
  simp only[RelCells]at h⊢;obtain⟨⟨v,h1,h2,h5,h3⟩,h4⟩:=h;exact⟨⟨v,e.imm b o h1,(e.cell b o h1).trans h2,h5,Rel.ext e d v h3⟩,RelCells.ext e ds b (o+1) h4⟩
theorem RelRows.ext {m m':Nat→Nat→Prop} {w w':World} (e:ExtM m w m' w'):∀(rows:List (List D)) (b o k:Nat),RelRows m w rows b o k→RelRows m' w' rows b o k
 | [],b,o,k,h=>by simp[RelRows]
 | r::rs,b,o,k,h=>by
  simp only[RelRows]at h⊢;obtain⟨⟨h1,h2⟩,h3⟩:=h;exact⟨⟨h1,RelCells.ext e r b o h2⟩,RelRows.ext e rs b (o+k) k h3⟩
end
theorem RelL.length {m:Nat→Nat→Prop} {w:World} :∀{ds:List D} {vs:List Value},RelL m w ds vs→vs.length=ds.length
 | [],vs,h=>by simp only[RelL]at h; simp[h]
 | d::ds,vs,h=>by
  simp only[RelL]at h;obtain⟨v,t,rfl,_,h3⟩:=h;simp[h3.length]
theorem RelL.get {m:Nat→Nat→Prop} {w:World} :∀{ds:List D} {vs:List Value},RelL m w ds vs→∀(j:Nat) (d:D),ds[j]?=some d→∃v,vs[j]?=some v∧Rel m w d v
 | [],vs,h,j,d,hj=>by simp at hj
 | d0::ds,vs,h,j,d,hj=>by
  simp only[RelL]at h;obtain⟨v,t,rfl,h2,h3⟩:=h;cases j with
  | zero=>simp at hj; subst hj; exact⟨v,rfl,h2⟩
  | succ j=>exact h3.get j d (by simpa using hj)
theorem RelL.of {m:Nat→Nat→Prop} {w:World} :∀{ds:List D} {vs:List Value},vs.length=ds.length→(∀(j:Nat) (d:D) (v:Value),ds[j]?=some d→vs[j]?=some v→Rel m w d v)→RelL m w ds vs
 | [],vs,h,_=>by simp only[RelL]; exact List.length_eq_zero_iff.1 h
 | d0::ds,vs,h,hk=>by
  cases vs with
  | nil=>simp at h
  | cons v t=>
   simp only[RelL];exact⟨v,t,rfl,hk 0 d0 v rfl rfl,RelL.of (by simpa using h) fun j d v' h1 h2=>hk (j+1) d v' (by simpa using h1) (by simpa using h2)⟩
theorem RelL.sub {m:Nat→Nat→Prop} {w:World} {ds:List D} {vs:List Value} (h:RelL m w ds vs) (a n:Nat):RelL m w ((ds.drop a).take n) ((vs.drop a).take n):=by
 refine RelL.of (by simp[h.length]) fun j d v h1 h2=>?_
 rw[List.getElem?_take]at h1 h2;split at h1
 ·rw[if_pos (by assumption)]at h2
  rw[List.getElem?_drop]at h1 h2;obtain⟨v',h3,h4⟩:=h.get _ _ h1;rw[h3]at h2; cases h2; exact h4
 ·cases h1
theorem RelCells.get {m:Nat→Nat→Prop} {w:World} :∀{ds:List D} {b o:Nat},RelCells m w ds b o→∀(j:Nat) (d:D),ds[j]?=some d→∃v,m b (o+j)∧w.cell? ⟨b,o+j,none⟩=some v∧v.oneCell'=true∧Rel m w d v
 | [],b,o,h,j,d,hj=>by simp at hj
 | d0::ds,b,o,h,j,d,hj=>by
  simp only[RelCells]at h;obtain⟨⟨v,h1,h2,h5,h3⟩,h4⟩:=h;cases j with
  | zero=>simp at hj; subst hj; exact⟨v,h1,h2,h5,h3⟩
  | succ j=>have:=h4.get j d (by simpa using hj); rw[show o+(j+1)=o+1+j by omega]; exact this
theorem RelCells.of {m:Nat→Nat→Prop} {w:World} :∀{ds:List D} {b o:Nat},(∀(j:Nat) (d:D),ds[j]?=some d→∃v,m b (o+j)∧w.cell? ⟨b,o+j,none⟩=some v∧v.oneCell'=true∧Rel m w d v)→RelCells m w ds b o
 | [],b,o,_=>by simp[RelCells]
 | d0::ds,b,o,hk=>by
  simp only[RelCells];refine⟨by simpa using hk 0 d0 rfl,RelCells.of fun j d h=>?_⟩
  have:=hk (j+1) d (by simpa using h)
  rw[show o+(j+1)=o+1+j by omega]at this; exact this
theorem RelRows.get {m:Nat→Nat→Prop} {w:World} :∀{rows:List (List D)} {b o k:Nat},RelRows m w rows b o k→∀(i:Nat) (r:List D),rows[i]?=some r→r.length=k∧RelCells m w r b (o+i*k)
 | [],b,o,k,h,i,r,hi=>by simp at hi
 | r0::rs,b,o,k,h,i,r,hi=>by
  simp only[RelRows]at h;obtain⟨⟨h1,h2⟩,h3⟩:=h;cases i with
  | zero=>simp at hi; subst hi; exact⟨h1,by simpa using h2⟩
  | succ i=>have:=h3.get i r (by simpa using hi); rw[Nat.succ_mul,show o+(i*k+k)=o+k+i*k by omega]; exact this
theorem RelRows.of {m:Nat→Nat→Prop} {w:World} :∀{rows:List (List D)} {b o k:Nat},(∀(i:Nat) (r:List D),rows[i]?=some r→r.length=k∧RelCells m w r b (o+i*k))→RelRows m w rows b o k
 | [],b,o,k,_=>by simp[RelRows]
 | r0::rs,b,o,k,hk=>by
  simp only[RelRows];refine⟨by simpa using hk 0 r0 rfl,RelRows.of fun i r h=>?_⟩
  have:=hk (i+1) r (by simpa using h)
  rw[Nat.succ_mul,show o+(i*k+k)=o+k+i*k by omega]at this; exact this
theorem RelRows.sub {m:Nat→Nat→Prop} {w:World} {rows:List (List D)} {b o k:Nat} (h:RelRows m w rows b o k) (a n:Nat):RelRows m w ((rows.drop a).take n) b (o+a*k) k:=by
 refine RelRows.of fun i r hi=>?_;rw[List.getElem?_take]at hi;split at hi
 ·rw[List.getElem?_drop]at hi;have:=h.get _ _ hi;rw[Nat.add_mul]at this;rw[show o+a*k+i*k=o+(a*k+i*k) by omega]; exact this
 ·cases hi
theorem RelRows.append {m:Nat→Nat→Prop} {w:World} {rows rows':List (List D)} {b o k:Nat} (h:RelRows m w rows b o k) (h':RelRows m w rows' b (o+rows.length*k) k):RelRows m w (rows++rows') b o k:=by
 refine RelRows.of fun i r hi=>?_;rw[List.getElem?_append]at hi;split at hi
 ·exact h.get _ _ hi
 ·have:=h'.get _ _ hi;rw[Nat.add_assoc,←Nat.add_mul]at this;rw[show rows.length+(i - rows.length)=i by omega]at this; exact this
def eq1:Value→Value→Bool
 | .int k a,.int k' b=>decide (k=k')&&a==b
 | .bool a,.bool b=>a==b
 | .string a,.string b=>decide (a=b)
 | _,_=>false
def QIf:List Value→List Value→Bool
 | [],[]=>true
 | a::t,b::u=>eq1 a b&&QIf t u
 | _,_=>false
def eqK:Value→Value→Bool
 | .agg a,.agg b=>QIf a.toList b.toList
 | a,b=>eq1 a b
def sh1:Value→Nat
 | .int .i64 _=>1
 | .bool _=>2
 | .string _=>3
 | _=>4
def QNS:List Value→Nat
 | []=>0
 | v::t=>5*QNS t+sh1 v
def shK:Value→Nat
 | .agg cs=>5*QNS cs.toList
 | v=>sh1 v
def wf1:Value→Prop
 | .int k n=>(Lit.int k n).wf=true
 | .bool _=>True
 | .string s=>s.size≤maxLen
 | _=>False
def wfK:Value→Prop
 | .agg cs=>∀v∈cs.toList,wf1 v
 | v=>wf1 v
theorem QDn {a b:Value} (h:eq1 a b=true):a=b:=by
 unfold eq1 at h;split at h
 ·simp only[Bool.and_eq_true,decide_eq_true_eq,beq_iff_eq]at h; rw[h.1,h.2]
 ·simp only[beq_iff_eq]at h; rw[h]
 ·simp only[decide_eq_true_eq]at h; rw[h]
 ·cases h
theorem QsG {a:Value} (h:wf1 a):eq1 a a=true:=by
 cases a<;>first | exact h.elim | (simp[eq1]; done)
theorem QwT:∀{a b:List Value},QIf a b=true→a=b
 | [],[],_=>rfl
 | [],_::_,h=>by cases h
 | _::_,[],h=>by cases h
 | a::t,b::u,h=>by
  simp only[QIf,Bool.and_eq_true]at h;rw[QDn h.1,QwT h.2]
theorem Qpj:∀{a:List Value},(∀v∈a,wf1 v)→QIf a a=true
 | [],_=>rfl
 | a::t,h=>by
  simp only[List.mem_cons,forall_eq_or_imp]at h;simp only[QIf,QsG h.1,Qpj h.2,Bool.and_self]
theorem QKi {a b:Value} (h:eqK a b=true):a=b:=by
 unfold eqK at h;split at h
 ·have:=QwT h;rw[Array.ext' this]
 ·exact QDn h
theorem QB0 {a:Value} (h:wfK a):eqK a a=true:=by
 cases a<;>first | exact Qpj h | (simp only[eqK]; exact QsG h)
def QcG:List (Value×Value)→Value→Option Value
 | [],_=>none
 | (k,v)::t,x=>if eqK k x then some v else QcG t x
def MapAt (w:World) (M:Nat) (mc:Nat×List (Value×Value)):Prop:=
 ∃(l:Array MapEntry) (clock:Nat),w.heap[M]?=some (.map l clock)∧MapKept.Stamped l clock∧l.size≤mc.2.length∧(∀e∈l.toList,shK e.key=mc.1∧wfK e.key∧QcG mc.2 e.key=some e.val)∧∀x v,wfK x→QcG mc.2 x=some v→∃e∈l.toList,e.key=x
def Qgr (D:Nat):Deferred:= { target:= .collected D,args:= #[]}
inductive Own where
 | ex
 | tok (t:Nat)
  /-- A slice whose elements nobody else reads: it may be cut, appended to, and be overwritten. -/
 | own (t:Nat)
inductive BC where
 | d (x:D)
 | b (b off n k:Nat)
inductive X where
 | d (x:D)
 | loc (b off:Nat)
 | sl (k:Nat) (rows:List (List D)) (own:Own)
  /-- A struct that was built: a cell that is a nil slice is told by its value. -/
 | agz (cs:List D)
  /-- A function value that holds addresses of variables of the call's own. -/
 | fx (f:Nat) (first:List D) (caps:List (Sum Nat D))
  /-- A slice of n elements that lies in a variable of the call's own. -/
 | bs (b off n k:Nat)
  /-- A map. -/
 | mp (b:Nat)
  /-- A struct some of whose cells are slices that lie in variables of the call's own. -/
 | agb (cs:List BC)
def OwnAt (g:Gh) (w:World) (t k:Nat) (rows:List (List D)) (v:Value):Prop:=
 ∃a c,v= .slice a rows.length c∧rows.length≤c∧rows.length≤140737488355328∧((rows=[]∧c=0)∨∃b o,g.tok t=some b∧a=some ⟨b,o,none⟩∧((∀x,¬g.imm b x)∧o=0)∧
  ∃(cs:Array Value) (ty:TypeId),w.heap[b]?=some (.cells cs ty (0,0))∧o+c*k≤cs.size∧(∀r∈rows,r.length=k)∧
   ∃xs:List Value,xs.length=rows.length*k∧(∀j u,xs[j]?=some u→cs[o+j]?=some u∧u.oneCell'=true)∧RelL g.imm w rows.flatten xs)
def Room (g:Gh) (w:World) (base t n k:Nat) (v:Value):Prop:=
 ∃a c,v= .slice a n c∧(c=n∨∃b o,g.tok t=some b∧a=some ⟨b,o,none⟩∧(∀x,o+n*k≤x→¬g.imm b x)∧
  ∃(cs:Array Value) (ty:TypeId),w.heap[b]?=some (.cells cs ty (0,0))∧o+c*k≤cs.size)
def CapsR (g:Gh) (w:World):List (Sum Nat D)→List Value→Prop
 | [],vs=>vs=[]
 | .inl b::t,vs=>∃v vt,vs=v::vt∧(∃blk,g.box b=some blk∧v= .pointer (some ⟨blk,0,none⟩))∧CapsR g w t vt
 | .inr d::t,vs=>∃v vt,vs=v::vt∧Rel g.imm w d v∧CapsR g w t vt
def RelB (g:Gh) (w:World):List BC→List Value→Prop
 | [],vs=>vs=[]
 | .d x::t,vs=>∃v vt,vs=v::vt∧v.oneCell'=true∧Rel g.imm w x v∧RelB g w t vt
 | .b b off n _::t,vs=>∃v vt,vs=v::vt∧(∃blk c,g.box b=some blk∧v= .slice (some ⟨blk,off,none⟩) n c∧n≤c)∧RelB g w t vt
def Qc5:List BC→List Nat
 | []=>[]
 | .d _::t=>Qc5 t
 | .b b _ _ _::t=>b::Qc5 t
theorem RelB.map {g g':Gh} {w w':World} (hi:∀x v,Rel g.imm w x v→Rel g'.imm w' x v):∀{cs:List BC} {vs:List Value},(∀i∈Qc5 cs,∀b,g.box i=some b→g'.box i=some b)→RelB g w cs vs→RelB g' w' cs vs
 | [],_,_,h=>h
 | .d x::t,vs,hb,h=>by
  simp only[RelB]at h⊢;obtain⟨v,vt,h1,h2,h3,h4⟩:=h;exact⟨v,vt,h1,h2,hi _ _ h3,RelB.map hi (fun i hm=>hb i (by simpa[Qc5]using hm)) h4⟩
 | .b b off n k::t,vs,hb,h=>by
  simp only[RelB]at h⊢;obtain⟨v,vt,h1,⟨blk,c,h2,h3,h4⟩,h5⟩:=h;exact⟨v,vt,h1,⟨blk,c,hb b (by simp[Qc5]) _ h2,h3,h4⟩,RelB.map hi (fun i hm=>hb i (by simp[Qc5,hm])) h5⟩
theorem RelB.one {g:Gh} {w:World} :∀{cs:List BC} {vs:List Value},RelB g w cs vs→∀v∈vs,v.oneCell'=true
 | [],vs,h,v,hv=>by simp only[RelB]at h; subst h; cases hv
 | .d x::t,vs,h,v,hv=>by
  simp only[RelB]at h;obtain⟨u,vt,rfl,h2,_,h4⟩:=h;rcases List.mem_cons.1 hv with rfl | hv
  ·exact h2
  ·exact RelB.one h4 v hv
 | .b b off n k::t,vs,h,v,hv=>by
  simp only[RelB]at h;obtain⟨u,vt,rfl,⟨blk,c,_,rfl,_⟩,h4⟩:=h;rcases List.mem_cons.1 hv with rfl | hv
  ·rfl
  ·exact RelB.one h4 v hv
theorem RelB.box {g:Gh} {w:World} :∀{cs:List BC} {vs:List Value},RelB g w cs vs→∀b∈Qc5 cs,g.box b≠none
 | [],vs,h,b,hb=>by cases hb
 | .d x::t,vs,h,b,hb=>by
  simp only[RelB]at h;obtain⟨u,vt,_,_,_,h4⟩:=h;exact RelB.box h4 b (by simpa[Qc5]using hb)
 | .b c off n k::t,vs,h,b,hb=>by
  simp only[RelB]at h;obtain⟨u,vt,_,⟨blk,cc,h1,_,_⟩,h4⟩:=h;simp only[Qc5,List.mem_cons]at hb;rcases hb with rfl | hb
  ·rw[h1]; simp
  ·exact RelB.box h4 b hb
def RelX (g:Gh) (w:World) (base:Nat) (toks:List Nat):X→Value→Prop
 | .d x,v=>Rel g.imm w x v
 | .agz cs,v=>Rel g.imm w (.agg cs) v
 | .fx f first caps,v=>∃fs cs:List Value,v= .func (.func f) fs.toArray cs.toArray∧RelL g.imm w first fs∧CapsR g w caps cs
 | .loc b off,v=>∃blk,g.box b=some blk∧v= .pointer (some ⟨blk,off,none⟩)
 | .bs b off n _,v=>∃blk c,g.box b=some blk∧v= .slice (some ⟨blk,off,none⟩) n c∧n≤c
 | .sl k rows .ex,v=>Rel g.imm w (.sl k rows) v∧∃a,v= .slice a rows.length rows.length
 | .sl k rows (.tok t),v=>Rel g.imm w (.sl k rows) v∧g.used t∧(t∈toks→Room g w base t rows.length k v)
 | .sl k rows (.own t),v=>(∃a n c,v= .slice a n c)∧g.used t∧(t∈toks→OwnAt g w t k rows v)
 | .mp b,v=>∃blk,g.box b=some blk∧v= .map (some blk)
 | .agb cs,v=>∃vs:List Value,v= .agg vs.toArray∧RelB g w cs vs
def kpn (l:List Nat):List (Nat×Option Nat):=l.map fun x=>(x,none)
attribute [simp] kpn
end Go.Proofs.YticoemblgkemiaaGreatDoor
namespace Go.Proofs.YticoemblgkemiaaGreatDoor
open Go.RowKit
structure TyI where
 desc:TypeDesc
 size:Nat
 bytes:Nat
 zero:Value
def TyI.agg (i:TyI):Bool:=match i.desc with | .struct _=>true | .array _ _=>true | _=>false
abbrev Tys:=Nat→Option TyI
structure TyOk (P:Program) (T:TypeId) (i:TyI):Prop where
 und:P.underlying T=some i.desc
 inf:∃f,P.info? T=some f∧f.size=i.size∧f.bytes=i.bytes∧f.zero=some i.zero
 zsz:i.zero.cells.size=i.size
 zone:∀v∈i.zero.cells.toList,v.oneCell'=true
 zagg:i.agg=true→∃cs,i.zero= .agg cs
 zone1:i.agg=false→i.zero.oneCell'=true
def Qfq:Value→D
 | .slice none 0 0=> .sl 0 []
 | v=> .v v
def Qle:Value→X
 | .slice none 0 0=> .sl 0 [] .ex
 | .agg cs=>if cs.toList.all (·.oneCell')then .d (.agg (cs.toList.map Qfq))else .d .top
 | .tuple _=> .d .top
 | v=> .d (.v v)
def Qt {α:Type} :List (Nat×α)→Nat→Option α
 | [],_=>none
 | (k,x)::t,n=>if n=k then some x else Qt t n
structure St where
 tmps:List (Nat×X)
 boxes:List (Nat×List X)
 toks:List Nat
 maps:List (Nat×(Nat×List (Value×Value)))
def St.ev (σ:St):Operand→X
 | .tmp t=>(Qt σ.tmps t).getD (.d .top)
 | .const v=>Qle v
 | .func f=> .d (.v (.func (.func f) #[] #[]))
 | .global _=> .d .top
def Qlb:D→D
 | .v (.slice none 0 0)=> .sl 0 []
 | d=>d
def QBp:D→X
 | .v (.slice none 0 0)=> .sl 0 [] .ex
 | d=> .d d
def QCZ:D→Bool
 | .v (.slice none 0 0)=>true
 | _=>false
def bz (cs:List D):X:=if cs.any QCZ then .agz cs else .d (.agg cs)
def X.data:X→Option D
 | .agz cs=>some (.agg (cs.map Qlb))
 | .d x=>some x
 | .sl _ _ (.own _)=>none
 | .sl k rows .ex=>some (.sl k rows)
 | .sl k rows (.tok _)=>some (.sl k rows)
 | .loc _ _=>none
 | .fx _ _ _=>none
 | .bs _ _ _ _=>none
 | .mp _=>none
 | .agb _=>none
def BC.x:BC→X
 | .d y=> .d y
 | .b q off n k=> .bs q off n k
def X.cells:X→Option (List X)
 | .agz cs=>some (cs.map QBp)
 | .d (.agg cs)=>some (cs.map .d)
 | .d (.v x)=>if x.oneCell' then some [.d (.v x)]else none
 | .d (.sl k rows)=>some [.d (.sl k rows)]
 | .d (.dat k rows i off)=>some [.d (.dat k rows i off)]
 | .d (.fn f a b)=>some [.d (.fn f a b)]
 | .sl k rows o=>some [.sl k rows o]
 | .loc b o=>some [.loc b o]
 | .fx f a b=>some [.fx f a b]
 | .mp b=>some [.mp b]
 | .bs b off n k=>some [.bs b off n k]
 | .agb cs=>some (cs.map BC.x)
 | _=>none
def Qbp:List X→Option (List D)
 | []=>some []
 | x::t=>match x.data with
  | none=>none
  | some d=>match Qbp t with
   | none=>none
   | some ds=>some (d::ds)
def bcL:List X→Option (List BC)
 | []=>some []
 | .bs b off n k::t=>(match bcL t with | some r=>some (.b b off n k::r) | none=>none)
 | .d x::t=>(match bcL t with | some r=>some (.d x::r) | none=>none)
 | .sl k rows .ex::t=>(match bcL t with | some r=>some (.d (.sl k rows)::r) | none=>none)
 | .sl k rows (.tok _)::t=>(match bcL t with | some r=>some (.d (.sl k rows)::r) | none=>none)
 | _::_=>none
def Qgt (boxes:List (Nat×List X)):List (Sum Nat D)→Option (List D)
 | []=>some []
 | .inr d::t=>match Qgt boxes t with | some ds=>some (d::ds) | none=>none
 | .inl b::t=>match Qt boxes b with
  | some cs=>(match Qbp cs with
   | some ds=>(match Qgt boxes t with | some r=>some (.dat ds.length [ds] 0 0::r) | none=>none)
   | none=>none)
  | none=>none
def QhE (k:Nat):Nat→List D→List (List D)
 | 0,_=>[]
 | n+1,l=>l.take k::QhE k n (l.drop k)
def Qk9 (boxes:List (Nat×List X)) (b off n k:Nat):Option D:=
 match Qt boxes b with
 | none=>none
 | some cs=>if k=1∧off+n≤cs.length∧n≤140737488355328 then(match Qbp ((cs.drop off).take n)with | some ds=>some (.sl 1 (ds.map fun d=>[d])) | none=>none)
  else if 1 < k∧off+n*k≤cs.length∧n≤140737488355328 then(match Qbp ((cs.drop off).take (n*k))with | some ds=>some (.sl k (QhE k n ds)) | none=>none)else none
def Qdn (boxes:List (Nat×List X)):List BC→Option (List D)
 | []=>some []
 | .d x::t=>(match Qdn boxes t with | some r=>some (Qlb x::r) | none=>none)
 | .b b off n k::t=>(match Qk9 boxes b off n k,Qdn boxes t with | some d,some r=>some (d::r) | _,_=>none)
def X.snap (boxes:List (Nat×List X)):X→Option D
 | .agb cs=>(match Qdn boxes cs with | some ds=>some (.agg ds) | none=>none)
 | .fx f first caps=>match Qgt boxes caps with | some cs=>some (.fn f first cs) | none=>none
 | .d x=>some x
 | .sl _ _ (.own _)=>none
 | .sl k rows .ex=>some (.sl k rows)
 | .sl k rows (.tok _)=>some (.sl k rows)
 | .agz cs=>some (.agg (cs.map Qlb))
 | .loc _ _=>none
 | .bs b off n k=>Qk9 boxes b off n k
 | .mp _=>none
def QeD (boxes:List (Nat×List X)):List X→Option (List D)
 | []=>some []
 | x::t=>match x.snap boxes with
  | none=>none
  | some d=>match QeD boxes t with
   | none=>none
   | some ds=>some (d::ds)
def Qum:D→Bool
 | .v _=>true
 | _=>false
def QwQ:D→Bool
 | .v _=>true
 | .agg ds=>ds.all Qum
 | _=>false
def QxL:D→Bool
 | .tup ds=>ds.all QwQ
 | .v _=>true
 | .agg ds=>ds.all Qum
 | _=>false
def Qbx:List (Sum Nat D)→List Nat
 | []=>[]
 | .inl b::t=>b::Qbx t
 | .inr _::t=>Qbx t
def X.locs:X→List Nat
 | .loc b _=>[b]
 | .bs b _ _ _=>[b]
 | .mp b=>[b]
 | .agb cs=>Qc5 cs
 | .fx _ _ caps=>Qbx caps
 | _=>[]
theorem QeI {boxes boxes':List (Nat×List X)} :∀{caps:List (Sum Nat D)},(∀b∈Qbx caps,Qt boxes b=Qt boxes' b)→Qgt boxes caps=Qgt boxes' caps
 | [],_=>rfl
 | .inr d::t,h=>by simp only[Qgt]; rw[QeI (caps:=t) h]
 | .inl b::t,h=>by
  simp only[Qbx,List.mem_cons,forall_eq_or_imp]at h;simp only[Qgt]; rw[QeI (caps:=t) h.2,h.1]
theorem Qfu {boxes boxes':List (Nat×List X)} :∀{cs:List BC},(∀b∈Qc5 cs,Qt boxes b=Qt boxes' b)→Qdn boxes cs=Qdn boxes' cs
 | [],_=>rfl
 | .d x::t,h=>by simp only[Qdn]; rw[Qfu (cs:=t) h]
 | .b b off n k::t,h=>by
  simp only[Qc5,List.mem_cons,forall_eq_or_imp]at h;simp only[Qdn,Qk9]; rw[Qfu (cs:=t) h.2,h.1]
theorem QgP {boxes:List (Nat×List X)} :∀{cs:List BC} {ds:List D},Qdn boxes cs=some ds→∀b∈Qc5 cs,Qt boxes b≠none
 | [],_,_,b,hb=>by simp[Qc5]at hb
 | .d x::t,ds,h,b,hb=>by
  simp only[Qdn]at h;split at h
  ·rename_i r hr; exact QgP hr b hb
  ·cases h
 | .b c off n k::t,ds,h,b,hb=>by
  simp only[Qdn]at h;split at h
  ·rename_i d r hd hr;simp only[Qc5,List.mem_cons]at hb;rcases hb with rfl | hb
   ·intro hn;simp only[Qk9]at hd;rw[hn]at hd; cases hd
   ·exact QgP hr b hb
  ·cases h
theorem QqU {boxes boxes':List (Nat×List X)} {x:X} (h:∀b∈x.locs,Qt boxes b=Qt boxes' b):x.snap boxes=x.snap boxes':=by
 cases x with
 | fx f first caps=>simp only[X.snap]; rw[QeI (caps:=caps) h]
 | sl k rows own=>cases own<;>rfl
 | bs b off n k=>simp only[X.snap,Qk9]; rw[h b (by simp[X.locs])]
 | agb cs=>simp only[X.snap]; rw[Qfu (cs:=cs) h]
 | _=>rfl
theorem Qj7 {boxes boxes':List (Nat×List X)} :∀{xs:List X},(∀x∈xs,∀b∈x.locs,Qt boxes b=Qt boxes' b)→QeD boxes xs=QeD boxes' xs
 | [],_=>rfl
 | x::t,h=>by
  simp only[QeD];rw[QqU (h x (by simp)),Qj7 (xs:=t) fun y hy=>h y (by simp[hy])]
theorem QfZ {boxes:List (Nat×List X)} :∀{caps:List (Sum Nat D)} {ds:List D},Qgt boxes caps=some ds→∀b∈Qbx caps,Qt boxes b≠none
 | [],_,_,b,hb=>by simp[Qbx]at hb
 | .inr d::t,ds,h,b,hb=>by
  simp only[Qgt]at h;split at h
  ·rename_i r hr; exact QfZ hr b hb
  ·cases h
 | .inl c::t,ds,h,b,hb=>by
  simp only[Qgt]at h;split at h
  ·rename_i cs hcs;split at h
   ·split at h
    ·rename_i r hr;simp only[Qbx,List.mem_cons]at hb;rcases hb with rfl | hb
     ·rw[hcs]; simp
     ·exact QfZ hr b hb
    ·cases h
   ·cases h
  ·cases h
theorem QtJ {boxes:List (Nat×List X)} {x:X} {d:D} (h:x.snap boxes=some d):∀b∈x.locs,Qt boxes b≠none:=by
 intro b hb;cases x with
 | fx f first caps=>
  simp only[X.snap]at h;split at h
  ·rename_i cs hcs; exact QfZ hcs b hb
  ·cases h
 | loc c o=>cases h
 | bs c o n k=>
  simp only[X.locs,List.mem_singleton]at hb;subst hb;intro hn;simp only[X.snap,Qk9]at h;rw[hn]at h; cases h
 | mp c=>cases h
 | agb cs=>
  simp only[X.snap]at h;split at h
  ·rename_i cs' hcs; exact QgP hcs b hb
  ·cases h
 | _=>simp[X.locs]at hb
theorem Qlw {boxes:List (Nat×List X)} :∀{xs:List X} {ds:List D},QeD boxes xs=some ds→∀x∈xs,∀b∈x.locs,Qt boxes b≠none
 | [],_,_,x,hx=>by simp at hx
 | y::t,ds,h,x,hx=>by
  simp only[QeD]at h;split at h
  ·cases h
  ·rename_i d hd;split at h
   ·cases h
   ·rename_i r hr;rcases List.mem_cons.1 hx with rfl | hx
    ·exact QtJ hd
    ·exact Qlw hr x hx
theorem QyM {x:X} {d:D} (h:x.data=some d):x.locs=[]:=by
 cases x with
 | loc c o=>cases h
 | bs c o n k=>cases h
 | mp c=>cases h
 | agb cs=>cases h
 | fx f first caps=>cases h
 | _=>rfl
theorem Ql3:∀{xs:List X} {ds:List D},Qbp xs=some ds→∀x∈xs,x.locs=[]
 | [],_,_,x,hx=>by simp at hx
 | y::t,ds,h,x,hx=>by
  simp only[Qbp]at h;split at h
  ·cases h
  ·rename_i d hd;split at h
   ·cases h
   ·rename_i r hr;rcases List.mem_cons.1 hx with rfl | hx
    ·exact QyM hd
    ·exact Ql3 hr x hx
def QiL:List X→Option (List (Sum Nat D))
 | []=>some []
 | .loc b 0::t=>match QiL t with | some cs=>some (.inl b::cs) | none=>none
 | .d (.dat k rows i off)::t=>match QiL t with | some cs=>some (.inr (.dat k rows i off)::cs) | none=>none
 | _::_=>none
def Ql8:List (Sum Nat D)→Option (List D)
 | []=>some []
 | .inr d::t=>match Ql8 t with | some ds=>some (d::ds) | none=>none
 | .inl _::_=>none
def QN1 (f:Nat) (first:List D) (caps:List (Sum Nat D)):X:=
 match Ql8 caps with
 | some ds=> .d (.fn f first ds)
 | none=> .fx f first caps
def QCg (fn:Fn) (first caps:List X):Option X:=
 match fn with
 | .func f=>match Qbp first,QiL caps with
  | some ds,some cs=>some (QN1 f ds cs)
  | _,_=>none
 | _=>none
def iop (op:BinOp) (k:IntKind) (a b:Int):Option Value:=
 match op with
 | .add=>some (.int k (k.wrap (a+b)))
 | .sub=>some (.int k (k.wrap (a - b)))
 | .mul=>some (.int k (k.wrap (a*b)))
 | .quo=>if b=0 then none else some (.int k (k.wrap (a.tdiv b)))
 | .rem=>if b=0 then none else some (.int k (a.tmod b))
 | .and=>some (.int k (bits .and k a b))
 | .or=>some (.int k (bits .or k a b))
 | .xor=>some (.int k (bits .xor k a b))
 | .andNot=>some (.int k (bits .andNot k a b))
 | .eql=>some (.bool (a==b))
 | .neq=>some (.bool (a != b))
 | .lss=>some (.bool (decide (a < b)))
 | .leq=>some (.bool (decide (a≤b)))
 | .gtr=>some (.bool (decide (b < a)))
 | .geq=>some (.bool (decide (b≤a)))
 | _=>none
def sop (op:BinOp) (x y:ByteArray):Option Value:=
 match op with
 | .add=>if x.size+y.size≤9223372036854775807 then some (.string (x++y))else none
 | .eql=>some (.bool (x.toList==y.toList))
 | .neq=>some (.bool (!(x.toList==y.toList)))
 | _=>none
def vop (op:BinOp) (isBool:Bool):Value→Value→Option Value
 | .int k a,.int k' b=>match op with
  | .shl=>if 0≤b then some (.int k (k.wrap (a*2 ^ (min b.toNat k.bits))))else none
  | .shr=>if 0≤b then some (.int k (a / 2 ^ (min b.toNat k.bits)))else none
  | op=>if k=k' then iop op k a b else none
 | .string x,.string y=>sop op x y
 | .bool a,.bool b=>match op,isBool with
  | .eql,true=>some (.bool (a==b))
  | .neq,true=>some (.bool (a != b))
  | _,_=>none
 | _,_=>none
def Qc8:List D→Option (List Value)
 | []=>some []
 | .v (.int .i64 n)::t=>(Qc8 t).map (.int .i64 n:: ·)
 | .v (.bool b)::t=>(Qc8 t).map (.bool b:: ·)
 | .v (.string b)::t=>(Qc8 t).map (.string b:: ·)
 | _::_=>none
def Qfs:Value→Int
 | .int _ n=>n
 | .bool b=>if b then 1 else 0
 | _=>0
def Qcw:List Value→Nat
 | []=>0
 | .int .i64 _::t=>4*Qcw t+1
 | .bool _::t=>4*Qcw t+2
 | .string _::t=>4*Qcw t+3
 | _::t=>4*Qcw t+4
def isS:Value→Bool
 | .string _=>true
 | _=>false
def QK3:List Value→List Value→Bool
 | [],[]=>true
 | .string a::s,.string b::t=>(a.toList==b.toList)&&QK3 s t
 | x::s,y::t=>(Qfs x==Qfs y)&&QK3 s t
 | _,_=>false
def eqV (a b:List Value):Bool:=if a.any isS then QK3 a b else a.map Qfs==b.map Qfs
def neV (a b:List Value):Bool:=if a.any isS then !QK3 a b else a.map Qfs != b.map Qfs
def TyI.isBool (i:TyI):Bool:=match i.desc with | .bool=>true | _=>false
def QNA (Γ:Tys) (eqs:List (TypeId×Nat)) (op:BinOp) (T:TypeId) (x y:X):Option X:=
 match x,y with
 | .d (.v a),.d (.v b)=>match vop op (match Γ T with | some i=>i.isBool | none=>false) a b with
  | some z=>some (.d (.v z))
  | none=>none
 | .d (.agg xs),.d (.agg ys)=>match Qt eqs T,Qc8 xs,Qc8 ys with
   | some n,some a,some b=>if Qcw a=n∧Qcw b=n then(match op with
    | .eql=>some (.d (.v (.bool (eqV a b))))
    | .neq=>some (.d (.v (.bool (neV a b))))
    | _=>none)else none
   | _,_,_=>none
 | _,_=>none
def aUn (op:UnOp) (x:X):Option X:=
 match op,x with
 | .neg,.d (.v (.int k n))=>some (.d (.v (.int k (k.wrap (0 - n)))))
 | .not,.d (.v (.bool b))=>some (.d (.v (.bool (!b))))
 | _,_=>none
def Qtn (Γ:Tys) (src dst:TypeId) (x:X):Option X:=
 match Γ src,Γ dst,x with
 | some _,some i,.d (.v (.int _ n))=>match i.desc with
  | .int k=>some (.d (.v (.int k (k.wrap n))))
  | _=>none
 | _,_,_=>none
def QkO (Γ:Tys) (T:TypeId) (x:X) (boxes:List (Nat×List X)):Option X:=
 match Γ T with
 | none=>none
 | some i=>match x with
  | .loc b off=>match Qt boxes b with
   | none=>none
   | some cs=>if i.agg then(if off+i.size≤cs.length then(match Qbp ((cs.drop off).take i.size)with | some ds=>some (.d (.agg ds)) | none=>(match bcL ((cs.drop off).take i.size)with | some bs=>some (.agb bs) | none=>none))else none)else cs[off]?
  | .d (.dat _ rows r off)=>match rows[r]? with
   | none=>none
   | some row=>if i.agg then(if off+i.size≤row.length then some (.d (.agg ((row.drop off).take i.size)))else none)else(match row[off]? with | some d=>some (.d d) | none=>none)
  | _=>none
def X.soft:X→X
 | .d (.datA _ _ k rows i off)=> .d (.dat k rows i off)
 | x=>x
def Qm8 (Γ:Tys) (T:TypeId) (x:X) (boxes:List (Nat×List X)):Option X:=QkO Γ T x.soft boxes
def Qv6 (Γ:Tys) (T:TypeId) (cs:List D) (off:Nat):Option D:=
 match Γ T with
 | none=>none
 | some i=>if i.agg then(if off+i.size≤cs.length then some (.agg ((cs.drop off).take i.size))else none)else cs[off]?
def TyI.field (i:TyI) (f:Nat):Option Field:=match i.desc with | .struct fs=>fs[f]? | _=>none
def TyI.elem (i:TyI):Option TypeId:=match i.desc with | .slice e=>some e | _=>none
def Qsq (Γ:Tys) (T:TypeId) (x:X) (f:Nat):Option X:=
 match Γ T,x with
 | some i,.d (.agg cs)=>match i.field f with
  | some fl=>match Qv6 Γ fl.type cs fl.offset with | some d=>some (.d d) | none=>none
  | none=>none
 | _,_=>none
def QfY (Γ:Tys) (T:TypeId) (x:X) (f:Nat):Option X:=
 match Γ T with
 | none=>none
 | some i=>match i.field f with
  | none=>none
  | some fl=>match Γ fl.type with
   | none=>none
   | some j=>if j.size=0 then none else match x with
    | .loc b off=>some (.loc b (off+fl.offset))
    | .d (.dat k rows r off)=>some (.d (.dat k rows r (off+fl.offset)))
    | .d (.datA b o k rows r off)=>some (.d (.datA b o k rows r (off+fl.offset)))
    | _=>none
def X.rows:X→Option (Nat×List (List D))
 | .d (.sl k rows)=>some (k,rows)
 | .sl k rows .ex=>some (k,rows)
 | .sl k rows (.tok _)=>some (k,rows)
 | _=>none
def X.int:X→Option Int
 | .d (.v (.int _ n))=>some n
 | _=>none
def bytesOf:List (List D)→Option (List Int)
 | []=>some []
 | [.v (.int .u8 n)]::t=>(match bytesOf t with
  | some ns=>some (n::ns)
  | none=>none)
 | _=>none
def Qtc (Γ:Tys) (src dst:TypeId) (x:X):Option X:=
 match Γ src,Γ dst,x.rows with
 | some i,some j,some (_,rows)=>(match i.desc,j.desc with
  | .slice e,.string=>(match Γ e with
   | some je=>(match je.desc,bytesOf rows with
    | .int .u8,some (n::ns)=>some (.d (.v (.string (strOfNums (n::ns)))))
    | _,_=>none)
   | none=>none)
  | _,_=>none)
 | _,_,_=>none
def QBG (Γ:Tys) (src dst:TypeId) (x:X):Option X:=
 match Qtn Γ src dst x with
 | some z=>some z
 | none=>Qtc Γ src dst x
def X.inBox:X→Option (Nat×Nat×Nat×Nat)
 | .bs b off n k=>some (b,off,n,k)
 | _=>none
def QfU (Γ:Tys) (T:TypeId) (x ix:X):Option X:=
 match Γ T,ix.int with
 | some i,some n=>match i.desc with
  | .slice e=>match x.inBox with
   | some (b,off,m,k)=>(match Γ e with
    | some j=>if 0≤n∧n < m∧j.size=k then some (.loc b (off+n.toNat*k))else none
    | none=>none)
   | none=>match x.rows,Γ e with
    | some (k,rows),some j=>if 0≤n∧n < rows.length∧j.size=k then some (.d (.dat k rows n.toNat 0))else none
    | _,_=>none
  | .array len e=>match x,Γ e with
   | .loc b off,some j=>if 0≤n∧n < len then some (.loc b (off+n.toNat*j.size))else none
   | .d (.dat k rows r off),some j=>if 0≤n∧n < len then some (.d (.dat k rows r (off+n.toNat*j.size)))else none
   | _,_=>none
  | _=>none
 | _,_=>none
def QaL (s:ByteArray) (i:Nat):Int:=((s[i]?.getD 0).toNat:Int)
def QsZ (Γ:Tys) (T:TypeId) (x ix:X):Option X:=
 match Γ T,ix.int with
 | some i,some n=>match i.desc,x with
  | .string,.d (.v (.string s))=>if 0≤n∧n < s.size then some (.d (.v (.int .u8 (QaL s n.toNat))))else none
  | .array len e,.d (.agg cs)=>match Γ e with
   | some j=>if 0≤n∧n < len then(match Qv6 Γ e cs (n.toNat*j.size)with | some d=>some (.d d) | none=>none)else none
   | none=>none
  | _,_=>none
 | _,_=>none
def QdR:Option X→Int→Option Int
 | none,d=>some d
 | some x,_=>x.int
def QsY (Γ:Tys) (T:TypeId) (x:X) (lo hi mx:Option X):Option X:=
 match mx with
 | some _=>none
 | none=>match Γ T with
  | none=>none
  | some i=>match i.desc with
   | .slice e=>match Γ e,x.rows with
    | some j,some (k,rows)=>match QdR lo 0,QdR hi rows.length with
     | some l,some h=>if 0≤l∧l≤h∧h≤rows.length∧j.size=k then some (.d (.sl k ((rows.drop l.toNat).take (h.toNat - l.toNat))))else none
     | _,_=>none
    | _,_=>none
   | .string=>match x with
    | .d (.v (.string s))=>match QdR lo 0,QdR hi s.size with
     | some l,some h=>if 0≤l∧l≤h∧h≤s.size then some (.d (.v (.string (s.extract l.toNat h.toNat))))else none
     | _,_=>none
    | _=>none
   | .array len e=>match x,Γ e with
    | .loc b off,some j=>(match QdR lo 0,QdR hi len with
     | some l,some h=>if 0≤l∧l≤h∧h≤len∧j.size=1 then some (.bs b (if l < len then off+l.toNat else off) (h.toNat - l.toNat) 1)else none
     | _,_=>none)
    | .d (.dat _ rows r off),some j=>(match rows[r]?,QdR lo 0,QdR hi len with
     | some row,some l,some h=>if 0≤l∧l≤h∧h≤len∧l < len∧j.size=1∧off+len≤row.length∧len≤140737488355328 then some (.d (.sl 1 (((row.drop (off+l.toNat)).take (h.toNat - l.toNat)).map fun d=>[d])))else none
     | _,_,_=>none)
    | _,_=>none
   | _=>none
def Qjp (x:X) (ix:Nat):Option X:=
 match x with
 | .d (.tup ds)=>match ds[ix]? with | some d=>some (.d d) | none=>none
 | _=>none
def QND (Γ:Tys) (T:TypeId) (x:X):Option X:=
 match Γ T with
 | none=>none
 | some i=>match i.desc with
  | .slice _=>match x.inBox with
   | some (_,_,m,_)=>some (.d (.v (.int .i64 m)))
   | none=>match x.rows with | some (_,rows)=>some (.d (.v (.int .i64 rows.length))) | none=>none
  | .string=>match x with | .d (.v (.string s))=>some (.d (.v (.int .i64 s.size))) | _=>none
  | .array n _=>some (.d (.v (.int .i64 n)))
  | _=>none
def QEn (c a b:X):Option X:=
 match c with
 | .d (.v (.bool true))=>some a
 | .d (.v (.bool false))=>some b
 | _=>none
def QN0 (x:X):Option X:=
 match x with
 | .loc b off=>some (.loc b off)
 | .d (.dat k rows i off)=>some (.d (.dat k rows i off))
 | .d (.datA b o k rows i off)=>some (.d (.datA b o k rows i off))
 | _=>none
def QkT (isMax:Bool) (x y:X):Option X:=
 match x,y with
 | .d (.v (.int k a)),.d (.v (.int k' b))=>some (.d (.v (.int k (if isMax then(if a < b then b else a)else(if b < a then b else a)))))
 | _,_=>none
def QjG (place:Nat→Option (Nat×Nat)):List D→List (Nat×X)→Option (List D)
 | cells,[]=>some cells
 | cells,(i,x)::rest=>match place i,x.cells with
  | some (off,size),some xs=>match Qbp xs with
   | some ds=>if ds.length=size∧off+ds.length≤cells.length then QjG place (cells.take off++ds++cells.drop (off+ds.length)) rest else none
   | none=>none
  | _,_=>none
def QtP (place:Nat→Option (Nat×Nat)):List BC→List (Nat×X)→Option (List BC)
 | cells,[]=>some cells
 | cells,(i,x)::rest=>match place i,x.cells with
  | some (off,size),some xs=>match bcL xs with
   | some ds=>if ds.length=size∧off+ds.length≤cells.length then QtP place (cells.take off++ds++cells.drop (off+ds.length)) rest else none
   | none=>none
  | _,_=>none
def TyI.zeroD (i:TyI):List D:=i.zero.cells.toList.map Qfq
def TyI.zeroZ (i:TyI):List D:=i.zero.cells.toList.map .v
def Qim (Γ:Tys):List Field→Option (List (Nat×Nat))
 | []=>some []
 | f::t=>match Γ f.type,Qim Γ t with
  | some j,some ps=>some ((f.offset,j.size)::ps)
  | _,_=>none
def QsB (Γ:Tys) (T:TypeId) (parts:List (Nat×X)):Option X:=
 match Γ T with
 | none=>none
 | some i=>match i.desc with
  | .struct fs=>match Qim Γ fs.toList with
   | some ps=>match QjG (fun n=>ps[n]?) i.zeroZ parts with
    | some cs=>some (bz cs)
    | none=>(match QtP (fun n=>ps[n]?) (i.zeroZ.map .d) parts with
     | some cs=>some (.agb cs)
     | none=>none)
   | none=>none
  | .array _ e=>match Γ e with
   | some j=>match QjG (fun n=>some (n*j.size,j.size)) i.zeroZ parts with
    | some cs=>some (bz cs)
    | none=>none
   | none=>none
  | _=>none
def Qlz (z:List D) (n:Nat):List D:=(List.range (n*z.length)).map fun i=>(z[i % z.length]?).getD .top
def QgN (Γ:Tys) (T:TypeId) (n:Nat) (parts:List (Nat×X)):Option (Nat×List (List D)):=
 match Γ T with
 | none=>none
 | some i=>match i.elem with
  | none=>none
  | some e=>match Γ e with
   | none=>none
   | some j=>if 0 < j.size∧n*j.size≤16777216 then
     match QjG (fun n=>some (n*j.size,j.size)) (Qlz j.zeroD n) parts with
     | some cs=>some (j.size,QhE j.size n cs)
     | none=>none
    else none
structure NewC where
 cells:List X
 sh:Option (Nat×Nat)
def NewC.x (c:NewC) (d:Nat):X:=match c.sh with | none=> .loc d 0 | some (n,k)=> .bs d 0 n k
inductive Res where
 | q (x:X)
 | skip
 | new (cs:NewC)
 | lay (k:Nat) (rows:List (List D))
 | set (b off:Nat) (cs:List X)
 | app (t:Option Nat) (k:Nat) (rows:List (List D))
 | got (d:D)
def Res.ofX:Option X→Option Res
 | some x=>some (.q x)
 | none=>none
def Own.isEx:Own→Bool
 | .ex=>true
 | .tok _=>false
 | .own _=>false
def QpI (toks:List Nat):Own→Option (Option Nat)
 | .ex=>some none
 | .own _=>none
 | .tok t=>if toks.any (fun z=>z==t)then some (some t)else none
def QCb:Operand→Bool
 | .func g=>QIi.contains g
 | _=>false
def Qsz:D→Option Res
 | .sl k rows=>some (.app none k rows)
 | _=>none
theorem Qqu {d:D} {r:Res} (h:Qsz d=some r):∃k rows,d= .sl k rows∧r= .app none k rows:=by
 unfold Qsz at h;split at h
 ·simp only[Option.some.injEq]at h; exact⟨_,_,rfl,h.symm⟩
 ·cases h
def QgU (Γ:Tys) (T T':TypeId) (s x:X) (toks:List Nat):Option Res:=
 match Γ T with
 | some i=>match i.elem with
  | some e=>match Γ e,s,x.rows with
   | some j,.sl k rows own,some (k',rows')=>
    if T=T'∧0 < j.size∧(k=j.size∨(own.isEx=true∧rows=[]))∧(rows'=[]∨k'=j.size)∧rows.length+rows'.length≤140737488355328∧(rows.length+rows'.length)*j.bytes≤140737488355328 then
     match QpI toks own with
     | some t=>some (.app t j.size (rows++rows'))
     | none=>none
    else none
   | _,_,_=>none
  | _=>none
 | _=>none
def Qoy (c:Call):Bool:=
 match c.callee,c.args.toList with
 | .builtin .append,[.tmp a,.tmp b]=>abL.contains (a,b)
 | _,_=>false
theorem Qu6 {c:Call} (h:Qoy c=true):c.callee= .builtin .append:=by
 unfold Qoy at h;split at h
 ·assumption
 ·cases h
def QhR (Γ:Tys) (T T':TypeId) (s x:X):Option Res:=
 match Γ T with
 | some i=>match i.elem with
  | some e=>match Γ e,s,x.rows with
   | some j,.sl _ [] .ex,some (k',rows')=>
    if T=T'∧rows'≠[]∧k'=j.size∧rows'.length≤140737488355328∧rows'.length*j.bytes≤140737488355328 then some (.new ⟨rows'.flatten.map X.d,some (rows'.length,j.size)⟩)else none
   | _,_,_=>none
  | none=>none
 | none=>none
theorem QjO {Γ:Tys} {T T':TypeId} {s x:X} {r:Res} (h:QhR Γ T T' s x=some r):∃cs,r= .new cs:=by
 unfold QhR at h
 (repeat' split at h)<;>first | (cases h; done) | (simp only[Option.some.injEq]at h; exact⟨_,h.symm⟩)
def QgB (Δ:Nat→List D→Option D) (g:Nat) (pre post:List D) (args:Option (List D)):Option Res:=
 match args with
 | some ds=>match Δ g (pre++ds++post)with
  | some d=>if QxL d then some (.got d)else none
  | none=>none
 | none=>none
theorem QpN {Δ:Nat→List D→Option D} {g:Nat} {pre post:List D} {args:Option (List D)} {r:Res} (h:QgB Δ g pre post args=some r):∃d,r= .got d:=by
 unfold QgB at h
 (repeat' split at h)<;>first | (cases h; done) | (simp only[Option.some.injEq]at h; exact⟨_,h.symm⟩)
theorem QiB {Δ:Nat→List D→Option D} {g:Nat} {pre post:List D} {args:Option (List D)} {r:Res} (h:QgB Δ g pre post args=some r):∃ds,args=some ds:=by
 unfold QgB at h;split at h
 ·exact⟨_,rfl⟩
 ·cases h
def Qog (Γ:Tys) (Δ:Nat→List D→Option D) (c:Call) (ev:Operand→X) (boxes:List (Nat×List X)) (toks:List Nat):Option Res:=
 match c.callee with
 | .builtin .len=>match c.args.toList,c.argTypes.toList with
  | [x],[T]=>Res.ofX (QND Γ T (ev x))
  | _,_=>none
 | .builtin .append=>match c.args.toList,c.argTypes.toList with
  | [s,x],[T,T']=>if Qoy c=true then QhR Γ T T' (ev s) (ev x)else QgU Γ T T' (ev s) (ev x) toks
  | _,_=>none
 | .builtin .min=>match c.args.toList with
  | [x,y]=>Res.ofX (QkT false (ev x) (ev y))
  | _=>none
 | .builtin .max=>match c.args.toList with
  | [x,y]=>Res.ofX (QkT true (ev x) (ev y))
  | _=>none
 | .value f=>match ev f with
  | .d (.v (.func (.func g) first caps))=>if first.isEmpty&&caps.isEmpty then
    match Qbp (c.args.toList.map ev)with
    | some ds=>match Δ g ds with
     | some d=>if QCb f then Qsz d else some (.got d)
     | none=>none
    | none=>QgB Δ g [] [] (QeD boxes (c.args.toList.map ev))
   else none
  | .d (.fn g pre post)=>QgB Δ g pre post (QeD boxes (c.args.toList.map ev))
  | .fx g pre caps=>match Qgt boxes caps with
   | some post=>QgB Δ g pre post (QeD boxes (c.args.toList.map ev))
   | none=>none
  | _=>none
 | _=>none
def Qwk (Γ:Tys) (T:TypeId) (l c:X):Option Res:=
 match Γ T,l.int,c.int with
 | some i,some n,some m=>match i.elem with
  | some e=>match Γ e with
   | some j=>if j.agg=false∧j.size=1∧n=m∧0≤n∧n≤140737488355328∧j.bytes*n≤140737488355328 then some (.new ⟨List.replicate n.toNat (match Qle j.zero with | .sl k r o=> .sl k r o | _=> .d (Qfq j.zero)),some (n.toNat,1)⟩)
    else if j.agg=true∧1≤j.size∧n=m∧0≤n∧n≤140737488355328∧j.bytes*n≤140737488355328 then some (.new ⟨(List.range (n.toNat*j.size)).map fun q=>(match Qle (j.zero.cells[q % j.zero.cells.size]!)with | .sl k r o=> .sl k r o | _=> .d (Qfq (j.zero.cells[q % j.zero.cells.size]!))),some (n.toNat,j.size)⟩)else none
   | none=>none
  | none=>none
 | _,_,_=>none
def Qqy (Γ:Tys) (T:TypeId) (ok:Bool) (x:X):Option X:=
 match Γ T,x,ok with
 | some i,.d (.v (.iface t v)),false=>(match i.desc with
  | .int _=>if t=T then some (.d (.v v))else none
  | _=>none)
 | _,_,_=>none
def aop (Γ:Tys) (eqs:List (TypeId×Nat)) (Δ:Nat→List D→Option D) (op:Op) (ev:Operand→X) (boxes:List (Nat×List X)) (toks:List Nat):Option Res:=
 match op with
 | .move x=>some (.q (ev x))
 | .assign x=>some (.q (ev x))
 | .pick c a b=>Res.ofX (QEn (ev c) (ev a) (ev b))
 | .alloc T=>match Γ T with | some i=>some (.new ⟨i.zero.cells.toList.map fun v=>(match Qle v with | .sl k r o=> .sl k r o | _=> .d (Qfq v)),none⟩) | none=>none
 | .box T x=>match(ev x).cells with | some cs=>some (.new ⟨cs,none⟩) | none=>none
 | .makeSlice T l c=>Qwk Γ T (ev l) (ev c)
 | .build T parts=>Res.ofX (QsB Γ T (parts.toList.map fun p=>(p.1,ev p.2)))
 | .buildSlice T n parts=>match QgN Γ T n (parts.toList.map fun p=>(p.1,ev p.2))with | some (k,rows)=>some (.lay k rows) | none=>none
 | .load T x=>Res.ofX (Qm8 Γ T (ev x) boxes)
 | .store T x y=>match ev x,(ev y).cells,Γ T with
  | .loc b off,some cs,some i=>(match Qt boxes b with
   | some old=>if cs.length=i.size∧off+cs.length≤old.length then some (.set b off cs)else none
   | none=>none)
  | _,_,_=>none
 | .nilCheck x=>Res.ofX (QN0 (ev x))
 | .binOp op T x y _=>Res.ofX (QNA Γ eqs op T (ev x) (ev y))
 | .unOp op _ x=>Res.ofX (aUn op (ev x))
 | .convert s d x=>Res.ofX (QBG Γ s d (ev x))
 | .slice T x lo hi mx=>Res.ofX (QsY Γ T (ev x) (lo.map ev) (hi.map ev) (mx.map ev))
 | .fieldAddr T x f=>Res.ofX (QfY Γ T (ev x) f)
 | .field T x f=>Res.ofX (Qsq Γ T (ev x) f)
 | .indexAddr T x i=>Res.ofX (QfU Γ T (ev x) (ev i))
 | .index T x i=>Res.ofX (QsZ Γ T (ev x) (ev i))
 | .extract x i=>Res.ofX (Qjp (ev x) i)
 | .call c=>Qog Γ Δ c ev boxes toks
 | .typeAssert x _ T ok=>Res.ofX (Qqy Γ T ok (ev x))
 | .makeFunc fn first caps=>Res.ofX (QCg fn (first.toList.map ev) (caps.toList.map ev))
 | _=>none
def Qlm (t:List (Nat×X)) (d:Option Nat) (x:X):List (Nat×X):=match d with | some d=>(d,x)::t | none=>t
def QCj (l:List X) (off:Nat) (cs:List X):List X:=l.take off++cs++l.drop (off+cs.length)
def QaN (i:Nat):Nat:=1000000+i
def Qh0 (N:Nat):Option Nat→Bool
 | some d=>decide (d < N)
 | none=>true
def Qb5 (toks:List Nat) (t:Option Nat) (new:Nat):List Nat:=new::(match t with | some t=>toks.filter (fun z=>z != t) | none=>toks)
def St.res (i:Nat) (σ:St) (dst:Option Nat):Res→Option St
 | .q x=>some { σ with tmps:=Qlm σ.tmps dst x}
 | .skip=>some { σ with tmps:=Qlm σ.tmps dst (.d (.v (.tuple #[])))}
 | .got d=>some { σ with tmps:=Qlm σ.tmps dst (.d d)}
 | .new cs=>match dst with
  | some d=>some { σ with tmps:=(d,cs.x d)::σ.tmps,boxes:=(d,cs.cells)::σ.boxes}
  | none=>none
 | .lay k rows=>some { σ with tmps:=Qlm σ.tmps dst (.sl k rows .ex)}
 | .set b off cs=>match Qt σ.boxes b with
  | some old=>some { σ with tmps:=Qlm σ.tmps dst (.d .top),boxes:=(b,QCj old off cs)::σ.boxes}
  | none=>none
 | .app t k rows=>match dst with
  | some d=>some { σ with tmps:=(d,.sl k rows (.tok (QaN i)))::σ.tmps,toks:=Qb5 σ.toks t (QaN i)}
  | none=>none
def St.put (N i:Nat) (σ:St) (dst:Option Nat) (r:Res):Option St:=if Qh0 N dst then σ.res i dst r else none
def Qa5 (ops:List Oper) (σ:St) (o:Oper):Option Bool:=
 match o.guard with
 | none=>some true
 | some (j,want)=>match(ops[j]?).bind (·.dst)with
  | some t=>match Qt σ.tmps t with
   | some (.d (.v (.bool b)))=>some (b==want)
   | some (.d (.v (.tuple _)))=>some false
   | _=>none
  | none=>none
end Go.Proofs.YticoemblgkemiaaGreatDoor
namespace Go.Proofs.YticoemblgkemiaaGreatDoor
open Go.RowKit
section
variable {P:Program} {Γ:Tys} (hΓ:∀T i,Γ T=some i→TyOk P T i) {g:Gh} {w:World} {base:Nat} {toks:List Nat}
def BoxAt (g:Gh) (w:World) (base:Nat) (toks:List Nat) (blk:Nat) (cs:List X):Prop:=
 ∃(vs:Array Value) (ty:TypeId),w.heap[blk]?=some (.cells vs ty (0,0))∧cs.length≤vs.size∧∀(j:Nat) (x:X) (v:Value),cs[j]?=some x→vs[j]?=some v→v.oneCell'=true∧RelX g w base toks x v
def QcC (g:Gh) (w:World) (base:Nat) (toks:List Nat) (boxes:List (Nat×List X)):Prop:=
 ∀b cs,Qt boxes b=some cs→∀blk,g.box b=some blk→BoxAt g w base toks blk cs
theorem Qet {T:TypeId} {i:TyI} (h:TyOk P T i) (w:World):(isAgg T).run P w= .ok i.agg w:=by
 unfold isAgg TyI.agg;simp only[Sem.run_bind,run_underlying h.und,Result.andThen_ok];cases i.desc<;>rfl
theorem Qbe {T:TypeId} {i:TyI} (h:TyOk P T i) (w:World):(sizeOf T).run P w= .ok i.size w:=by
 obtain⟨f,h1,h2,h3,h4⟩:=h.inf;unfold sizeOf typeInfo program;simp[Sem.run_bind,Sem.run,h1,h2]
theorem Qjf {T:TypeId} {i:TyI} (h:TyOk P T i) (w:World):(zeroValue T).run P w= .ok i.zero w:=by
 obtain⟨f,h1,h2,h3,h4⟩:=h.inf;unfold zeroValue typeInfo program;simp[Sem.run_bind,Sem.run,h1,h4]
theorem QoI {m:Nat→Nat→Prop} {w:World} {d:D} {v:Value} (h:Rel m w d v):Rel m w (Qlb d) v:=by
 unfold Qlb;split
 ·simp only[Rel]at h⊢;subst h;exact⟨by simp,none,0,rfl,by simp,.inl trivial⟩
 ·exact h
theorem QpC {m:Nat→Nat→Prop} {w:World} :∀{ds:List D} {vs:List Value},RelL m w ds vs→RelL m w (ds.map Qlb) vs
 | [],_,h=>h
 | d::t,vs,h=>by
  simp only[List.map_cons,RelL]at h⊢;obtain⟨v,vt,h1,h2,h3⟩:=h;exact⟨v,vt,h1,QoI h2,QpC h3⟩
theorem QfH {m:Nat→Nat→Prop} {w:World} {cs:List D} {v:Value} (h:Rel m w (.agg cs) v):Rel m w (.agg (cs.map Qlb)) v:=by
 simp only[Rel]at h⊢;obtain⟨vs,h1,h2,h3⟩:=h;exact⟨vs,h1,h2,QpC h3⟩
theorem RelX.data {x:X} {d:D} {v:Value} (h:x.data=some d) (r:RelX g w base toks x v):Rel g.imm w d v:=by
 cases x with
 | d y=>simp only[X.data,Option.some.injEq]at h; subst h; exact r
 | agz cs=>simp only[X.data,Option.some.injEq]at h; subst h; exact QfH r
 | fx f a b=>cases h
 | bs b o n k=>cases h
 | loc b o=>cases h
 | mp b=>cases h
 | agb cs=>cases h
 | sl k rows own=>
  cases own with
  | own t=>cases h
  | _=>simp only[X.data,Option.some.injEq]at h; subst h; exact r.1
theorem Qc4:∀{xs:List X} {ds:List D} {vs:List Value},Qbp xs=some ds→vs.length=xs.length→(∀(j:Nat) (x:X) (v:Value),xs[j]?=some x→vs[j]?=some v→RelX g w base toks x v)→RelL g.imm w ds vs
 | [],ds,vs,h,hl,_=>by
  simp only[Qbp,Option.some.injEq]at h; subst h;simp only[RelL]; exact List.length_eq_zero_iff.1 hl
 | x::t,ds,vs,h,hl,hr=>by
  cases vs with
  | nil=>simp at hl
  | cons v vt=>
   simp only[Qbp]at h;cases hx:x.data with
   | none=>rw[hx]at h; cases h
   | some d=>
    rw[hx]at h;cases ht:Qbp t with
    | none=>rw[ht]at h; cases h
    | some ds'=>
     rw[ht]at h;simp only[Option.some.injEq]at h; subst h;simp only[RelL];exact⟨v,vt,rfl,RelX.data hx (hr 0 x v rfl rfl),Qc4 ht (by simpa using hl) fun j x' v' h1 h2=>hr (j+1) x' v' (by simpa using h1) (by simpa using h2)⟩
theorem Qqr:∀{xs:List X} {cs:List BC} {vs:List Value},bcL xs=some cs→vs.length=xs.length→(∀(j:Nat) (x:X) (v:Value),xs[j]?=some x→vs[j]?=some v→v.oneCell'=true∧RelX g w base toks x v)→RelB g w cs vs
 | [],cs,vs,h,hl,_=>by
  simp only[bcL,Option.some.injEq]at h; subst h;simp only[RelB]; exact List.length_eq_zero_iff.1 hl
 | x::t,cs,[],h,hl,hr=>by simp at hl
 | x::t,cs,v::vt,h,hl,hr=>by
  obtain⟨h1,h2⟩:=hr 0 x v rfl rfl;have ih:∀r,bcL t=some r→RelB g w r vt:=fun r ht=>Qqr ht (by simpa using hl) fun j x' v' k1 k2=>hr (j+1) x' v' (by simpa using k1) (by simpa using k2)
  cases x with
  | d y=>
   simp only[bcL]at h;split at h
   ·rename_i r hr';simp only[Option.some.injEq]at h; subst h;simp only[RelB]; exact⟨v,vt,rfl,h1,h2,ih r hr'⟩
   ·cases h
  | bs b off n k=>
   simp only[bcL]at h;split at h
   ·rename_i r hr';simp only[Option.some.injEq]at h; subst h;simp only[RelB]; exact⟨v,vt,rfl,h2,ih r hr'⟩
   ·cases h
  | sl k rows own=>
   cases own with
   | own t=>simp only[bcL]at h; cases h
   | _=>
    simp only[bcL]at h;split at h
    ·rename_i r hr';simp only[Option.some.injEq]at h; subst h;simp only[RelB]; exact⟨v,vt,rfl,h1,h2.1,ih r hr'⟩
    ·cases h
  | _=>simp only[bcL]at h; cases h
theorem RelB.length {g:Gh} {w:World} :∀{cs:List BC} {vs:List Value},RelB g w cs vs→vs.length=cs.length
 | [],vs,h=>by simp only[RelB]at h; subst h; rfl
 | .d x::t,vs,h=>by
  simp only[RelB]at h;obtain⟨u,vt,rfl,_,_,h4⟩:=h;simp[RelB.length h4]
 | .b c off n k::t,vs,h=>by
  simp only[RelB]at h;obtain⟨u,vt,rfl,_,h4⟩:=h;simp[RelB.length h4]
theorem Qc3:∀{xs:List X} {ds:List D},Qbp xs=some ds→ds.length=xs.length
 | [],ds,h=>by simp only[Qbp,Option.some.injEq]at h; subst h; rfl
 | x::t,ds,h=>by
  simp only[Qbp]at h;cases hx:x.data with
  | none=>rw[hx]at h; cases h
  | some d=>
   rw[hx]at h;cases ht:Qbp t with
   | none=>rw[ht]at h; cases h
   | some ds'=>rw[ht]at h; simp only[Option.some.injEq]at h; subst h; simp[Qc3 ht]
theorem Qig (m:Nat→Nat→Prop) (w:World) (v:Value) (_:v.oneCell'=true):Rel m w (Qfq v) v:=by
 unfold Qfq;split
 ·simp only[Rel]; exact⟨by simp,none,0,rfl,by simp,.inl trivial⟩
 ·simp[Rel]
theorem QgH (m:Nat→Nat→Prop) (w:World):∀(l:List Value),(∀v∈l,v.oneCell'=true)→RelL m w (l.map Qfq) l
 | [],_=>by simp[RelL]
 | v::t,h=>by
  simp only[List.map_cons,RelL];exact⟨v,t,rfl,Qig m w v (h v (by simp)),QgH m w t fun u hu=>h u (by simp[hu])⟩
theorem QdN (blk off j:Nat) (vs:Array Value) (ty:TypeId) (h:w.heap[blk]?=some (.cells vs ty (0,0))):w.cell? ⟨blk,off,none⟩=vs[off]?:=by
 simp[World.cell?,h]
theorem QaS (b o j:Nat):(⟨b,o,none⟩:Addr).add j=⟨b,o+j,none⟩:=by unfold Addr.add; split<;>simp_all
include hΓ
theorem QwK {T:TypeId} {x y:X} {vx:Value} {boxes:List (Nat×List X)} (h:QkO Γ T x boxes=some y) (r:RelX g w base toks x vx) (hB:QcC g w base toks boxes):
  ∃v,(Instr.loadAt T vx).run P w= .ok v w∧RelX g w base toks y v:=by
 unfold QkO at h;cases hT:Γ T with
 | none=>rw[hT]at h; cases h
 | some i=>
  rw[hT]at h;have hok:=hΓ T i hT;cases x with
  | loc b off=>
   simp only at h;obtain⟨blk,hb,rfl⟩:=r;cases hg:Qt boxes b with
   | none=>rw[hg]at h; cases h
   | some cs=>
    rw[hg]at h;obtain⟨vs,ty,hh,hs,hc⟩:=hB b cs hg blk hb;cases ha:i.agg with
    | true=>
     rw[ha]at h;simp only[if_true]at h;by_cases hlen:off+i.size≤cs.length
     ·rw[if_pos hlen]at h;have hl:((vs.toList.drop off).take i.size).length=i.size:=by simp; omega
      have hrun:=run_loadCells_list (P:=P) w ⟨blk,off,none⟩ ((vs.toList.drop off).take i.size) (fun j v hj=>by
       rw[QaS,QdN blk _ 0 vs ty hh];rw[List.getElem?_take]at hj;split at hj
       ·rw[List.getElem?_drop]at hj; simpa using hj
       ·cases hj)
      rw[hl]at hrun;have hload:(Instr.loadAt T (.pointer (some ⟨blk,off,none⟩))).run P w= .ok (.agg ((vs.toList.drop off).take i.size).toArray) w:=by
       unfold Instr.loadAt Instr.sureAddr loadVar;simp only[Sem.run_bind,Sem.run_pure,Result.andThen_ok,Qet hok,ha,if_true,Sem.run_ite,Qbe hok,hrun]
      have hall:∀(j:Nat) (x:X) (v:Value),((cs.drop off).take i.size)[j]?=some x→((vs.toList.drop off).take i.size)[j]?=some v→v.oneCell'=true∧RelX g w base toks x v:=fun j x v h1 h2=>by
       rw[List.getElem?_take]at h1 h2;split at h1
       ·rw[if_pos (by assumption)]at h2
        rw[List.getElem?_drop]at h1 h2;exact hc _ _ _ h1 (by simpa using h2)
       ·cases h1
      have hll:((vs.toList.drop off).take i.size).length=((cs.drop off).take i.size).length:=by simp; omega
      refine⟨_,hload,?_⟩;cases hd:Qbp ((cs.drop off).take i.size)with
      | none=>
       rw[hd]at h;simp only at h;split at h
       ·rename_i bs hbs;simp only[Option.some.injEq]at h; subst h;exact⟨_,rfl,Qqr hbs hll hall⟩
       ·cases h
      | some ds=>
       rw[hd]at h;simp only[Option.some.injEq]at h; subst h;simp only[RelX,Rel];refine⟨_,rfl,fun v hv=>?_,Qc4 (base:=base) (toks:=toks) hd hll fun j x v h1 h2=>(hall j x v h1 h2).2⟩;obtain⟨j,hj,rfl⟩:=List.getElem_of_mem hv;exact(hall j _ _ (List.getElem?_eq_getElem (by rw[←hll]; exact hj)) (List.getElem?_eq_getElem hj)).1
     ·rw[if_neg hlen]at h; cases h
    | false=>
     rw[ha]at h;simp only[Bool.false_eq_true,if_false]at h;have ho:off < cs.length:=(List.getElem?_eq_some_iff.1 h).1;have hv:vs[off]?=some (vs[off]'(by omega)):=by simp<;>omega
     refine⟨_,?_,(hc _ _ _ h hv).2⟩;unfold Instr.loadAt Instr.sureAddr loadVar;simp only[Sem.run_bind,Sem.run_pure,Result.andThen_ok,Qet hok,ha,Bool.false_eq_true,if_false,Sem.run_ite,run_load,QdN blk _ 0 vs ty hh,hv]
  | sl k rows own=>cases h
  | agz cs=>cases h
  | agb cs=>cases h
  | fx f a b=>cases h
  | bs b o n k=>cases h
  | mp b=>cases h
  | d dd=>
   cases dd with
   | dat k rows rr off=>
    simp only at h;simp only[RelX,Rel]at r;obtain⟨hlt,b,o,rfl,hrows⟩:=r;cases hrr:rows[rr]? with
    | none=>rw[hrr]at h; cases h
    | some row=>
     rw[hrr]at h;obtain⟨hk,hcells⟩:=hrows.get _ _ hrr;cases ha:i.agg with
     | true=>
      rw[ha]at h;simp only[if_true]at h;by_cases hlen:off+i.size≤row.length
      ·rw[if_pos hlen]at h;simp only[Option.some.injEq]at h; subst h;obtain⟨f,hf⟩:∃f:Nat→Value,∀(j:Nat) (d:D),row[j]?=some d→g.imm b (o+rr*k+j)∧w.cell? ⟨b,o+rr*k+j,none⟩=some (f j)∧(f j).oneCell'=true∧Rel g.imm w d (f j):=by
        refine⟨fun j=>(w.cell? ⟨b,o+rr*k+j,none⟩).getD undef,fun j d hj=>?_⟩;obtain⟨v,h1,h2,h3,h4⟩:=hcells.get j d hj;simp only[h2,Option.getD_some]; exact⟨h1,trivial,h3,h4⟩
       have hrun:=run_loadCells (P:=P) w ⟨b,o+(rr*k+off),none⟩ i.size (fun j=>f (off+j)) (fun j hj=>by
        rw[QaS,show o+(rr*k+off)+j=o+rr*k+(off+j) by omega]
        exact(hf (off+j) _ (List.getElem?_eq_getElem (by omega))).2.1)
       refine⟨.agg ((List.range i.size).map fun j=>f (off+j)).toArray,?_,?_⟩
       ·unfold Instr.loadAt Instr.sureAddr loadVar;simp only[Sem.run_bind,Sem.run_pure,Result.andThen_ok,Qet hok,ha,if_true,Sem.run_ite,Qbe hok,hrun]
       ·simp only[RelX,Rel];refine⟨(List.range i.size).map fun j=>f (off+j),rfl,fun v hv=>?_,RelL.of (by simp<;>omega) fun j d v h1 h2=>?_⟩
        ·obtain⟨j,hj,rfl⟩:=List.mem_map.1 hv;have:=List.mem_range.1 hj;exact(hf (off+j) _ (List.getElem?_eq_getElem (by omega))).2.2.1
        ·rw[List.getElem?_take]at h1;split at h1
         ·rw[List.getElem?_drop]at h1;have h3:v=f (off+j):=by
           rename_i hj;simp[hj]at h2; exact h2.symm
          subst h3;exact(hf _ _ h1).2.2.2
         ·cases h1
      ·rw[if_neg hlen]at h; cases h
     | false=>
      rw[ha]at h;simp only[Bool.false_eq_true,if_false]at h;cases hro:row[off]? with
      | none=>rw[hro]at h; cases h
      | some d=>
       rw[hro]at h;simp only[Option.some.injEq]at h; subst h;obtain⟨v,h1,h2,h3,h4⟩:=hcells.get _ _ hro;refine⟨v,?_,h4⟩;unfold Instr.loadAt Instr.sureAddr loadVar;rw[show o+rr*k+off=o+(rr*k+off) by omega]at h2
       simp only[Sem.run_bind,Sem.run_pure,Result.andThen_ok,Qet hok,ha,Bool.false_eq_true,if_false,Sem.run_ite,run_load,h2]
   | _=>cases h
omit hΓ in
theorem QCC {x:X} {v:Value} (r:RelX g w base toks x v):RelX g w base toks x.soft v:=by
 cases x with
 | d y=>
  cases y with
  | datA b o k rows i off=>
   simp only[RelX,Rel]at r;obtain⟨h0,h1,h2⟩:=r;simp only[X.soft,RelX,Rel];exact⟨h0,b,o,h1,h2⟩
  | _=>exact r
 | _=>exact r
theorem Qjr {T:TypeId} {x y:X} {vx:Value} {boxes:List (Nat×List X)} (h:Qm8 Γ T x boxes=some y) (r:RelX g w base toks x vx) (hB:QcC g w base toks boxes):
  ∃v,(Instr.loadAt T vx).run P w= .ok v w∧RelX g w base toks y v:=QwK hΓ h (QCC r) hB
omit hΓ in
theorem Qpq {T:TypeId} (hu:P.underlying T=some .bool) (a b:Bool) (w:World) (n:Nat):(Op.equalIn (n+1) T (.bool a) (.bool b)).run P w= .ok (a==b) w:=by
 simp only[Op.equalIn,Sem.run_bind,run_underlying hu,Result.andThen_ok]; rfl
omit hΓ in
theorem QtU {T:TypeId} (hu:P.underlying T=some .bool) (a b:Bool) (w:World):(Op.equal T (.bool a) (.bool b)).run P w= .ok (a==b) w:=Qpq hu a b w 9999
omit hΓ in
theorem QHA {op:BinOp} {bb:Bool} {a b z:Value} (T:TypeId) (hbb:bb=true→∃i,Γ T=some i∧TyOk P T i∧i.desc= .bool) (h:vop op bb a b=some z) (x y:Operand) (w:World):
  (do eqGuard op T x y a b; binOp op T a b).run P w= .ok z w∧z.oneCell'=true:=by
 cases a<;>cases b<;>simp only[vop]at h<;>try (cases h; done)
 case int.int k n k' n'=>
  have hg:(eqGuard op T x y (.int k n) (.int k' n')).run P w= .ok () w:=by
   unfold eqGuard; cases op<;>rfl
  rw[Sem.run_bind,hg,Result.andThen_ok];cases op
  case shl=>
   simp only at h;split at h
   ·rename_i h0;simp only[Option.some.injEq]at h; subst h;refine⟨?_,rfl⟩;simp only[binOp,Op.shift,if_neg (show ¬n' < 0 by omega)]; rfl
   ·cases h
  case shr=>
   simp only at h;split at h
   ·rename_i h0;simp only[Option.some.injEq]at h; subst h;refine⟨?_,rfl⟩;simp only[binOp,Op.shift,if_neg (show ¬n' < 0 by omega)]
    rw[Int.fdiv_eq_ediv_of_nonneg _ (Int.le_of_lt (Int.pow_pos (by decide)))]; rfl
   ·cases h
  all_goals
   simp only at h;split at h
   ·rename_i hk;subst hk;simp only[iop]at h
    first
     | (simp only[Option.some.injEq]at h; subst h; exact⟨by simp[binOp,Op.intArith,Op.intBits,Op.intCmp,bits],rfl⟩)
     | (split at h
        ·cases h
        ·rename_i h0;simp only[Option.some.injEq]at h; subst h; exact⟨by simp[binOp,Op.intDiv,h0],rfl⟩)
   ·cases h
 case string.string s t=>
  have hg:(eqGuard op T x y (.string s) (.string t)).run P w= .ok () w:=by
   unfold eqGuard; cases op<;>rfl
  rw[Sem.run_bind,hg,Result.andThen_ok];cases op<;>simp only[sop]at h<;>try (cases h; done)
  case add=>
   split at h
   ·rename_i h0;simp only[Option.some.injEq]at h; subst h;have e:IntKind.i64.max=9223372036854775807:=by decide
    refine⟨?_,rfl⟩;simp only[binOp,Op.stringOp,e];rw[if_neg (by omega)]; rfl
   ·cases h
  all_goals (simp only[Option.some.injEq]at h; subst h; exact⟨rfl,rfl⟩)
 case bool.bool a b=>
  have hg:(eqGuard op T x y (.bool a) (.bool b)).run P w= .ok () w:=by
   unfold eqGuard; cases op<;>rfl
  rw[Sem.run_bind,hg,Result.andThen_ok];cases bb
  ·cases op<;>simp only at h<;>cases h
  ·obtain⟨i,_,hi,hd⟩:=hbb rfl;have hu:=hi.und;rw[hd]at hu;have he:(Op.equal T (.bool a) (.bool b)).run P w= .ok (a==b) w:=QtU hu a b w;cases op<;>simp only at h<;>try (cases h; done)
   ·simp only[Option.some.injEq]at h; subst h;refine⟨?_,rfl⟩;simp only[binOp,Sem.run_bind,he,Result.andThen_ok]; rfl
   ·simp only[Option.some.injEq]at h; subst h;refine⟨?_,rfl⟩;simp only[binOp,Sem.run_bind,he,Result.andThen_ok]; rfl
end
end Go.Proofs.YticoemblgkemiaaGreatDoor
namespace Go.Proofs.YticoemblgkemiaaGreatDoor
open Go.RowKit
def QzT (P:Program) (T:TypeId) (n:Nat):Prop:=∀(xs ys:List Value),Qcw xs=n→Qcw ys=n→∀(w:World) (x y:Operand),
 ((do eqGuard .eql T x y (.agg xs.toArray) (.agg ys.toArray); binOp .eql T (.agg xs.toArray) (.agg ys.toArray)).run P w= .ok (.bool (eqV xs ys)) w)∧
 ((do eqGuard .neq T x y (.agg xs.toArray) (.agg ys.toArray); binOp .neq T (.agg xs.toArray) (.agg ys.toArray)).run P w= .ok (.bool (neV xs ys)) w)
theorem QaM {xs:List Value} {k:Nat} (h:Qcw xs=4*k+1):∃a t,xs= .int .i64 a::t∧Qcw t=k:=by
 unfold Qcw at h;split at h
 ·omega
 ·exact⟨_,_,rfl,by omega⟩
 ·omega
 ·omega
 ·omega
theorem QUN {xs:List Value} {k:Nat} (h:Qcw xs=4*k+3):∃a t,xs= .string a::t∧Qcw t=k:=by
 unfold Qcw at h;split at h
 ·omega
 ·omega
 ·omega
 ·exact⟨_,_,rfl,by omega⟩
 ·omega
theorem Qcc {xs:List Value} (h:Qcw xs=0):xs=[]:=by
 unfold Qcw at h;split at h
 ·rfl
 ·omega
 ·omega
 ·omega
 ·omega
section
variable {P:Program} {Γ:Tys} (hΓ:∀T i,Γ T=some i→TyOk P T i) {g:Gh} {w:World} {base:Nat} {toks:List Nat}
theorem QcU {m:Nat→Nat→Prop} {w:World} :∀{ds:List D} {l vs:List Value},Qc8 ds=some l→RelL m w ds vs→vs=l
 | [],l,vs,h,r=>by
  simp only[Qc8,Option.some.injEq]at h; subst h;simpa[RelL]using r
 | d::t,l,vs,h,r=>by
  simp only[RelL]at r;obtain⟨v,vt,rfl,h1,h2⟩:=r;unfold Qc8 at h;split at h
  ·rename_i heq; cases heq
  ·rename_i n t' heq;simp only[List.cons.injEq]at heq;obtain⟨rfl,rfl⟩:=heq;cases ht:Qc8 t with
   | none=>rw[ht]at h; cases h
   | some l'=>
    rw[ht]at h;simp only[Option.map_some,Option.some.injEq]at h; subst h;simp only[Rel]at h1; subst h1;rw[QcU ht h2]
  ·rename_i n t' heq;simp only[List.cons.injEq]at heq;obtain⟨rfl,rfl⟩:=heq;cases ht:Qc8 t with
   | none=>rw[ht]at h; cases h
   | some l'=>
    rw[ht]at h;simp only[Option.map_some,Option.some.injEq]at h; subst h;simp only[Rel]at h1; subst h1;rw[QcU ht h2]
  ·rename_i n t' heq;simp only[List.cons.injEq]at heq;obtain⟨rfl,rfl⟩:=heq;cases ht:Qc8 t with
   | none=>rw[ht]at h; cases h
   | some l'=>
    rw[ht]at h;simp only[Option.map_some,Option.some.injEq]at h; subst h;simp only[Rel]at h1; subst h1;rw[QcU ht h2]
  ·cases h
include hΓ
theorem QHM {eqs:List (TypeId×Nat)} (hq:∀T n,Qt eqs T=some n→QzT P T n) {op:BinOp} {T:TypeId} {x y z:X} {vx vy:Value} (ox oy:Operand) (h:QNA Γ eqs op T x y=some z) (rx:RelX g w base toks x vx) (ry:RelX g w base toks y vy):
  ∃v,(do eqGuard op T ox oy vx vy; binOp op T vx vy).run P w= .ok v w∧RelX g w base toks z v:=by
 unfold QNA at h;split at h
 ·rename_i a b;simp only[RelX,Rel]at rx ry;subst rx; subst ry;split at h
  ·rename_i z' hv;simp only[Option.some.injEq]at h; subst h;refine⟨z',(QHA (P:=P) (Γ:=Γ) T (fun hb=>?_) hv ox oy w).1,by simp[RelX,Rel]⟩
   split at hb
   ·rename_i i hi;refine⟨i,hi,hΓ T i hi,?_⟩;unfold TyI.isBool at hb;split at hb
    ·assumption
    ·cases hb
   ·cases hb
  ·cases h
 ·rename_i xs ys;simp only[RelX,Rel]at rx ry;obtain⟨vxs,rfl,_,r1⟩:=rx;obtain⟨vys,rfl,_,r2⟩:=ry;split at h
  ·rename_i n a b hn ha hb;split at h
   ·rename_i hl;rw[QcU ha r1,QcU hb r2];have:=hq T n hn a b hl.1 hl.2 w ox oy;split at h
    ·simp only[Option.some.injEq]at h; subst h;exact⟨_,this.1,by simp[RelX,Rel]⟩
    ·simp only[Option.some.injEq]at h; subst h;exact⟨_,this.2,by simp[RelX,Rel]⟩
    ·cases h
   ·cases h
  ·cases h
 ·cases h
omit hΓ in
theorem QMr {op:UnOp} {x z:X} {vx:Value} (h:aUn op x=some z) (rx:RelX g w base toks x vx):∃v,(Op.unary op vx).run P w= .ok v w∧RelX g w base toks z v:=by
 unfold aUn at h;split at h
 ·simp only[RelX,Rel]at rx; subst rx;simp only[Option.some.injEq]at h; subst h;exact⟨_,rfl,by simp[RelX,Rel]⟩
 ·simp only[RelX,Rel]at rx; subst rx;simp only[Option.some.injEq]at h; subst h;exact⟨_,rfl,by simp[RelX,Rel]⟩
 ·cases h
theorem Qvt {src dst:TypeId} {x z:X} {vx:Value} (h:Qtn Γ src dst x=some z) (rx:RelX g w base toks x vx):∃v,(convert src dst vx).run P w= .ok v w∧RelX g w base toks z v:=by
 unfold Qtn at h;split at h
 ·rename_i j i k n hs hd;have o1:=(hΓ _ _ hs).und;have o2:=(hΓ _ _ hd).und;simp only[RelX,Rel]at rx; subst rx;split at h
  ·rename_i kk hk;simp only[Option.some.injEq]at h; subst h;rw[hk]at o2;refine⟨_,?_,by simp only[RelX,Rel]; rfl⟩
   unfold convert;simp only[Sem.run_bind,run_underlying o1,run_underlying o2,Result.andThen_ok];cases j.desc<;>rfl
  ·cases h
 ·cases h
omit hΓ in
theorem Qlu:∀{rows:List (List D)} {ns:List Int},bytesOf rows=some ns→rows.length=ns.length∧∀(i:Nat),i < ns.length→rows[i]?=some [.v (.int .u8 (ns.getD i 0))]
 | [],ns,h=>by simp only[bytesOf,Option.some.injEq]at h; subst h; exact⟨rfl,fun i hi=>by simp at hi⟩
 | r::t,ns,h=>by
  unfold bytesOf at h;split at h
  ·rename_i e; cases e
  ·rename_i n t' e;simp only[List.cons.injEq]at e;obtain⟨rfl,rfl⟩:=e;split at h
   ·rename_i ms hms;simp only[Option.some.injEq]at h; subst h;obtain⟨h1,h2⟩:=Qlu hms;refine⟨by simp[h1],fun i hi=>?_⟩
    cases i with
    | zero=>rfl
    | succ i=>simpa using h2 i (by simpa using hi)
   ·cases h
  ·cases h
theorem QwZ {src dst:TypeId} {x z:X} {vx:Value} (h:Qtc Γ src dst x=some z) (rx:RelX g w base toks x vx):∃v,(convert src dst vx).run P w= .ok v w∧RelX g w base toks z v:=by
 unfold Qtc at h;split at h
 case h_2=>cases h
 rename_i i j k rows hs hd hr;split at h
 case h_2=>cases h
 rename_i e hi hj;split at h
 case h_2=>cases h
 rename_i je he;split at h
 case h_2=>cases h
 rename_i n ns hje hb;simp only[Option.some.injEq]at h; subst h;have o1:=(hΓ _ _ hs).und;have o2:=(hΓ _ _ hd).und;have o3:=(hΓ _ _ he).und;rw[hi]at o1; rw[hj]at o2; rw[hje]at o3;obtain⟨h1,h2⟩:=Qlu hb;have hrel:Rel g.imm w (.sl k rows) vx:=by
  cases x with
  | sl k' rows' own=>
   cases own with
   | own t=>cases hr
   | _=>simp only[X.rows,Option.some.injEq,Prod.mk.injEq]at hr; obtain⟨rfl,rfl⟩:=hr; exact rx.1
  | d y=>
   cases y with
   | sl k' rows'=>simp only[X.rows,Option.some.injEq,Prod.mk.injEq]at hr; obtain⟨rfl,rfl⟩:=hr; exact rx
   | _=>cases hr
  | _=>cases hr
 simp only[Rel]at hrel;obtain⟨_,a,c,rfl,_,hx⟩:=hrel;have hne:rows≠[]:=by
  rintro rfl;simp at h1
 obtain⟨b,o,rfl,hrows⟩:=hx.resolve_left hne;have h0:=(hrows.get 0 _ (h2 0 (by simp))).1
 have hk:k=1:=by simpa using h0.symm
 subst hk;refine⟨_,run_convert_bytes_arg w src e o1 o3 b o rows.length c (n::ns) h1.symm (fun q hq=>?_) dst o2,by simp only[RelX,Rel]⟩
 obtain⟨_,hc⟩:=hrows.get q _ (h2 q (by omega))
 simp only[RelCells,Nat.mul_one]at hc;obtain⟨⟨v,_,h4,_,h5⟩,_⟩:=hc;simp only[Rel]at h5;subst h5;exact h4
theorem QCw {src dst:TypeId} {x z:X} {vx:Value} (h:QBG Γ src dst x=some z) (rx:RelX g w base toks x vx):∃v,(convert src dst vx).run P w= .ok v w∧RelX g w base toks z v:=by
 unfold QBG at h;split at h
 ·rename_i z' hz;simp only[Option.some.injEq]at h; subst h;exact Qvt hΓ hz rx
 ·exact QwZ hΓ h rx
theorem QsI {T:TypeId} {cs:List D} {off:Nat} {d:D} {vs:List Value} (h:Qv6 Γ T cs off=some d) (r:RelL g.imm w cs vs) (h1:∀v∈vs,v.oneCell'=true):∃v,(part T vs.toArray off).run P w= .ok v w∧Rel g.imm w d v:=by
 unfold Qv6 at h;cases hT:Γ T with
 | none=>rw[hT]at h; cases h
 | some i=>
  rw[hT]at h;have hok:=hΓ T i hT;have hl:=r.length;cases ha:i.agg with
  | true=>
   simp only[ha,if_true]at h;split at h
   ·rename_i hlen;simp only[Option.some.injEq]at h; subst h;refine⟨.agg (vs.toArray.extract off (off+i.size)),?_,?_⟩
    ·unfold part;simp only[Sem.run_bind,Qet hok,ha,Result.andThen_ok,if_true,Sem.run_ite,Qbe hok]; rfl
    ·simp only[Rel];refine⟨(vs.drop off).take i.size,by simp[List.extract_eq_take_drop],fun v hv=>h1 v (List.mem_of_mem_drop (List.mem_of_mem_take hv)),r.sub off i.size⟩
   ·cases h
  | false=>
   simp only[ha,Bool.false_eq_true,if_false]at h;obtain⟨v,h2,h3⟩:=r.get _ _ h;refine⟨v,?_,h3⟩;unfold part;simp[Sem.run_bind,Qet hok,ha,h2]
theorem Qxm {T:TypeId} {x z:X} {vx:Value} {f:Nat} (h:Qsq Γ T x f=some z) (rx:RelX g w base toks x vx):∃v,(Instr.field T vx f).run P w= .ok v w∧RelX g w base toks z v:=by
 unfold Qsq at h;split at h
 ·rename_i i cs hT;have hok:=hΓ T i hT;simp only[RelX,Rel]at rx;obtain⟨vs,rfl,hone,r⟩:=rx;split at h
  ·rename_i fl hf;split at h
   ·rename_i d hd;simp only[Option.some.injEq]at h; subst h;obtain⟨v,h1,h2⟩:=QsI hΓ hd r hone;refine⟨v,?_,h2⟩;unfold TyI.field at hf;split at hf
    ·rename_i fs hfs;have hu:=hok.und;rw[hfs]at hu;unfold Instr.field;simp only[Sem.run_bind,run_underlying hu,Result.andThen_ok,hf,asAgg,Sem.run_pure,h1]
    ·cases hf
   ·cases h
  ·cases h
 ·cases h
theorem QnB {T:TypeId} {x z:X} {vx:Value} {f:Nat} (h:QfY Γ T x f=some z) (rx:RelX g w base toks x vx):∃v,(Instr.fieldAt T vx f).run P w= .ok v w∧RelX g w base toks z v:=by
 unfold QfY at h;split at h
 ·cases h
 ·rename_i i hT;have hok:=hΓ T i hT;split at h
  ·cases h
  ·rename_i fl hf;split at h
   ·cases h
   ·rename_i j hj;have hjok:=hΓ _ _ hj;split at h
    ·cases h
    ·rename_i hsz;unfold TyI.field at hf;split at hf
     ·rename_i fs hfs;have hu:=hok.und;rw[hfs]at hu;have hrun:∀b o,(Instr.fieldAt T (.pointer (some ⟨b,o,none⟩)) f).run P w= .ok (.pointer (some ⟨b,o+fl.offset,none⟩)) w:=by
       intro b o;unfold Instr.fieldAt fieldPlace Instr.sureAddr;simp only[Sem.run_bind,run_underlying hu,Result.andThen_ok,hf,Sem.run_pure,Qbe hjok,Sem.run_ite,if_neg hsz,QaS]
      split at h
      ·simp only[Option.some.injEq]at h; subst h;obtain⟨blk,hb,rfl⟩:=rx;exact⟨_,hrun _ _,blk,hb,rfl⟩
      ·simp only[Option.some.injEq]at h; subst h;simp only[RelX,Rel]at rx;obtain⟨hlt,b,o,rfl,hr⟩:=rx;refine⟨_,hrun _ _,?_⟩;simp only[RelX,Rel];exact⟨hlt,b,o,by rw[Nat.add_assoc,Nat.add_assoc],hr⟩
      ·simp only[Option.some.injEq]at h; subst h;simp only[RelX,Rel]at rx;obtain⟨hlt,rfl,hr⟩:=rx;refine⟨_,hrun _ _,?_⟩;simp only[RelX,Rel];exact⟨hlt,by rw[Nat.add_assoc,Nat.add_assoc],hr⟩
      ·cases h
     ·cases hf
omit hΓ in
theorem Qf3 {x:X} {k:Nat} {rows:List (List D)} {vx:Value} (h:x.rows=some (k,rows)) (rx:RelX g w base toks x vx):Rel g.imm w (.sl k rows) vx:=by
 unfold X.rows at h;split at h
 ·simp only[Option.some.injEq,Prod.mk.injEq]at h;obtain⟨rfl,rfl⟩:=h;exact rx
 ·simp only[Option.some.injEq,Prod.mk.injEq]at h;obtain⟨rfl,rfl⟩:=h;exact rx.1
 ·simp only[Option.some.injEq,Prod.mk.injEq]at h;obtain⟨rfl,rfl⟩:=h;exact rx.1
 ·cases h
omit hΓ in
theorem Qj0 {x:X} {n:Int} {vx:Value} (h:x.int=some n) (rx:RelX g w base toks x vx):∃k,vx= .int k n:=by
 unfold X.int at h;split at h
 ·simp only[Option.some.injEq]at h; subst h;exact⟨_,rx⟩
 ·cases h
theorem Qnh {T:TypeId} {x ix z:X} {vx vi:Value} (h:QfU Γ T x ix=some z) (rx:RelX g w base toks x vx) (ri:RelX g w base toks ix vi):∃v,(Instr.indexAt T vx vi).run P w= .ok v w∧RelX g w base toks z v:=by
 unfold QfU at h;split at h
 ·rename_i i n hT hn;have hu:=(hΓ T i hT).und;obtain⟨ki,rfl⟩:=Qj0 hn ri;split at h
  ·rename_i e hd;rw[hd]at hu;split at h
   ·rename_i b off m k hbx;split at h
    ·rename_i j he;have heok:=hΓ _ _ he;split at h
     ·rename_i hc;obtain⟨h0,h1,h2⟩:=hc;simp only[Option.some.injEq]at h; subst h;cases x with
      | bs b' o' m' k'=>
       simp only[X.inBox,Option.some.injEq,Prod.mk.injEq]at hbx;obtain⟨rfl,rfl,rfl,rfl⟩:=hbx;obtain⟨blk,c,q1,rfl,q3⟩:=rx;refine⟨.pointer (some ⟨blk,b'*0+o'+n.toNat*k',none⟩),?_,blk,q1,by simp⟩
       unfold Instr.indexAt;simp only[Sem.run_bind,asIntOf,Sem.run_pure,Result.andThen_ok,run_underlying hu,Qbe heok,h2,Sem.run_ite,QaS];rw[if_pos ⟨h0,h1⟩]; simp
      | _=>cases hbx
     ·cases h
    ·cases h
   rename_i hbx;split at h
   ·rename_i k rows j hx he;have heok:=hΓ _ _ he;split at h
    ·rename_i hc;obtain⟨h0,h1,h2⟩:=hc;simp only[Option.some.injEq]at h; subst h;have hr:=Qf3 hx rx;simp only[Rel]at hr;obtain⟨hl,a,c,rfl,hlc,hrows⟩:=hr;rcases hrows with rfl | ⟨b,o,rfl,hrr⟩
     ·simp at h1; omega
     ·refine⟨.pointer (some ⟨b,o+n.toNat*k,none⟩),?_,?_⟩
      ·unfold Instr.indexAt;simp only[Sem.run_bind,asIntOf,Sem.run_pure,Result.andThen_ok,run_underlying hu,Qbe heok,h2,Sem.run_ite,QaS];rw[if_pos ⟨h0,h1⟩]
      ·simp only[RelX,Rel];exact⟨by omega,b,o,by simp,hrr⟩
    ·cases h
   ·cases h
  ·rename_i len e hd;rw[hd]at hu;split at h
   ·rename_i b off j he;have heok:=hΓ _ _ he;split at h
    ·rename_i hc;simp only[Option.some.injEq]at h; subst h;obtain⟨blk,hb,rfl⟩:=rx;refine⟨.pointer (some ⟨blk,off+n.toNat*j.size,none⟩),?_,blk,hb,rfl⟩;unfold Instr.indexAt Instr.sureAddr;simp only[Sem.run_bind,asIntOf,Sem.run_pure,Result.andThen_ok,run_underlying hu,Qbe heok,Sem.run_ite,QaS];rw[if_pos hc]
    ·cases h
   ·rename_i k rows r off j he;have heok:=hΓ _ _ he;split at h
    ·rename_i hc;simp only[Option.some.injEq]at h; subst h;simp only[RelX,Rel]at rx;obtain⟨hr,b,o,rfl,hrows⟩:=rx;refine⟨.pointer (some ⟨b,o+(r*k+(off+n.toNat*j.size)),none⟩),?_,hr,b,o,rfl,hrows⟩;unfold Instr.indexAt Instr.sureAddr;simp only[Sem.run_bind,asIntOf,Sem.run_pure,Result.andThen_ok,run_underlying hu,Qbe heok,Sem.run_ite,QaS];rw[if_pos hc];simp only[Nat.add_assoc]
    ·cases h
   ·cases h
  ·cases h
 ·cases h
theorem QyA {T:TypeId} {x ix z:X} {vx vi:Value} (h:QsZ Γ T x ix=some z) (rx:RelX g w base toks x vx) (ri:RelX g w base toks ix vi):∃v,(Instr.index T vx vi).run P w= .ok v w∧RelX g w base toks z v:=by
 unfold QsZ at h;split at h
 ·rename_i i n hT hn;have hu:=(hΓ T i hT).und;obtain⟨ki,rfl⟩:=Qj0 hn ri;split at h
  ·rename_i s hd;rw[hd]at hu;simp only[RelX,Rel]at rx; subst rx;split at h
   ·rename_i hc;simp only[Option.some.injEq]at h; subst h;have hs:s[n.toNat]?=some (s[n.toNat]'(by omega)):=getElem?_pos s n.toNat (by omega)
    refine⟨.int .u8 (QaL s n.toNat),?_,by simp only[RelX,Rel]⟩
    unfold Instr.index QaL;simp only[Sem.run_bind,asIntOf,Sem.run_pure,Result.andThen_ok,run_underlying hu,if_pos hc.1,hs,Option.getD_some]
   ·cases h
  ·rename_i len e cs hd;rw[hd]at hu;simp only[RelX,Rel]at rx;obtain⟨vs,rfl,hone,r⟩:=rx;split at h
   ·rename_i j he;have heok:=hΓ _ _ he;split at h
    ·rename_i hc;split at h
     ·rename_i d hp;simp only[Option.some.injEq]at h; subst h;obtain⟨v,h1,h2⟩:=QsI hΓ hp r hone;refine⟨v,?_,h2⟩;unfold Instr.index;simp only[Sem.run_bind,asIntOf,Sem.run_pure,Result.andThen_ok,run_underlying hu,Qbe heok,Sem.run_ite];rw[if_pos hc]; exact h1
     ·cases h
    ·cases h
   ·cases h
  ·cases h
 ·cases h
omit hΓ in
theorem Qrv {x z:X} {vx:Value} {n:Nat} (h:Qjp x n=some z) (rx:RelX g w base toks x vx):∃v,(Instr.extract vx n).run P w= .ok v w∧RelX g w base toks z v:=by
 unfold Qjp at h;split at h
 ·rename_i ds;simp only[RelX,Rel]at rx;obtain⟨vs,rfl,r⟩:=rx;split at h
  ·rename_i d hd;simp only[Option.some.injEq]at h; subst h;obtain⟨v,h1,h2⟩:=r.get _ _ hd;exact⟨v,by simp[Instr.extract,h1],h2⟩
  ·cases h
 ·cases h
theorem QHe {T rT:TypeId} {x z:X} {vx:Value} (h:QND Γ T x=some z) (rx:RelX g w base toks x vx):∃v,(Builtin.len_ #[T] rT #[vx]).run P w= .ok v w∧RelX g w base toks z v:=by
 unfold QND at h;split at h
 ·cases h
 ·rename_i i hT;have hu:=(hΓ T i hT).und;split at h
  ·rename_i e hd;rw[hd]at hu;split at h
   ·rename_i b off m k hbx;simp only[Option.some.injEq]at h; subst h;cases x with
    | bs b' o' m' k'=>
     simp only[X.inBox,Option.some.injEq,Prod.mk.injEq]at hbx;obtain⟨rfl,rfl,rfl,rfl⟩:=hbx;obtain⟨blk,c,q1,rfl,q3⟩:=rx;refine⟨.int .i64 m',?_,by simp[RelX,Rel]⟩
     unfold Builtin.len_;simp[Sem.run_bind,run_underlying hu,goInt]
    | _=>cases hbx
   rename_i hbx;split at h
   ·rename_i k rows hx;simp only[Option.some.injEq]at h; subst h;have hr:=Qf3 hx rx;simp only[Rel]at hr;obtain⟨hl,a,c,rfl,hlc,hrows⟩:=hr;refine⟨.int .i64 rows.length,?_,by simp[RelX,Rel]⟩
    unfold Builtin.len_;simp[Sem.run_bind,run_underlying hu,goInt]
   ·cases h
  ·rename_i hd;rw[hd]at hu;split at h
   ·simp only[Option.some.injEq]at h; subst h;simp only[RelX,Rel]at rx; subst rx;refine⟨_,?_,by simp only[RelX,Rel]; rfl⟩
    unfold Builtin.len_;simp[Sem.run_bind,run_underlying hu,goInt]
   ·cases h
  ·rename_i n e hd;rw[hd]at hu;simp only[Option.some.injEq]at h; subst h;refine⟨_,?_,by simp only[RelX,Rel]; rfl⟩
   unfold Builtin.len_;simp[Sem.run_bind,run_underlying hu,goInt]
  ·cases h
omit hΓ in
theorem Qme {isMax:Bool} {rT:TypeId} {x y z:X} {vx vy:Value} (Ts:Array TypeId) (h:QkT isMax x y=some z) (rx:RelX g w base toks x vx) (ry:RelX g w base toks y vy):
  ∃v,(if isMax then Builtin.max_ Ts rT #[vx,vy]else Builtin.min_ Ts rT #[vx,vy]).run P w= .ok v w∧RelX g w base toks z v:=by
 unfold QkT at h;split at h
 ·simp only[RelX,Rel]at rx ry; subst rx; subst ry;simp only[Option.some.injEq]at h; subst h;cases isMax
  ·exact⟨_,rfl,by simp only[RelX,Rel]; rfl⟩
  ·exact⟨_,rfl,by simp only[RelX,Rel]; rfl⟩
 ·cases h
abbrev QDO (g:Gh) (w:World) (base:Nat) (toks:List Nat):Option X→Option Value→Prop
 | none,none=>True
 | some x,some v=>RelX g w base toks x v
 | _,_=>False
omit hΓ in
theorem QcX {lo:Option X} {l d:Int} {vlo:Option Value} (h:QdR lo d=some l) (r:QDO g w base toks lo vlo):
  (lo=none∧vlo=none∧l=d)∨∃k,vlo=some (.int k l):=by
 cases lo with
 | none=>
  cases vlo with
  | none=>simp only[QdR,Option.some.injEq]at h; exact .inl ⟨rfl,rfl,h.symm⟩
  | some v=>exact r.elim
 | some x=>
  cases vlo with
  | none=>exact r.elim
  | some v=>
   obtain⟨k,rfl⟩:=Qj0 (g:=g) (w:=w) (base:=base) (toks:=toks) h r;exact .inr ⟨k,rfl⟩
omit hΓ in
theorem QgE (k:IntKind) (l:Int) (y:Nat) (c:BoundsCode) (w:World) (h0:0≤l) (h1:l≤y):(Instr.sliceBound (.int k l) y c).run P w= .ok l.toNat w:=by
 unfold Instr.sliceBound;simp only[Sem.run_bind,asIntOf,Sem.run_pure,Result.andThen_ok];rw[if_pos ⟨h0,h1⟩]; rfl
omit hΓ in
theorem QbS (isS:Bool) (len cap:Nat) (vlo vhi:Option Value) (l h:Int) (w:World) (hlc:len≤cap)
  (hl:(vlo=none∧l=0)∨∃k,vlo=some (.int k l)) (hh:(vhi=none∧h=len)∨∃k,vhi=some (.int k h)) (h0:0≤l) (h1:l≤h) (h2:h≤len):
  (Instr.sliceBounds isS len cap vlo vhi none).run P w= .ok (l.toNat,h.toNat,cap) w:=by
 unfold Instr.sliceBounds;have r1:∀k c,(Instr.sliceBound (.int k h) cap c).run P w= .ok h.toNat w:=fun k c=>QgE k h cap c w (by omega) (by omega)
 have r2:∀k,(Instr.sliceBound (.int k l) h.toNat .sliceB).run P w= .ok l.toNat w:=fun k=>QgE k l h.toNat .sliceB w (by omega) (by omega)
 rcases hl with⟨rfl,rfl⟩ | ⟨k,rfl⟩<;>rcases hh with⟨rfl,rfl⟩ | ⟨k',rfl⟩
 ·simp
 ·simp[r1]
 ·have r3:=r2 k;simp only[Int.toNat_natCast]at r3;simp[r3]
 ·simp[r1,r2]
theorem Qwz {T:TypeId} {x z:X} {lo hi mx:Option X} {vx:Value} {vlo vhi vmx:Option Value} (h:QsY Γ T x lo hi mx=some z) (rx:RelX g w base toks x vx) (rl:QDO g w base toks lo vlo) (rh:QDO g w base toks hi vhi) (rm:QDO g w base toks mx vmx):
  ∃v,(Instr.sliceAt T vx vlo vhi vmx).run P w= .ok v w∧RelX g w base toks z v:=by
 unfold QsY at h;split at h
 ·cases h
 ·have hm:vmx=none:=by cases vmx with | none=>rfl | some v=>exact rm.elim
  subst hm;split at h
  ·cases h
  ·rename_i i hT;have hu:=(hΓ T i hT).und;split at h
   ·rename_i e hd;rw[hd]at hu;split at h
    ·rename_i j k rows he hx;have heok:=hΓ _ _ he;split at h
     ·rename_i l hh hl1 hh1;split at h
      ·rename_i hc;obtain⟨c0,c1,c2,c3⟩:=hc;simp only[Option.some.injEq]at h; subst h;have hr:=Qf3 hx rx;simp only[Rel]at hr;obtain⟨hlen,a,c,rfl,hlc,hrows⟩:=hr;have b1:=QcX hl1 rl;have b2:=QcX hh1 rh;have hrun:=QbS (P:=P) true rows.length c vlo vhi l hh w hlc (b1.imp (fun h=>⟨h.2.1,h.2.2⟩) id) (b2.imp (fun h=>⟨h.2.1,h.2.2⟩) id) c0 c1 c2;have hl2:((rows.drop l.toNat).take (hh.toNat - l.toNat)).length=hh.toNat - l.toNat:=by simp; omega
       refine⟨.slice (if c=l.toNat then a else a.map (·.add (l.toNat*k))) (hh.toNat - l.toNat) (c - l.toNat),?_,?_⟩
       ·unfold Instr.sliceAt Instr.slice;simp only[Sem.run_bind,run_underlying hu,Result.andThen_ok,hrun,Qbe heok,c3,Sem.run_pure]
       ·simp only[RelX,Rel,hl2];refine⟨by omega,_,_,rfl,by omega,?_⟩
        by_cases hemp:hh.toNat - l.toNat=0
        ·left; rw[hemp]; simp
        ·right;rcases hrows with rfl | ⟨b,o,rfl,hrr⟩
         ·simp at c2; omega
         ·have hne:¬c=l.toNat:=by omega
          rw[if_neg hne];exact⟨b,o+l.toNat*k,by simp[QaS],hrr.sub _ _⟩
      ·cases h
     ·cases h
    ·cases h
   ·rename_i hd;rw[hd]at hu;split at h
    ·rename_i s;simp only[RelX,Rel]at rx; subst rx;split at h
     ·rename_i l hh hl1 hh1;split at h
      ·rename_i hc;obtain⟨c0,c1,c2⟩:=hc;simp only[Option.some.injEq]at h; subst h;have b1:=QcX hl1 rl;have b2:=QcX hh1 rh;have hrun:=QbS (P:=P) false s.size s.size vlo vhi l hh w (Nat.le_refl _) (b1.imp (fun h=>⟨h.2.1,h.2.2⟩) id) (b2.imp (fun h=>⟨h.2.1,h.2.2⟩) id) c0 c1 c2;refine⟨_,?_,by simp only[RelX,Rel]; rfl⟩
       unfold Instr.sliceAt Instr.slice;simp[Sem.run_bind,run_underlying hu,hrun]
      ·cases h
     ·cases h
    ·cases h
   ·rename_i len e hd;rw[hd]at hu;split at h
    ·rename_i b off j he;have heok:=hΓ _ _ he;obtain⟨blk,hb,rfl⟩:=rx;split at h
     ·rename_i l hh hl1 hh1;split at h
      ·rename_i hc;obtain⟨c0,c1,c2,c4⟩:=hc;simp only[Option.some.injEq]at h; subst h;have b1:=QcX hl1 rl;have b2:=QcX hh1 rh;have hrun:=QbS (P:=P) false len len vlo vhi l hh w (Nat.le_refl _) (b1.imp (fun h=>⟨h.2.1,h.2.2⟩) id) (b2.imp (fun h=>⟨h.2.1,h.2.2⟩) id) c0 c1 c2;by_cases c3:l < len
       ·have hne:¬len=l.toNat:=by omega
        rw[if_pos c3];refine⟨.slice (some ⟨blk,off+l.toNat,none⟩) (hh.toNat - l.toNat) (len - l.toNat),?_,⟨blk,_,hb,rfl,by omega⟩⟩
        unfold Instr.sliceAt;simp only[Sem.run_bind,run_underlying hu,Result.andThen_ok,Instr.sureAddr,Sem.run_pure,hrun,Qbe heok,c4,if_neg hne,Nat.mul_one,QaS]
       ·have heq:len=l.toNat:=by omega
        rw[if_neg c3];refine⟨.slice (some ⟨blk,off,none⟩) (hh.toNat - l.toNat) (len - l.toNat),?_,⟨blk,_,hb,rfl,by omega⟩⟩
        unfold Instr.sliceAt;simp only[Sem.run_bind,run_underlying hu,Result.andThen_ok,Instr.sureAddr,Sem.run_pure,hrun,Qbe heok,c4,if_pos heq]
      ·cases h
     ·cases h
    ·rename_i k rows r off j he;have heok:=hΓ _ _ he;simp only[RelX,Rel]at rx;obtain⟨hrl,b,o,rfl,hrows⟩:=rx;split at h
     ·rename_i row l hh hrow hl1 hh1;split at h
      ·rename_i hc;obtain⟨c0,c1,c2,c3,c4,c5,c6⟩:=hc;simp only[Option.some.injEq]at h; subst h;have b1:=QcX hl1 rl;have b2:=QcX hh1 rh;have hrun:=QbS (P:=P) false len len vlo vhi l hh w (Nat.le_refl _) (b1.imp (fun h=>⟨h.2.1,h.2.2⟩) id) (b2.imp (fun h=>⟨h.2.1,h.2.2⟩) id) c0 c1 c2;have hne:¬len=l.toNat:=by omega
       have hl2:(((row.drop (off+l.toNat)).take (hh.toNat - l.toNat)).map fun d=>[d]).length=hh.toNat - l.toNat:=by simp; omega
       obtain⟨hk,hcells⟩:=hrows.get _ _ hrow;refine⟨.slice (some ⟨b,o+(r*k+off)+l.toNat,none⟩) (hh.toNat - l.toNat) (len - l.toNat),?_,?_⟩
       ·unfold Instr.sliceAt;simp only[Sem.run_bind,run_underlying hu,Result.andThen_ok,Instr.sureAddr,Sem.run_pure,hrun,Qbe heok,c4,if_neg hne,Nat.mul_one,QaS]
       ·simp only[RelX,Rel,hl2];refine⟨by omega,_,_,rfl,by omega,.inr ⟨b,o+(r*k+off)+l.toNat,rfl,RelRows.of fun i rr hr=>?_⟩⟩
        rw[List.getElem?_map]at hr;obtain⟨d,hd,rfl⟩:=Option.map_eq_some_iff.1 hr;rw[List.getElem?_take]at hd;split at hd
        ·rw[List.getElem?_drop]at hd;obtain⟨v,q1,q2,q3,q4⟩:=hcells.get _ _ hd;have e:o+(r*k+off)+l.toNat+i*1=o+r*k+(off+l.toNat+i):=by omega
         refine⟨rfl,RelCells.of fun j d' hj=>?_⟩;cases j with
         | succ j=>simp at hj
         | zero=>
          simp only[List.getElem?_cons_zero,Option.some.injEq]at hj;subst hj;rw[Nat.add_zero,e];exact⟨v,q1,q2,q3,q4⟩
        ·cases hd
      ·cases h
     ·cases h
    ·cases h
   ·cases h
end
end Go.Proofs.YticoemblgkemiaaGreatDoor
namespace Go.Proofs.YticoemblgkemiaaGreatDoor
open Go.RowKit
section
variable {P:Program} {Γ:Tys} (hΓ:∀T i,Γ T=some i→TyOk P T i) {g:Gh} {w:World} {base:Nat} {toks:List Nat}
theorem Qkx (off:Nat):∀(vs:List Value) (k:Nat) (cells:Array Value),off+k+vs.length≤cells.size→
  ((vs.zipIdx k).foldl (fun(cs:Array Value) (p:Value×Nat)=>cs.setIfInBounds (off+p.2) p.1) cells).toList=cells.toList.take (off+k)++vs++cells.toList.drop (off+k+vs.length)
 | [],k,cells,h=>by simp
 | v::t,k,cells,h=>by
  simp only[List.zipIdx_cons,List.foldl_cons];rw[Qkx off t (k+1) _ (by simp at h⊢; omega)]
  simp only[Array.toList_setIfInBounds,List.length_cons];have hk:off+k < cells.toList.length:=by simp at h⊢; omega
  rw[show off+(k+1)=off+k+1 by omega]
  have:=list_seg_step cells.toList (off+k) v t (by simp at h⊢; omega)
  rw[this]
theorem QcD {m:Nat→Nat→Prop} (hm:∀b o,g.imm b o→m b o) {d:D} {v:Value} (h:Rel g.imm w d v):Rel m w d v:=Rel.ext ⟨hm,fun _ _ _=>rfl⟩ _ _ h
def Qvb (g:Gh):Nat→Nat→Prop:=fun b o=>g.imm b o∨∃i,g.box i=some b
theorem QhY {boxes:List (Nat×List X)} (hB:QcC g w base toks boxes):∀{caps:List (Sum Nat D)} {ds:List D} {vs:List Value},Qgt boxes caps=some ds→CapsR g w caps vs→RelL (Qvb g) w ds vs
 | [],ds,vs,h,r=>by simp only[Qgt,Option.some.injEq]at h; subst h; simpa only[CapsR,RelL]using r
 | .inr d::t,ds,vs,h,r=>by
  simp only[Qgt]at h;simp only[CapsR]at r;obtain⟨v,vt,rfl,h1,h2⟩:=r;split at h
  ·rename_i ds' hds;simp only[Option.some.injEq]at h; subst h;simp only[RelL];exact⟨v,vt,rfl,QcD (fun _ _ h=> .inl h) h1,QhY hB hds h2⟩
  ·cases h
 | .inl b::t,ds,vs,h,r=>by
  simp only[Qgt]at h;simp only[CapsR]at r;obtain⟨v,vt,rfl,⟨blk,h1,rfl⟩,h2⟩:=r;split at h
  ·rename_i cs hcs;split at h
   ·rename_i dd hdd;split at h
    ·rename_i ds' hds;simp only[Option.some.injEq]at h; subst h;obtain⟨cv,ty,hh,hs,hc⟩:=hB b cs hcs blk h1;have hl:=Qc3 hdd;simp only[RelL];refine⟨_,vt,rfl,?_,QhY hB hds h2⟩;simp only[Rel];refine⟨by simp,blk,0,by simp,RelRows.of fun i r hr=>?_⟩
     cases i with
     | succ i=>simp at hr
     | zero=>
      simp only[List.getElem?_cons_zero,Option.some.injEq]at hr;subst hr;refine⟨rfl,RelCells.of fun j d hj=>?_⟩;have hrel:RelL g.imm w dd (cv.toList.take cs.length):=Qc4 (base:=base) (toks:=toks) hdd (by have hs2:cs.length≤cv.size:=hs; rw[List.length_take,Array.length_toList]; exact Nat.min_eq_left hs2) fun j x v k1 k2=>by
       rw[List.getElem?_take]at k2;split at k2
       ·exact(hc j x v k1 (by simpa using k2)).2
       ·cases k2
      obtain⟨v,hv,hr⟩:=hrel.get _ _ hj;have hjl:j < cs.length:=by rw[←hl]; exact(List.getElem?_eq_some_iff.1 hj).1
      rw[List.getElem?_take,if_pos hjl]at hv;have hv':cv[j]?=some v:=by simpa using hv
      refine⟨v,.inr ⟨b,h1⟩,?_,(hc j cs[j] v (List.getElem?_eq_getElem hjl) hv').1,QcD (fun _ _ h=> .inl h) hr⟩;have:=QdN blk (0+0*dd.length+j) 0 cv ty hh;simpa[hv']using this
    ·cases h
   ·cases h
  ·cases h
theorem Qfc {m:Nat→Nat→Prop} {w:World} {k b:Nat} :∀(n:Nat) (ds:List D) (o:Nat),ds.length=n*k→RelCells m w ds b o→RelRows m w (QhE k n ds) b o k
 | 0,ds,o,hl,h=>by simp[QhE,RelRows]
 | n+1,ds,o,hl,h=>by
  have hk:k≤ds.length:=by rw[hl,Nat.succ_mul]; omega
  simp only[QhE,RelRows];refine⟨⟨by simp; omega,RelCells.of fun j d hj=>?_⟩,Qfc n (ds.drop k) (o+k) (by rw[List.length_drop,hl,Nat.succ_mul]; omega) (RelCells.of fun j d hj=>?_)⟩
  ·rw[List.getElem?_take]at hj;split at hj
   ·exact h.get j d hj
   ·cases hj
  ·rw[List.getElem?_drop]at hj;have:=h.get _ _ hj;rw[show o+k+j=o+(k+j) by omega]; exact this
theorem Qhx (k:Nat):∀(n:Nat) (ds:List D),(QhE k n ds).length=n
 | 0,_=>rfl
 | n+1,ds=>by simp[QhE,Qhx k n]
theorem QpT {boxes:List (Nat×List X)} (hB:QcC g w base toks boxes) {b o n k:Nat} {d:D} {v:Value} (h:Qk9 boxes b o n k=some d) (r:∃blk c,g.box b=some blk∧v= .slice (some ⟨blk,o,none⟩) n c∧n≤c):Rel (Qvb g) w d v:=by
 simp only[Qk9]at h;split at h
 ·cases h
 ·rename_i cs hcs;split at h
  ·rename_i hc;obtain⟨rfl,hlen,hmax⟩:=hc;split at h
   ·rename_i ds hds;simp only[Option.some.injEq]at h; subst h;obtain⟨blk,c,h1,rfl,hnc⟩:=r;obtain⟨cv,ty,hh,hs,hcells⟩:=hB b cs hcs blk h1;have hs':cs.length≤cv.size:=by simpa using hs
    have hl:=Qc3 hds;have hdl:ds.length=n:=by rw[hl]; simp; omega
    have hrel:RelL g.imm w ds ((cv.toList.drop o).take n):=Qc4 (base:=base) (toks:=toks) hds (by simp; omega) fun j x v k1 k2=>by
     rw[List.getElem?_take]at k1 k2;split at k1
     ·rename_i hj;rw[if_pos hj]at k2;rw[List.getElem?_drop]at k1 k2;exact(hcells (o+j) x v k1 (by simpa using k2)).2
     ·cases k1
    simp only[Rel,List.length_map,hdl];refine⟨hmax,_,c,rfl,hnc,.inr ⟨blk,o,rfl,RelRows.of fun i rr hr=>?_⟩⟩;rw[List.getElem?_map]at hr;obtain⟨d,hd,rfl⟩:=Option.map_eq_some_iff.1 hr;refine⟨rfl,RelCells.of fun j d' hj=>?_⟩;cases j with
    | succ j=>simp at hj
    | zero=>
     simp only[List.getElem?_cons_zero,Option.some.injEq]at hj;subst hj;obtain⟨v,hv,hr⟩:=hrel.get _ _ hd;have hi:i < ds.length:=(List.getElem?_eq_some_iff.1 hd).1;rw[List.getElem?_take,if_pos (by omega),List.getElem?_drop]at hv
     have hv':cv[o+i]?=some v:=by simpa using hv
     have hjl:o+i < cs.length:=by omega
     refine⟨v,.inr ⟨b,h1⟩,?_,(hcells (o+i) cs[o+i] v (List.getElem?_eq_getElem hjl) hv').1,QcD (fun _ _ h=> .inl h) hr⟩;have:=QdN blk (o+i*1+0) 0 cv ty hh;simpa[hv']using this
   ·cases h
  ·split at h
   ·rename_i hc;obtain⟨hk,hlen,hmax⟩:=hc;split at h
    ·rename_i ds hds;simp only[Option.some.injEq]at h; subst h;obtain⟨blk,c,h1,rfl,hnc⟩:=r;obtain⟨cv,ty,hh,hs,hcells⟩:=hB b cs hcs blk h1;have hs':cs.length≤cv.size:=by simpa using hs
     have hl:=Qc3 hds;have hdl:ds.length=n*k:=by rw[hl]; simp; omega
     have hrel:RelL g.imm w ds ((cv.toList.drop o).take (n*k)):=Qc4 (base:=base) (toks:=toks) hds (by simp; omega) fun j x v k1 k2=>by
      rw[List.getElem?_take]at k1 k2;split at k1
      ·rename_i hj;rw[if_pos hj]at k2;rw[List.getElem?_drop]at k1 k2;exact(hcells (o+j) x v k1 (by simpa using k2)).2
      ·cases k1
     simp only[Rel,Qhx];refine⟨hmax,_,c,rfl,hnc,.inr ⟨blk,o,rfl,Qfc n ds o hdl (RelCells.of fun j d hd=>?_)⟩⟩;obtain⟨v,hv,hr⟩:=hrel.get _ _ hd;have hj:j < ds.length:=(List.getElem?_eq_some_iff.1 hd).1;rw[List.getElem?_take,if_pos (by omega),List.getElem?_drop]at hv
     have hv':cv[o+j]?=some v:=by simpa using hv
     have hjl:o+j < cs.length:=by omega
     refine⟨v,.inr ⟨b,h1⟩,?_,(hcells (o+j) cs[o+j] v (List.getElem?_eq_getElem hjl) hv').1,QcD (fun _ _ h=> .inl h) hr⟩;have:=QdN blk (o+j) 0 cv ty hh;simpa[hv']using this
    ·cases h
   ·cases h
theorem Qis {boxes:List (Nat×List X)} (hB:QcC g w base toks boxes):∀{cs:List BC} {ds:List D} {vs:List Value},Qdn boxes cs=some ds→RelB g w cs vs→RelL (Qvb g) w ds vs
 | [],ds,vs,h,hr=>by
  simp only[Qdn,Option.some.injEq]at h; subst h;simpa only[RelB,RelL]using hr
 | .d x::t,ds,vs,h,hr=>by
  simp only[Qdn]at h;split at h
  ·rename_i r hr';simp only[Option.some.injEq]at h; subst h;simp only[RelB]at hr;obtain⟨v,vt,h1,_,h3,h4⟩:=hr;simp only[RelL];exact⟨v,vt,h1,QoI (QcD (fun _ _ h=> .inl h) h3),Qis hB hr' h4⟩
  ·cases h
 | .b b off n k::t,ds,vs,h,hr=>by
  simp only[Qdn]at h;split at h
  ·rename_i d r hd hr';simp only[Option.some.injEq]at h; subst h;simp only[RelB]at hr;obtain⟨v,vt,h1,h2,h4⟩:=hr;simp only[RelL];exact⟨v,vt,h1,QpT hB hd h2,Qis hB hr' h4⟩
  ·cases h
theorem Qm7 {boxes:List (Nat×List X)} (hB:QcC g w base toks boxes) {x:X} {d:D} {v:Value} (h:x.snap boxes=some d) (r:RelX g w base toks x v):Rel (Qvb g) w d v:=by
 cases x with
 | d y=>simp only[X.snap,Option.some.injEq]at h; subst h; exact QcD (fun _ _ h=> .inl h) r
 | loc b o=>cases h
 | bs b o n k=>exact QpT hB h r
 | agb cs=>
  simp only[X.snap]at h;split at h
  ·rename_i ds hds;simp only[Option.some.injEq]at h; subst h;obtain⟨vs,rfl,hr⟩:=r;simp only[Rel];exact⟨vs,rfl,hr.one,Qis hB hds hr⟩
  ·cases h
 | mp b=>cases h
 | sl k rows own=>
  cases own with
  | own t=>cases h
  | _=>
   have:Rel g.imm w (.sl k rows) v:=r.1;simp only[X.snap,Option.some.injEq]at h; subst h; exact QcD (fun _ _ h=> .inl h) this
 | agz cs=>simp only[X.snap,Option.some.injEq]at h; subst h; exact QcD (fun _ _ h=> .inl h) (QfH r)
 | fx f first caps=>
  simp only[X.snap]at h;split at h
  ·rename_i cs hcs;simp only[Option.some.injEq]at h; subst h;obtain⟨fs,vs,h1,h2,h3⟩:=r;simp only[Rel];exact⟨fs,vs,h1,RelL.ext ⟨fun _ _ h=> .inl h,fun _ _ _=>rfl⟩ _ _ h2,QhY hB hcs h3⟩
  ·cases h
theorem QjU {boxes:List (Nat×List X)} (hB:QcC g w base toks boxes):∀{xs:List X} {ds:List D} {vs:List Value},QeD boxes xs=some ds→vs.length=xs.length→(∀(j:Nat) (x:X) (v:Value),xs[j]?=some x→vs[j]?=some v→RelX g w base toks x v)→RelL (Qvb g) w ds vs
 | [],ds,vs,h,hl,_=>by
  simp only[QeD,Option.some.injEq]at h; subst h;simp only[RelL]; exact List.length_eq_zero_iff.1 hl
 | x::t,ds,vs,h,hl,hr=>by
  cases vs with
  | nil=>simp at hl
  | cons v vt=>
   simp only[QeD]at h;cases hx:x.snap boxes with
   | none=>rw[hx]at h; cases h
   | some d=>
    rw[hx]at h;cases ht:QeD boxes t with
    | none=>rw[ht]at h; cases h
    | some ds'=>
     rw[ht]at h;simp only[Option.some.injEq]at h; subst h;simp only[RelL];exact⟨v,vt,rfl,Qm7 hB hx (hr 0 x v rfl rfl),QjU hB ht (by simpa using hl) fun j x' v' h1 h2=>hr (j+1) x' v' (by simpa using h1) (by simpa using h2)⟩
theorem Qwo {m m':Nat→Nat→Prop} {w w':World} {d:D} {v:Value} (hf:Qum d=true) (h:Rel m w d v):Rel m' w' d v:=by
 cases d<;>simp[Qum]at hf;simpa only[Rel]using h
theorem Qh4 {m m':Nat→Nat→Prop} {w w':World} :∀{ds:List D} {vs:List Value},ds.all Qum=true→RelL m w ds vs→RelL m' w' ds vs
 | [],_,_,h=>by simpa only[RelL]using h
 | d::t,vs,hf,h=>by
  simp only[List.all_cons,Bool.and_eq_true]at hf;simp only[RelL]at h⊢;obtain⟨v,vt,h1,h2,h3⟩:=h;exact⟨v,vt,h1,Qwo hf.1 h2,Qh4 hf.2 h3⟩
theorem QvJ {m m':Nat→Nat→Prop} {w w':World} {d:D} {v:Value} (hf:QwQ d=true) (h:Rel m w d v):Rel m' w' d v:=by
 cases d<;>simp only[QwQ]at hf<;>try (cases hf; done)
 ·simpa only[Rel]using h
 ·simp only[Rel]at h⊢;obtain⟨vs,h1,h2,h3⟩:=h;exact⟨vs,h1,h2,Qh4 hf h3⟩
theorem Ql4 {m m':Nat→Nat→Prop} {w w':World} :∀{ds:List D} {vs:List Value},ds.all QwQ=true→RelL m w ds vs→RelL m' w' ds vs
 | [],_,_,h=>by simpa only[RelL]using h
 | d::t,vs,hf,h=>by
  simp only[List.all_cons,Bool.and_eq_true]at hf;simp only[RelL]at h⊢;obtain⟨v,vt,h1,h2,h3⟩:=h;exact⟨v,vt,h1,QvJ hf.1 h2,Ql4 hf.2 h3⟩
theorem QoD {m m':Nat→Nat→Prop} {w w':World} {d:D} {v:Value} (hf:QxL d=true) (h:Rel m w d v):Rel m' w' d v:=by
 cases d<;>simp only[QxL]at hf<;>try (cases hf; done)
 ·simpa only[Rel]using h
 ·simp only[Rel]at h⊢;obtain⟨vs,h1,h2,h3⟩:=h;exact⟨vs,h1,h2,Qh4 hf h3⟩
 ·simp only[Rel]at h⊢;obtain⟨vs,h1,h2⟩:=h;exact⟨vs,h1,Ql4 hf h2⟩
theorem QlP:∀{xs:List X} {cs:List (Sum Nat D)} {vs:List Value},QiL xs=some cs→vs.length=xs.length→(∀(j:Nat) (x:X) (v:Value),xs[j]?=some x→vs[j]?=some v→RelX g w base toks x v)→CapsR g w cs vs
 | [],cs,vs,h,hl,_=>by
  simp only[QiL,Option.some.injEq]at h; subst h;simp only[CapsR]; exact List.length_eq_zero_iff.1 hl
 | x::t,cs,vs,h,hl,hr=>by
  cases vs with
  | nil=>simp at hl
  | cons v vt=>
   have h0:=hr 0 x v rfl rfl;have ht:∀{cs'},QiL t=some cs'→CapsR g w cs' vt:=fun hc=>QlP hc (by simpa using hl) fun j x' v' h1 h2=>hr (j+1) x' v' (by simpa using h1) (by simpa using h2)
   unfold QiL at h;split at h
   ·rename_i heq; cases heq
   ·rename_i b t' heq;cases heq;split at h
    ·rename_i cs' hc;simp only[Option.some.injEq]at h; subst h;simp only[CapsR];exact⟨v,vt,rfl,h0,ht hc⟩
    ·cases h
   ·rename_i k rows i off t' heq;cases heq;split at h
    ·rename_i cs' hc;simp only[Option.some.injEq]at h; subst h;simp only[CapsR];exact⟨v,vt,rfl,h0,ht hc⟩
    ·cases h
   ·cases h
theorem QlK:∀{cs:List (Sum Nat D)} {ds:List D} {vs:List Value},Ql8 cs=some ds→CapsR g w cs vs→RelL g.imm w ds vs
 | [],ds,vs,h,r=>by simp only[Ql8,Option.some.injEq]at h; subst h; simpa only[CapsR,RelL]using r
 | .inr d::t,ds,vs,h,r=>by
  simp only[Ql8]at h;simp only[CapsR]at r;obtain⟨v,vt,rfl,h1,h2⟩:=r;split at h
  ·rename_i ds' hds;simp only[Option.some.injEq]at h; subst h;simp only[RelL];exact⟨v,vt,rfl,h1,QlK hds h2⟩
  ·cases h
 | .inl b::t,ds,vs,h,r=>by cases h
theorem QA5 {fn:Fn} {first caps:List X} {fs cs:List Value} {z:X} (h:QCg fn first caps=some z) (hf:fs.length=first.length) (hfr:∀(j:Nat) (x:X) (v:Value),first[j]?=some x→fs[j]?=some v→RelX g w base toks x v)
  (hc:cs.length=caps.length) (hcr:∀(j:Nat) (x:X) (v:Value),caps[j]?=some x→cs[j]?=some v→RelX g w base toks x v):RelX g w base toks z (.func fn fs.toArray cs.toArray):=by
 unfold QCg at h;split at h
 ·rename_i f;split at h
  ·rename_i ds cc hds hcc;simp only[Option.some.injEq]at h; subst h;have r1:=Qc4 hds hf hfr;have r2:=QlP hcc hc hcr;unfold QN1;split
   ·rename_i dd hdd;simp only[RelX,Rel];exact⟨fs,cs,rfl,r1,QlK hdd r2⟩
   ·exact⟨fs,cs,rfl,r1,r2⟩
  ·cases h
 ·cases h
theorem Qxb {d:D} {v:Value} (h:Rel g.imm w d v):RelX g w base toks (QBp d) v:=by
 unfold QBp;split
 ·simp only[Rel]at h;subst h;simp only[RelX,Rel];exact⟨⟨by simp,none,0,rfl,by simp,.inl trivial⟩,none,rfl⟩
 ·exact h
theorem RelB.at:∀{cs:List BC} {vs:List Value} {j:Nat} {y:X} {u:Value},RelB g w cs vs→(cs.map BC.x)[j]?=some y→vs[j]?=some u→RelX g w base toks y u
 | [],vs,j,y,u,h,h2,h3=>by simp at h2
 | .d x::t,vs,j,y,u,h,h2,h3=>by
  simp only[RelB]at h;obtain⟨v,vt,rfl,_,hx,h4⟩:=h;cases j with
  | zero=>simp[BC.x]at h2 h3; subst h2; subst h3; exact hx
  | succ j=>exact RelB.at (cs:=t) (j:=j) h4 (by simpa using h2) (by simpa using h3)
 | .b b off n k::t,vs,j,y,u,h,h2,h3=>by
  simp only[RelB]at h;obtain⟨v,vt,rfl,hx,h4⟩:=h;cases j with
  | zero=>simp[BC.x]at h2 h3; subst h2; subst h3; exact hx
  | succ j=>exact RelB.at (cs:=t) (j:=j) h4 (by simpa using h2) (by simpa using h3)
theorem Qhz {x:X} {xs:List X} {v:Value} (h:x.cells=some xs) (r:RelX g w base toks x v):
  v.cells.toList.length=xs.length∧(∀u∈v.cells.toList,u.oneCell'=true)∧∀(j:Nat) (y:X) (u:Value),xs[j]?=some y→v.cells.toList[j]?=some u→RelX g w base toks y u:=by
 have one:∀(y:X) (u:Value),u.oneCell'=true→RelX g w base toks y u→u.cells.toList.length=[y].length∧(∀z∈u.cells.toList,z.oneCell'=true)∧∀(j:Nat) (y':X) (u':Value),[y][j]?=some y'→u.cells.toList[j]?=some u'→RelX g w base toks y' u':=by
  intro y u hu hr;have hc:u.cells= #[u]:=by cases u<;>first | rfl | (simp[Value.oneCell']at hu)
  rw[hc];refine⟨rfl,by simpa using hu,fun j y' u' h1 h2=>?_⟩
  cases j with
  | zero=>simp at h1 h2; subst h1; subst h2; exact hr
  | succ j=>simp at h1
 unfold X.cells at h;split at h
 ·rename_i cs;simp only[Option.some.injEq]at h; subst h;simp only[RelX,Rel]at r;obtain⟨vs,rfl,h1,hr⟩:=r;refine⟨by simp[Value.cells,hr.length],by simpa[Value.cells]using h1,fun j y u h2 h3=>?_⟩
  rw[List.getElem?_map]at h2;cases hj:cs[j]? with
  | none=>rw[hj]at h2; cases h2
  | some d=>
   rw[hj]at h2; simp at h2; subst h2;obtain⟨v',h4,h5⟩:=hr.get j d hj;have:v'=u:=by
    have h3':vs[j]?=some u:=by simpa[Value.cells]using h3
    rw[h4]at h3'; simpa using h3'
   subst this;exact Qxb h5
 ·rename_i cs;simp only[Option.some.injEq]at h; subst h;simp only[RelX,Rel]at r;obtain⟨vs,rfl,h1,hr⟩:=r;refine⟨by simp[Value.cells,hr.length],by simpa[Value.cells]using h1,fun j y u h2 h3=>?_⟩
  rw[List.getElem?_map]at h2;cases hj:cs[j]? with
  | none=>rw[hj]at h2; cases h2
  | some d=>
   rw[hj]at h2; simp at h2; subst h2;obtain⟨v',h4,h5⟩:=hr.get j d hj;have:v'=u:=by
    have h3':vs[j]?=some u:=by simpa[Value.cells]using h3
    rw[h4]at h3'; simpa using h3'
   subst this; exact h5
 ·rename_i x;split at h
  ·rename_i hx;simp only[Option.some.injEq]at h; subst h;simp only[RelX,Rel]at r; subst r;exact one _ _ hx (by simp[RelX,Rel])
  ·cases h
 ·simp only[Option.some.injEq]at h; subst h;have r':=r;simp only[RelX,Rel]at r;obtain⟨_,a,c,rfl,_⟩:=r;exact one _ _ rfl r'
 ·simp only[Option.some.injEq]at h; subst h;have r':=r;simp only[RelX,Rel]at r;obtain⟨_,b,o,rfl,_⟩:=r;exact one _ _ rfl r'
 ·simp only[Option.some.injEq]at h; subst h;have r':=r;simp only[RelX,Rel]at r;obtain⟨fs,cs,rfl,_⟩:=r;exact one _ _ rfl r'
 ·rename_i k rows own;simp only[Option.some.injEq]at h; subst h;have r':=r;have:∃a n c,v= .slice a n c:=by
   cases own with
   | own t=>exact r.1
   | _=>have:=r.1; simp only[Rel]at this; obtain⟨_,a,c,rfl,_⟩:=this; exact⟨_,_,_,rfl⟩
  obtain⟨a,n,c,rfl⟩:=this;exact one _ _ rfl r'
 ·simp only[Option.some.injEq]at h; subst h;have r':=r;obtain⟨blk,_,rfl⟩:=r;exact one _ _ rfl r'
 ·simp only[Option.some.injEq]at h; subst h;have r':=r;obtain⟨fs,cs,rfl,_⟩:=r;exact one _ _ rfl r'
 ·simp only[Option.some.injEq]at h; subst h;have r':=r;obtain⟨blk,_,rfl⟩:=r;exact one _ _ rfl r'
 ·simp only[Option.some.injEq]at h; subst h;have r':=r;obtain⟨blk,_,_,rfl,_⟩:=r;exact one _ _ rfl r'
 ·rename_i cs;simp only[Option.some.injEq]at h; subst h;obtain⟨vs,rfl,hr⟩:=r;refine⟨by simp[Value.cells,hr.length],by simpa[Value.cells]using hr.one,fun j y u h2 h3=>hr.at h2 (by simpa[Value.cells]using h3)⟩
 ·cases h
def QfD (g:Gh) (w:World) (base:Nat) (toks:List Nat):List (Nat×X)→List (Nat×Value)→Prop
 | [],vs=>vs=[]
 | p::t,vs=>∃v vt,vs=(p.1,v)::vt∧RelX g w base toks p.2 v∧QfD g w base toks t vt
theorem Qjs (place:Nat→Option (Nat×Nat)):∀(xs:List (Nat×X)) (ds ds':List D) (parts:List (Nat×Value)) (cells:Array Value),QjG place ds xs=some ds'→QfD g w base toks xs parts→RelL g.imm w ds cells.toList→(∀u∈cells.toList,u.oneCell'=true)→
  ∃cells':Array Value,Instr.fill place cells parts=some cells'∧RelL g.imm w ds' cells'.toList∧(∀u∈cells'.toList,u.oneCell'=true)
 | [],ds,ds',parts,cells,h,hp,hr,h1=>by
  simp only[QjG,Option.some.injEq]at h; subst h;simp only[QfD]at hp; subst hp;exact⟨cells,rfl,hr,h1⟩
 | (i,x)::t,ds,ds',parts,cells,h,hp,hr,h1=>by
  simp only[QfD]at hp;obtain⟨v,vt,rfl,hx,ht⟩:=hp;simp only[QjG]at h;split at h
  ·rename_i off size xs hpl hcs;split at h
   ·rename_i dd hdd;split at h
    ·rename_i hc;obtain⟨c1,c2⟩:=hc;obtain⟨hl,hone,hcr⟩:=Qhz hcs hx;have hlen:=Qc3 hdd;have hrel:=Qc4 (base:=base) (toks:=toks) hdd hl hcr;have hcl:=hr.length;have hsz:v.cells.size=size:=by rw[←Array.length_toList,hl,←hlen,c1]
     have hle:¬(off+v.cells.size > cells.size):=by rw[←Array.length_toList (xs:=cells),hcl,hsz]; omega
     have hfold:=Qkx off v.cells.toList 0 cells (by rw[←Array.length_toList (xs:=cells),hcl,hl,←hlen]; omega)
     have hfold2:(v.cells.zipIdx.foldl (fun(cs:Array Value) (p:Value×Nat)=>cs.setIfInBounds (off+p.2) p.1) cells).toList=cells.toList.take off++v.cells.toList++cells.toList.drop (off+dd.length):=by
      rw[←Array.foldl_toList,Array.toList_zipIdx];have e:off+0+v.cells.toList.length=off+dd.length:=by rw[hl,hlen]; omega
      rw[e]at hfold;simpa using hfold
     have hrel2:RelL g.imm w (ds.take off++dd++ds.drop (off+dd.length)) (cells.toList.take off++v.cells.toList++cells.toList.drop (off+dd.length)):=by
      refine RelL.of (by simp[hcl,hl,hlen]) fun j d u h2 h3=>?_
      have t1:(ds.take off).length=off:=by simp; omega
      have t2:(cells.toList.take off).length=off:=by rw[List.length_take,hcl]; omega
      rw[List.append_assoc,List.getElem?_append,t1]at h2;rw[List.append_assoc,List.getElem?_append,t2]at h3;split at h2
      ·rename_i hj;rw[if_pos hj]at h3;rw[List.getElem?_take,if_pos hj]at h2 h3;obtain⟨u',h4,h5⟩:=hr.get _ _ h2;rw[h4]at h3; simp at h3; subst h3; exact h5
      ·rename_i hj;rw[if_neg hj]at h3;rw[List.getElem?_append]at h2 h3;rw[hl,←hlen]at h3;split at h2
       ·rename_i hj2;rw[if_pos hj2]at h3;obtain⟨u',h4,h5⟩:=hrel.get _ _ h2;rw[h4]at h3; simp at h3; subst h3; exact h5
       ·rename_i hj2;rw[if_neg hj2]at h3;rw[List.getElem?_drop]at h2 h3;obtain⟨u',h4,h5⟩:=hr.get _ _ h2;rw[h4]at h3; simp at h3; subst h3; exact h5
     have hone2:∀u∈(cells.toList.take off++v.cells.toList++cells.toList.drop (off+dd.length)),u.oneCell'=true:=by
      intro u hu;simp only[List.mem_append]at hu;rcases hu with(hu | hu) | hu
      ·exact h1 u (List.mem_of_mem_take hu)
      ·exact hone u hu
      ·exact h1 u (List.mem_of_mem_drop hu)
     obtain⟨cells',h6,h7,h8⟩:=Qjs place t _ ds' vt (v.cells.zipIdx.foldl (fun(cs:Array Value) (p:Value×Nat)=>cs.setIfInBounds (off+p.2) p.1) cells) h ht (by rw[hfold2]; exact hrel2) (by rw[hfold2]; exact hone2)
     refine⟨cells',?_,h7,h8⟩;simp only[Instr.fill,hpl];rw[if_neg (by simp only[Bool.or_eq_true,decide_eq_true_eq,not_or,bne_iff_ne,ne_eq]; exact⟨fun e=>e hsz,hle⟩)]
     exact h6
    ·cases h
   ·cases h
  ·cases h
theorem RelB.app:∀{a b:List BC} {x y:List Value},RelB g w a x→RelB g w b y→RelB g w (a++b) (x++y)
 | [],b,x,y,h1,h2=>by simp only[RelB]at h1; subst h1; exact h2
 | .d d::t,b,x,y,h1,h2=>by
  simp only[RelB]at h1;obtain⟨v,vt,rfl,h3,h4,h5⟩:=h1;simp only[List.cons_append,RelB];exact⟨v,vt++y,rfl,h3,h4,h5.app h2⟩
 | .b c o n k::t,b,x,y,h1,h2=>by
  simp only[RelB]at h1;obtain⟨v,vt,rfl,h3,h4⟩:=h1;simp only[List.cons_append,RelB];exact⟨v,vt++y,rfl,h3,h4.app h2⟩
theorem RelB.take:∀{a:List BC} {x:List Value} (n:Nat),RelB g w a x→RelB g w (a.take n) (x.take n)
 | [],x,n,h=>by simp only[RelB]at h; subst h; simp[RelB]
 | c::t,x,0,h=>by simp[RelB]
 | .d d::t,x,n+1,h=>by
  simp only[RelB]at h;obtain⟨v,vt,rfl,h3,h4,h5⟩:=h;simp only[List.take_succ_cons,RelB];exact⟨v,_,rfl,h3,h4,h5.take n⟩
 | .b c o m k::t,x,n+1,h=>by
  simp only[RelB]at h;obtain⟨v,vt,rfl,h3,h4⟩:=h;simp only[List.take_succ_cons,RelB];exact⟨v,_,rfl,h3,h4.take n⟩
theorem RelB.drop:∀{a:List BC} {x:List Value} (n:Nat),RelB g w a x→RelB g w (a.drop n) (x.drop n)
 | a,x,0,h=>by simpa using h
 | [],x,n+1,h=>by simp only[RelB]at h; subst h; simp[RelB]
 | .d d::t,x,n+1,h=>by
  simp only[RelB]at h;obtain⟨v,vt,rfl,h3,h4,h5⟩:=h;simpa using h5.drop n
 | .b c o m k::t,x,n+1,h=>by
  simp only[RelB]at h;obtain⟨v,vt,rfl,h3,h4⟩:=h;simpa using h4.drop n
theorem Qmc:∀{vs:List Value},(∀v∈vs,v.oneCell'=true)→RelB g w ((vs.map .v).map .d) vs
 | [],_=>by simp[RelB]
 | v::t,h=>by
  simp only[List.map_cons,RelB];exact⟨v,t,rfl,h v (by simp),by simp[Rel],Qmc fun u hu=>h u (by simp[hu])⟩
theorem Qpe (place:Nat→Option (Nat×Nat)):∀(xs:List (Nat×X)) (ds ds':List BC) (parts:List (Nat×Value)) (cells:Array Value),QtP place ds xs=some ds'→QfD g w base toks xs parts→RelB g w ds cells.toList→
  ∃cells':Array Value,Instr.fill place cells parts=some cells'∧RelB g w ds' cells'.toList
 | [],ds,ds',parts,cells,h,hp,hr=>by
  simp only[QtP,Option.some.injEq]at h; subst h;simp only[QfD]at hp; subst hp;exact⟨cells,rfl,hr⟩
 | (i,x)::t,ds,ds',parts,cells,h,hp,hr=>by
  simp only[QfD]at hp;obtain⟨v,vt,rfl,hx,ht⟩:=hp;simp only[QtP]at h;split at h
  ·rename_i off size xs hpl hcs;split at h
   ·rename_i dd hdd;split at h
    ·rename_i hc;obtain⟨c1,c2⟩:=hc;obtain⟨hl,hone,hcr⟩:=Qhz hcs hx;have hrel:=Qqr (base:=base) (toks:=toks) hdd hl fun j x v k1 k2=>⟨hone v (List.mem_of_getElem? k2),hcr j x v k1 k2⟩;have hlen:dd.length=xs.length:=by rw[←hrel.length,hl]
     have hcl:=hr.length;have hsz:v.cells.size=size:=by rw[←Array.length_toList,hl,←hlen,c1]
     have hle:¬(off+v.cells.size > cells.size):=by rw[←Array.length_toList (xs:=cells),hcl,hsz]; omega
     have hfold:=Qkx off v.cells.toList 0 cells (by rw[←Array.length_toList (xs:=cells),hcl,hl,←hlen]; omega)
     have hfold2:(v.cells.zipIdx.foldl (fun(cs:Array Value) (p:Value×Nat)=>cs.setIfInBounds (off+p.2) p.1) cells).toList=cells.toList.take off++v.cells.toList++cells.toList.drop (off+dd.length):=by
      rw[←Array.foldl_toList,Array.toList_zipIdx];have e:off+0+v.cells.toList.length=off+dd.length:=by rw[hl,hlen]; omega
      rw[e]at hfold;simpa using hfold
     have hrel2:RelB g w (ds.take off++dd++ds.drop (off+dd.length)) (cells.toList.take off++v.cells.toList++cells.toList.drop (off+dd.length)):=((hr.take off).app hrel).app (hr.drop _);obtain⟨cells',h6,h7⟩:=Qpe place t _ ds' vt (v.cells.zipIdx.foldl (fun(cs:Array Value) (p:Value×Nat)=>cs.setIfInBounds (off+p.2) p.1) cells) h ht (by rw[hfold2]; exact hrel2)
     refine⟨cells',?_,h7⟩;simp only[Instr.fill,hpl];rw[if_neg (by simp only[Bool.or_eq_true,decide_eq_true_eq,not_or,bne_iff_ne,ne_eq]; exact⟨fun e=>e hsz,hle⟩)]
     exact h6
    ·cases h
   ·cases h
  ·cases h
theorem QkH {m:Nat→Nat→Prop} {w:World} :∀vs:List Value,RelL m w (vs.map .v) vs
 | []=>by simp[RelL]
 | v::t=>by simp only[List.map_cons,RelL]; exact⟨v,t,rfl,by simp[Rel],QkH t⟩
theorem QDq {cs:List D} {v:Value} (h:Rel g.imm w (.agg cs) v):RelX g w base toks (bz cs) v:=by
 unfold bz; split<;>exact h
include hΓ
theorem Qia:∀(fs:List Field) (ps:List (Nat×Nat)),Qim Γ fs=some ps→fs.mapM (fun f=>(P.info? f.type).map fun i=>(f.offset,i.size))=some ps
 | [],ps,h=>by simp only[Qim,Option.some.injEq]at h; subst h; rfl
 | f::t,ps,h=>by
  simp only[Qim]at h;split at h
  ·rename_i j ps' hj hps;simp only[Option.some.injEq]at h; subst h;obtain⟨fi,h1,h2,_⟩:=(hΓ _ _ hj).inf;simp[List.mapM_cons,h1,h2,Qia t ps' hps]
  ·cases h
theorem QyG {T:TypeId} {xs:List (Nat×X)} {parts:Array (Nat×Value)} {z:X} (h:QsB Γ T xs=some z) (r:QfD g w base toks xs parts.toList):∃v,(Instr.build T parts).run P w= .ok v w∧RelX g w base toks z v:=by
 unfold QsB at h;split at h
 ·cases h
 ·rename_i i hT;have hok:=hΓ T i hT;obtain⟨fi,f1,f2,f3,f4⟩:=hok.inf;have hu:=hok.und;split at h
  ·rename_i fs hd;rw[hd]at hu;split at h
   ·rename_i ps hps;split at h
    ·rename_i cs hcs;simp only[Option.some.injEq]at h; subst h;obtain⟨cells',h1,h2,h3⟩:=Qjs _ xs _ cs parts.toList i.zero.cells hcs r (QkH _) hok.zone;refine⟨.agg cells',run_build w T parts cells' ?_,?_⟩
     ·unfold Program.built;simp only[f1,hu,f4,Qia hΓ _ _ hps];simpa using h1
     ·refine QDq ?_;simp only[Rel];exact⟨cells'.toList,by simp,h3,h2⟩
    ·split at h
     ·rename_i cs hcs;simp only[Option.some.injEq]at h; subst h;obtain⟨cells',h1,h2⟩:=Qpe _ xs _ cs parts.toList i.zero.cells hcs r (Qmc hok.zone);refine⟨.agg cells',run_build w T parts cells' ?_,cells'.toList,by simp,h2⟩
      unfold Program.built;simp only[f1,hu,f4,Qia hΓ _ _ hps];simpa using h1
     ·cases h
   ·cases h
  ·rename_i n e hd;rw[hd]at hu;split at h
   ·rename_i j hj;obtain⟨fj,g1,g2,g3,g4⟩:=(hΓ _ _ hj).inf;split at h
    ·rename_i cs hcs;simp only[Option.some.injEq]at h; subst h;obtain⟨cells',h1,h2,h3⟩:=Qjs _ xs _ cs parts.toList i.zero.cells hcs r (QkH _) hok.zone;refine⟨.agg cells',run_build w T parts cells' ?_,?_⟩
     ·unfold Program.built;simp only[f1,hu,f4,g1,g2];exact h1
     ·refine QDq ?_;simp only[Rel];exact⟨cells'.toList,by simp,h3,h2⟩
    ·cases h
   ·cases h
  ·cases h
end
end Go.Proofs.YticoemblgkemiaaGreatDoor
namespace Go.Proofs.YticoemblgkemiaaGreatDoor
open Go.RowKit
def QsO (g:Gh) (w:World) (ms:List (Nat×(Nat×List (Value×Value)))):Prop:=∀i mc,Qt ms i=some mc→∀blk,g.box i=some blk→MapAt w blk mc
def Qq1 (m0:Nat→Nat→Prop) (w0:Base) (w:World):Prop:=(∀b o,m0 b o→w.cell? ⟨b,o,none⟩=w0.w.cell? ⟨b,o,none⟩)∧GlobIn m0 w0.w
structure Inv (N:Nat) (m0:Nat→Nat→Prop) (w0:Base) (g:Gh) (σ:St) (a:Act) (w:World):Prop where
 below:QN8 w0 w
 size:a.tmps.size=N
 defers:∃Ds:List Nat,a.defers=Ds.map Qgr++w0.df∧Ds.Nodup∧∀D∈Ds,(w0.heap.size≤D∧w0.dOk)∧w.heap[D]?=some (.deferred (some []))
 lt:∀b o,g.imm b o→b < w.heap.size
 old:∀b o,m0 b o→g.imm b o
 new:∀b o,g.imm b o→m0 b o∨w0.heap.size≤b∨w0.writ b
 tmps:∀t x,Qt σ.tmps t=some x→RelX g w w0.heap.size σ.toks x (a.tmps.getD t undef)
 boxb:∀i b,g.box i=some b→(w0.heap.size≤b∨w0.writ b)∧b < w.heap.size∧∀o,¬g.imm b o
 boxi:∀i j b,g.box i=some b→g.box j=some b→i=j
 tokb:∀t b,g.tok t=some b→b < w.heap.size∧(w0.heap.size≤b∨w0.writ b)∧∀i,g.box i≠some b
 toki:∀s t b,g.tok s=some b→g.tok t=some b→s=t
 boxes:QcC g w w0.heap.size σ.toks σ.boxes
 out:∀i b,w0.out i=some b→g.box i=some b
 fz:∀p∈w0.fz,w.heap[p.1]?=some p.2∧p.2.isCells=false∧∀l c,p.2≠ .map l c
 maps:QsO g w σ.maps
 cells:Qq1 m0 w0 w
theorem QbG {m0 m:Nat→Nat→Prop} {w0:Base} {w w':World} (h:Qq1 m0 w0 w) (old:∀b o,m0 b o→m b o) (c:∀b o,m b o→w'.cell? ⟨b,o,none⟩=w.cell? ⟨b,o,none⟩):Qq1 m0 w0 w':=⟨fun b o hb=>(c b o (old b o hb)).trans (h.1 b o hb),h.2⟩
theorem Inv.globIn {N:Nat} {m0:Nat→Nat→Prop} {w0:Base} {g:Gh} {σ:St} {a:Act} {w:World} (I:Inv N m0 w0 g σ a w):GlobIn g.imm w:=I.cells.2.ext ⟨I.old,I.cells.1⟩
theorem Qdx {w0:Base} {a:Act} {w w':World} (h:∃Ds:List Nat,a.defers=Ds.map Qgr++w0.df∧Ds.Nodup∧∀D∈Ds,(w0.heap.size≤D∧w0.dOk)∧w.heap[D]?=some (.deferred (some []))) (k:KeepN w w'):∃Ds:List Nat,a.defers=Ds.map Qgr++w0.df∧Ds.Nodup∧∀D∈Ds,(w0.heap.size≤D∧w0.dOk)∧w'.heap[D]?=some (.deferred (some [])):=by
 obtain⟨Ds,h1,h2,h3⟩:=h;exact⟨Ds,h1,h2,fun D hD=>⟨(h3 D hD).1,k D _ (h3 D hD).2 rfl⟩⟩
theorem Qio {w0:Base} {w w':World} (h:∀p∈w0.fz,w.heap[p.1]?=some p.2∧p.2.isCells=false∧∀l c,p.2≠ .map l c) (k:KeepN w w'):∀p∈w0.fz,w'.heap[p.1]?=some p.2∧p.2.isCells=false∧∀l c,p.2≠ .map l c:=fun p hp=>⟨k _ _ (h p hp).1 (h p hp).2.1,(h p hp).2⟩
theorem MapAt.keep {w w':World} {M:Nat} {mc:Nat×List (Value×Value)} (h:MapAt w M mc) (k:w'.heap[M]?=w.heap[M]?):MapAt w' M mc:=by
 obtain⟨l,cl,h1,h2⟩:=h;exact⟨l,cl,k.trans h1,h2⟩
theorem MapAt.keepN {w w':World} {M:Nat} {mc:Nat×List (Value×Value)} (h:MapAt w M mc) (k:KeepN w w'):MapAt w' M mc:=by
 obtain⟨l,cl,h1,h2⟩:=h;exact⟨l,cl,k _ _ h1 rfl,h2⟩
theorem QhB {g g':Gh} {w w':World} {ms:List (Nat×(Nat×List (Value×Value)))} (h:QsO g w ms) (hb:∀i b,g'.box i=some b→Qt ms i≠none→g.box i=some b) (k:KeepN w w'):QsO g' w' ms:=fun i mc hi blk hblk=>(h i mc hi blk (hb i blk hblk (by rw[hi]; simp))).keepN k
structure Tr (g:Gh) (w:World) (toks:List Nat) (g':Gh) (w':World) (toks':List Nat):Prop where
 ext:ExtM g.imm w g'.imm w'
 box:∀i b,g.box i=some b→g'.box i=some b
 used:∀t,g.used t→g'.used t
 tok:∀t,g.used t→t∈toks'→t∈toks∧∀b,g.tok t=some b→g'.tok t=some b∧(∀x,g'.imm b x→g.imm b x)∧w'.heap[b]?=w.heap[b]?
theorem Room.tr {g g':Gh} {w w':World} {base t n k:Nat} {v:Value} (h:Room g w base t n k v) (ht:∀b,g.tok t=some b→g'.tok t=some b∧(∀x,g'.imm b x→g.imm b x)∧w'.heap[b]?=w.heap[b]?):Room g' w' base t n k v:=by
 obtain⟨a,c,hv,h⟩:=h;refine⟨a,c,hv,h.imp id ?_⟩;rintro⟨b,o,h1,h2,h4,cs,ty,h5,h6⟩;obtain⟨k1,k2,k3⟩:=ht b h1;exact⟨b,o,k1,h2,fun x hx hi=>h4 x hx (k2 x hi),cs,ty,by rw[k3]; exact h5,h6⟩
theorem CapsR.tr {g g':Gh} {w w':World} {toks toks':List Nat} (e:Tr g w toks g' w' toks'):∀{caps:List (Sum Nat D)} {vs:List Value},CapsR g w caps vs→CapsR g' w' caps vs
 | [],_,h=>h
 | .inl b::t,vs,h=>by
  simp only[CapsR]at h⊢;obtain⟨v,vt,h1,⟨blk,h2,h3⟩,h4⟩:=h;exact⟨v,vt,h1,⟨blk,e.box _ _ h2,h3⟩,CapsR.tr e h4⟩
 | .inr d::t,vs,h=>by
  simp only[CapsR]at h⊢;obtain⟨v,vt,h1,h2,h4⟩:=h;exact⟨v,vt,h1,Rel.ext e.ext _ _ h2,CapsR.tr e h4⟩
theorem OwnAt.tr {g g':Gh} {w w':World} {t k:Nat} {rows:List (List D)} {v:Value} (h:OwnAt g w t k rows v) (e:ExtM g.imm w g'.imm w') (ht:∀b,g.tok t=some b→g'.tok t=some b∧(∀x,g'.imm b x→g.imm b x)∧w'.heap[b]?=w.heap[b]?):OwnAt g' w' t k rows v:=by
 obtain⟨a,c,hv,h0,h1,h⟩:=h;refine⟨a,c,hv,h0,h1,h.imp id ?_⟩;rintro⟨b,o,h1,h2,h4,cs,ty,h5,h6,h7,xs,h8,h9,h10⟩;obtain⟨k1,k2,k3⟩:=ht b h1;exact⟨b,o,k1,h2,⟨fun x hi=>h4.1 x (k2 x hi),h4.2⟩,cs,ty,by rw[k3]; exact h5,h6,h7,xs,h8,h9,RelL.ext e _ _ h10⟩
theorem RelX.tr {g g':Gh} {w w':World} {toks toks':List Nat} {base:Nat} (e:Tr g w toks g' w' toks') {x:X} {v:Value} (h:RelX g w base toks x v):RelX g' w' base toks' x v:=by
 cases x with
 | d y=>exact Rel.ext e.ext _ _ h
 | agz cs=>exact Rel.ext e.ext _ _ h
 | fx f first caps=>
  obtain⟨fs,cs,h1,h2,h3⟩:=h;exact⟨fs,cs,h1,RelL.ext e.ext _ _ h2,h3.tr e⟩
 | loc b off=>obtain⟨blk,h1,h2⟩:=h; exact⟨blk,e.box _ _ h1,h2⟩
 | bs b off n k=>obtain⟨blk,c,h1,h2⟩:=h; exact⟨blk,c,e.box _ _ h1,h2⟩
 | mp b=>obtain⟨blk,h1,h2⟩:=h; exact⟨blk,e.box _ _ h1,h2⟩
 | agb cs=>obtain⟨vs,h1,h2⟩:=h; exact⟨vs,h1,h2.map (fun x v hx=>Rel.ext e.ext x v hx) fun i _ b hb=>e.box i b hb⟩
 | sl k rows own=>
  cases own with
  | own t=>
   obtain⟨h1,h2,h3⟩:=h;refine⟨h1,e.used _ h2,fun hm=>?_⟩;obtain⟨k1,k2⟩:=e.tok t h2 hm;exact(h3 k1).tr e.ext k2
  | ex=>exact⟨Rel.ext e.ext _ _ h.1,h.2⟩
  | tok t=>
   obtain⟨h1,h2,h3⟩:=h;refine⟨Rel.ext e.ext _ _ h1,e.used _ h2,fun hm=>?_⟩;obtain⟨k1,k2⟩:=e.tok t h2 hm;exact(h3 k1).tr k2
theorem BoxAt.tr {g g':Gh} {w w':World} {toks toks':List Nat} {base blk:Nat} {cs:List X} (e:Tr g w toks g' w' toks') (h:BoxAt g w base toks blk cs) (hb:w'.heap[blk]?=w.heap[blk]?):BoxAt g' w' base toks' blk cs:=by
 obtain⟨vs,ty,h1,h2,h3⟩:=h;exact⟨vs,ty,by rw[hb]; exact h1,h2,fun j x v k1 k2=>⟨(h3 j x v k1 k2).1,RelX.tr e (h3 j x v k1 k2).2⟩⟩
theorem QbP (a:Act) (d:Option Nat) (v:Value):(a.put d v).tmps.size=a.tmps.size:=by cases d<;>simp[Act.put]
theorem Qa0 (a:Act) (d:Option Nat) (v:Value):(a.put d v).defers=a.defers:=by cases d<;>rfl
theorem Qcm (a:Act) (d:Nat) (v:Value) (t:Nat) (hd:d < a.tmps.size):(a.put (some d) v).tmps.getD t undef=if t=d then v else a.tmps.getD t undef:=by
 simp only[Act.put,Array.getD_eq_getD_getElem?,Array.getElem?_setIfInBounds];by_cases h:d=t
 ·subst h; simp[hd]
 ·simp[h,show ¬t=d from fun e=>h e.symm]
section
variable {N:Nat} {m0:Nat→Nat→Prop} {w0:Base} {g:Gh} {σ:St} {a:Act} {w:World}
def QjT (N:Nat) (d:Option Nat):Prop:=∀x,d=some x→x < N
theorem Inv.put (I:Inv N m0 w0 g σ a w) {d:Option Nat} (hd:QjT N d) {x:X} {v:Value} (hx:RelX g w w0.heap.size σ.toks x v):Inv N m0 w0 g { σ with tmps:=Qlm σ.tmps d x} (a.put d v) w where
 below:=I.below
 size:=by rw[QbP]; exact I.size
 defers:=by rw[Qa0]; exact I.defers
 lt:=I.lt
 old:=I.old
 new:=I.new
 tmps:=by
  intro t y ht;cases d with
  | none=>exact I.tmps t y ht
  | some d=>
   rw[Qcm _ _ _ _ (by rw[I.size]; exact hd d rfl)]
   simp only[Qlm,Qt]at ht;by_cases h:t=d
   ·rw[if_pos h]at ht⊢; cases ht; exact hx
   ·rw[if_neg h]at ht⊢; exact I.tmps t y ht
 boxb:=I.boxb
 boxi:=I.boxi
 tokb:=I.tokb
 toki:=I.toki
 boxes:=I.boxes
 out:=I.out
 fz:=I.fz
 maps:=I.maps
 cells:=I.cells
theorem Inv.tr (I:Inv N m0 w0 g σ a w) {g':Gh} {w':World} (e:Tr g w σ.toks g' w' σ.toks) (hb:Below w0.heap.size w w') (kn:KeepN w w') (lt:∀b o,g'.imm b o→b < w'.heap.size) (new:∀b o,g'.imm b o→m0 b o∨w0.heap.size≤b∨w0.writ b)
  (box:g'.box=g.box) (tok:g'.tok=g.tok) (nb:∀i b,g.box i=some b→(∀o,¬g'.imm b o)∧w'.heap[b]?=w.heap[b]?):Inv N m0 w0 g' σ a w' where
 below:=I.below.trans hb
 size:=I.size
 defers:=Qdx I.defers kn
 lt:=lt
 old:=fun b o h=>e.ext.imm b o (I.old b o h)
 new:=new
 tmps:=fun t x h=>RelX.tr e (I.tmps t x h)
 boxb:=fun i b h=>by
  rw[box]at h;obtain⟨h1,h2,h3⟩:=I.boxb i b h;exact⟨h1,Nat.lt_of_lt_of_le h2 hb.size,(nb i b h).1⟩
 boxi:=by rw[box]; exact I.boxi
 tokb:=fun t b h=>by
  rw[tok]at h;obtain⟨h1,h2,h3⟩:=I.tokb t b h;exact⟨Nat.lt_of_lt_of_le h1 hb.size,h2,by rw[box]; exact h3⟩
 toki:=by rw[tok]; exact I.toki
 boxes:=fun b cs h blk hblk=>by
  rw[box]at hblk;exact BoxAt.tr e (I.boxes b cs h blk hblk) (nb b blk hblk).2
 out:=by rw[box]; exact I.out
 fz:=Qio I.fz kn
 maps:=QhB I.maps (fun i b h _=>by rw[box]at h; exact h) kn
 cells:=QbG I.cells I.old e.ext.cell
theorem Inv.grow (I:Inv N m0 w0 g σ a w) {w':World} (hb:Below w.heap.size w w') (m':Nat→Nat→Prop) (hm:∀b o,m' b o→w.heap.size≤b∧b < w'.heap.size):
  Inv N m0 w0 { g with imm:=fun b o=>g.imm b o∨m' b o} σ a w'∧Tr g w σ.toks { g with imm:=fun b o=>g.imm b o∨m' b o} w' σ.toks:=by
 have hsz:=I.below.size;have e:Tr g w σ.toks { g with imm:=fun b o=>g.imm b o∨m' b o} w' σ.toks:=by
  refine⟨⟨fun b o h=> .inl h,fun b o h=>hb.cell (p:=⟨b,o,none⟩) (I.lt b o h)⟩,fun _ _ h=>h,fun _ h=>h,fun t _ h=>⟨h,fun b hbk=>⟨hbk,fun x hx=>?_,hb.block b (I.tokb t b hbk).1⟩⟩⟩;rcases hx with hx | hx
  ·exact hx
  ·have:=(hm _ _ hx).1; have:=(I.tokb t b hbk).1; omega
 refine⟨I.tr e (hb.mono hsz) (KeepN.of_below hb) ?_ ?_ rfl rfl ?_,e⟩
 ·intro b o h;rcases h with h | h
  ·exact Nat.lt_of_lt_of_le (I.lt b o h) hb.size
  ·exact(hm b o h).2
 ·intro b o h;rcases h with h | h
  ·exact I.new b o h
  ·exact .inr (.inl (Nat.le_trans hsz (hm b o h).1))
 ·intro i b h;obtain⟨h1,h2,h3⟩:=I.boxb i b h;refine⟨fun o ho=>?_,hb.block b h2⟩;rcases ho with ho | ho
  ·exact h3 o ho
  ·have:=(hm _ _ ho).1; omega
theorem Inv.drew (I:Inv N m0 w0 g σ a w):Inv N m0 w0 g σ a w.drew:=by
 refine I.tr (g':=g) ⟨⟨fun _ _ h=>h,fun _ _ _=>rfl⟩,fun _ _ h=>h,fun _ h=>h,fun t _ h=>⟨h,fun b hb=>⟨hb,fun _ hx=>hx,rfl⟩⟩⟩ (Below.refl _ _).drew (fun _ _ h _=>h) I.lt I.new rfl rfl fun i b h=>⟨(I.boxb i b h).2.2,rfl⟩
end
end Go.Proofs.YticoemblgkemiaaGreatDoor
namespace Go.Proofs.YticoemblgkemiaaGreatDoor
open Go.RowKit
section
variable {P:Program} {N:Nat} {m0:Nat→Nat→Prop} {w0:Base} {g:Gh} {σ:St} {a:Act} {w:World}
theorem Qbi (w:World) (o:Obj):(w.alloc o).heap[w.heap.size]?=some o:=by
 show(w.heap.push o)[w.heap.size]?=_;simp
theorem Inv.alloc (I:Inv N m0 w0 g σ a w) {d:Nat} (hd:d < N) (hg:g.box d=none) (hmd:Qt σ.maps d=none) (x0:X) (pv:Value) (hx0:∀g' w' toks,g'.box d=some w.heap.size→RelX g' w' w0.heap.size toks x0 pv) (cs:List X) (vs:List Value) (ty:TypeId) (hl:cs.length≤vs.length) (h1:∀v∈vs,v.oneCell'=true)
  (hr:∀(j:Nat) (x:X) (v:Value),cs[j]?=some x→vs[j]?=some v→RelX g w w0.heap.size σ.toks x v):
  Inv N m0 w0 { g with box:=fun i=>if i=d then some w.heap.size else g.box i} { σ with tmps:=(d,x0)::σ.tmps,boxes:=(d,cs)::σ.boxes} (a.put (some d) pv) (w.alloc (.cells vs.toArray ty)):=by
 have hsz:=I.below.size;have hba:Below w.heap.size w (w.alloc (.cells vs.toArray ty)):=(Below.refl _ w).alloc (Nat.le_refl _) _;have hne:∀i b,g.box i=some b→i≠d:=fun i b h e=>by subst e; rw[hg]at h; cases h
 have e:Tr g w σ.toks { g with box:=fun i=>if i=d then some w.heap.size else g.box i} (w.alloc (.cells vs.toArray ty)) σ.toks:=by
  refine⟨⟨fun b o h=>h,fun b o h=>hba.cell (p:=⟨b,o,none⟩) (I.lt b o h)⟩,fun i b h=>?_,fun _ h=>h,fun t _ h=>⟨h,fun b hb=>⟨hb,fun x hx=>hx,hba.block b (I.tokb t b hb).1⟩⟩⟩;show(if i=d then some w.heap.size else g.box i)=some b;rw[if_neg (hne i b h)]; exact h
 refine⟨I.below.trans (hba.mono hsz),by rw[QbP]; exact I.size,by rw[Qa0]; exact Qdx I.defers (KeepN.of_below hba),fun b o h=>Nat.lt_of_lt_of_le (I.lt b o h) hba.size,I.old,I.new,?_,?_,?_,?_,I.toki,?_,fun i b hi=>by
  have h:=I.out i b hi;show(if i=d then some w.heap.size else g.box i)=some b;rw[if_neg (hne i b h)]; exact h,Qio I.fz (KeepN.of_below hba),QhB I.maps (fun i b h hi=>by
  by_cases e:i=d
  ·subst e; exact absurd hmd hi
  ·simp only at h; rw[if_neg e]at h; exact h) (KeepN.of_below hba),QbG I.cells I.old e.ext.cell⟩
 ·intro t x ht;rw[Qcm _ _ _ _ (by rw[I.size]; exact hd)]
  simp only[Qt]at ht;by_cases h:t=d
  ·rw[if_pos h]at ht⊢; cases ht;exact hx0 _ _ _ (by simp)
  ·rw[if_neg h]at ht⊢; exact RelX.tr e (I.tmps t x ht)
 ·intro i b h;simp only at h;by_cases hi:i=d
  ·rw[if_pos hi]at h; cases h;exact⟨.inl hsz,by simp,fun o ho=>by have:=I.lt _ _ ho; omega⟩
  ·rw[if_neg hi]at h;obtain⟨k1,k2,k3⟩:=I.boxb i b h;exact⟨k1,Nat.lt_of_lt_of_le k2 hba.size,k3⟩
 ·intro i j b h h';simp only at h h';by_cases hi:i=d<;>by_cases hj:j=d
  ·rw[hi,hj]
  ·rw[if_pos hi]at h; rw[if_neg hj]at h'; cases h;have:=(I.boxb j _ h').2.1; omega
  ·rw[if_neg hi]at h; rw[if_pos hj]at h'; cases h';have:=(I.boxb i _ h).2.1; omega
  ·rw[if_neg hi]at h; rw[if_neg hj]at h'; exact I.boxi i j b h h'
 ·intro t b h;obtain⟨k1,k2,k3⟩:=I.tokb t b h;refine⟨Nat.lt_of_lt_of_le k1 hba.size,k2,fun i hi=>?_⟩;simp only at hi;by_cases hd':i=d
  ·rw[if_pos hd']at hi; simp only[Option.some.injEq]at hi; omega
  ·rw[if_neg hd']at hi; exact k3 i hi
 ·intro b cs' h blk hblk;simp only[Qt]at h;simp only at hblk;by_cases hb:b=d
  ·rw[if_pos hb]at h hblk;simp only[Option.some.injEq]at h hblk;subst h; subst hblk;refine⟨vs.toArray,ty,Qbi _ _,by simpa using hl,fun j x v k1 k2=>⟨h1 v ?_,RelX.tr e (hr j x v k1 (by simpa using k2))⟩⟩
   have:=List.mem_of_getElem? (show vs[j]?=some v by simpa using k2)
   exact this
  ·rw[if_neg hb]at h hblk;exact BoxAt.tr e (I.boxes b cs' h blk hblk) (hba.block blk (I.boxb b blk hblk).2.1)
theorem KeepsW.row {w0 w:World} {q:Nat→Prop} {b:Nat} {cs:Array Value} (h:KeepsW w0 q w) (hb:w0.heap.size≤b∨q b):KeepsW w0 q (w.setRow b cs):=
 ⟨h.os,h.tape,h.output,by have:=h.size; rw[setRow_size]; exact this,fun i hi hm=>by
  rw[setRow_other w b i cs (by rcases hb with hb | hb; omega; exact fun e=>hm (by rw[e]; exact hb))]; exact h.block i hi hm⟩
theorem Inv.store (I:Inv N m0 w0 g σ a w) {b off blk:Nat} {old cs:List X} {vs:Array Value} {ty:TypeId} (hb:g.box b=some blk) (hold:Qt σ.boxes b=some old) (hh:w.heap[blk]?=some (.cells vs ty (0,0)))
  (hlen:off+cs.length≤old.length) (us:List Value) (hl:us.length=cs.length) (h1:∀u∈us,u.oneCell'=true) (hr:∀(j:Nat) (x:X) (v:Value),cs[j]?=some x→us[j]?=some v→RelX g w w0.heap.size σ.toks x v):
  Inv N m0 w0 g { σ with boxes:=(b,QCj old off cs)::σ.boxes} a (w.setRow blk (vs.toList.take off++us++vs.toList.drop (off+us.length)).toArray):=by
 obtain⟨kb,klt,kim⟩:=I.boxb b blk hb;have hoth:∀k,k≠blk→(w.setRow blk (vs.toList.take off++us++vs.toList.drop (off+us.length)).toArray).heap[k]?=w.heap[k]?:=fun k hk=>setRow_other w blk k _ hk;have e:Tr g w σ.toks g (w.setRow blk (vs.toList.take off++us++vs.toList.drop (off+us.length)).toArray) σ.toks:=by
  refine⟨⟨fun _ _ h=>h,fun b' o h=>World.cell?_of_block (w:=w) (hoth b' (fun e=>by subst e; exact kim o h))⟩,fun _ _ h=>h,fun _ h=>h,fun t _ h=>⟨h,fun b' hb'=>⟨hb',fun _ hx=>hx,hoth b' (fun e=>by subst e; exact(I.tokb t _ hb').2.2 b hb)⟩⟩⟩
 have kn:KeepN w (w.setRow blk (vs.toList.take off++us++vs.toList.drop (off+us.length)).toArray):=KeepN.of_cells (fun b=>b=blk) (fun b _ hb=>hoth b hb) (fun b hb=>⟨vs,ty,(0,0),by rw[hb]; exact hh⟩)
 refine⟨I.below.row kb,I.size,Qdx I.defers kn,fun b' o h=>by rw[setRow_size]; exact I.lt b' o h,I.old,I.new,fun t x h=>RelX.tr e (I.tmps t x h),fun i b' h=>by rw[setRow_size]; exact I.boxb i b' h,I.boxi,fun t b' h=>by rw[setRow_size]; exact I.tokb t b' h,I.toki,?_,I.out,Qio I.fz kn,QhB I.maps (fun _ _ h _=>h) kn,QbG I.cells I.old e.ext.cell⟩
 intro b' cs' h blk' hblk';simp only[Qt]at h;by_cases hbb:b'=b
 ·rw[if_pos hbb]at h;simp only[Option.some.injEq]at h;subst hbb; subst h;rw[hb]at hblk';simp only[Option.some.injEq]at hblk';subst hblk';obtain⟨vs',ty',k1,k2,k3⟩:=I.boxes b' old hold blk hb;rw[hh]at k1;simp only[Option.some.injEq,Obj.cells.injEq]at k1;obtain⟨rfl,rfl,_⟩:=k1;refine⟨_,ty,setRow_heap w blk vs _ ty _ hh,?_,fun j x v q1 q2=>?_⟩
  ·simp[QCj]; omega
  ·simp only[List.getElem?_toArray]at q2;have t1:(old.take off).length=off:=by simp; omega
   have t2:(vs.toList.take off).length=off:=by simp; omega
   rw[QCj,List.append_assoc,List.getElem?_append,t1]at q1;rw[List.append_assoc,List.getElem?_append,t2]at q2;split at q1
   ·rename_i hj;rw[if_pos hj]at q2;rw[List.getElem?_take,if_pos hj]at q1 q2;have:=k3 j x v q1 (by simpa using q2)
    exact⟨this.1,RelX.tr e this.2⟩
   ·rename_i hj;rw[if_neg hj]at q2;rw[List.getElem?_append]at q1 q2;rw[hl]at q2;split at q1
    ·rename_i hj2;rw[if_pos hj2]at q2;exact⟨h1 v (List.mem_of_getElem? q2),RelX.tr e (hr _ x v q1 q2)⟩
    ·rename_i hj2;rw[if_neg hj2]at q2;rw[List.getElem?_drop]at q1 q2;have:=k3 _ x v q1 (by simpa using q2)
     exact⟨this.1,RelX.tr e this.2⟩
 ·rw[if_neg hbb]at h;have hne:blk'≠blk:=fun e=>hbb (I.boxi b' b blk (e ▸ hblk') hb);exact BoxAt.tr e (I.boxes b' cs' h blk' hblk') (hoth _ hne)
theorem Inv.lay (I:Inv N m0 w0 g σ a w) (vs:List Value) (ty:TypeId) (ds:List D) (k n:Nat) (hn:n≤140737488355328) (hk:ds.length=n*k) (h1:∀v∈vs,v.oneCell'=true) (hr:RelL g.imm w ds vs):
  ∃g',Inv N m0 w0 g' σ a (w.alloc (.cells vs.toArray ty))∧g'.box=g.box∧g'.used=g.used∧RelX g' (w.alloc (.cells vs.toArray ty)) w0.heap.size σ.toks (.sl k (QhE k n ds) .ex) (.slice (some ⟨w.heap.size,0,none⟩) n n):=by
 have hba:Below w.heap.size w (w.alloc (.cells vs.toArray ty)):=(Below.refl _ w).alloc (Nat.le_refl _) _;obtain⟨I',e⟩:=I.grow hba (fun b o=>b=w.heap.size) (fun b o h=>⟨by omega,by subst h; simp⟩)
 refine⟨_,I',rfl,rfl,?_⟩;simp only[RelX,Rel,Qhx];refine⟨⟨hn,_,n,rfl,Nat.le_refl _,.inr ⟨w.heap.size,0,rfl,Qfc n ds 0 hk ?_⟩⟩,_,rfl⟩;refine RelCells.of fun j d hj=>?_;obtain⟨v,k1,k2⟩:=hr.get j d hj;refine⟨v,.inr rfl,?_,h1 v (List.mem_of_getElem? k1),Rel.ext e.ext _ _ k2⟩;rw[Nat.zero_add,QdN w.heap.size j 0 vs.toArray ty (Qbi _ _)];simpa using k1
end
end Go.Proofs.YticoemblgkemiaaGreatDoor
namespace Go.Proofs.YticoemblgkemiaaGreatDoor
open Go.RowKit
theorem Qqa {toks:List Nat} {t:Option Nat} {new s:Nat} (h:s∈Qb5 toks t new) (hs:s≠new):s∈toks∧t≠some s:=by
 simp only[Qb5,List.mem_cons]at h;rcases h with h | h
 ·exact absurd h hs
 ·cases t with
  | none=>exact⟨h,by simp⟩
  | some t=>
   simp only[List.mem_filter,bne_iff_ne,ne_eq]at h;exact⟨h.1,fun e=>h.2 (by simp at e; exact e.symm)⟩
section
variable {P:Program} {N:Nat} {m0:Nat→Nat→Prop} {w0:Base} {g:Gh} {σ:St} {a:Act} {w:World}
theorem Qbk {w w':World} {n:Nat} {q:Nat→Prop} (h:Below n w w'):KeepsW w (fun b=>n≤b∨q b) w':=⟨h.os,h.tape,h.output,h.size,fun k _ hq=>h.block k (Nat.lt_of_not_le fun h'=>hq (.inl h'))⟩
theorem Inv.app (I:Inv N m0 w0 g σ a w) {w':World} {t:Option Nat} {new:Nat} (hn:¬g.used new) (blk:Option Nat) (imm':Nat→Nat→Prop)
  (hblk:∀b,blk=some b→(w0.heap.size≤b∨w0.writ b)∧b < w'.heap.size∧(∀i,g.box i≠some b)∧∀s,g.tok s=some b→t=some s)
  (hb:KeepsW w (fun b=>w0.heap.size≤b∨w0.writ b) w') (kn:KeepN w w') (hnew:∀b o,imm' b o→g.imm b o∨w0.heap.size≤b∨w0.writ b)
  (hoth:∀b,b < w.heap.size→blk≠some b→w'.heap[b]?=w.heap[b]?)
  (hcell:∀b o,g.imm b o→w'.cell? ⟨b,o,none⟩=w.cell? ⟨b,o,none⟩)
  (him:∀b o,g.imm b o→imm' b o) (him2:∀b o,imm' b o→g.imm b o∨blk=some b):
  let g':Gh:= { imm:=imm',box:=g.box,tok:=fun s=>if s=new then blk else if t=some s then none else g.tok s,used:=fun s=>g.used s∨s=new}
  Inv N m0 w0 g' { σ with toks:=Qb5 σ.toks t new} a w'∧Tr g w σ.toks g' w' (Qb5 σ.toks t new):=by
 intro g';have hboxne:∀i b,g.box i=some b→blk≠some b:=fun i b h e=>(hblk b e).2.2.1 i h;have e:Tr g w σ.toks g' w' (Qb5 σ.toks t new):=by
  refine⟨⟨him,hcell⟩,fun _ _ h=>h,fun _ h=> .inl h,fun s hs hm=>?_⟩;have hne:s≠new:=fun e=>hn (e ▸ hs);obtain⟨h1,h2⟩:=Qqa hm hne;refine⟨h1,fun b hbk=>⟨?_,fun x hx=>?_,hoth b (I.tokb s b hbk).1 fun e=>h2 ((hblk b e).2.2.2 s hbk)⟩⟩
  ·show(if s=new then blk else if t=some s then none else g.tok s)=some b;rw[if_neg hne,if_neg h2]; exact hbk
  ·rcases him2 b x hx with h | h
   ·exact h
   ·exact absurd ((hblk b h).2.2.2 s hbk) h2
 refine⟨⟨I.below.but hb (fun b h1 h2=>h2.resolve_left (Nat.not_le.2 h1)),I.size,Qdx I.defers kn,fun b o h=>?_,fun b o h=>him b o (I.old b o h),fun b o h=>?_,fun u x h=>RelX.tr e (I.tmps u x h),fun i b h=>?_,I.boxi,fun s b h=>?_,fun s u b h h'=>?_,fun b cs h bl hbl=>BoxAt.tr e (I.boxes b cs h bl hbl) (hoth bl (I.boxb b bl hbl).2.1 (hboxne b bl hbl)),I.out,Qio I.fz kn,QhB I.maps (fun _ _ h _=>h) kn,QbG I.cells I.old e.ext.cell⟩,e⟩
 ·rcases him2 b o h with h | h
  ·exact Nat.lt_of_lt_of_le (I.lt b o h) hb.size
  ·exact(hblk b h).2.1
 ·rcases hnew b o h with h | h
  ·exact I.new b o h
  ·exact .inr h
 ·obtain⟨k1,k2,k3⟩:=I.boxb i b h;refine⟨k1,Nat.lt_of_lt_of_le k2 hb.size,fun o ho=>?_⟩;rcases him2 b o ho with ho | ho
  ·exact k3 o ho
  ·exact hboxne i b h ho
 ·simp only[g']at h;by_cases h1:s=new
  ·rw[if_pos h1]at h;exact⟨(hblk b h).2.1,(hblk b h).1,(hblk b h).2.2.1⟩
  ·rw[if_neg h1]at h;split at h
   ·cases h
   ·obtain⟨k1,k2,k3⟩:=I.tokb s b h;exact⟨Nat.lt_of_lt_of_le k1 hb.size,k2,k3⟩
 ·simp only[g']at h h';by_cases h1:s=new<;>by_cases h2:u=new
  ·rw[h1,h2]
  ·rw[if_pos h1]at h; rw[if_neg h2]at h';split at h'
   ·cases h'
   ·rename_i h3; exact absurd ((hblk b h).2.2.2 u h') h3
  ·rw[if_neg h1]at h; rw[if_pos h2]at h';split at h
   ·cases h
   ·rename_i h3; exact absurd ((hblk b h').2.2.2 s h) h3
  ·rw[if_neg h1]at h; rw[if_neg h2]at h';split at h
   ·cases h
   ·split at h'
    ·cases h'
    ·exact I.toki s u b h h'
theorem Qcr {m:Nat→Nat→Prop} {w:World} {k b:Nat} :∀{rows:List (List D)} {o:Nat},RelRows m w rows b o k→
  ∃xs:List Value,xs.length=rows.length*k∧(∀j u,xs[j]?=some u→m b (o+j)∧w.cell? ⟨b,o+j,none⟩=some u∧u.oneCell'=true)∧RelL m w rows.flatten xs∧rows.flatten.length=rows.length*k
 | [],o,_=>⟨[],by simp,by simp,by simp[RelL],by simp⟩
 | r::rs,o,h=>by
  simp only[RelRows]at h;obtain⟨⟨h1,h2⟩,h3⟩:=h;obtain⟨ys,y1,y2,y3,y4⟩:=Qcr h3;have key:∀(r:List D) (o:Nat),RelCells m w r b o→∃zs:List Value,zs.length=r.length∧(∀j u,zs[j]?=some u→m b (o+j)∧w.cell? ⟨b,o+j,none⟩=some u∧u.oneCell'=true)∧RelL m w r zs:=by
   intro r
   induction r with
   | nil=>intro o _; exact⟨[],rfl,by simp,by simp[RelL]⟩
   | cons d t ih=>
    intro o h;simp only[RelCells]at h;obtain⟨⟨v,q1,q2,q3,q4⟩,q5⟩:=h;obtain⟨zs,z1,z2,z3⟩:=ih (o+1) q5;refine⟨v::zs,by simp[z1],fun j u hj=>?_,by simp only[RelL]; exact⟨v,zs,rfl,q4,z3⟩⟩
    cases j with
    | zero=>simp at hj; subst hj; exact⟨q1,q2,q3⟩
    | succ j=>have:=z2 j u (by simpa using hj); rw[show o+(j+1)=o+1+j by omega]; exact this
  obtain⟨zs,z1,z2,z3⟩:=key r o h2;refine⟨zs++ys,by simp[z1,y1,h1,Nat.succ_mul]; omega,fun j u hj=>?_,?_,by simp[h1,y4,Nat.succ_mul]; omega⟩
  ·rw[List.getElem?_append]at hj;split at hj
   ·exact z2 j u hj
   ·rename_i hge;have:=y2 _ u hj;rw[z1,h1]at this hge;rw[show o+k+(j - k)=o+j by omega]at this; exact this
  ·simp only[List.flatten_cons];refine RelL.of (by simp[z1,y3.length]) fun j d u p1 p2=>?_
   rw[List.getElem?_append]at p1 p2;rw[z1]at p2;split at p1
   ·rename_i hlt;rw[if_pos hlt]at p2;obtain⟨v,v1,v2⟩:=z3.get _ _ p1;rw[v1]at p2; cases p2; exact v2
   ·rename_i hlt;rw[if_neg hlt]at p2;obtain⟨v,v1,v2⟩:=y3.get _ _ p1;rw[v1]at p2; cases p2; exact v2
theorem Qno {m:Nat→Nat→Prop} {w:World} {k b:Nat} :∀{rows:List (List D)} {o:Nat} {xs:List Value},(∀r∈rows,r.length=k)→RelL m w rows.flatten xs→(∀j u,xs[j]?=some u→m b (o+j)∧w.cell? ⟨b,o+j,none⟩=some u∧u.oneCell'=true)→RelRows m w rows b o k
 | [],o,xs,_,_,_=>by simp[RelRows]
 | r::rs,o,xs,hk,hr,hc=>by
  simp only[RelRows];have hrk:=hk r (by simp)
  simp only[List.flatten_cons]at hr;refine⟨⟨hrk,RelCells.of fun j d hj=>?_⟩,Qno (xs:=xs.drop k) (fun r' h'=>hk r' (by simp[h'])) ?_ fun j u hj=>?_⟩
  ·have hlt:j < r.length:=(List.getElem?_eq_some_iff.1 hj).1;obtain⟨v,h1,h2⟩:=hr.get j d (by rw[List.getElem?_append,if_pos hlt]; exact hj)
   obtain⟨c1,c2,c3⟩:=hc j v h1;exact⟨v,c1,c2,c3,h2⟩
  ·refine RelL.of (by rw[List.length_drop,hr.length]; simp[hrk]) fun j d u p1 p2=>?_
   rw[List.getElem?_drop]at p2;obtain⟨v,h1,h2⟩:=hr.get (k+j) d (by rw[List.getElem?_append,if_neg (by omega),hrk]; rw[show k+j - k=j by omega]; exact p1)
   rw[h1]at p2; cases p2; exact h2
  ·rw[List.getElem?_drop]at hj;have:=hc _ u hj;rw[show o+k+j=o+(k+j) by omega]; exact this
theorem Qjc {m:Nat→Nat→Prop} {w:World} {k b o:Nat} {rows:List (List D)} (h:RelRows m w rows b o k):∀r∈rows,r.length=k:=by
 intro r hr;obtain⟨i,hi,rfl⟩:=List.getElem_of_mem hr;exact(h.get i _ (List.getElem?_eq_getElem hi)).1
theorem QdJ {T e:TypeId} {i:TypeInfo} (ht:P.underlying T=some (.slice e)) (hi:P.info? e=some i) (ty:TypeId) (base xb:Option Addr) (n c xc:Nat) (h:n≤c) (w:World):
  (Builtin.append_ #[T,T] ty #[.slice base n c,.slice xb 0 xc]).run P w= .ok (.slice base n c) w:=by
 cases base<;>cases xb<;>simp[Builtin.append_,run_underlying ht,sizeOf,typeInfo,hi,Builtin.lenOf,Builtin.firstCells,h,storeCells,loadCells,loadCellsFrom]
theorem QdH {T e:TypeId} {i:TypeInfo} (ht:P.underlying T=some (.slice e)) (hi:P.info? e=some i) (ty ety:TypeId) (b o n c:Nat) (cur:Array Value) (hg:w.heap[b]?=some (.cells cur ety (0,0)))
  (xa:Addr) (m xc:Nat) (news:List Value) (hl:news.length=m*i.size) (hnews:∀j u,news[j]?=some u→w.cell? (xa.add j)=some u) (h1:∀u∈news,u.oneCell'=true)
  (hroom:n+m≤c) (hfit:o+n*i.size+news.length≤cur.size):
  (Builtin.append_ #[T,T] ty #[.slice (some ⟨b,o,none⟩) n c,.slice (some xa) m xc]).run P w=
   .ok (.slice (some ⟨b,o,none⟩) (n+m) c) (w.setRow b (cur.toList.take (o+n*i.size)++news++cur.toList.drop (o+n*i.size+news.length)).toArray):=by
 have hf:=run_firstCells_some (P:=P) w i.size m xa m xc news hl hnews;have hst:=run_storeCells_at P b (o+n*i.size) ety news 0 cur w hg (by simpa using hfit) h1
 simp only[Nat.add_zero]at hst;simp[Builtin.append_,run_underlying ht,sizeOf,typeInfo,hi,Builtin.lenOf,hroom,hf,QaS,hst]
end
end Go.Proofs.YticoemblgkemiaaGreatDoor
namespace Go.Proofs.YticoemblgkemiaaGreatDoor
open Go.RowKit
theorem Qhy {z:Array Value} (h:∀v∈z.toList,v.oneCell'=true) (n:Nat):∀v∈(Builtin.zeroCells z n).toList,v.oneCell'=true:=by
 intro v hv;simp only[Builtin.zeroCells,Array.toList_map,List.mem_map]at hv;obtain⟨i,hi,rfl⟩:=hv;have hi':i < n*z.size:=by simpa using hi
 have hz:0 < z.size:=by
  rcases Nat.eq_zero_or_pos z.size with h0 | h0
  ·rw[h0]at hi'; omega
  ·exact h0
 have hlt:=Nat.mod_lt i hz;rw[getElem!_pos z _ hlt];exact h _ (by simp)
section
variable {P:Program} {Γ:Tys} (hΓ:∀T i,Γ T=some i→TyOk P T i) {N:Nat} {m0:Nat→Nat→Prop} {w0:Base} {g:Gh} {σ:St} {a:Act} {w:World}
omit hΓ in
theorem Qcg (t ty e:TypeId) (i:TypeInfo) (z:Value) (ht:P.underlying t=some (.slice e)) (hi:P.info? e=some i) (hz:i.zero=some z)
  (b:Option Addr) (sLen sCap:Nat) (olds:List Value) (hfo:(Builtin.firstCells i.size sLen (.slice b sLen sCap)).run P w.drew= .ok olds.toArray w.drew)
  (a:Addr) (n c:Nat) (news:List Value) (hl:news.length=n*i.size) (hnews:∀j v,news[j]?=some v→w.cell? (a.add j)=some v)
  (hg:sCap < sLen+n) (h63:((sLen+n:Nat):Int)≤9223372036854775807) (hfit:Builtin.nextslicecap (sLen+n) sCap*i.bytes≤281474976710656):
  (Builtin.append_ #[t,t] ty #[.slice b sLen sCap,.slice (some a) n c]).run P w=
   .ok (.slice (some ⟨w.heap.size,0,none⟩) (sLen+n) (grownCap w (sLen+n) sCap e))
    (w.drew.alloc (.cells (olds.toArray++news.toArray++Builtin.zeroCells z.cells (grownCap w (sLen+n) sCap e - (sLen+n))) e)):=by
 have hn:¬(sLen+n≤sCap):=by omega
 have h63':¬(9223372036854775807 < ((sLen:Int)+(n:Int))):=by omega
 have h48':¬(281474976710656 < Builtin.nextslicecap (sLen+n) sCap*i.bytes):=by omega
 have hf:=run_firstCells_some (P:=P) w.drew i.size n a n c news hl (by simpa using hnews)
 simp[Builtin.append_,run_underlying ht,sizeOf,typeInfo,zeroValue,hi,hz,Builtin.lenOf,hn,h63',h48',Question.forced,hf,hfo,newRow,grownCap];congr 2;apply Array.ext';simp[List.append_assoc]
include hΓ
theorem QuD {T T' ty:TypeId} {s x:X} {t:Option Nat} {k new:Nat} {rows:List (List D)} {vs vx:Value} (h:QgU Γ T T' s x σ.toks=some (.app t k rows)) (I:Inv N m0 w0 g σ a w)
  (rs:RelX g w w0.heap.size σ.toks s vs) (rx:RelX g w w0.heap.size σ.toks x vx) (hn:¬g.used new):
  ∃v g' w',(Builtin.append_ #[T,T'] ty #[vs,vx]).run P w= .ok v w'∧Inv N m0 w0 g' { σ with toks:=Qb5 σ.toks t new} a w'∧g'.box=g.box∧(∀s,g'.used s→g.used s∨s=new)∧
   RelX g' w' w0.heap.size (Qb5 σ.toks t new) (.sl k rows (.tok new)) v:=by
 unfold QgU at h;split at h
 ·rename_i i hT;have hu:=(hΓ T i hT).und;split at h
  ·rename_i e he;have hue:P.underlying T=some (.slice e):=by
    unfold TyI.elem at he;split at he
    ·rename_i e' hd; simp only[Option.some.injEq]at he; subst he; rw[hu,hd]
    ·cases he
   split at h
   ·rename_i j k0 rows0 own k' rows' hj hx;split at h
    ·rename_i hc;obtain⟨rfl,c1,c2,c3,c4,c5⟩:=hc;have hjok:=hΓ _ _ hj;obtain⟨fj,f1,f2,f3,f4⟩:=hjok.inf;split at h
     ·rename_i t' ht';simp only[Option.some.injEq,Res.app.injEq]at h;obtain⟨rfl,rfl,rfl⟩:=h;have r0:Rel g.imm w (.sl k0 rows0) vs:=by
       cases own with
       | own t=>simp only[QpI]at ht'; cases ht'
       | _=>exact rs.1
      have r0':=r0;simp only[Rel]at r0';obtain⟨l0,ad,c,rfl,hlc,hrows⟩:=r0';have r1:=Qf3 hx rx;simp only[Rel]at r1;obtain⟨l1,xa,xc,rfl,hxc,hrows'⟩:=r1;have hroom:c=rows0.length∨(k0=j.size∧∃b o tt,t'=some tt∧g.tok tt=some b∧ad=some ⟨b,o,none⟩∧(∀x,o+rows0.length*k0≤x→¬g.imm b x)∧
        ∃(cs:Array Value) (ety:TypeId),w.heap[b]?=some (.cells cs ety (0,0))∧o+c*k0≤cs.size):=by
       cases own with
       | own tt=>simp only[QpI]at ht'; cases ht'
       | ex=>
        obtain⟨_,a',ha'⟩:=rs;simp only[Value.slice.injEq]at ha';exact .inl ha'.2.2
       | tok tt=>
        simp only[QpI]at ht';split at ht'
        ·rename_i hany;simp only[Option.some.injEq]at ht'; subst ht';obtain⟨_,_,hR⟩:=rs;have hm:tt∈σ.toks:=by
          obtain⟨z,hz,hz2⟩:=List.any_eq_true.1 hany;simp only[beq_iff_eq]at hz2;rw[←hz2]; exact hz
         obtain⟨a',c',hv,hh⟩:=hR hm;simp only[Value.slice.injEq]at hv;obtain⟨rfl,_,rfl⟩:=hv;rcases hh with hh | ⟨b,o,h1,h2,h4,h5⟩
         ·exact .inl hh
         ·exact .inr ⟨c2.resolve_right (by simp[Own.isEx]),b,o,tt,rfl,h1,h2,h4,h5⟩
        ·cases ht'
      have hk0:rows0=[]∨k0=j.size:=c2.symm.imp And.right id;have hlen:(rows0++rows').length=rows0.length+rows'.length:=List.length_append;have hblkof:∀(b o tt:Nat),t'=some tt→g.tok tt=some b→(w0.heap.size≤b∨w0.writ b)∧b < w.heap.size∧(∀i,g.box i≠some b)∧∀s,g.tok s=some b→t'=some s:=by
       intro b o tt e1 e2;obtain⟨q1,q2,q3⟩:=I.tokb tt b e2;exact⟨q2,q1,q3,fun s hs=>by rw[e1,I.toki s tt b hs e2]⟩
      by_cases hm:rows'=[]
      ·
       subst hm;have hrun:=QdJ (P:=P) hue f1 ty ad xa rows0.length c xc hlc w;rw[List.append_nil];by_cases hcn:c=rows0.length
       ·obtain⟨I',e'⟩:=I.app (w':=w) (t:=t') (new:=new) hn none g.imm (fun b h=>by cases h) (Qbk (Below.refl _ _)) (KeepN.refl _) (fun _ _ h=> .inl h) (fun _ _ _=>rfl) (fun _ _ _=>rfl) (fun _ _ h=>h) (fun _ _ h=> .inl h)
        refine⟨_,_,w,hrun,I',rfl,fun s h=>h,?_,.inr rfl,fun _=>⟨ad,c,rfl,.inl hcn⟩⟩;simp only[Rel];refine⟨l0,ad,c,rfl,hlc,hrows.imp id ?_⟩;rintro⟨b,o,h1,h2⟩;rcases hk0 with rfl | rfl
        ·exact⟨b,o,h1,by simp[RelRows]⟩
        ·exact⟨b,o,h1,h2⟩
       ·obtain⟨rfl,b,o,tt,e1,e2,e3,e5,cs,ety,e6,e7⟩:=hroom.resolve_left hcn;have hb:=hblkof b o tt e1 e2;obtain⟨I',e'⟩:=I.app (w':=w) (t:=t') (new:=new) hn (some b) g.imm (fun b' h=>by cases h; exact hb) (Qbk (Below.refl _ _)) (KeepN.refl _) (fun _ _ h=> .inl h) (fun _ _ _=>rfl) (fun _ _ _=>rfl) (fun _ _ h=>h) (fun _ _ h=> .inl h)
        exact⟨_,_,w,hrun,I',rfl,fun s h=>h,r0,.inr rfl,fun _=>⟨ad,c,rfl,.inr ⟨b,o,by simp,e3,e5,cs,ety,e6,e7⟩⟩⟩
      ·have hk':k'=j.size:=c3.resolve_left hm;subst hk';obtain⟨xb,xo,rfl,hrr'⟩:=hrows'.resolve_left hm;obtain⟨news,n1,n2,n3,n4⟩:=Qcr hrr';have hml:0 < rows'.length:=List.length_pos_iff.2 hm;have hnews:∀q u,news[q]?=some u→w.cell? ((⟨xb,xo,none⟩:Addr).add q)=some u:=fun q u hq=>by rw[QaS]; exact(n2 q u hq).2.1
       have hone:∀u∈news,u.oneCell'=true:=fun u hu=>by
        obtain⟨q,hq,rfl⟩:=List.getElem_of_mem hu;exact(n2 q _ (List.getElem?_eq_getElem hq)).2.2
       by_cases hfit:rows0.length+rows'.length≤c
       ·
        have hcn:¬c=rows0.length:=by omega
        obtain⟨rfl,b,o,tt,e1,e2,e3,e5,cs,ety,e6,e7⟩:=hroom.resolve_left hcn;subst e3;have hb:=hblkof b o tt e1 e2;have hmul:(rows0.length+rows'.length)*j.size≤c*j.size:=Nat.mul_le_mul_right _ hfit;rw[Nat.add_mul]at hmul;have hsz:o+rows0.length*j.size+news.length≤cs.size:=by rw[n1]; omega
        have hrun:=QdH (P:=P) (w:=w) hue f1 ty ety b o rows0.length c cs e6 ⟨xb,xo,none⟩ rows'.length xc news (by rw[n1,f2]) hnews hone hfit (by rw[f2]; exact hsz)
        rw[f2]at hrun;generalize hW:w.setRow b (cs.toList.take (o+rows0.length*j.size)++news++cs.toList.drop (o+rows0.length*j.size+news.length)).toArray=W at hrun;have hWb:W.heap[b]?=some (.cells (cs.toList.take (o+rows0.length*j.size)++news++cs.toList.drop (o+rows0.length*j.size+news.length)).toArray ety (0,0)):=by rw[←hW]; exact setRow_heap w b cs _ ety _ e6
        have hWo:∀b',b'≠b→W.heap[b']?=w.heap[b']?:=fun b' h=>by rw[←hW]; exact setRow_other w b b' _ h
        have hWs:W.heap.size=w.heap.size:=by rw[←hW]; simp
        have hK:KeepsW w (fun b=>w0.heap.size≤b∨w0.writ b) W:=by
         rw[←hW];exact⟨rfl,rfl,rfl,by simp,fun i _ hq=>setRow_other w b i _ (fun e=>hq (by rw[e]; exact hb.1))⟩
        have hcell:∀b' o',g.imm b' o'→W.cell? ⟨b',o',none⟩=w.cell? ⟨b',o',none⟩:=by
         intro b' o' hi;by_cases hbb:b'=b
         ·subst hbb;have ho:o' < o+rows0.length*j.size:=by
           rcases Nat.lt_or_ge o' (o+rows0.length*j.size)with h | h
           ·exact h
           ·exact absurd hi (e5 o' h)
          rw[QdN b' o' 0 _ ety hWb,QdN b' o' 0 cs ety e6];have t1:(cs.toList.take (o+rows0.length*j.size)).length=o+rows0.length*j.size:=by simp; omega
          simp only[List.getElem?_toArray];rw[List.append_assoc,List.getElem?_append,t1,if_pos ho,List.getElem?_take,if_pos ho]; simp
         ·exact World.cell?_of_block (w:=w) (hWo b' hbb)
        have hnewc:∀q u,news[q]?=some u→W.cell? ⟨b,o+rows0.length*j.size+q,none⟩=some u:=by
         intro q u hq;have hql:q < news.length:=(List.getElem?_eq_some_iff.1 hq).1;rw[QdN b _ 0 _ ety hWb];have t1:(cs.toList.take (o+rows0.length*j.size)).length=o+rows0.length*j.size:=by simp; omega
         simp only[List.getElem?_toArray];rw[List.append_assoc,List.getElem?_append,t1,if_neg (by omega),List.getElem?_append,if_pos (by omega),show o+rows0.length*j.size+q - (o+rows0.length*j.size)=q by omega]; exact hq
        obtain⟨I',e'⟩:=I.app (w':=W) (t:=t') (new:=new) hn (some b) (fun b' x=>g.imm b' x∨(b'=b∧o+rows0.length*j.size≤x∧x < o+(rows0.length+rows'.length)*j.size))
         (fun b' h=>by cases h; exact⟨hb.1,by rw[hWs]; exact hb.2.1,hb.2.2⟩) hK (KeepN.of_cells (fun b'=>b'=b) (fun b' _ h=>hWo b' h) (fun b' h=>⟨cs,ety,(0,0),by rw[h]; exact e6⟩)) (fun b' x h=>h.imp id (fun h=>by rw[h.1]; exact hb.1)) (fun b' _ h=>hWo b' (fun e=>h (by rw[e]))) hcell (fun _ _ h=> .inl h) (fun b' x h=>h.imp id (fun h=>by rw[h.1]))
        refine⟨_,_,W,hrun,I',rfl,fun s h=>h,?_,.inr rfl,fun _=>⟨_,c,by rw[hlen],.inr ⟨b,o,by simp,rfl,fun x hx hi=>?_,_,ety,hWb,?_⟩⟩⟩
        ·simp only[Rel,hlen];refine⟨c4,_,c,rfl,hfit,.inr ⟨b,o,rfl,RelRows.append ?_ ?_⟩⟩
         ·rcases hrows with rfl | ⟨b2,o2,h1,h2⟩
          ·simp[RelRows]
          ·simp only[Option.some.injEq,Addr.mk.injEq]at h1;obtain⟨rfl,rfl,_⟩:=h1;exact RelRows.ext e'.ext _ _ _ _ h2
         ·refine Qno (xs:=news) (Qjc hrr') ?_ fun q u hq=>⟨.inr ⟨rfl,by omega,?_⟩,hnewc q u hq,(n2 q u hq).2.2⟩
          ·refine RelL.of (by rw[n4,n1]) fun q d u p1 p2=>?_
           obtain⟨u',q1,q2⟩:=n3.get q d p1;rw[q1]at p2; cases p2;exact Rel.ext e'.ext _ _ q2
          ·have hql:q < news.length:=(List.getElem?_eq_some_iff.1 hq).1;rw[n1]at hql;rw[Nat.add_mul]; omega
        ·rw[hlen]at hx;rcases hi with hi | ⟨_,h1,h2⟩
         ·exact e5 x (by rw[Nat.add_mul]at hx; omega) hi
         ·omega
        ·have t1:(cs.toList.take (o+rows0.length*j.size)++news++cs.toList.drop (o+rows0.length*j.size+news.length)).toArray.size=cs.size:=by simp; omega
         rw[t1]; exact e7
       ·
        obtain⟨olds,o1,o2,o3,o4,o5⟩:∃olds:List Value,olds.length=rows0.length*j.size∧(∀u∈olds,u.oneCell'=true)∧RelL g.imm w rows0.flatten olds∧(∀r∈rows0,r.length=j.size)∧(Builtin.firstCells fj.size rows0.length (.slice ad rows0.length c)).run P w.drew= .ok olds.toArray w.drew:=by
         rcases hrows with rfl | ⟨b,o,rfl,hrr⟩
         ·refine⟨[],by simp,by simp,by simp[RelL],by simp,?_⟩
          cases ad<;>simp[Builtin.firstCells,loadCells,loadCellsFrom]
         ·rcases hk0 with rfl | rfl
          ·refine⟨[],by simp,by simp,by simp[RelL],by simp,?_⟩
           simp[Builtin.firstCells,loadCells,loadCellsFrom]
          ·obtain⟨xs,x1,x2,x3,x4⟩:=Qcr hrr;refine⟨xs,x1,fun u hu=>?_,x3,Qjc hrr,run_firstCells_some (P:=P) w.drew fj.size rows0.length ⟨b,o,none⟩ rows0.length c xs (by rw[x1,f2]) fun q u hq=>by rw[QaS]; exact(x2 q u hq).2.1⟩
           obtain⟨q,hq,rfl⟩:=List.getElem_of_mem hu;exact(x2 q _ (List.getElem?_eq_getElem hq)).2.2
        have hrun:=Qcg (P:=P) (w:=w) T ty e fj j.zero hue f1 f4 ad rows0.length c olds o5 ⟨xb,xo,none⟩ rows'.length xc news (by rw[n1,f2]) hnews (by omega) (by omega)
         (by rw[f3]; exact growslice_fits (by omega) c5)
        have hge:=grownCap_ge w (rows0.length+rows'.length) c e;generalize grownCap w (rows0.length+rows'.length) c e=cap at hrun hge;have hBel:Below w.heap.size w (w.drew.alloc (.cells (olds.toArray++news.toArray++Builtin.zeroCells j.zero.cells (cap - (rows0.length+rows'.length))) e)):=(Below.refl _ w).drew.alloc (Nat.le_refl _) _;have hWb:(w.drew.alloc (.cells (olds.toArray++news.toArray++Builtin.zeroCells j.zero.cells (cap - (rows0.length+rows'.length))) e)).heap[w.heap.size]?=some (.cells (olds.toArray++news.toArray++Builtin.zeroCells j.zero.cells (cap - (rows0.length+rows'.length))) e (0,0)):=Qbi w.drew _;have hWs:(w.drew.alloc (.cells (olds.toArray++news.toArray++Builtin.zeroCells j.zero.cells (cap - (rows0.length+rows'.length))) e)).heap.size=w.heap.size+1:=by simp
        generalize w.drew.alloc (.cells (olds.toArray++news.toArray++Builtin.zeroCells j.zero.cells (cap - (rows0.length+rows'.length))) e)=W at hrun hBel hWb hWs;have hsz0:=I.below.size;obtain⟨I',e'⟩:=I.app (w':=W) (t:=t') (new:=new) hn (some w.heap.size) (fun b' x=>g.imm b' x∨(b'=w.heap.size∧x < (rows0.length+rows'.length)*j.size))
         (fun b' h=>by cases h; exact⟨.inl hsz0,by omega,fun i hi=>by have:=(I.boxb i _ hi).2.1; omega,fun s hs=>by have:=(I.tokb s _ hs).1; omega⟩) (Qbk (hBel.mono hsz0)) (KeepN.of_below hBel) (fun b' x h=>h.imp id (fun h=>by rw[h.1]; exact .inl hsz0))
         (fun b' hb' _=>hBel.block b' hb') (fun b' o' hi=>hBel.cell (p:=⟨b',o',none⟩) (I.lt b' o' hi)) (fun _ _ h=> .inl h) (fun b' x h=>h.imp id (fun h=>by rw[h.1]))
        have hall:∀q u,(olds++news)[q]?=some u→W.cell? ⟨w.heap.size,0+q,none⟩=some u:=by
         intro q u hq;rw[QdN _ _ 0 _ e hWb,Nat.zero_add];have hql:q < (olds++news).length:=(List.getElem?_eq_some_iff.1 hq).1;rw[Array.getElem?_append,if_pos (by simpa using hql)]
         have:(olds.toArray++news.toArray)[q]?=(olds++news)[q]?:=by simp
         rw[this]; exact hq
        refine⟨_,_,W,hrun,I',rfl,fun s h=>h,?_,.inr rfl,fun _=>⟨_,cap,by rw[hlen],.inr ⟨w.heap.size,0,by simp,rfl,fun x hx hi=>?_,_,e,hWb,?_⟩⟩⟩
        ·simp only[Rel,hlen];refine⟨c4,_,cap,rfl,hge,.inr ⟨w.heap.size,0,rfl,Qno (xs:=olds++news) (fun r hr=>?_) ?_ fun q u hq=>⟨.inr ⟨rfl,?_⟩,hall q u hq,?_⟩⟩⟩
         ·rcases List.mem_append.1 hr with hr | hr
          ·exact o4 r hr
          ·exact Qjc hrr' r hr
         ·rw[List.flatten_append];refine RelL.of (by simp only[List.length_append,o1,n1,n4,←o3.length]) fun q d u p1 p2=>?_
          rw[List.getElem?_append]at p1 p2;rw[o3.length]at p2;split at p1
          ·rename_i hlt;rw[if_pos hlt]at p2;obtain⟨v,v1,v2⟩:=o3.get _ _ p1;rw[v1]at p2; cases p2; exact Rel.ext e'.ext _ _ v2
          ·rename_i hlt;rw[if_neg hlt]at p2;obtain⟨v,v1,v2⟩:=n3.get _ _ p1;rw[v1]at p2; cases p2; exact Rel.ext e'.ext _ _ v2
         ·have hql:q < (olds++news).length:=(List.getElem?_eq_some_iff.1 hq).1;simp only[List.length_append,o1,n1]at hql;rw[Nat.add_mul]; omega
         ·have hmem:=List.mem_of_getElem? hq;rcases List.mem_append.1 hmem with hu | hu
          ·exact o2 u hu
          ·exact hone u hu
        ·rw[hlen]at hx;rcases hi with hi | ⟨_,h2⟩
         ·have:=I.lt _ _ hi; omega
         ·omega
        ·simp only[Array.size_append,List.size_toArray,size_zeroCells,hjok.zsz,o1,n1,←Nat.add_mul];rw[show rows0.length+rows'.length+(cap - (rows0.length+rows'.length))=cap by omega]
         omega
     ·cases h
    ·cases h
   ·cases h
  ·cases h
 ·cases h
theorem Qlj {T ty e:TypeId} {ti j:TyI} {k:Nat} {rows':List (List D)} {vs vx:Value} (hT:Γ T=some ti) (he:ti.elem=some e) (hj:Γ e=some j) (hne:rows'≠[]) (c4:rows'.length≤140737488355328) (c5:rows'.length*j.bytes≤140737488355328)
  (I:Inv N m0 w0 g σ a w) (rs:RelX g w w0.heap.size σ.toks (.sl k [] .ex) vs) (rx:Rel g.imm w (.sl j.size rows') vx) {d:Nat} (hd:d < N) (hg:g.box d=none) (hmd:Qt σ.maps d=none):
  ∃v w',(Builtin.append_ #[T,T] ty #[vs,vx]).run P w= .ok v w'∧Inv N m0 w0 { g with box:=fun i=>if i=d then some w.heap.size else g.box i} { σ with tmps:=(d,.bs d 0 rows'.length j.size)::σ.tmps,boxes:=(d,rows'.flatten.map X.d)::σ.boxes} (a.put (some d) v) w':=by
 have hu:=(hΓ T ti hT).und;have hue:P.underlying T=some (.slice e):=by
  unfold TyI.elem at he;split at he
  ·rename_i e' hd; simp only[Option.some.injEq]at he; subst he; rw[hu,hd]
  ·cases he
 have hjok:=hΓ _ _ hj;obtain⟨fj,f1,f2,f3,f4⟩:=hjok.inf;obtain⟨_,ad,rfl⟩:=rs;simp only[Rel]at rx;obtain⟨l1,xa,xc,rfl,hxc,hrows'⟩:=rx;obtain⟨xb,xo,rfl,hrr'⟩:=hrows'.resolve_left hne;obtain⟨news,n1,n2,n3,n4⟩:=Qcr hrr';have hml:0 < rows'.length:=List.length_pos_iff.2 hne;have hnews:∀q u,news[q]?=some u→w.cell? ((⟨xb,xo,none⟩:Addr).add q)=some u:=fun q u hq=>by rw[QaS]; exact(n2 q u hq).2.1
 have hone:∀u∈news,u.oneCell'=true:=fun u hu=>by
  obtain⟨q,hq,rfl⟩:=List.getElem_of_mem hu;exact(n2 q _ (List.getElem?_eq_getElem hq)).2.2
 have o5:(Builtin.firstCells fj.size 0 (.slice ad 0 0)).run P w.drew= .ok ([]:List Value).toArray w.drew:=by
  cases ad<;>simp[Builtin.firstCells,loadCells,loadCellsFrom]
 have hrun:=Qcg (P:=P) (w:=w) T ty e fj j.zero hue f1 f4 ad 0 0 [] o5 ⟨xb,xo,none⟩ rows'.length xc news (by rw[n1,f2]) hnews (by omega) (by omega)
  (by rw[f3]; exact growslice_fits (by omega) (by simpa using c5))
 have hge:=grownCap_ge w (0+rows'.length) 0 e;generalize grownCap w (0+rows'.length) 0 e=cap at hrun hge;generalize hZ:Builtin.zeroCells j.zero.cells (cap - (0+rows'.length))=Z at hrun;have hZ1:∀v∈Z.toList,v.oneCell'=true:=by rw[←hZ]; exact Qhy hjok.zone _
 have e1:(([]:List Value).toArray++news.toArray++Z)=(news++Z.toList).toArray:=by
  apply Array.ext'; simp
 rw[e1]at hrun;have hlen:rows'.flatten.length=news.length:=n3.length.symm;refine⟨_,_,hrun,?_⟩;have I1:=I.drew;refine I1.alloc hd hg hmd (.bs d 0 rows'.length j.size) _ (fun g' w' toks hb=>?_) _ _ e (by rw[List.length_append,List.length_map,hlen]; omega) (fun v hv=>?_) (fun q x v h1 h2=>?_)
 ·exact⟨w.heap.size,cap,hb,by simp,by omega⟩
 ·rcases List.mem_append.1 hv with h | h
  ·exact hone v h
  ·exact hZ1 v h
 ·rw[List.getElem?_map]at h1;obtain⟨y,hy,rfl⟩:=Option.map_eq_some_iff.1 h1;have hlt:q < news.length:=by rw[←hlen]; exact(List.getElem?_eq_some_iff.1 hy).1
  rw[List.getElem?_append,if_pos hlt]at h2;obtain⟨v',q1,q2⟩:=n3.get _ _ hy;rw[q1]at h2; cases h2;exact Rel.ext (m:=g.imm) (m':=g.imm) (w:=w) (w':=w.drew) ⟨fun _ _ h=>h,fun _ _ _=>rfl⟩ y v q2
end
end Go.Proofs.YticoemblgkemiaaGreatDoor
namespace Go.Proofs.YticoemblgkemiaaGreatDoor
open Go.RowKit
theorem Qpg {k:Nat} :∀{rows:List (List D)} (n:Nat),(∀r∈rows,r.length=k)→n≤rows.length→(rows.take n).flatten=rows.flatten.take (n*k)
 | rows,0,_,_=>by simp
 | [],n+1,_,h=>by simp at h
 | r::t,n+1,hk,h=>by
  have hr:=hk r (by simp)
  simp only[List.take_succ_cons,List.flatten_cons];rw[Qpg n (fun r' h'=>hk r' (by simp[h'])) (by simpa using h),List.take_append,Nat.succ_mul]
  rw[List.take_of_length_le (l:=r) (by omega),hr,show n*k+k - k=n*k by omega]
theorem Qj4 {m:Nat→Nat→Prop} {w:World} :∀{a b:List D} {x y:List Value},RelL m w a x→RelL m w b y→RelL m w (a++b) (x++y)
 | [],b,x,y,h1,h2=>by simp only[RelL]at h1; subst h1; exact h2
 | d::t,b,x,y,h1,h2=>by
  simp only[RelL]at h1;obtain⟨v,vt,rfl,h3,h4⟩:=h1;simp only[List.cons_append,RelL];exact⟨v,vt++y,rfl,h3,Qj4 h4 h2⟩
section
variable {P:Program} {Γ:Tys} (hΓ:∀T i,Γ T=some i→TyOk P T i) {N:Nat} {m0:Nat→Nat→Prop} {w0:Base} {g:Gh} {σ:St} {a:Act} {w:World}
include hΓ
theorem Qlq {T ty e:TypeId} {ti j:TyI} {k k' t new:Nat} {rows rows':List (List D)} {vs vx:Value} (hT:Γ T=some ti) (he:ti.elem=some e) (hj:Γ e=some j) (c1:0 < j.size) (c2:k=j.size) (c3:rows'=[]∨k'=j.size)
  (c4:rows.length+rows'.length≤140737488355328) (c5:(rows.length+rows'.length)*j.bytes≤140737488355328) (ht:t∈σ.toks) (I:Inv N m0 w0 g σ a w) (rs:RelX g w w0.heap.size σ.toks (.sl k rows (.own t)) vs) (rx:Rel g.imm w (.sl k' rows') vx) (hn:¬g.used new):
  ∃v g' w',(Builtin.append_ #[T,T] ty #[vs,vx]).run P w= .ok v w'∧Inv N m0 w0 g' { σ with toks:=Qb5 σ.toks (some t) new} a w'∧g'.box=g.box∧(∀s,g'.used s→g.used s∨s=new)∧
   RelX g' w' w0.heap.size (Qb5 σ.toks (some t) new) (.sl k (rows++rows') (.own new)) v:=by
 have hu:=(hΓ T ti hT).und;have hue:P.underlying T=some (.slice e):=by
  unfold TyI.elem at he;split at he
  ·rename_i e' hd; simp only[Option.some.injEq]at he; subst he; rw[hu,hd]
  ·cases he
 have hjok:=hΓ _ _ hj;obtain⟨fj,f1,f2,f3,f4⟩:=hjok.inf;obtain⟨_,_,hO⟩:=rs;obtain⟨ad,c,rfl,hlc,l0,halt⟩:=hO ht;have r1:=rx;simp only[Rel]at r1;obtain⟨l1,xa,xc,rfl,hxc,hrows'⟩:=r1;have hlen:(rows++rows').length=rows.length+rows'.length:=List.length_append;have hblkof:∀b,g.tok t=some b→(w0.heap.size≤b∨w0.writ b)∧b < w.heap.size∧(∀i,g.box i≠some b)∧∀s,g.tok s=some b→some t=some s:=by
  intro b e2;obtain⟨q1,q2,q3⟩:=I.tokb t b e2;exact⟨q2,q1,q3,fun s hs=>by rw[I.toki s t b hs e2]⟩
 by_cases hm:rows'=[]
 ·subst hm;have hrun:=QdJ (P:=P) hue f1 ty ad xa rows.length c xc hlc w;rw[List.append_nil];obtain⟨I',e'⟩:=I.app (w':=w) (t:=some t) (new:=new) hn (g.tok t) g.imm (fun b h=>hblkof b h) (Qbk (Below.refl _ _)) (KeepN.refl _) (fun _ _ h=> .inl h) (fun _ _ _=>rfl) (fun _ _ _=>rfl) (fun _ _ h=>h) (fun _ _ h=> .inl h);refine⟨_,_,w,hrun,I',rfl,fun s h=>h,⟨_,_,_,rfl⟩,.inr rfl,fun _=>⟨ad,c,rfl,hlc,l0,halt.imp id ?_⟩⟩;rintro⟨b,o,q1,q2,q3,q4⟩;exact⟨b,o,by simpa using q1,q2,q3,q4⟩
 ·have hk':k'=j.size:=c3.resolve_left hm;subst c2;subst hk';obtain⟨xb,xo,rfl,hrr'⟩:=hrows'.resolve_left hm;obtain⟨news,n1,n2,n3,n4⟩:=Qcr hrr';have hml:0 < rows'.length:=List.length_pos_iff.2 hm;have hnews:∀q u,news[q]?=some u→w.cell? ((⟨xb,xo,none⟩:Addr).add q)=some u:=fun q u hq=>by rw[QaS]; exact(n2 q u hq).2.1
  have hone:∀u∈news,u.oneCell'=true:=fun u hu=>by
   obtain⟨q,hq,rfl⟩:=List.getElem_of_mem hu;exact(n2 q _ (List.getElem?_eq_getElem hq)).2.2
  have hkall:∀r∈rows',r.length=j.size:=Qjc hrr';by_cases hfit:rows.length+rows'.length≤c
  ·obtain⟨b,o,q1,rfl,q3,cs,ety,q4,q5,q6,xs,q7,q8,q9⟩:=halt.resolve_left (fun h=>by omega)
   have hb:=hblkof b q1;have hmul:(rows.length+rows'.length)*j.size≤c*j.size:=Nat.mul_le_mul_right _ hfit;rw[Nat.add_mul]at hmul;have hsz:o+rows.length*j.size+news.length≤cs.size:=by rw[n1]; omega
   have hrun:=QdH (P:=P) (w:=w) hue f1 ty ety b o rows.length c cs q4 ⟨xb,xo,none⟩ rows'.length xc news (by rw[n1,f2]) hnews hone hfit (by rw[f2]; exact hsz)
   rw[f2]at hrun;generalize hW:w.setRow b (cs.toList.take (o+rows.length*j.size)++news++cs.toList.drop (o+rows.length*j.size+news.length)).toArray=W at hrun;have hWb:W.heap[b]?=some (.cells (cs.toList.take (o+rows.length*j.size)++news++cs.toList.drop (o+rows.length*j.size+news.length)).toArray ety (0,0)):=by rw[←hW]; exact setRow_heap w b cs _ ety _ q4
   have hWo:∀b',b'≠b→W.heap[b']?=w.heap[b']?:=fun b' h=>by rw[←hW]; exact setRow_other w b b' _ h
   have hWs:W.heap.size=w.heap.size:=by rw[←hW]; simp
   have hK:KeepsW w (fun b=>w0.heap.size≤b∨w0.writ b) W:=by
    rw[←hW];exact⟨rfl,rfl,rfl,by simp,fun i _ hq=>setRow_other w b i _ (fun e=>hq (by rw[e]; exact hb.1))⟩
   have hcell:∀b' o',g.imm b' o'→W.cell? ⟨b',o',none⟩=w.cell? ⟨b',o',none⟩:=fun b' o' hi=>World.cell?_of_block (w:=w) (hWo b' (fun e=>q3.1 o' (by rw[←e]; exact hi)))
   obtain⟨I',e'⟩:=I.app (w':=W) (t:=some t) (new:=new) hn (some b) g.imm (fun b' h=>by cases h; exact⟨hb.1,by rw[hWs]; exact hb.2.1,hb.2.2⟩) hK
    (KeepN.of_cells (fun b'=>b'=b) (fun b' _ h=>hWo b' h) (fun b' h=>⟨cs,ety,(0,0),by rw[h]; exact q4⟩)) (fun _ _ h=> .inl h) (fun b' _ h=>hWo b' (fun e=>h (by rw[e]))) hcell (fun _ _ h=>h) (fun _ _ h=> .inl h)
   refine⟨_,_,W,hrun,I',rfl,fun s h=>h,⟨_,_,_,rfl⟩,.inr rfl,fun _=>⟨_,c,by rw[hlen],by rw[hlen]; exact hfit,by rw[hlen]; exact c4,.inr ⟨b,o,by simp,rfl,q3,_,ety,hWb,?_,?_,xs++news,?_,?_,?_⟩⟩⟩
   ·have t1:(cs.toList.take (o+rows.length*j.size)++news++cs.toList.drop (o+rows.length*j.size+news.length)).toArray.size=cs.size:=by simp; omega
    rw[t1]; exact q5
   ·intro r hr;rcases List.mem_append.1 hr with hr | hr
    ·exact q6 r hr
    ·exact hkall r hr
   ·rw[List.length_append,q7,n1,hlen,Nat.add_mul]
   ·intro q u hq;have t1:(cs.toList.take (o+rows.length*j.size)).length=o+rows.length*j.size:=by simp; omega
    have hql:q < (xs++news).length:=(List.getElem?_eq_some_iff.1 hq).1;rw[List.length_append,q7]at hql;rw[List.getElem?_append]at hq;split at hq
    ·rename_i hlt;rw[q7]at hlt;obtain⟨h1,h2⟩:=q8 q u hq;refine⟨?_,h2⟩;simp only[List.getElem?_toArray];rw[List.append_assoc,List.getElem?_append,t1,if_pos (by omega),List.getElem?_take,if_pos (by omega)]; simpa using h1
    ·rename_i hge;rw[q7]at hge hq;refine⟨?_,hone u (List.mem_of_getElem? hq)⟩;simp only[List.getElem?_toArray];rw[List.append_assoc,List.getElem?_append,t1,if_neg (by omega),List.getElem?_append,if_pos (by omega),show o+q - (o+rows.length*j.size)=q - rows.length*j.size by omega]; exact hq
   ·rw[List.flatten_append];exact Qj4 (RelL.ext e'.ext _ _ q9) (RelL.ext e'.ext _ _ n3)
  ·
   obtain⟨olds,o1,o2,o3,o4,o5⟩:∃olds:List Value,olds.length=rows.length*j.size∧(∀u∈olds,u.oneCell'=true)∧RelL g.imm w rows.flatten olds∧(∀r∈rows,r.length=j.size)∧(Builtin.firstCells fj.size rows.length (.slice ad rows.length c)).run P w.drew= .ok olds.toArray w.drew:=by
    rcases halt with⟨rfl,rfl⟩ | ⟨b,o,q1,rfl,q3,cs,ety,q4,q5,q6,xs,q7,q8,q9⟩
    ·refine⟨[],by simp,by simp,by simp[RelL],by simp,?_⟩
     cases ad<;>simp[Builtin.firstCells,loadCells,loadCellsFrom]
    ·refine⟨xs,q7,fun u hu=>?_,q9,q6,run_firstCells_some (P:=P) w.drew fj.size rows.length ⟨b,o,none⟩ rows.length c xs (by rw[q7,f2]) fun q u hq=>by
      rw[QaS];show w.cell? _=_;rw[QdN b _ 0 cs ety q4]; exact(q8 q u hq).1⟩
     obtain⟨q,hq,rfl⟩:=List.getElem_of_mem hu;exact(q8 q _ (List.getElem?_eq_getElem hq)).2
   have hrun:=Qcg (P:=P) (w:=w) T ty e fj j.zero hue f1 f4 ad rows.length c olds o5 ⟨xb,xo,none⟩ rows'.length xc news (by rw[n1,f2]) hnews (by omega) (by omega)
    (by rw[f3]; exact growslice_fits (by omega) c5)
   have hge:=grownCap_ge w (rows.length+rows'.length) c e;generalize grownCap w (rows.length+rows'.length) c e=cap at hrun hge;have hBel:Below w.heap.size w (w.drew.alloc (.cells (olds.toArray++news.toArray++Builtin.zeroCells j.zero.cells (cap - (rows.length+rows'.length))) e)):=(Below.refl _ w).drew.alloc (Nat.le_refl _) _;have hWb:(w.drew.alloc (.cells (olds.toArray++news.toArray++Builtin.zeroCells j.zero.cells (cap - (rows.length+rows'.length))) e)).heap[w.heap.size]?=some (.cells (olds.toArray++news.toArray++Builtin.zeroCells j.zero.cells (cap - (rows.length+rows'.length))) e (0,0)):=Qbi w.drew _;have hWs:(w.drew.alloc (.cells (olds.toArray++news.toArray++Builtin.zeroCells j.zero.cells (cap - (rows.length+rows'.length))) e)).heap.size=w.heap.size+1:=by simp
   generalize w.drew.alloc (.cells (olds.toArray++news.toArray++Builtin.zeroCells j.zero.cells (cap - (rows.length+rows'.length))) e)=W at hrun hBel hWb hWs;have hsz0:=I.below.size;obtain⟨I',e'⟩:=I.app (w':=W) (t:=some t) (new:=new) hn (some w.heap.size) g.imm
    (fun b' h=>by cases h; exact⟨.inl hsz0,by omega,fun i hi=>by have:=(I.boxb i _ hi).2.1; omega,fun s hs=>by have:=(I.tokb s _ hs).1; omega⟩) (Qbk (hBel.mono hsz0)) (KeepN.of_below hBel) (fun _ _ h=> .inl h)
    (fun b' hb' _=>hBel.block b' hb') (fun b' o' hi=>hBel.cell (p:=⟨b',o',none⟩) (I.lt b' o' hi)) (fun _ _ h=>h) (fun _ _ h=> .inl h)
   refine⟨_,_,W,hrun,I',rfl,fun s h=>h,⟨_,_,_,rfl⟩,.inr rfl,fun _=>⟨_,cap,by rw[hlen],by rw[hlen]; exact hge,by rw[hlen]; exact c4,.inr ⟨w.heap.size,0,by simp,rfl,⟨fun x hx=>by have:=I.lt _ _ hx; omega,rfl⟩,_,e,hWb,?_,?_,olds++news,?_,?_,?_⟩⟩⟩
   ·simp only[Array.size_append,List.size_toArray,size_zeroCells,hjok.zsz,o1,n1,←Nat.add_mul];rw[show rows.length+rows'.length+(cap - (rows.length+rows'.length))=cap by omega]
    omega
   ·intro r hr;rcases List.mem_append.1 hr with hr | hr
    ·exact o4 r hr
    ·exact hkall r hr
   ·rw[List.length_append,o1,n1,hlen,Nat.add_mul]
   ·intro q u hq;refine⟨?_,?_⟩
    ·rw[Nat.zero_add];have hql:q < (olds++news).length:=(List.getElem?_eq_some_iff.1 hq).1;rw[Array.getElem?_append,if_pos (by simpa using hql)]
     have:(olds.toArray++news.toArray)[q]?=(olds++news)[q]?:=by simp
     rw[this]; exact hq
    ·rcases List.mem_append.1 (List.mem_of_getElem? hq)with hu | hu
     ·exact o2 u hu
     ·exact hone u hu
   ·rw[List.flatten_append];exact Qj4 (RelL.ext e'.ext _ _ o3) (RelL.ext e'.ext _ _ n3)
theorem QqX {T e:TypeId} {ti j:TyI} {k t new:Nat} {rows:List (List D)} {vs:Value} {lo hi:Option X} {vlo vhi:Option Value} {h:Int} (hT:Γ T=some ti) (he:ti.elem=some e) (hj:Γ e=some j)
  (hl:QdR lo 0=some 0) (hh:QdR hi rows.length=some h) (c0:0≤h) (c2:h≤rows.length) (c3:j.size=k) (ht:t∈σ.toks) (I:Inv N m0 w0 g σ a w) (rs:RelX g w w0.heap.size σ.toks (.sl k rows (.own t)) vs) (rl:QDO g w w0.heap.size σ.toks lo vlo) (rh:QDO g w w0.heap.size σ.toks hi vhi) (hn:¬g.used new):
  ∃v g',(Instr.sliceAt T vs vlo vhi none).run P w= .ok v w∧Inv N m0 w0 g' { σ with toks:=Qb5 σ.toks (some t) new} a w∧g'.box=g.box∧(∀s,g'.used s→g.used s∨s=new)∧
   RelX g' w w0.heap.size (Qb5 σ.toks (some t) new) (.sl k (rows.take h.toNat) (.own new)) v:=by
 have hu:=(hΓ T ti hT).und;have hue:P.underlying T=some (.slice e):=by
  unfold TyI.elem at he;split at he
  ·rename_i e' hd; simp only[Option.some.injEq]at he; subst he; rw[hu,hd]
  ·cases he
 have hjok:=hΓ _ _ hj;obtain⟨_,_,hO⟩:=rs;obtain⟨ad,c,rfl,hlc,l0,halt⟩:=hO ht;have b1:=QcX hl rl;have b2:=QcX hh rh;have hrun:=QbS (P:=P) true rows.length c vlo vhi 0 h w hlc (b1.imp (fun h=>⟨h.2.1,h.2.2⟩) id) (b2.imp (fun h=>⟨h.2.1,h.2.2⟩) id) (Int.le_refl _) c0 c2;have hblkof:∀b,g.tok t=some b→(w0.heap.size≤b∨w0.writ b)∧b < w.heap.size∧(∀i,g.box i≠some b)∧∀s,g.tok s=some b→some t=some s:=by
  intro b e2;obtain⟨q1,q2,q3⟩:=I.tokb t b e2;exact⟨q2,q1,q3,fun s hs=>by rw[I.toki s t b hs e2]⟩
 obtain⟨I',e'⟩:=I.app (w':=w) (t:=some t) (new:=new) hn (g.tok t) g.imm (fun b h=>hblkof b h) (Qbk (Below.refl _ _)) (KeepN.refl _) (fun _ _ h=> .inl h) (fun _ _ _=>rfl) (fun _ _ _=>rfl) (fun _ _ h=>h) (fun _ _ h=> .inl h);have hlt:(rows.take h.toNat).length=h.toNat:=by simp; omega
 refine⟨.slice (if c=0 then ad else ad.map (·.add (0*k))) h.toNat c,_,?_,I',rfl,fun s h=>h,⟨_,_,_,rfl⟩,.inr rfl,fun _=>⟨_,c,by rw[hlt],by rw[hlt]; omega,by rw[hlt]; omega,?_⟩⟩
 ·unfold Instr.sliceAt Instr.slice;simp only[Sem.run_bind,run_underlying hue,Result.andThen_ok,hrun,Qbe hjok,c3,Sem.run_pure];rfl
 ·rcases halt with⟨rfl,rfl⟩ | ⟨b,o,q1,rfl,q3,cs,ety,q4,q5,q6,xs,q7,q8,q9⟩
  ·exact .inl ⟨by simp,rfl⟩
  ·by_cases hc0:c=0
   ·left;refine⟨?_,hc0⟩;have:rows=[]:=List.length_eq_zero_iff.1 (by omega)
    subst this; simp
   ·right;rw[if_neg hc0];refine⟨b,o,by simpa using q1,by simp[QaS],q3,cs,ety,q4,q5,fun r hr=>q6 r (List.mem_of_mem_take hr),xs.take (h.toNat*k),?_,fun q u hq=>?_,?_⟩
    ·rw[List.length_take,q7,hlt];exact Nat.min_eq_left (Nat.mul_le_mul_right _ (by omega))
    ·rw[List.getElem?_take]at hq;split at hq
     ·exact q8 q u hq
     ·cases hq
    ·rw[Qpg _ q6 (by omega)]
     have:=q9.sub 0 (h.toNat*k);simpa using this
end
end Go.Proofs.YticoemblgkemiaaGreatDoor
namespace Go.Proofs.YticoemblgkemiaaGreatDoor
open Go.RowKit
def PureC (P:Program) (f:Nat) (ds:List D) (d:D):Prop:=
 ∀(m:Nat→Nat→Prop) (w:World) (vs:List Value),(∀b o,m b o→b < w.heap.size)→GlobIn m w→RelL m w ds vs→
  Calls P f vs.toArray w fun e w'=>∃(v:Value) (m':Nat→Nat→Prop),e= .returned v∧Below w.heap.size w w'∧(∀b o,m' b o→w.heap.size≤b∧b < w'.heap.size)∧Rel (fun b o=>m b o∨m' b o) w' d v
def Qsb (P:Program) (f:Nat) (ds:List D) (v:Value):Prop:=
 ∀(m:Nat→Nat→Prop) (w:World) (vs:List Value),(∀b o,m b o→b < w.heap.size)→GlobIn m w→RelL m w ds vs→Calls P f vs.toArray w fun e w'=>e= .panicked [{ v,recovered:=false}]∧Below w.heap.size w w'
def Qql (P:Program) (Δp:Nat→List D→Option Value):Prop:=∀f ds v,Δp f ds=some v→(∀xs w,(callFunc f xs).run P w= .ok (.enter f xs) w)∧Qsb P f ds v
def QwB (m':Nat→Nat→Prop) (w':World) (base n k:Nat) (v:Value):Prop:=
 ∃a c,v= .slice a n c∧(c=n∨∃b,a=some ⟨b,0,none⟩∧base≤b∧(∀x,n*k≤x→¬m' b x)∧∃(cs:Array Value) (ty:TypeId),w'.heap[b]?=some (.cells cs ty (0,0))∧c*k≤cs.size)
def Qwg (P:Program) (f:Nat) (ds:List D) (d:D):Prop:=
 ∀k rows,d= .sl k rows→∀(m:Nat→Nat→Prop) (w:World) (vs:List Value),(∀b o,m b o→b < w.heap.size)→GlobIn m w→RelL m w ds vs→
  Calls P f vs.toArray w fun e w'=>∃(v:Value) (m':Nat→Nat→Prop),e= .returned v∧Below w.heap.size w w'∧(∀b o,m' b o→w.heap.size≤b∧b < w'.heap.size)∧Rel (fun b o=>m b o∨m' b o) w' d v∧QwB m' w' w.heap.size rows.length k v
def QaE (P:Program) (Δ:Nat→List D→Option D):Prop:=∀f ds d,Δ f ds=some d→(∀xs w,(callFunc f xs).run P w= .ok (.enter f xs) w)∧PureC P f ds d∧(QIi.contains f=true→Qwg P f ds d)
def FreeF (F:Fence):Prop:=F=Fence.wide∨∃l,F=Fence.wide.inRound l
theorem FreeF.fn {F:Fence} (h:FreeF F):∀f,F.fn f:=by
 rcases h with rfl | ⟨l,rfl⟩<;>exact fun _=>trivial
theorem FreeF.depth {F:Fence} (h:FreeF F):F.depth=none:=by
 rcases h with rfl | ⟨l,rfl⟩<;>rfl
theorem FreeF.calls {F:Fence} (hF:FreeF F) {n:Nat} {P:Program} {f:FuncId} {args:Array Value} {w:World} {R:Ending→World→Prop} (h:Calls P f args w R):CallsIn F n P f args w R:=by
 rcases hF with rfl | ⟨l,rfl⟩
 ·exact callsIn_wide.2 h
 ·exact CallsIn.inRound l (callsIn_wide.2 h)
section
variable {F:Fence} {n:Nat} {P:Program} {Γ:Tys} {eqs:List (TypeId×Nat)} {Δ:Nat→List D→Option D} (hΓ:∀T i,Γ T=some i→TyOk P T i) (hq:∀T n,Qt eqs T=some n→QzT P T n) (hΔ:QaE P Δ)
 {N:Nat} {m0:Nat→Nat→Prop} {w0:Base} {g:Gh} {σ σ':St} {a:Act} {w:World}
theorem Qhv (g:Gh) (w:World) (base:Nat) (toks:List Nat) (v:Value):RelX g w base toks (Qle v) v:=by
 unfold Qle;split
 ·exact⟨by simp only[Rel]; exact⟨by simp,none,0,rfl,by simp,.inl trivial⟩,none,rfl⟩
 ·rename_i cs;split
  ·rename_i h;have h1:∀v∈cs.toList,v.oneCell'=true:=fun v hv=>List.all_eq_true.1 h v hv;simp only[RelX,Rel];exact⟨cs.toList,by simp,h1,QgH _ _ _ h1⟩
  ·simp[RelX,Rel]
 ·simp[RelX,Rel]
 ·simp[RelX,Rel]
theorem QbD (I:Inv N m0 w0 g σ a w) (x:Operand):RelX g w w0.heap.size σ.toks (σ.ev x) (a.eval x):=by
 cases x with
 | tmp t=>
  simp only[St.ev,Act.eval];cases h:Qt σ.tmps t with
  | none=>simp[RelX,Rel]
  | some x=>exact I.tmps t x h
 | const v=>exact Qhv _ _ _ _ _
 | func f=>simp[St.ev,Act.eval,RelX,Rel]
 | global n=>simp[St.ev,RelX,Rel]
theorem Qck (hF:FreeF F) {o:Oper} {next:Act→World→Prop} {Q:Exit→Act→World→Prop} {v:Value} {w':World} (hr:(execOp a.eval o).run P w= .ok (.value v) w') (hn:next (a.put o.dst v) w') (hnd:∀c,o.op≠ .defer c:=by intro c h; cases h):o.wpIn F n P a w next Q:=by
 unfold Oper.wpIn; rw[Oper.semAt_eq _ _ _ hnd,hr]; exact⟨fun f _=>hF.fn f,hn⟩
theorem QCY (hF:FreeF F) {o:Oper} {next:Act→World→Prop} {Q:Exit→Act→World→Prop} {w':World} (hr:(execOp a.eval o).run P w= .ok .skip w') (hn:next (a.put o.dst undef) w') (hnd:∀c,o.op≠ .defer c:=by intro c h; cases h):o.wpIn F n P a w next Q:=by
 unfold Oper.wpIn; rw[Oper.semAt_eq _ _ _ hnd,hr]; exact⟨fun f _=>hF.fn f,hn⟩
theorem Qhl (hF:FreeF F) {o:Oper} {next:Act→World→Prop} {Q:Exit→Act→World→Prop} {f:FuncId} {args:Array Value} {R:Ending→World→Prop} (hr:(execOp a.eval o).run P w= .ok (.enter f args) w) (h:Calls P f args w R)
  (hn:∀e w',R e w'→∃v,e= .returned v∧next (a.put o.dst v) w') (hnd:∀c,o.op≠ .defer c:=by intro c h; cases h):o.wpIn F n P a w next Q:=by
 unfold Oper.wpIn; rw[Oper.semAt_eq _ _ _ hnd,hr];refine⟨fun f _=>hF.fn f,fun hd=>absurd hd (by rw[hF.depth]; simp),(hF.calls h).mono ?_⟩
 intro e w' hR;obtain⟨v,rfl,hv⟩:=hn e w' hR;exact hv
theorem Qkf (I:Inv N m0 w0 g σ a w):∀(ps:List (Nat×Operand)),QfD g w w0.heap.size σ.toks (ps.map fun p=>(p.1,σ.ev p.2)) (ps.map fun p=>(p.1,a.eval p.2))
 | []=>by simp[QfD]
 | p::t=>by simp only[List.map_cons,QfD]; exact⟨_,_,rfl,QbD I p.2,Qkf I t⟩
theorem QLk (I:Inv N m0 w0 g σ a w) (x:Option Operand):QDO g w w0.heap.size σ.toks (x.map σ.ev) (x.map a.eval):=by
 cases x with
 | none=>trivial
 | some x=>exact QbD I x
def PutOk (N i:Nat) (σ:St) (dst:Option Nat) (r:Res) (σ':St):Prop:=σ.put N i dst r=some σ'
theorem PutOk.dst {N i:Nat} {dst:Option Nat} {r:Res} (h:PutOk N i σ dst r σ'):QjT N dst:=by
 unfold PutOk St.put at h;split at h
 ·rename_i hc;rintro x rfl;simpa[Qh0]using hc
 ·cases h
theorem PutOk.get {N i:Nat} {dst:Option Nat} {r:Res} (h:PutOk N i σ dst r σ'):σ.res i dst r=some σ':=by
 unfold PutOk St.put at h;split at h
 ·exact h
 ·cases h
def KOk (N:Nat) (m0:Nat→Nat→Prop) (w0:Base) (g:Gh) (σ':St) (dst:Option Nat) (i:Nat) (r:Res) (next:Act→World→Prop):Prop:=
 ∀g' a' w',Inv N m0 w0 g' σ' a' w'→(∀j,g.box j=none→((∀cs,r≠ .new cs)∨dst≠some j)→g'.box j=none)→(∀t,g'.used t→g.used t∨t=QaN i)→(∀j,g.box j≠none→g'.box j≠none)→next a' w'
theorem Q6 (hF:FreeF F) {o:Oper} {i:Nat} {z:X} {v:Value} {next:Act→World→Prop} {Q:Exit→Act→World→Prop} (I:Inv N m0 w0 g σ a w) (hp:PutOk N i σ o.dst (.q z) σ') (hr:(execOp a.eval o).run P w= .ok (.value v) w) (hz:RelX g w w0.heap.size σ.toks z v) (hK:KOk N m0 w0 g σ' o.dst i (.q z) next) (hnd:∀c,o.op≠ .defer c:=by intro c h; cases h):o.wpIn F n P a w next Q:=by
 have hd:=hp.dst;have hg:=hp.get;simp only[St.res,Option.some.injEq]at hg; subst hg;exact Qck hF hr (hK g _ w (I.put hd hz) (fun _ h _=>h) (fun _ h=> .inl h) fun _ h=>h) hnd
theorem Qa6 {x:Option X} {r:Res} (h:Res.ofX x=some r):∃z,x=some z∧r= .q z:=by
 cases x with
 | none=>cases h
 | some z=>simp only[Res.ofX,Option.some.injEq]at h; exact⟨z,rfl,h.symm⟩
theorem Qjd (I:Inv N m0 w0 g σ a w) (xs:List Operand) {ds:List D} (h:Qbp (xs.map σ.ev)=some ds):RelL g.imm w ds (xs.map a.eval):=
 Qc4 (base:=w0.heap.size) (toks:=σ.toks) h (by simp) fun j x v h1 h2=>by
  rw[List.getElem?_map]at h1 h2;cases hj:xs[j]? with
  | none=>rw[hj]at h1; cases h1
  | some o=>rw[hj]at h1 h2; simp at h1 h2; subst h1; subst h2; exact QbD I o
theorem QAa (I:Inv N m0 w0 g σ a w) (xs:List Operand) {ds:List D} (h:QeD σ.boxes (xs.map σ.ev)=some ds):RelL (Qvb g) w ds (xs.map a.eval):=
 QjU (base:=w0.heap.size) (toks:=σ.toks) I.boxes h (by simp) fun j x v h1 h2=>by
  rw[List.getElem?_map]at h1 h2;cases hj:xs[j]? with
  | none=>rw[hj]at h1; cases h1
  | some o=>rw[hj]at h1 h2; simp at h1 h2; subst h1; subst h2; exact QbD I o
theorem QhD {m:Nat→Nat→Prop} {w:World} :∀{a b:List D} {x y:List Value},RelL m w a x→RelL m w b y→RelL m w (a++b) (x++y)
 | [],b,x,y,h1,h2=>by simp only[RelL]at h1; subst h1; exact h2
 | d::t,b,x,y,h1,h2=>by
  simp only[RelL]at h1;obtain⟨v,vt,rfl,h3,h4⟩:=h1;simp only[List.cons_append,RelL];exact⟨v,vt++y,rfl,h3,QhD h4 h2⟩
theorem QBf (z:Value) (n:Nat):(madeCells #[z] (n*1)).toList=List.replicate n z:=by
 simp only[madeCells,Array.toList_map,Array.toList_range,Nat.mul_one];rw[List.eq_replicate_iff];refine⟨by simp,fun b hb=>?_⟩
 obtain⟨q,_,rfl⟩:=List.mem_map.1 hb;simp[Nat.mod_one]
theorem QBt {T:TypeId} {j:TyI} (h:TyOk P T j) (hj:j.agg=false):j.zero.cells= #[j.zero]:=by
 have h1:=h.zone1 hj;have h2:=h.zsz;generalize j.zero=z at*;cases z<;>first | rfl | (simp[Value.oneCell']at h1; done)
include hΔ
theorem QgT (hF:FreeF F) {i:Nat} {o:Option Nat} {f:Operand} {args:Array Operand} {argTypes:Array TypeId} {ty:TypeId} {pos:String} {after:Array Edge} {guard:Option (Nat×Bool)} {gf:Nat} {pre post:List D} {fs cs:List Value} {r:Res} {next:Act→World→Prop} {Q:Exit→Act→World→Prop}
  (h:QgB Δ gf pre post (QeD σ.boxes (args.toList.map σ.ev))=some r) (hf:a.eval f= .func (.func gf) fs.toArray cs.toArray) (h1:RelL (Qvb g) w pre fs) (h2:RelL (Qvb g) w post cs) (hp:PutOk N i σ o r σ') (I:Inv N m0 w0 g σ a w) (hK:KOk N m0 w0 g σ' o i r next):
  (⟨o,.call ⟨.value f,args,argTypes⟩,ty,pos,after,guard⟩:Oper).wpIn F n P a w next Q:=by
 unfold QgB at h;split at h
 ·rename_i ds hds;split at h
  ·rename_i d hdel;split at h
   ·rename_i hfl;simp only[Option.some.injEq]at h; subst h;have hd:=hp.dst;have hg:=hp.get;simp only[St.res,Option.some.injEq]at hg; subst hg;obtain⟨hen,hpure,_⟩:=hΔ gf _ d hdel;have hargs:fs.toArray++args.map a.eval++cs.toArray=(fs++args.toList.map a.eval++cs).toArray:=by
     have:args.map a.eval=(args.toList.map a.eval).toArray:=by rw[←Array.toList_map,Array.toArray_toList]
     rw[this]; simp
    have hrun:(execOp a.eval ⟨o,.call ⟨.value f,args,argTypes⟩,ty,pos,after,guard⟩).run P w= .ok (.enter gf (fs.toArray++args.map a.eval++cs.toArray)) w:=by
     simp[execOp,resolve,hf,Deferred.ofValue,invoke,hen]
    rw[hargs]at hrun;have hlt:∀b o,Qvb g b o→b < w.heap.size:=by
     rintro b o (hb | ⟨i,hb⟩)
     ·exact I.lt b o hb
     ·exact(I.boxb i b hb).2.1
    refine Qhl hF hrun (hpure (Qvb g) w _ hlt (I.globIn.ext ⟨fun _ _ h=> .inl h,fun _ _ _=>rfl⟩) (QhD (QhD h1 (QAa I _ hds)) h2)) ?_;rintro e w' ⟨v,m',rfl,hb,hm,hrel⟩;obtain⟨I',_⟩:=I.grow hb m' hm;refine⟨v,rfl,?_⟩;exact hK _ _ _ (I'.put hd (x:= .d d) (QoD hfl hrel)) (fun q h _=>h) (fun t h=> .inl h) fun _ h=>h
   ·cases h
  ·cases h
 ·cases h
include hΓ hq
set_option maxHeartbeats 1000000 in
theorem Qe0 (hF:FreeF F) {i:Nat} {o:Oper} {r:Res} {next:Act→World→Prop} {Q:Exit→Act→World→Prop} (h:aop Γ eqs Δ o.op σ.ev σ.boxes σ.toks=some r) (hp:PutOk N i σ o.dst r σ') (I:Inv N m0 w0 g σ a w)
  (hbox:∀cs,r= .new cs→∀d,o.dst=some d→g.box d=none∧Qt σ.maps d=none) (hused:¬g.used (QaN i)) (hK:KOk N m0 w0 g σ' o.dst i r next):o.wpIn F n P a w next Q:=by
 obtain⟨dst,op,ty,pos,after,guard⟩:=o;have hE:=QbD I;cases op<;>simp only[aop]at h<;>try (cases h; done)
 case move x=>
  simp only[Option.some.injEq]at h; subst h;exact Q6 hF I hp (v:=a.eval x) rfl (hE x) hK
 case assign x=>
  simp only[Option.some.injEq]at h; subst h;exact Q6 hF I hp (v:=a.eval x) rfl (hE x) hK
 case pick c x y=>
  obtain⟨z,hz,rfl⟩:=Qa6 h;unfold QEn at hz;have hc:=hE c;split at hz
  ·rename_i hcx;rw[hcx]at hc; simp only[RelX,Rel]at hc;simp only[Option.some.injEq]at hz; subst hz;exact Q6 hF I hp (v:=a.eval x) (by simp[execOp,hc,asBool]) (hE x) hK
  ·rename_i hcx;rw[hcx]at hc; simp only[RelX,Rel]at hc;simp only[Option.some.injEq]at hz; subst hz;exact Q6 hF I hp (v:=a.eval y) (by simp[execOp,hc,asBool]) (hE y) hK
  ·cases hz
 case alloc T=>
  split at h
  ·rename_i ii hT;have hok:=hΓ T ii hT;simp only[Option.some.injEq]at h; subst h;have hd:=hp.dst;have hg:=hp.get;cases dst with
   | none=>cases hg
   | some d=>
    simp only[St.res,Option.some.injEq]at hg; subst hg;have hcs:=I.alloc (hd d rfl) (hbox _ rfl d rfl).1 (hbox _ rfl d rfl).2 (.loc d 0) (.pointer (some ⟨w.heap.size,0,none⟩)) (fun g' w' tk hb=>⟨_,hb,rfl⟩) (ii.zero.cells.toList.map fun v=>match Qle v with | .sl k r o=> .sl k r o | _=> .d (Qfq v)) ii.zero.cells.toList T (by simp) hok.zone (fun j x v h1 h2=>by
     rw[List.getElem?_map,h2]at h1;simp only[Option.map_some,Option.some.injEq]at h1;have hone:=hok.zone v (List.mem_of_getElem? h2);have ho:=Qhv g w w0.heap.size σ.toks v;subst h1;split
     ·rename_i k r o heq; rw[heq]at ho; exact ho
     ·exact Qig _ _ _ hone)
    simp only[Array.toArray_toList]at hcs;refine Qck hF (v:= .pointer (some ⟨w.heap.size,0,none⟩)) (w':=w.alloc (.cells ii.zero.cells T)) ?_ (hK _ _ _ hcs (fun j h1 h2=>?_) (fun _ h=> .inl h) fun j hj=>?_)
    ·simp only[execOp,Instr.alloc,Sem.run_bind,Qjf hok,Result.andThen_ok,newVar,newRow]; rfl
    ·show(if j=d then some w.heap.size else g.box j)=none;rw[if_neg (fun e=>(h2.resolve_left (fun h=>h _ rfl)) (by rw[e])),h1]
    ·show(if j=d then some w.heap.size else g.box j)≠none;split
     ·simp
     ·exact hj
  ·cases h
 case box T x=>
  split at h
  ·rename_i cs hcs;simp only[Option.some.injEq]at h; subst h;have hd:=hp.dst;have hg:=hp.get;obtain⟨hl,hone,hr⟩:=Qhz hcs (hE x);cases dst with
   | none=>cases hg
   | some d=>
    simp only[St.res,Option.some.injEq]at hg; subst hg;have hcs:=I.alloc (hd d rfl) (hbox _ rfl d rfl).1 (hbox _ rfl d rfl).2 (.loc d 0) (.pointer (some ⟨w.heap.size,0,none⟩)) (fun g' w' tk hb=>⟨_,hb,rfl⟩) cs (a.eval x).cells.toList T (Nat.le_of_eq hl.symm) hone hr;simp only[Array.toArray_toList]at hcs;refine Qck hF (v:= .pointer (some ⟨w.heap.size,0,none⟩)) (w':=w.alloc (.cells (a.eval x).cells T)) ?_ (hK _ _ _ hcs (fun j h1 h2=>?_) (fun _ h=> .inl h) fun j hj=>?_)
    ·rfl
    ·show(if j=d then some w.heap.size else g.box j)=none;rw[if_neg (fun e=>(h2.resolve_left (fun h=>h _ rfl)) (by rw[e])),h1]
    ·show(if j=d then some w.heap.size else g.box j)≠none;split
     ·simp
     ·exact hj
  ·cases h
 case makeSlice T l cc=>
  unfold Qwk at h;split at h
  ·rename_i ii n m hT hn hm;split at h
   ·rename_i e he;split at h
    ·rename_i j hj;split at h
     ·rename_i hcond;obtain⟨c0,c1,c2,c3,c4,c5⟩:=hcond;subst c2;simp only[Option.some.injEq]at h; subst h;have hok:=hΓ T ii hT;have hjok:=hΓ e j hj;have hd:=hp.dst;have hg:=hp.get;have hue:P.underlying T=some (.slice e):=by
       have hu:=hok.und;unfold TyI.elem at he;split at he
       ·rename_i e' hd'; simp only[Option.some.injEq]at he; subst he; rw[hu,hd']
       ·cases he
      cases dst with
      | none=>cases hg
      | some d=>
       simp only[St.res,Option.some.injEq]at hg; subst hg;obtain⟨kl,hvl⟩:=Qj0 hn (hE l);obtain⟨kc,hvc⟩:=Qj0 hm (hE cc);obtain⟨fi,hf1,hf2,hf3,hf4⟩:=hjok.inf;have hzc:j.zero.cells= #[j.zero]:=QBt hjok c0;have hrun:=run_make (P:=P) w T e fi j.zero hue hf1 hf4 kl kc n n c3 (Int.le_refl _) (by rw[hf3]; omega) (by omega)
       have hmc:(madeCells j.zero.cells (n.toNat*fi.size)).toList=List.replicate n.toNat j.zero:=by
        rw[hf2,c1,hzc]; exact QBf _ _
       have hcs:=I.alloc (hd d rfl) (hbox _ rfl d rfl).1 (hbox _ rfl d rfl).2 (.bs d 0 n.toNat 1) (.slice (some ⟨w.heap.size,0,none⟩) n.toNat n.toNat) (fun g' w' tk hb=>⟨_,_,hb,rfl,Nat.le_refl _⟩) (List.replicate n.toNat (match Qle j.zero with | .sl k r o=> .sl k r o | _=> .d (Qfq j.zero))) (List.replicate n.toNat j.zero) e (by simp) (fun v hv=>by rw[List.eq_of_mem_replicate hv]; exact hjok.zone1 c0) (fun q x v h1 h2=>by
        have e1:=List.eq_of_mem_replicate (List.mem_of_getElem? h1);have e2:=List.eq_of_mem_replicate (List.mem_of_getElem? h2);have hone:=hjok.zone1 c0;have ho:=Qhv g w w0.heap.size σ.toks j.zero;rw[e1,e2];split
        ·rename_i k r o heq; rw[heq]at ho; exact ho
        ·exact Qig _ _ _ hone)
       rw[←hmc]at hcs;simp only[Array.toArray_toList]at hcs;refine Qck hF (v:= .slice (some ⟨w.heap.size,0,none⟩) n.toNat n.toNat) (w':=w.alloc (.cells (madeCells j.zero.cells (n.toNat*fi.size)) e)) ?_ (hK _ _ _ hcs (fun j h1 h2=>?_) (fun _ h=> .inl h) fun j hj=>?_)
       ·simp only[execOp,hvl,hvc,Sem.run_bind,hrun,Result.andThen_ok]; rfl
       ·show(if j=d then some w.heap.size else g.box j)=none;rw[if_neg (fun e=>(h2.resolve_left (fun h=>h _ rfl)) (by rw[e])),h1]
       ·show(if j=d then some w.heap.size else g.box j)≠none;split
        ·simp
        ·exact hj
     ·split at h
      ·rename_i hcond;obtain⟨c0,c1,c2,c3,c4,c5⟩:=hcond;subst c2;simp only[Option.some.injEq]at h; subst h;have hok:=hΓ T ii hT;have hjok:=hΓ e j hj;have hd:=hp.dst;have hg:=hp.get;have hue:P.underlying T=some (.slice e):=by
        have hu:=hok.und;unfold TyI.elem at he;split at he
        ·rename_i e' hd'; simp only[Option.some.injEq]at he; subst he; rw[hu,hd']
        ·cases he
       cases dst with
       | none=>cases hg
       | some d=>
        simp only[St.res,Option.some.injEq]at hg; subst hg;obtain⟨kl,hvl⟩:=Qj0 hn (hE l);obtain⟨kc,hvc⟩:=Qj0 hm (hE cc);obtain⟨fi,hf1,hf2,hf3,hf4⟩:=hjok.inf;have hrun:=run_make (P:=P) w T e fi j.zero hue hf1 hf4 kl kc n n c3 (Int.le_refl _) (by rw[hf3]; omega) (by omega)
        have hmc:(madeCells j.zero.cells (n.toNat*fi.size)).toList=(List.range (n.toNat*j.size)).map fun q=>j.zero.cells[q % j.zero.cells.size]!:=by
         rw[hf2]; simp only[madeCells,Array.toList_map,Array.toList_range]
        have hmem:∀q,j.zero.cells[q % j.zero.cells.size]!∈j.zero.cells.toList:=fun q=>by
         have hq:q % j.zero.cells.size < j.zero.cells.size:=Nat.mod_lt _ (by rw[hjok.zsz]; omega)
         rw[getElem!_pos j.zero.cells _ hq];exact Array.mem_toList_iff.2 (Array.getElem_mem hq)
        have hcs:=I.alloc (hd d rfl) (hbox _ rfl d rfl).1 (hbox _ rfl d rfl).2 (.bs d 0 n.toNat j.size) (.slice (some ⟨w.heap.size,0,none⟩) n.toNat n.toNat) (fun g' w' tk hb=>⟨_,_,hb,rfl,Nat.le_refl _⟩) ((List.range (n.toNat*j.size)).map fun q=>(match Qle (j.zero.cells[q % j.zero.cells.size]!)with | .sl k r o=> .sl k r o | _=> .d (Qfq (j.zero.cells[q % j.zero.cells.size]!)))) ((List.range (n.toNat*j.size)).map fun q=>j.zero.cells[q % j.zero.cells.size]!) e (by simp) (fun v hv=>by obtain⟨q,_,rfl⟩:=List.mem_map.1 hv; exact hjok.zone _ (hmem q)) (fun q x v h1 h2=>by
         rw[List.getElem?_map]at h1 h2;cases hq:(List.range (n.toNat*j.size))[q]? with
         | none=>rw[hq]at h1; cases h1
         | some p=>
          rw[hq]at h1 h2;simp only[Option.map_some,Option.some.injEq]at h1 h2;have hone:=hjok.zone _ (hmem p);have ho:=Qhv g w w0.heap.size σ.toks (j.zero.cells[p % j.zero.cells.size]!);subst h1; subst h2;split
          ·rename_i k r o heq; rw[heq]at ho; exact ho
          ·exact Qig _ _ _ hone)
        rw[←hmc]at hcs;simp only[Array.toArray_toList]at hcs;refine Qck hF (v:= .slice (some ⟨w.heap.size,0,none⟩) n.toNat n.toNat) (w':=w.alloc (.cells (madeCells j.zero.cells (n.toNat*fi.size)) e)) ?_ (hK _ _ _ hcs (fun j h1 h2=>?_) (fun _ h=> .inl h) fun j hj=>?_)
        ·simp only[execOp,hvl,hvc,Sem.run_bind,hrun,Result.andThen_ok]; rfl
        ·show(if j=d then some w.heap.size else g.box j)=none;rw[if_neg (fun e=>(h2.resolve_left (fun h=>h _ rfl)) (by rw[e])),h1]
        ·show(if j=d then some w.heap.size else g.box j)≠none;split
         ·simp
         ·exact hj
      ·cases h
    ·cases h
   ·cases h
  ·cases h
 case build T parts=>
  obtain⟨z,hz,rfl⟩:=Qa6 h;obtain⟨v,h1,h2⟩:=QyG hΓ (parts:=parts.map fun p=>(p.1,a.eval p.2)) hz (by simpa using Qkf I parts.toList)
  exact Q6 hF I hp (v:=v) (by simp only[execOp,Sem.run_bind,h1,Result.andThen_ok]; rfl) h2 hK
 case load T x=>
  obtain⟨z,hz,rfl⟩:=Qa6 h;obtain⟨v,h1,h2⟩:=Qjr hΓ hz (hE x) I.boxes;exact Q6 hF I hp (v:=v) (by simp only[execOp,Sem.run_bind,h1,Result.andThen_ok]; rfl) h2 hK
 case typeAssert x xt T ok=>
  obtain⟨z,hz,rfl⟩:=Qa6 h;unfold Qqy at hz;split at hz
  ·rename_i ii t v hT hxv;split at hz
   ·rename_i k hdesc;split at hz
    ·rename_i e;subst e;simp only[Option.some.injEq]at hz; subst hz;have hx:=hE x;rw[hxv]at hx;simp only[RelX,Rel]at hx;have hund:=(hΓ t ii hT).und;rw[hdesc]at hund;refine Q6 hF I hp (v:=v) ?_ (by simp only[RelX,Rel]) hK
     simp[execOp,hx,Instr.typeAssert,run_underlying hund]
    ·cases hz
   ·cases hz
  ·cases hz
 case nilCheck x=>
  obtain⟨z,hz,rfl⟩:=Qa6 h;have hx:=hE x;unfold QN0 at hz;split at hz
  ·rename_i b off heq;simp only[Option.some.injEq]at hz; subst hz;rw[heq]at hx;obtain⟨blk,h1,h2⟩:=hx;exact Q6 hF I hp (v:=a.eval x) (by simp only[execOp,h2]; rfl) ⟨blk,h1,h2⟩ hK
  ·rename_i k rows n off heq;simp only[Option.some.injEq]at hz; subst hz;rw[heq]at hx;have hx':=hx;simp only[RelX,Rel]at hx';obtain⟨_,b,o,h2,_⟩:=hx';exact Q6 hF I hp (v:=a.eval x) (by simp only[execOp,h2]; rfl) hx hK
  ·rename_i b o k rows n off heq;simp only[Option.some.injEq]at hz; subst hz;rw[heq]at hx;have hx':=hx;simp only[RelX,Rel]at hx';obtain⟨_,h2,_⟩:=hx';exact Q6 hF I hp (v:=a.eval x) (by simp only[execOp,h2]; rfl) hx hK
  ·cases hz
 case binOp op T x y yT=>
  obtain⟨z,hz,rfl⟩:=Qa6 h;obtain⟨v,h1,h2⟩:=QHM hΓ hq x y hz (hE x) (hE y);exact Q6 hF I hp (v:=v) (by simp only[execOp,Sem.run_bind]at h1⊢; rw[h1,Result.andThen_ok]; rfl) h2 hK
 case unOp op T x=>
  obtain⟨z,hz,rfl⟩:=Qa6 h;obtain⟨v,h1,h2⟩:=QMr (P:=P) hz (hE x);exact Q6 hF I hp (v:=v) (by simp only[execOp,Sem.run_bind,h1,Result.andThen_ok]; rfl) h2 hK
 case convert s d x=>
  obtain⟨z,hz,rfl⟩:=Qa6 h;obtain⟨v,h1,h2⟩:=QCw hΓ hz (hE x);exact Q6 hF I hp (v:=v) (by simp only[execOp,Sem.run_bind,h1,Result.andThen_ok]; rfl) h2 hK
 case slice T x lo hi mx=>
  obtain⟨z,hz,rfl⟩:=Qa6 h;obtain⟨v,h1,h2⟩:=Qwz hΓ hz (hE x) (QLk I lo) (QLk I hi) (QLk I mx);exact Q6 hF I hp (v:=v) (by simp only[execOp,Sem.run_bind,h1,Result.andThen_ok]; rfl) h2 hK
 case fieldAddr T x f=>
  obtain⟨z,hz,rfl⟩:=Qa6 h;obtain⟨v,h1,h2⟩:=QnB hΓ hz (hE x);exact Q6 hF I hp (v:=v) (by simp only[execOp,Sem.run_bind,h1,Result.andThen_ok]; rfl) h2 hK
 case field T x f=>
  obtain⟨z,hz,rfl⟩:=Qa6 h;obtain⟨v,h1,h2⟩:=Qxm hΓ hz (hE x);exact Q6 hF I hp (v:=v) (by simp only[execOp,Sem.run_bind,h1,Result.andThen_ok]; rfl) h2 hK
 case indexAddr T x ix=>
  obtain⟨z,hz,rfl⟩:=Qa6 h;obtain⟨v,h1,h2⟩:=Qnh hΓ hz (hE x) (hE ix);exact Q6 hF I hp (v:=v) (by simp only[execOp,Sem.run_bind,h1,Result.andThen_ok]; rfl) h2 hK
 case index T x ix=>
  obtain⟨z,hz,rfl⟩:=Qa6 h;obtain⟨v,h1,h2⟩:=QyA hΓ hz (hE x) (hE ix);exact Q6 hF I hp (v:=v) (by simp only[execOp,Sem.run_bind,h1,Result.andThen_ok]; rfl) h2 hK
 case extract x n=>
  obtain⟨z,hz,rfl⟩:=Qa6 h;obtain⟨v,h1,h2⟩:=Qrv (P:=P) hz (hE x);exact Q6 hF I hp (v:=v) (by simp only[execOp,Sem.run_bind,h1,Result.andThen_ok]; rfl) h2 hK
 case store T x y=>
  split at h
  ·rename_i b off cs ii hx hcs hT;split at h
   ·rename_i old hold;split at h
    ·rename_i hc;obtain⟨c1,c2⟩:=hc;simp only[Option.some.injEq]at h; subst h;have hok:=hΓ T ii hT;have hd:=hp.dst;have hg:=hp.get;simp only[St.res,hold,Option.some.injEq]at hg; subst hg;have hxr:=hE x;rw[hx]at hxr;obtain⟨blk,hb,hv⟩:=hxr;obtain⟨hl,hone,hr⟩:=Qhz hcs (hE y);obtain⟨vs,ety,hh,hs,_⟩:=I.boxes b old hold blk hb;have I2:=I.store hb hold hh c2 (a.eval y).cells.toList hl hone hr;have hst:=run_storeCells_at P blk off ety (a.eval y).cells.toList 0 vs w hh (by have hs2:old.length≤vs.size:=hs; rw[hl]; omega) hone
     simp only[Nat.add_zero]at hst;refine QCY hF ?_ (hK _ _ _ (I2.put hd (x:= .d .top) (v:=undef) (by simp[RelX,Rel])) (fun _ h _=>h) (fun _ h=> .inl h) fun _ h=>h)
     have hsz:¬(a.eval y).cells.size≠ii.size:=by rw[←c1,←hl]; simp
     simp only[execOp,Instr.storeAt,Instr.sureAddr,hv,storeVar,Sem.run_bind,Sem.run_pure,Result.andThen_ok,Qbe hok,Sem.run_ite,if_neg hsz,hst]
    ·cases h
   ·cases h
  ·cases h
 case buildSlice T n parts=>
  split at h
  ·rename_i k rows hbs;simp only[Option.some.injEq]at h; subst h;unfold QgN at hbs;split at hbs
   ·cases hbs
   ·rename_i ii hT;have hu:=(hΓ T ii hT).und;split at hbs
    ·cases hbs
    ·rename_i e he;have hue:P.underlying T=some (.slice e):=by
      unfold TyI.elem at he;split at he
      ·rename_i e' hd; simp only[Option.some.injEq]at he; subst he; rw[hu,hd]
      ·cases he
     split at hbs
     ·cases hbs
     ·rename_i j hj;have hjok:=hΓ _ _ hj;split at hbs
      ·rename_i hc;obtain⟨c1,c2⟩:=hc;split at hbs
       ·rename_i cs hcs;simp only[Option.some.injEq,Prod.mk.injEq]at hbs;obtain⟨rfl,rfl⟩:=hbs;have hd:=hp.dst;have hg:=hp.get;simp only[St.res,Option.some.injEq]at hg; subst hg;have hzl:j.zeroD.length=j.size:=by simp[TyI.zeroD,hjok.zsz]
        have hz0:RelL g.imm w j.zeroD j.zero.cells.toList:=QgH _ _ _ hjok.zone;have hz1:RelL g.imm w (Qlz j.zeroD n) ((Array.range (n*j.size)).map (fun q=>j.zero.cells[q % j.zero.cells.size]!)).toList:=by
         refine RelL.of (by simp[Qlz,hzl]) fun q d u p1 p2=>?_
         simp only[Qlz,hzl,List.getElem?_map]at p1;simp only[Array.toList_map,Array.toList_range,List.getElem?_map]at p2;cases hq':(List.range (n*j.size))[q]? with
         | none=>rw[hq']at p1; cases p1
         | some q'=>
          rw[hq']at p1 p2;simp only[Option.map_some,Option.some.injEq]at p1 p2;have hlt:q' % j.size < j.zeroD.length:=by rw[hzl]; exact Nat.mod_lt _ c1
          obtain⟨v',v1,v2⟩:=hz0.get _ _ (List.getElem?_eq_getElem hlt);rw[List.getElem?_eq_getElem hlt]at p1;simp only[Option.getD_some]at p1;subst p1;rw[hjok.zsz]at p2;have:u=v':=by
           rw[←p2];have hlt2:q' % j.size < j.zero.cells.size:=by rw[hjok.zsz]; exact Nat.mod_lt _ c1
           rw[getElem!_pos j.zero.cells _ hlt2];simpa[hlt2]using v1
          rw[this]; exact v2
        have hz2:∀u∈((Array.range (n*j.size)).map (fun q=>j.zero.cells[q % j.zero.cells.size]!)).toList,u.oneCell'=true:=by
         intro u hu;simp only[Array.toList_map,Array.toList_range,List.mem_map,List.mem_range]at hu;obtain⟨q,_,rfl⟩:=hu;rw[hjok.zsz];have hlt2:q % j.size < j.zero.cells.size:=by rw[hjok.zsz]; exact Nat.mod_lt _ c1
         rw[getElem!_pos j.zero.cells _ hlt2];exact hjok.zone _ (by simp)
        obtain⟨cells',h1,h2,h3⟩:=Qjs (base:=w0.heap.size) (toks:=σ.toks) _ _ _ cs (parts.toList.map fun p=>(p.1,a.eval p.2)) _ hcs (Qkf I parts.toList) hz1 hz2;have hcl:cs.length=n*j.size:=by
         have key:∀(ps:List (Nat×X)) (ds ds':List D),QjG (fun n=>some (n*j.size,j.size)) ds ps=some ds'→ds'.length=ds.length:=by
          intro ps
          induction ps with
          | nil=>intro ds ds' h; simp only[QjG,Option.some.injEq]at h; rw[h]
          | cons p t ih=>
           intro ds ds' h;obtain⟨i',x'⟩:=p;simp only[QjG]at h;split at h
           ·split at h
            ·split at h
             ·rename_i hh;rw[ih _ _ h]; simp; omega
             ·cases h
            ·cases h
           ·cases h
         rw[key _ _ _ hcs]; simp[Qlz,hzl]
        have hn:n≤140737488355328:=by
         have:n*1≤n*j.size:=Nat.mul_le_mul_left _ c1;omega
        obtain⟨g',I',b1,b2,hrel⟩:=I.lay cells'.toList e cs j.size n hn hcl h3 h2;simp only[Array.toArray_toList]at I' hrel;refine Qck hF (v:= .slice (some ⟨w.heap.size,0,none⟩) n n) (w':=w.alloc (.cells cells' e)) ?_ (hK _ _ _ (I'.put hd hrel) (fun q h _=>by rw[b1]; exact h) (fun t h=> .inl (by rw[b2]at h; exact h)) fun q h=>by rw[b1]; exact h)
        have h48:¬n*j.size > 2 ^ 24:=by omega
        have hne:n*j.size=0→Array.range (n*j.size)= #[]:=fun h=>by rw[h]; rfl
        by_cases hn0:n*j.size=0
        ·have hcz:((Array.range (n*j.size)).map (fun q=>j.zero.cells[q % j.zero.cells.size]!))=(Array.range (n*j.size)).map (fun q=>(#[]:Array Value)[q % (#[]:Array Value).size]!):=by rw[hne hn0]; simp
         rw[hcz]at h1;simp only[execOp,Instr.buildSlice,Sem.run_bind,run_underlying hue,Result.andThen_ok,Qbe hjok,Sem.run_ite,if_neg h48,Sem.run_pure,hn0,if_true,Array.toList_map];rw[hn0]at h1;simp only[h1,newRow]; rfl
        ·simp only[execOp,Instr.buildSlice,Sem.run_bind,run_underlying hue,Result.andThen_ok,Qbe hjok,Sem.run_ite,if_neg h48,Sem.run_pure,if_neg hn0,Qjf hjok,Array.toList_map];simp only[h1,newRow]; rfl
       ·cases hbs
      ·cases hbs
  ·cases h
 case call c=>
  obtain⟨callee,args,argTypes⟩:=c;unfold Qog at h;simp only at h;split at h
  ·split at h
   ·rename_i x T ha hT;obtain⟨z,hz,rfl⟩:=Qa6 h;obtain⟨v,h1,h2⟩:=QHe hΓ (rT:=ty) hz (hE x);have e1:args= #[x]:=by rw[←Array.toArray_toList (xs:=args),ha]
    have e2:argTypes= #[T]:=by rw[←Array.toArray_toList (xs:=argTypes),hT]
    subst e1; subst e2;exact Q6 hF I hp (v:=v) (by simp[execOp,resolve,invoke,builtin,h1]) h2 hK
   ·cases h
  ·split at h
   ·rename_i s x T T' ha hT;have e1:args= #[s,x]:=by rw[←Array.toArray_toList (xs:=args),ha]
    have e2:argTypes= #[T,T']:=by rw[←Array.toArray_toList (xs:=argTypes),hT]
    subst e1; subst e2;split at h
    ·have hE':=hE;unfold QhR at h;split at h
     ·rename_i ti hTi;split at h
      ·rename_i e he;split at h
       ·rename_i j k0 k' rows' hj hs hx;split at h
        ·rename_i hcond;obtain⟨rfl,c1,rfl,c2,c3⟩:=hcond;simp only[Option.some.injEq]at h;subst h;have hd:=hp.dst;have hg:=hp.get;cases dst with
         | none=>cases hg
         | some d=>
          simp only[St.res,Option.some.injEq]at hg; subst hg;have rs:=hE s;rw[hs]at rs;obtain⟨v,w2,hrun,I3⟩:=Qlj hΓ (ty:=ty) hTi he hj c1 c2 c3 I rs (Qf3 hx (hE x)) (hd d rfl) (hbox _ rfl d rfl).1 (hbox _ rfl d rfl).2;refine Qck hF (v:=v) (w':=w2) (by simp[execOp,resolve,invoke,builtin,hrun]) (hK _ _ _ I3 (fun j h1 h2=>?_) (fun _ h=> .inl h) fun j hj=>?_)
          ·show(if j=d then some w.heap.size else g.box j)=none;rw[if_neg (fun e=>(h2.resolve_left (fun h=>h _ rfl)) (by rw[e])),h1]
          ·show(if j=d then some w.heap.size else g.box j)≠none;split
           ·simp
           ·exact hj
        ·cases h
       ·cases h
      ·cases h
     ·cases h
    obtain⟨t,k,rows,rfl⟩:∃t k rows,r= .app t k rows:=by
     unfold QgU at h
     (repeat' split at h)<;>first | (simp only[Option.some.injEq]at h; exact⟨_,_,_,h.symm⟩) | cases h
    obtain⟨v,g',w',h1,I',b1,b2,hrel⟩:=QuD hΓ (ty:=ty) h I (hE s) (hE x) hused;have hd:=hp.dst;have hg:=hp.get;cases dst with
    | none=>cases hg
    | some d=>
     simp only[St.res,Option.some.injEq]at hg; subst hg;exact Qck hF (v:=v) (w':=w') (by simp[execOp,resolve,invoke,builtin,h1]) (hK _ _ _ (I'.put hd hrel) (fun q h _=>by rw[b1]; exact h) b2 fun q h=>by rw[b1]; exact h)
   ·cases h
  ·split at h
   ·rename_i x y ha;obtain⟨z,hz,rfl⟩:=Qa6 h;obtain⟨v,h1,h2⟩:=Qme (P:=P) (rT:=ty) argTypes hz (hE x) (hE y);have e1:args= #[x,y]:=by rw[←Array.toArray_toList (xs:=args),ha]
    subst e1;simp only[Bool.false_eq_true,if_false]at h1;exact Q6 hF I hp (v:=v) (by simp[execOp,resolve,invoke,builtin,h1]) h2 hK
   ·cases h
  ·split at h
   ·rename_i x y ha;obtain⟨z,hz,rfl⟩:=Qa6 h;obtain⟨v,h1,h2⟩:=Qme (P:=P) (rT:=ty) argTypes hz (hE x) (hE y);have e1:args= #[x,y]:=by rw[←Array.toArray_toList (xs:=args),ha]
    subst e1;simp only[if_true]at h1;exact Q6 hF I hp (v:=v) (by simp[execOp,resolve,invoke,builtin,h1]) h2 hK
   ·cases h
  ·rename_i f;split at h
   ·rename_i gf first caps hf
    have hfr:=hE f;rw[hf]at hfr;simp only[RelX,Rel]at hfr;split at h
    ·rename_i hemp;simp only[Bool.and_eq_true,Array.isEmpty_iff]at hemp;obtain⟨rfl,rfl⟩:=hemp;split at h
     ·rename_i ds hds;split at h
      ·rename_i d hdel;obtain⟨hen,hpure,hfresh⟩:=hΔ gf ds d hdel;have hargs:(args.map a.eval)=(args.toList.map a.eval).toArray:=by rw[←Array.toList_map,Array.toArray_toList]
       have hrun:(execOp a.eval ⟨dst,.call ⟨.value f,args,argTypes⟩,ty,pos,after,guard⟩).run P w= .ok (.enter gf (args.map a.eval)) w:=by
        simp[execOp,resolve,hfr,Deferred.ofValue,invoke,hen]
       rw[hargs]at hrun;split at h
       ·rename_i hfre;obtain⟨k,rows,rfl,rfl⟩:=Qqu h;have hgf:QIi.contains gf=true:=by
         unfold QCb at hfre;split at hfre
         ·rename_i g';have hce:(Value.func (.func g') #[] #[])=Value.func (.func gf) #[] #[]:=hfr;cases hce; exact hfre
         ·cases hfre
        have hd:=hp.dst;have hg:=hp.get;cases dst with
        | none=>cases hg
        | some dd=>
         simp only[St.res,Option.some.injEq]at hg; subst hg;refine Qhl hF hrun (hfresh hgf k rows rfl g.imm w (args.toList.map a.eval) I.lt I.globIn (Qjd I _ hds)) ?_;rintro e w' ⟨v,m',rfl,hb,hm,hrel,hroom⟩;obtain⟨I',_⟩:=I.grow hb m' hm;refine⟨v,rfl,?_⟩;have hsz:=I.below.size;obtain⟨ad,cp,hv,hro⟩:=hroom;have hrel':=hrel;have key:∀blk:Option Nat,(∀b,blk=some b→(w0.heap.size≤b∨w0.writ b)∧b < w'.heap.size∧(∀i,g.box i≠some b)∧∀s,g.tok s=some b→(none:Option Nat)=some s)→(cp=rows.length∨∃b,blk=some b∧ad=some ⟨b,0,none⟩∧(∀x,rows.length*k≤x→¬(g.imm b x∨m' b x))∧∃(cs:Array Value) (ty:TypeId),w'.heap[b]?=some (.cells cs ty (0,0))∧cp*k≤cs.size)→next (a.put (some dd) v) w':=by
          intro blk hblk hro;obtain⟨I2,e2⟩:=I'.app (w':=w') (t:=none) (new:=QaN i) hused blk (fun b o=>g.imm b o∨m' b o) hblk (Qbk (Below.refl _ _)) (KeepN.of_below (Below.refl _ _)) (fun b o h=> .inl h) (fun _ _ _=>rfl) (fun _ _ _=>rfl) (fun _ _ h=>h) (fun _ _ h=> .inl h);refine hK _ _ _ (I2.put hd (x:= .sl k rows (.tok (QaN i))) ⟨hrel',.inr rfl,fun _=>?_⟩) (fun q h _=>h) (fun t h=>h) fun _ h=>h;refine⟨ad,cp,hv,hro.imp id ?_⟩;rintro⟨b,h1,h2,h3,cs,ty,h4,h5⟩;refine⟨b,0,by simp[h1],h2,fun x hx=>h3 x (by omega),cs,ty,h4,by omega⟩
         rcases hro with hro | ⟨b,h1,h2,h3,cs,ty,h4,h5⟩
         ·exact key none (fun b h=>by cases h) (.inl hro)
         ·refine key (some b) (fun b' h=>?_) (.inr ⟨b,rfl,h1,fun x hx=>?_,cs,ty,h4,h5⟩)
          ·cases h;refine⟨.inl (Nat.le_trans hsz h2),(Array.getElem?_eq_some_iff.1 h4).1,fun i hi=>?_,fun s hs=>?_⟩
           ·have:=(I.boxb i b hi).2.1; omega
           ·have:=(I.tokb s b hs).1; omega
          ·rintro(h | h)
           ·have:=I.lt _ _ h; omega
           ·exact h3 x hx h
       simp only[Option.some.injEq]at h; subst h;have hd:=hp.dst;have hg:=hp.get;simp only[St.res,Option.some.injEq]at hg; subst hg;refine Qhl hF hrun (hpure g.imm w (args.toList.map a.eval) I.lt I.globIn (Qjd I _ hds)) ?_;rintro e w' ⟨v,m',rfl,hb,hm,hrel⟩;obtain⟨I',_⟩:=I.grow hb m' hm;refine⟨v,rfl,?_⟩;exact hK _ _ _ (I'.put hd hrel) (fun q h _=>h) (fun t h=> .inl h) fun _ h=>h
      ·cases h
     ·exact QgT hΔ hF (fs:=[]) (cs:=[]) h hfr (by simp[RelL]) (by simp[RelL]) hp I hK
    ·cases h
   ·rename_i gf pre post hf;have hfr:=hE f;rw[hf]at hfr;simp only[RelX,Rel]at hfr;obtain⟨fs,cs,h1,h2,h3⟩:=hfr;exact QgT hΔ hF h h1 (RelL.ext ⟨fun _ _ h=> .inl h,fun _ _ _=>rfl⟩ _ _ h2) (RelL.ext ⟨fun _ _ h=> .inl h,fun _ _ _=>rfl⟩ _ _ h3) hp I hK
   ·rename_i gf pre caps hf;have hfr:=hE f;rw[hf]at hfr;simp only[RelX]at hfr;obtain⟨fs,cs,h1,h2,h3⟩:=hfr;split at h
    ·rename_i post hpost;exact QgT hΔ hF h h1 (RelL.ext ⟨fun _ _ h=> .inl h,fun _ _ _=>rfl⟩ _ _ h2) (QhY I.boxes hpost h3) hp I hK
    ·cases h
   ·cases h
  ·cases h
 case makeFunc fn first caps=>
  obtain⟨z,hz,rfl⟩:=Qa6 h;have hrel:=QA5 (base:=w0.heap.size) (toks:=σ.toks) (fs:=first.toList.map a.eval) (cs:=caps.toList.map a.eval) hz (by simp) (fun j x v h1 h2=>by
   rw[List.getElem?_map]at h1 h2;cases hj:first.toList[j]? with
   | none=>rw[hj]at h1; cases h1
   | some o=>rw[hj]at h1 h2; simp at h1 h2; subst h1; subst h2; exact QbD I o) (by simp) (fun j x v h1 h2=>by
   rw[List.getElem?_map]at h1 h2;cases hj:caps.toList[j]? with
   | none=>rw[hj]at h1; cases h1
   | some o=>rw[hj]at h1 h2; simp at h1 h2; subst h1; subst h2; exact QbD I o)
  refine Q6 hF I hp (v:= .func fn (first.toList.map a.eval).toArray (caps.toList.map a.eval).toArray) ?_ hrel hK
  have e1:(first.toList.map a.eval).toArray=first.map a.eval:=by rw[←Array.toList_map,Array.toArray_toList]
  have e2:(caps.toList.map a.eval).toArray=caps.map a.eval:=by rw[←Array.toList_map,Array.toArray_toList]
  rw[e1,e2];simp[execOp,Instr.makeFunc]
end
end Go.Proofs.YticoemblgkemiaaGreatDoor
