/-
  Regions that draw their order: what is ordered there. For any program. No program here.
-/
import Derived.Test.YticoemblgkemiaaGreatDoorZAmB
import Derived.OrdersIn
set_option linter.unusedSectionVars false
set_option linter.unusedSimpArgs false
set_option linter.unusedVariables false
namespace Go.Proofs.YticoemblgkemiaaGreatDoor
open Go.RowKit
def Qla (o:Oper) (listed:Array Bool):Prop:=∀e∈o.after.toList,Region.binds .any e=true→listed.getD e.on false=true
def Qn5 (ops:Array Oper) (listed:Array Bool):Prop:=∀i o,ops[i]?=some o→listed.getD i false=true→Qla o listed
theorem Qde (l:Array Bool) (i j:Nat) (d:Bool) (hi:i < l.size):(l.setIfInBounds i true).getD j d=if j=i then true else l.getD j d:=by
 simp only[Array.getD_eq_getD_getElem?,Array.getElem?_setIfInBounds];by_cases h:i=j
 ·subst h; simp[hi]
 ·simp[h,show ¬j=i from fun e=>h e.symm]
theorem QcW {l:Array Bool} {i:Nat} (hi:i < l.size):l.getD i true=l.getD i false:=by simp[Array.getD_eq_getD_getElem?,hi]
theorem Qbb {ops:Array Oper} {listed:Array Bool} {i:Nat} :i∈Region.ready .any ops listed↔∃o,ops[i]?=some o∧listed.getD i true=false∧Qla o listed:=by
 unfold Region.ready Qla;simp only[List.mem_filter,List.mem_range,Bool.and_eq_true,Bool.not_eq_true'];constructor
 ·rintro⟨h1,h2,h3⟩;refine⟨ops[i],by simp[h1],h2,?_⟩
  simp only[Array.getElem?_eq_getElem h1,Option.map_some,Option.getD_some,Array.all_eq_true]at h3;intro e he hb;obtain⟨k,hk,rfl⟩:=List.getElem_of_mem he;have:=h3 k (by simpa using hk)
  simp only[Array.getElem_toList]at hb⊢;simpa[hb]using this
 ·rintro⟨o,h1,h2,h3⟩;obtain⟨hi,rfl⟩:=Array.getElem?_eq_some_iff.1 h1;refine⟨hi,h2,?_⟩;simp only[h1,Option.map_some,Option.getD_some,Array.all_eq_true];intro k hk;have:=h3 (ops[i].after[k]) (by simp)
  by_cases hb:Region.binds .any (ops[i].after[k])=true
  ·simp[this hb]
  ·simp[hb]
theorem Qpi {F:Fence} {n:Nat} {P:Program} {ops:Array Oper} {Q:Exit→Act→World→Prop} (J:Array Bool→Act→World→Prop) (hdep:∀(i:Nat) (o:Oper),ops[i]?=some o→∀e∈o.after.toList,Region.binds .any e=true→e.on < i)
  (hstep:∀(listed:Array Bool) (i:Nat) (o:Oper) (a:Act) (w:World),listed.size=ops.size→Qn5 ops listed→ops[i]?=some o→listed.getD i true=false→Qla o listed→J listed a w→∀K:Act→World→Prop,(∀a' w',J (listed.setIfInBounds i true) a' w'→K a' w')→wpOpIn F n P ops Q i K a w)
  (hend:∀(listed:Array Bool) (a:Act) (w:World),listed.size=ops.size→(∀i,i < ops.size→listed.getD i true=true)→J listed a w→Q .normal a w):
  ∀(QbK:Nat) (listed:Array Bool) (a:Act) (w:World),listed.size=ops.size→Qn5 ops listed→listed.toList.count false≤QbK→J listed a w→wpAnyIn F n P .any ops Q QbK listed a w:=by
 have hall:∀listed:Array Bool,listed.size=ops.size→Region.ready .any ops listed=[]→∀i,i < ops.size→listed.getD i true=true:=by
  intro listed hs hr i
  induction i using Nat.strongRecOn with
  | ind i ihi=>
   intro hi;by_cases hli:listed.getD i true=true
   ·exact hli
   ·exfalso
    have hm:i∈Region.ready .any ops listed:=Qbb.2 ⟨ops[i],by simp[hi],by simpa using hli,fun e he hb=>by
     have h1:=hdep i ops[i] (by simp[hi]) e he hb
     have h2:=ihi e.on h1 (by omega)
     rw[←QcW (by omega)]; exact h2⟩
    rw[hr]at hm; cases hm
 intro QbK
 induction QbK with
 | zero=>
  intro listed a w hs hd hc hJ;have hnf:∀i,i < ops.size→listed.getD i true=true:=by
   intro i hi;by_cases hli:listed.getD i true=true
   ·exact hli
   ·exfalso
    have:listed[i]'(by omega)=false:=by simpa[Array.getD_eq_getD_getElem?,show i < listed.size by omega]using hli
    have hp:0 < listed.toList.count false:=List.count_pos_iff.2 (by rw[←this]; simp)
    omega
  refine⟨List.eq_nil_iff_forall_not_mem.2 fun j hj=>?_,hend listed a w hs hnf hJ⟩;obtain⟨o,h1,h2,_⟩:=Qbb.1 hj;rw[hnf j (Array.getElem?_eq_some_iff.1 h1).1]at h2; cases h2
 | succ QbK ih=>
  intro listed a w hs hd hc hJ;refine⟨fun hr=>hend listed a w hs (hall listed hs hr) hJ,fun i hi=>?_⟩;obtain⟨o,ho,hli,hdd⟩:=Qbb.1 hi;have his:i < listed.size:=by rw[hs]; exact(Array.getElem?_eq_some_iff.1 ho).1
  refine hstep listed i o a w hs hd ho hli hdd hJ _ fun a' w' hJ'=>ih _ a' w' (by simp[hs]) ?_ ?_ hJ'
  ·intro j o' hj hl e he hb;rw[Qde _ _ _ _ his]at hl⊢;by_cases h1:e.on=i
   ·rw[if_pos h1]
   ·rw[if_neg h1];by_cases h2:j=i
    ·subst h2;rw[ho]at hj; cases hj;exact hdd e he hb
    ·rw[if_neg h2]at hl;exact hd j o' hj hl e he hb
  ·have hf':listed.toList[i]'(by simpa using his)=false:=by simpa[Array.getD_eq_getD_getElem?,his]using hli
   have hp:0 < listed.toList.count false:=List.count_pos_iff.2 (by rw[←hf']; exact List.getElem_mem _)
   rw[Array.toList_setIfInBounds,List.count_set (by simpa using his)]
   simp[hf'];simp at hp;have:=Array.count_pos_iff.2 (show false∈listed from by simpa using hp)
   have hc':=hc;rw[Array.count_toList]at hc';omega
def Qqf (acc:List Nat):List Edge→Nat→Nat
 | [],s=>s
 | e::t,s=>Qqf acc t (if Region.binds .any e then s||| (2 ^ e.on||| acc.getD e.on 0)else s)
def Qik:List Nat→List Oper→List Nat
 | acc,[]=>acc
 | acc,o::t=>Qik (acc++[Qqf acc o.after.toList 0]) t
def QpG (ops:List Oper):List Nat:=Qik [] ops
def QdO:Nat→List Oper→Bool
 | _,[]=>true
 | i,o::t=>o.after.toList.all (fun e=>!Region.binds .any e||decide (e.on < i))&&QdO (i+1) t
theorem QpV (acc:List Nat) (i:Nat):∀(l:List Edge) (s:Nat),(Qqf acc l s).testBit i=true→s.testBit i=true∨∃e∈l,Region.binds .any e=true∧(e.on=i∨(acc.getD e.on 0).testBit i=true)
 | [],s,h=> .inl h
 | e::t,s,h=>by
  simp only[Qqf]at h;rcases QpV acc i t _ h with h1 | ⟨e',h1,h2⟩
  ·split at h1
   ·rename_i hb;simp only[Nat.testBit_or,Bool.or_eq_true]at h1;rcases h1 with h1 | h1 | h1
    ·exact .inl h1
    ·refine .inr ⟨e,by simp,hb,.inl ?_⟩
     rw[Nat.testBit_two_pow]at h1; simpa using h1
    ·exact .inr ⟨e,by simp,hb,.inr h1⟩
   ·exact .inl h1
  ·exact .inr ⟨e',by simp[h1],h2⟩
theorem Ql5:∀(l:List Oper) (acc:List Nat),(∀j,j < acc.length→(Qik acc l)[j]?=acc[j]?)∧∀j o,l[j]?=some o→∃acc',(Qik acc l)[acc.length+j]?=some (Qqf acc' o.after.toList 0)∧acc'.length=acc.length+j∧∀k,k < acc'.length→(Qik acc l)[k]?=acc'[k]?
 | [],acc=>⟨fun j _=>rfl,fun j o h=>by simp at h⟩
 | o::t,acc=>by
  simp only[Qik];obtain⟨h1,h2⟩:=Ql5 t (acc++[Qqf acc o.after.toList 0]);refine⟨fun j hj=>?_,fun j o' hj=>?_⟩
  ·rw[h1 j (by simp; omega),List.getElem?_append,if_pos hj]
  ·cases j with
   | zero=>
    simp at hj; subst hj;refine⟨acc,?_,rfl,fun k hk=>?_⟩
    ·rw[Nat.add_zero,h1 acc.length (by simp)]; simp
    ·rw[h1 k (by simp; omega),List.getElem?_append,if_pos hk]
   | succ j=>
    obtain⟨acc',q1,q2,q3⟩:=h2 j o' (by simpa using hj)
    refine⟨acc',?_,by simp at q2; omega,q3⟩
    rw[show acc.length+(j+1)=(acc++[Qqf acc o.after.toList 0]).length+j by simp; omega]; exact q1
theorem Qct:∀(l:List Oper) (i:Nat),QdO i l=true→∀j o,l[j]?=some o→∀e∈o.after.toList,Region.binds .any e=true→e.on < i+j
 | [],i,_,j,o,h=>by simp at h
 | o::t,i,hb,j,o',h=>by
  simp only[QdO,Bool.and_eq_true]at hb;cases j with
  | zero=>
   simp at h; subst h;intro e he hbe;have:=List.all_eq_true.1 hb.1 e he;simpa[hbe]using this
  | succ j=>
   have:=Qct t (i+1) hb.2 j o' (by simpa using h)
   intro e he hbe;have:=this e he hbe;omega
theorem Qfv {ops:Array Oper} (he:QdO 0 ops.toList=true) {listed:Array Bool} (hd:Qn5 ops listed):∀(j:Nat) (o:Oper),ops[j]?=some o→Qla o listed→∀i,((QpG ops.toList).getD j 0).testBit i=true→listed.getD i false=true:=by
 intro j
 induction j using Nat.strongRecOn with
 | ind j ih=>
  intro o ho hdd i hi;have ho':ops.toList[j]?=some o:=by simpa using ho
  obtain⟨acc',q1,q2,q3⟩:=(Ql5 ops.toList []).2 j o ho';simp only[List.length_nil,Nat.zero_add]at q1 q2;rw[List.getD_eq_getElem?_getD,QpG,q1,Option.getD_some]at hi;rcases QpV _ _ _ _ hi with h | ⟨e,h1,h2,h3⟩
  ·simp at h
  ·have hlt:=Qct ops.toList 0 he j o ho' e h1 h2;have hdone:=hdd e h1 h2;rcases h3 with h3 | h3
   ·rw[←h3]; exact hdone
   ·have hlt':e.on < j:=by omega
    have hjs:j < ops.size:=(Array.getElem?_eq_some_iff.1 ho).1;have hoe:ops[e.on]?=some ops[e.on]:=Array.getElem?_eq_getElem (by omega)
    refine ih e.on hlt' _ hoe (hd e.on _ hoe hdone) i ?_;rw[List.getD_eq_getElem?_getD,QpG,q3 e.on (by omega),←List.getD_eq_getElem?_getD]; exact h3
end Go.Proofs.YticoemblgkemiaaGreatDoor
namespace Go.Proofs.YticoemblgkemiaaGreatDoor
open Go.RowKit
section
variable {F:Fence} {n:Nat} {P:Program} {c:Cx} {m0:Nat→Nat→Prop} {w0:Base} {g:Gh} {σ σ':St} {a:Act} {w:World}
theorem QeZ {α:Type} {l:List (Nat×α)} {k:Nat} {x:α} (h:Qt l k=some x):(k,x)∈l:=by
 induction l with
 | nil=>cases h
 | cons p t ih=>
  obtain⟨k',y⟩:=p;simp only[Qt]at h;split at h
  ·rename_i e; simp only[Option.some.injEq]at h; subst h; subst e; simp
  ·exact List.mem_cons_of_mem _ (ih h)
theorem QbX:∀(l:List Nat),Qcz l=true→l.Nodup
 | [],_=>List.nodup_nil
 | x::t,h=>by
  simp only[Qcz,Bool.and_eq_true,Bool.not_eq_true',List.contains_eq_mem,decide_eq_false_iff_not]at h;exact List.nodup_cons.2 ⟨h.1,QbX t h.2⟩
def Q5 (al:List Nat) (g:Gh):Gh:= { g with box:=fun i=>if al.contains i then none else g.box i,used:=fun t=>g.used t∧t < 1000000}
theorem QeH {al:List Nat} :∀{caps:List (Sum Nat D)} {vs:List Value},QdV al caps=true→CapsR g w caps vs→CapsR (Q5 al g) w caps vs
 | [],_,_,h=>h
 | .inl b::t,vs,hp,h=>by
  simp only[QdV,Bool.and_eq_true,Bool.not_eq_true']at hp;simp only[CapsR]at h⊢;obtain⟨v,vt,h1,⟨blk,h2,h3⟩,h4⟩:=h;exact⟨v,vt,h1,⟨blk,by simp only[Q5]; rw[if_neg (by rw[hp.1]; simp)]; exact h2,h3⟩,QeH hp.2 h4⟩
 | .inr d::t,vs,hp,h=>by
  simp only[QdV]at hp;simp only[CapsR]at h⊢;obtain⟨v,vt,h1,h2,h4⟩:=h;exact⟨v,vt,h1,h2,QeH hp h4⟩
theorem Qke {al:List Nat} {base:Nat} {toks:List Nat} {x:X} {v:Value} (hp:x.plain al=true) (h:RelX g w base toks x v):RelX (Q5 al g) w base toks x v:=by
 cases x with
 | d y=>exact h
 | agz cs=>exact h
 | agb cs=>simp only[X.plain]at hp; cases hp
 | fx f a caps=>
  obtain⟨fs,cs,h1,h2,h3⟩:=h;exact⟨fs,cs,h1,h2,QeH (by simpa only[X.plain]using hp) h3⟩
 | loc b o=>
  obtain⟨blk,h1,h2⟩:=h;simp only[X.plain,Bool.not_eq_true']at hp;exact⟨blk,by simp only[Q5]; rw[if_neg (by rw[hp]; simp)]; exact h1,h2⟩
 | bs b o n k=>
  obtain⟨blk,c,h1,h2⟩:=h;simp only[X.plain,Bool.not_eq_true']at hp;exact⟨blk,c,by simp only[Q5]; rw[if_neg (by rw[hp]; simp)]; exact h1,h2⟩
 | mp b=>
  obtain⟨blk,h1,h2⟩:=h;simp only[X.plain,Bool.not_eq_true']at hp;exact⟨blk,by simp only[Q5]; rw[if_neg (by rw[hp]; simp)]; exact h1,h2⟩
 | sl k rows own=>
  cases own with
  | ex=>exact h
  | tok t=>
   simp only[X.plain,decide_eq_true_eq]at hp;exact⟨h.1,⟨h.2.1,hp⟩,h.2.2⟩
  | own t=>
   simp only[X.plain,decide_eq_true_eq]at hp;exact⟨h.1,⟨h.2.1,hp⟩,h.2.2⟩
theorem QAL {α:Type} {l:List (Nat×α)} {al:List Nat} (h:l.all (fun p=>!al.contains p.1)=true) {d:Nat} (hd:d∈al):Qt l d=none:=by
 cases hg:Qt l d with
 | none=>rfl
 | some x=>
  have:=List.all_eq_true.1 h _ (QeZ hg);simp only[Bool.not_eq_true',List.contains_eq_mem,decide_eq_false_iff_not]at this;exact absurd hd this
theorem Inv.start (I:Inv c.N m0 w0 g σ a w) {al:List Nat} (hal:∀d∈al,w0.out d=none) (h:Qav al σ=true) (hcl:∀i cs,Qt σ.boxes i=some cs→∀x∈cs,x.plain al=true):
  Inv c.N m0 w0 (Q5 al g) σ a w∧(∀d∈al,(Q5 al g).box d=none∧Qt σ.maps d=none)∧∀i,¬(Q5 al g).used (QaN i):=by
 simp only[Qav,Bool.and_eq_true]at h;obtain⟨⟨⟨⟨_,h0⟩,h1⟩,h2⟩,h3⟩:=h;have hb:∀i b,(Q5 al g).box i=some b→g.box i=some b:=by
  intro i b hi;simp only[Q5]at hi;split at hi
  ·cases hi
  ·exact hi
 refine⟨⟨I.below,I.size,I.defers,I.lt,I.old,I.new,fun t x hx=>?_,fun i b hi=>I.boxb i b (hb i b hi),fun i j b hi hj=>I.boxi i j b (hb i b hi) (hb j b hj),fun t b ht=>?_,I.toki,fun b cs hc blk hblk=>?_,fun i b hi=>?_,I.fz,fun i mc hi blk hblk=>I.maps i mc hi blk (hb i blk hblk),I.cells⟩,fun d hd=>⟨?_,QAL h3 hd⟩,fun i hi=>?_⟩
 ·exact Qke (List.all_eq_true.1 h1 _ (QeZ hx)) (I.tmps t x hx)
 ·obtain⟨k1,k2,k3⟩:=I.tokb t b ht;exact⟨k1,k2,fun i hi=>k3 i (hb i b hi)⟩
 ·obtain⟨vs,ty,k1,k2,k3⟩:=I.boxes b cs hc blk (hb b blk hblk);exact⟨vs,ty,k1,k2,fun j x v q1 q2=>⟨(k3 j x v q1 q2).1,Qke (hcl b cs hc x (List.mem_of_getElem? q1)) (k3 j x v q1 q2).2⟩⟩
 ·have h3:=I.out i b hi;simp only[Q5];rw[if_neg]
  ·exact h3
  ·intro hc;rw[hal i (by simpa using hc)]at hi; cases hi
 ·simp only[Q5]; rw[if_pos (by simpa using hd)]
 ·have:=hi.2;unfold QaN at this; omega
theorem Inv.close (I:Inv c.N m0 w0 g σ a w) (id:Nat):∃g',Inv c.N m0 w0 g' (c.close id σ) a w:=by
 have C0:Cl g σ.toks { g with tok:=fun _=>none,used:=fun _=>False} σ.toks []:=⟨rfl,rfl,(fun s h=>h.elim),(fun s b h=>by cases h),(fun s t b h=>by cases h),(fun t h=>h)⟩
 obtain⟨g1,C1,T1,h1⟩:=QfP (w:=w) (base:=w0.heap.size) I.toki (toks:=σ.toks) (tmps:=σ.tmps) (f:=fun t=>a.tmps.getD t undef) I.tmps (c.kp id) _ _ _ C0;obtain⟨g2,C2,T2,h2⟩:=Qgk (w:=w) (base:=w0.heap.size) I.toki c.kb I.boxes (Qf5 σ.boxes (Qd8 (Qe8 σ.tmps (c.kp id) σ.toks []).1)++QoE c.kb) g1 _ _ C1;refine⟨g2,⟨I.below,I.size,I.defers,by rw[C2.imm]; exact I.lt,by rw[C2.imm]; exact I.old,by rw[C2.imm]; exact I.new,fun t x hx=>RelX.tr T2 (h1 t x hx),by rw[C2.box,C2.imm]; exact I.boxb,by rw[C2.box]; exact I.boxi,fun t b hb=>?_,C2.inj,h2,by rw[C2.box]; exact I.out,I.fz,fun i mc hi blk hblk=>I.maps i mc (QyS hi) blk (by rw[C2.box]at hblk; exact hblk),I.cells⟩⟩
 obtain⟨_,t',k1,_⟩:=C2.tok t b hb;rw[C2.box]; exact I.tokb t' b k1
theorem QbF (I:Inv c.N m0 w0 g σ a w) (ops:Array Oper) (o:Oper) {b:Bool} (h:Qa5 ops.toList σ o=some b):Region.wanted o (yielded ops a.tmps)=b:=by
 unfold Qa5 at h;unfold Region.wanted;cases hg:o.guard with
 | none=>rw[hg]at h; simpa using h
 | some p=>
  obtain⟨j,want⟩:=p;rw[hg]at h;simp only at h⊢;have e:ops.toList[j]?=ops[j]?:=by simp
  rw[e]at h;unfold yielded;cases hj:(ops[j]?).bind (·.dst)with
  | none=>rw[hj]at h; cases h
  | some t=>
   rw[hj]at h;simp only[Option.bind_some]at h⊢;split at h
   ·rename_i bb hx;have hr:=I.tmps t _ hx;simp only[RelX,Rel]at hr;have hv:a.tmps[t]?=some (.bool bb):=by
     rw[Array.getD_eq_getD_getElem?]at hr;cases hh:a.tmps[t]? with
     | none=>rw[hh]at hr; simp[undef]at hr
     | some v=>rw[hh]at hr; simp at hr; rw[hr]
    rw[hv];simp only[Option.some.injEq]at h; subst h;cases bb<;>cases want<;>rfl
   ·rename_i vs hx;have hr:=I.tmps t _ hx;simp only[RelX,Rel]at hr;simp only[Option.some.injEq]at h; subst h;rw[Array.getD_eq_getD_getElem?]at hr;cases hh:a.tmps[t]? with
    | none=>cases want<;>rfl
    | some v=>rw[hh]at hr; simp at hr; subst hr; cases want<;>rfl
   ·cases h
theorem Qad (o:Oper) (t:List Oper):QR (o::t)=(match Qai o with | some d=>[d] | none=>[])++QR t:=by
 simp only[QR]; cases Qai o<;>rfl
theorem Qcl {Γ:Tys} {eqs:List (TypeId×Nat)} {Δ:Nat→List D→Option D} {o:Oper} {ev:Operand→X} {boxes:List (Nat×List X)} {toks:List Nat} {cs:NewC} (h:aop Γ eqs Δ o.op ev boxes toks=some (.new cs)):Qai o=o.dst:=by
 obtain⟨dst,op,ty,pos,after,guard⟩:=o;have key:∀x:Option X,Res.ofX x≠some (.new cs):=fun x h=>by cases x<;>simp[Res.ofX]at h
 cases op<;>simp only[aop]at h<;>first
  | rfl
  | (cases h; done)
  | exact absurd h (key _)
  | (simp at h; done)
  | skip
 case store T x y=>
  (repeat' split at h)<;>first | cases h | simp at h
 case buildSlice T n p=>
  (repeat' split at h)<;>first | cases h | simp at h
 case call cc=>
  obtain⟨callee,args,argTypes⟩:=cc;unfold Qog at h;simp only at h;split at h
  ·(repeat' split at h)<;>first | (cases h; done) | exact absurd h (key _)
  ·split at h
   ·split at h
    ·rename_i hab;simp only[Qai,hab,if_true]
    ·unfold QgU at h
     (repeat' split at h)<;>first | (cases h; done) | (simp at h; done)
   ·cases h
  ·(repeat' split at h)<;>first | (cases h; done) | exact absurd h (key _)
  ·(repeat' split at h)<;>first | (cases h; done) | exact absurd h (key _)
  ·(repeat' split at h)<;>first | (cases h; done) | (simp at h; done) | (obtain⟨k,rows,_,hd⟩:=Qqu h; cases hd) | (obtain⟨d,hd⟩:=QpN h; cases hd)
  ·cases h
theorem Qsj {N i:Nat} {σ σ':St} {d:Option Nat} {r:Res} (h:σ.put N i d r=some σ'):σ'.maps=σ.maps:=by
 unfold St.put at h;split at h
 ·unfold St.res at h
  (repeat' split at h)<;>first | (cases h; done) | (simp only[Option.some.injEq]at h; subst h; rfl)
 ·cases h
theorem Qbt (hF:FreeF F) (hc:CxOk P c) (ops:Array Oper) {Q:Exit→Act→World→Prop} :∀(rest:List Oper) (i:Nat) (σ σ':St) (g:Gh) (a:Act) (w:World),c.opsE ops.toList i rest σ=some σ'→Inv c.N m0 w0 g σ a w→(QR rest).Nodup→(∀d∈QR rest,g.box d=none∧Qt σ.maps d=none)→(∀j,i≤j→¬g.used (QaN j))→
  (∀g' a' w',Inv c.N m0 w0 g' σ' a' w'→Q .normal a' w')→wpListIn F n P ops Q rest a w
 | [],i,σ,σ',g,a,w,h,I,_,_,_,hQ=>by
  simp only[Cx.opsE,Option.some.injEq]at h; subst h;exact hQ g a w I
 | o::t,i,σ,σ',g,a,w,h,I,hnd,hal,hus,hQ=>by
  simp only[Cx.opsE]at h;split at h
  ·rename_i σ1 hs0;have hndt:(QR t).Nodup:=by
    rw[Qad]at hnd;exact(List.nodup_append.1 hnd).2.1
   have halt:∀d∈QR t,d∈QR (o::t):=fun d hd=>by rw[Qad]; simp[hd]
   unfold Cx.stepE at hs0;split at hs0
   ·rename_i σ2 hs;simp only[Option.some.injEq]at hs0; subst hs0;have h1:c.ops ops.toList i [o] σ=some σ2:=by simp only[Cx.ops,hs]
    unfold Cx.step at hs;split at hs
    ·rename_i hw;have hw':=QbF I ops o hw;unfold wpListIn;rw[if_pos hw'];split at hs
     ·rename_i r hr;refine Qe0 hc.ty hc.eq hc.del hF hr hs I (fun cs e d hd=>?_) (hus i (Nat.le_refl _)) fun g' a' w' I' hb hu _=>?_
      ·subst e;refine hal d ?_;rw[Qad,Qcl hr,hd]; simp
      ·refine Qbt hF hc ops t (i+1) σ2 σ' g' a' w' h I' hndt (fun d hd=>⟨hb d (hal d (halt d hd)).1 ?_,by rw[Qsj hs]; exact(hal d (halt d hd)).2⟩) (fun j hj hu'=>?_) hQ
       ·by_cases hnew:∃cs,r= .new cs
        ·right;intro e;obtain⟨cs,hcs⟩:=hnew;subst hcs;rw[Qad,Qcl hr,e]at hnd;simp only[List.cons_append,List.nil_append,List.nodup_cons]at hnd;exact hnd.1 hd
        ·left; intro cs e; exact hnew ⟨cs,e⟩
       ·rcases hu _ hu' with h1 | h1
        ·exact hus j (by omega) h1
        ·unfold QaN at h1; omega
     ·cases hs
    ·rename_i hw;have hw':=QbF I ops o hw;unfold wpListIn;rw[if_neg (by rw[hw']; simp)]
     refine⟨fun f _=>hF.fn f,?_⟩;have hp:PutOk c.N i σ o.dst .skip σ2:=hs;have hd:=hp.dst;have hg:=hp.get;simp only[St.res,Option.some.injEq]at hg; subst hg;exact Qbt hF hc ops t (i+1) _ σ' g _ w h (I.put hd (x:= .d (.v (.tuple #[]))) (v:=undef) (by simp only[RelX,Rel]; rfl)) hndt (fun d hd=>hal d (halt d hd)) (fun j hj=>hus j (by omega)) hQ
    ·cases hs
   ·split at hs0
    ·rename_i hw;have hw':=QbF I ops o hw;unfold wpListIn;rw[if_pos hw'];refine Qjw hF hc hs0 I (fun d hd=>hal d (by rw[Qad,hd]; simp)) (hus i (Nat.le_refl _)) fun g' a' w' I' hb hu=>?_
     refine Qbt hF hc ops t (i+1) σ1 σ' g' a' w' h I' hndt (fun d hd=>hb d (hal d (halt d hd)) fun e=>?_) (fun j hj hu'=>?_) hQ
     ·rw[Qad,e]at hnd;simp only[List.cons_append,List.nil_append,List.nodup_cons]at hnd;exact hnd.1 hd
     ·rcases hu _ hu' with h1 | h1
      ·exact hus j (by omega) h1
      ·unfold QaN at h1; omega
    ·cases hs0
  ·cases h
theorem QaJ {al:List Nat} (h:Qav al σ=true):Qcz al=true∧∀i cs,Qt σ.boxes i=some cs→∀x∈cs,x.plain al=true:=by
 simp only[Qav,Bool.and_eq_true]at h;obtain⟨⟨⟨⟨hnd,_⟩,_⟩,hbx⟩,_⟩:=h;refine⟨hnd,fun i cs hi x hx=>?_⟩;have h:=List.all_eq_true.1 hbx _ (QeZ hi);simp only[Bool.and_eq_true]at h;exact List.all_eq_true.1 h.2 x hx
theorem Qo1 (hF:FreeF F) (hc:CxOk P c) {id:Nat} {ops:Array Oper} (h:c.regionE id ops.toList σ=some σ') (hal:∀d∈QR ops.toList,w0.out d=none) (I:Inv c.N m0 w0 g σ a w) {Q:Exit→Act→World→Prop} (hQ:∀g' a' w',Inv c.N m0 w0 g' σ' a' w'→Q .normal a' w'):(Code.region id ops false).wpIn F n P Q a w:=by
 unfold Cx.regionE at h;split at h
 ·rename_i hst;split at h
  ·rename_i σ1 hops;simp only[Option.some.injEq]at h; subst h;obtain⟨hnd,hpl⟩:=QaJ hst;obtain⟨I1,hal1,hus⟩:=I.start hal hst hpl;refine wpIn_region_list (Qbt hF hc ops ops.toList 0 σ σ1 _ a w hops I1 (QbX _ hnd) hal1 (fun j _=>hus j) fun g' a' w' I'=>?_);obtain⟨g2,I2⟩:=I'.close id;exact hQ g2 a' w' I2
  ·cases h
 ·cases h
end
end Go.Proofs.YticoemblgkemiaaGreatDoor
namespace Go.Proofs.YticoemblgkemiaaGreatDoor
open Go.RowKit
structure En where
 i:Nat
 d:Option Nat
 r:Res
def En.x (e:En):X:=
 match e.r with
 | .q x=>x
 | .skip=> .d (.v (.tuple #[]))
 | .got d=> .d d
 | .new cs=>cs.x (e.d.getD 0)
 | .lay k rows=> .sl k rows .ex
 | .set _ _ _=> .d .top
 | .app _ k rows=> .sl k rows (.tok (QaN e.i))
def En.tm (u:Nat) (e:En) (s:Option X):Option X:=if e.d=some u then some e.x else s
def En.bx (b:Nat) (e:En) (s:Option (List X)):Option (List X):=
 match e.r with
 | .new cs=>if e.d=some b then some cs.cells else s
 | .set b' off cs=>if b'=b then s.map (fun old=>QCj old off cs)else s
 | _=>s
def En.tk (e:En) (s:List Nat):List Nat:=match e.r with | .app t _ _=>Qb5 s t (QaN e.i) | _=>s
def En.boxes (e:En) (l:List (Nat×List X)):List (Nat×List X):=
 match e.r with
 | .new cs=>match e.d with | some d=>(d,cs.cells)::l | none=>l
 | .set b off cs=>match Qt l b with | some old=>(b,QCj old off cs)::l | none=>l
 | _=>l
def En.ap (e:En) (σ:St):St:= { tmps:=Qlm σ.tmps e.d e.x,boxes:=e.boxes σ.boxes,toks:=e.tk σ.toks,maps:=σ.maps}
theorem QoN {σ σ':St} {i:Nat} {d:Option Nat} {r:Res} (h:σ.res i d r=some σ'):σ'=(⟨i,d,r⟩:En).ap σ:=by
 cases r with
 | q x=>simp only[St.res,Option.some.injEq]at h; rw[←h]; rfl
 | skip=>simp only[St.res,Option.some.injEq]at h; rw[←h]; rfl
 | got x=>simp only[St.res,Option.some.injEq]at h; rw[←h]; rfl
 | lay k rows=>simp only[St.res,Option.some.injEq]at h; rw[←h]; rfl
 | new cs=>cases d with
  | none=>cases h
  | some d=>simp only[St.res,Option.some.injEq]at h; rw[←h]; rfl
 | set b off cs=>
  simp only[St.res]at h;cases hb:Qt σ.boxes b with
  | none=>rw[hb]at h; cases h
  | some old=>
   rw[hb]at h; simp only[Option.some.injEq]at h; rw[←h];simp[En.ap,En.boxes,En.x,En.tk,hb]
 | app t k rows=>cases d with
  | none=>cases h
  | some d=>simp only[St.res,Option.some.injEq]at h; rw[←h]; rfl
theorem QJf (e:En) (σ:St) (u:Nat):Qt (e.ap σ).tmps u=e.tm u (Qt σ.tmps u):=by
 simp only[En.ap,En.tm,Qlm];cases h:e.d with
 | none=>simp
 | some d=>
  simp only[Qt];by_cases hu:u=d
  ·subst hu; simp
  ·rw[if_neg hu,if_neg (by simpa using fun e=>hu e.symm)]
theorem QKd (e:En) (σ:St) (b:Nat):Qt (e.ap σ).boxes b=e.bx b (Qt σ.boxes b):=by
 simp only[En.ap,En.boxes,En.bx];cases e.r with
 | new cs=>
  cases h:e.d with
  | none=>simp
  | some d=>
   simp only[Qt];by_cases hu:b=d
   ·subst hu; simp
   ·rw[if_neg hu,if_neg (by simpa using fun e=>hu e.symm)]
 | set b' off cs=>
  simp only;cases hb:Qt σ.boxes b' with
  | none=>
   by_cases hbb:b'=b
   ·subst hbb; rw[if_pos rfl,hb]; rfl
   ·rw[if_neg hbb]
  | some old=>
   simp only[Qt];by_cases hbb:b'=b
   ·subst hbb; rw[if_pos rfl,if_pos rfl,hb]; rfl
   ·rw[if_neg hbb,if_neg (fun e=>hbb e.symm)]
 | _=>rfl
def Qbu (X:Nat→Bool):List En→St→St
 | [],σ=>σ
 | e::t,σ=>Qbu X t (if X e.i then e.ap σ else σ)
def comp {S:Type} (X:Nat→Bool) (F:En→S→S):List En→S→S
 | [],s=>s
 | e::t,s=>comp X F t (if X e.i then F e s else s)
theorem Qd1 (X:Nat→Bool) (u:Nat):∀(l:List En) (σ:St),Qt (Qbu X l σ).tmps u=comp X (En.tm u) l (Qt σ.tmps u)
 | [],σ=>rfl
 | e::t,σ=>by
  simp only[Qbu,comp];rw[Qd1 X u t];congr 1;split
  ·exact QJf e σ u
  ·rfl
theorem Qgj (X:Nat→Bool) (b:Nat):∀(l:List En) (σ:St),Qt (Qbu X l σ).boxes b=comp X (En.bx b) l (Qt σ.boxes b)
 | [],σ=>rfl
 | e::t,σ=>by
  simp only[Qbu,comp];rw[Qgj X b t];congr 1;split
  ·exact QKd e σ b
  ·rfl
theorem QhW (X:Nat→Bool):∀(l:List En) (σ:St),(Qbu X l σ).toks=comp X En.tk l σ.toks
 | [],σ=>rfl
 | e::t,σ=>by
  simp only[Qbu,comp];rw[QhW X t];congr 1;split<;>rfl
theorem Qb0 {S:Type} {X Y:Nat→Bool} {F:En→S→S} :∀(l:List En) (s:S),(∀e∈l,X e.i=Y e.i∨∀s,F e s=s)→comp X F l s=comp Y F l s
 | [],s,_=>rfl
 | e::t,s,h=>by
  simp only[comp];rw[Qb0 t _ fun e' he=>h e' (by simp[he])]
  congr 1;rcases h e (by simp)with h1 | h1
  ·rw[h1]
  ·rw[h1]; simp
theorem Qfz {S:Type} {X:Nat→Bool} {F:En→S→S} :∀(l:List En) (s:S),(∀e∈l,X e.i=false∨∀s,F e s=s)→comp X F l s=s
 | [],s,_=>rfl
 | e::t,s,h=>by
  simp only[comp];rw[Qfz t _ fun e' he=>h e' (by simp[he])]
  rcases h e (by simp)with h1 | h1
  ·rw[h1]; simp
  ·rw[h1]; simp
theorem QeL {S:Type} (X:Nat→Bool) (F:En→S→S):∀(l k:List En) (s:S),comp X F (l++k) s=comp X F k (comp X F l s)
 | [],k,s=>rfl
 | e::t,k,s=>by simp only[List.cons_append,comp]; exact QeL X F t k _
theorem QgS {S:Type} {X Y:Nat→Bool} {F:En→S→S} (A B:List En) (e:En) (s:S) (hX:X e.i=false) (hY:Y e.i=true) (hA:∀e'∈A++B,Y e'.i=X e'.i) (hB:∀e'∈B,X e'.i=false∨∀s,F e' s=s):
  comp Y F (A++e::B) s=F e (comp X F (A++e::B) s):=by
 rw[QeL,QeL];simp only[comp,hX,hY,if_true,Bool.false_eq_true,if_false];rw[Qb0 (X:=Y) (Y:=X) A s fun e' he=> .inl (hA e' (by simp[he]))]
 rw[Qfz B _ hB];rw[Qfz B _ fun e' he=>(hB e' he).imp (fun h=>by rw[hA e' (by simp[he])]; exact h) id]
def QF5 (c:Cx) (ops:List Oper) (o:Oper) (σ:St) (r:Res):Prop:=
 (Qa5 ops σ o=some true∧aop c.Γ c.eqs c.Δ o.op σ.ev σ.boxes σ.toks=some r)∨(Qa5 ops σ o=some false∧r= .skip)
theorem QkR (c:Cx) (ops:List Oper):∀(rest:List Oper) (i:Nat) (σ σF:St),c.ops ops i rest σ=some σF→
  ∃L:List En,L.length=rest.length∧σF=Qbu (fun _=>true) L σ∧∀j o,rest[j]?=some o→∃r,L[j]?=some ⟨i+j,o.dst,r⟩∧Qh0 c.N o.dst=true∧QF5 c ops o (Qbu (fun k=>decide (k < i+j)) L σ) r∧
   ((Qbu (fun k=>decide (k < i+j)) L σ).res (i+j) o.dst r).isSome=true
 | [],i,σ,σF,h=>by
  simp only[Cx.ops,Option.some.injEq]at h;exact⟨[],rfl,h.symm,fun j o h=>by simp at h⟩
 | o::t,i,σ,σF,h=>by
  simp only[Cx.ops]at h;split at h
  ·rename_i σ1 hs;obtain⟨r,hr,hp⟩:∃r,QF5 c ops o σ r∧σ.put c.N i o.dst r=some σ1:=by
    unfold Cx.step at hs;split at hs
    ·rename_i hw;split at hs
     ·rename_i r hr; exact⟨r,.inl ⟨hw,hr⟩,hs⟩
     ·cases hs
    ·rename_i hw; exact⟨.skip,.inr ⟨hw,rfl⟩,hs⟩
    ·cases hs
   unfold St.put at hp;split at hp
   ·rename_i hdb;obtain⟨L,l1,l2,l3⟩:=QkR c ops t (i+1) σ1 σF h;have hap:=QoN hp;have hlow:∀(L':List En) (σ:St),(∀e∈L',i≤e.i)→Qbu (fun k=>decide (k < i)) L' σ=σ:=by
     intro L'
     induction L' with
     | nil=>intro σ _; rfl
     | cons e t ih=>
      intro σ he;simp only[Qbu];have:=he e (by simp)
      rw[if_neg (by simp; omega)]
      exact ih σ fun e' h'=>he e' (by simp[h'])
    have hidx:∀e∈L,i+1≤e.i:=by
     intro e he;obtain⟨j,hj,rfl⟩:=List.getElem_of_mem he;have hjt:j < t.length:=by omega
     obtain⟨r',h1,_⟩:=l3 j t[j] (List.getElem?_eq_getElem hjt);rw[List.getElem?_eq_getElem hj]at h1;simp only[Option.some.injEq]at h1;rw[h1]; show i+1≤i+1+j; omega
    refine⟨⟨i,o.dst,r⟩::L,by simp[l1],by simp only[Qbu,if_true]; rw[←hap]; exact l2,fun j o' hj=>?_⟩
    cases j with
    | zero=>
     simp at hj; subst hj;have hf:Qbu (fun k=>decide (k < i+0)) (⟨i,o.dst,r⟩::L) σ=σ:=by
      rw[Nat.add_zero];exact hlow _ σ fun e he=>by
       rcases List.mem_cons.1 he with rfl | he
       ·exact Nat.le_refl _
       ·have:=hidx e he; omega
     refine⟨r,rfl,hdb,by rw[hf]; exact hr,by rw[hf,Nat.add_zero,hp]; rfl⟩
    | succ j=>
     obtain⟨r',h1,h2,h3,h4⟩:=l3 j o' (by simpa using hj)
     have hf:Qbu (fun k=>decide (k < i+(j+1))) (⟨i,o.dst,r⟩::L) σ=Qbu (fun k=>decide (k < i+1+j)) L σ1:=by
      simp only[Qbu];rw[if_pos (by simp),←hap,show i+(j+1)=i+1+j by omega]
     rw[hf,show i+(j+1)=i+1+j by omega]
     exact⟨r',by simpa using h1,h2,h3,h4⟩
   ·cases hp
  ·cases h
def Qe4 (o:Oper):List Nat:=o.op.operands.toList.filterMap fun | .tmp t=>some t | _=>none
def Qte (ops:List Oper) (o:Oper):List Nat:=match o.guard with | some (j,_)=>((ops[j]?).bind (·.dst)).toList | none=>[]
def QgR (ops:List Oper) (o:Oper):List Nat:=Qe4 o++Qte ops o++o.dst.toList
def Qkl:Op→Bool
 | .call cc=>(match cc.callee with | .builtin .append=>true | .value f=>QCb f | _=>false)
 | _=>false
def isW (op:Op):Bool:=match op with | .store _ _ _=>true | _=>false
def isVC (c:Call):Bool:=match c.callee with | .value _=>true | _=>false
def QvR (op:Op):Bool:=match op with | .load _ _=>true | .call c=>isVC c | op=>isW op
theorem QyH {op:Op} (h:isW op=true):QvR op=true:=by cases op<;>first | (cases h; done) | rfl
def Qhm (u:Nat):List Oper→Bool
 | []=>false
 | o::t=>if Qai o=some u then !(QhL t).contains u&&!(Qe4 o).contains u else !(Qe4 o).contains u&&!(o.dst==some u)&&Qhm u t
theorem Qsa {ops:List Oper} {i u:Nat} {o:Oper} (h:ops[i]?=some o) (hd:o.dst=some u):u∈QhL ops:=List.mem_filterMap.2 ⟨o,List.mem_of_getElem? h,hd⟩
theorem QiS {o:Oper} {u:Nat} (h:Qai o=some u):o.dst=some u:=by
 unfold Qai at h;split at h<;>first | exact h | (cases h; done) | (split at h<;>first | exact h | (cases h; done))
theorem QsQ {u:Nat} :∀{ops:List Oper},Qhm u ops=true→∃(a:Nat) (o:Oper),ops[a]?=some o∧Qai o=some u∧(∀(i:Nat) (o':Oper),ops[i]?=some o'→o'.dst=some u→i=a)∧∀(i:Nat) (o':Oper),ops[i]?=some o'→u∈Qe4 o'→a < i
 | [],h=>by cases h
 | o::t,h=>by
  unfold Qhm at h;by_cases ha:Qai o=some u
  ·rw[if_pos ha]at h;simp only[Bool.and_eq_true,Bool.not_eq_true',List.contains_eq_mem,decide_eq_false_iff_not]at h;refine⟨0,o,rfl,ha,fun i o' hi hd=>?_,fun i o' hi hu=>?_⟩
   ·cases i with
    | zero=>rfl
    | succ i=>exact absurd (Qsa (by simpa using hi) hd) h.1
   ·cases i with
    | zero=>simp at hi; subst hi; exact absurd hu h.2
    | succ i=>omega
  ·rw[if_neg ha]at h;simp only[Bool.and_eq_true,Bool.not_eq_true',List.contains_eq_mem,decide_eq_false_iff_not]at h;obtain⟨⟨h1,h2⟩,h3⟩:=h;obtain⟨a,oa,k1,k2,k3,k4⟩:=QsQ h3;refine⟨a+1,oa,by simpa using k1,k2,fun i o' hi hd=>?_,fun i o' hi hu=>?_⟩
   ·cases i with
    | zero=>simp at hi; subst hi; rw[hd]at h2; simp at h2
    | succ i=>rw[k3 i o' (by simpa using hi) hd]
   ·cases i with
    | zero=>simp at hi; subst hi; exact absurd hu h1
    | succ i=>have:=k4 i o' (by simpa using hi) hu; omega
def QlB (ops:List Oper) (u v:Nat):Bool:=(Qhm u ops&&!(QhL ops).contains v)||(Qhm v ops&&!(QhL ops).contains u)||(Qhm u ops&&Qhm v ops&&u != v)
def Qg6 (ops:List Oper) (a b:Oper):Bool:=
 match Qbj a.op,Qbj b.op with
 | some u,some v=>QlB ops u v
 | _,_=>false
theorem Qro (ops:List Oper) (u v:Nat):QlB ops u v=QlB ops v u:=by
 unfold QlB;rw[Bool.or_comm (Qhm u ops&&!(QhL ops).contains v),Bool.and_comm (Qhm u ops) (Qhm v ops),bne_comm]
theorem Qu1 (ops:List Oper) (a b:Oper):Qg6 ops a b=Qg6 ops b a:=by
 unfold Qg6;cases Qbj a.op<;>cases Qbj b.op<;>simp only;exact Qro ops _ _
def Qg9 (ops:List Oper) (D:List (Nat×Nat)) (i j:Nat) (a b:Oper):Bool:=Qg6 ops a b||D.contains (i,j)||D.contains (j,i)
theorem Qrk (ops:List Oper) (D:List (Nat×Nat)) (i j:Nat) (a b:Oper):Qg9 ops D i j a b=Qg9 ops D j i b a:=by
 unfold Qg9;rw[Qu1,Bool.or_assoc,Bool.or_assoc,Bool.or_comm (D.contains (i,j))]
def Qid (ops:List Oper) (D:List (Nat×Nat)) (i j:Nat) (a b:Oper):Bool:=
 (match a.dst with | some d=>(QgR ops b).contains d | none=>false)||(match b.dst with | some d=>(QgR ops a).contains d | none=>false)||(((isW a.op&&QvR b.op)||(QvR a.op&&isW b.op))&&!Qg9 ops D i j a b)||(Qkl a.op&&Qkl b.op)
def QrL (ops:List Oper) (D:List (Nat×Nat)) (M:List Nat):Nat→List Oper→Bool
 | _,[]=>true
 | j,b::t=>(ops.take j).zipIdx.all (fun(a,i)=>!Qid ops D i j a b||(M.getD j 0).testBit i)&&QrL ops D M (j+1) t
def QiG (D:List (Nat×Nat)) (ops:List Oper):Bool:=QdO 0 ops&&QrL ops D (QpG ops) 0 ops
theorem QjW (ops:List Oper) (D:List (Nat×Nat)) (M:List Nat):∀(l:List Oper) (k:Nat),QrL ops D M k l=true→∀j b,l[j]?=some b→∀i a,i < k+j→ops[i]?=some a→Qid ops D i (k+j) a b=true→(M.getD (k+j) 0).testBit i=true
 | [],k,_,j,b,h=>by simp at h
 | b0::t,k,hp,j,b,h=>by
  simp only[QrL,Bool.and_eq_true]at hp;cases j with
  | zero=>
   simp at h; subst h;intro i a hi ha hc;have:=List.all_eq_true.1 hp.1 (a,i) (by
    rw[List.mem_zipIdx_iff_getElem?];simp only;rw[List.getElem?_take,if_pos (by omega)]; exact ha)
   rw[Nat.add_zero]at hc;simpa[hc]using this
  | succ j=>
   intro i a hi ha hc;rw[show k+(j+1)=k+1+j by omega]at hc⊢
   exact QjW ops D M t (k+1) hp.2 j b (by simpa using h) i a (by omega) ha hc
theorem Qtr (ops:List Oper) (D:List (Nat×Nat)) (i j:Nat) (a b:Oper):Qid ops D i j a b=Qid ops D j i b a:=by
 unfold Qid;rw[Qrk];cases Qg9 ops D j i b a<;>cases isW a.op<;>cases isW b.op<;>cases QvR a.op<;>cases QvR b.op<;>cases Qkl a.op<;>cases Qkl b.op<;>simp[Bool.or_comm]
theorem Quc {ops:Array Oper} {D:List (Nat×Nat)} (hd:QiG D ops.toList=true) {listed:Array Bool} (hdn:Qn5 ops listed) {i j:Nat} {oi oj:Oper} (hi:ops[i]?=some oi) (hj:ops[j]?=some oj) (hli:listed.getD i false=false) (hdep:Qla oi listed) (hc:Qid ops.toList D i j oi oj=true) (hne:j≠i):
  listed.getD j false=decide (j < i):=by
 simp only[QiG,Bool.and_eq_true]at hd;obtain⟨he,hp⟩:=hd;rcases Nat.lt_or_ge j i with h | h
 ·rw[decide_eq_true h];refine Qfv he hdn i oi hi hdep j ?_;have:=QjW ops.toList D _ ops.toList 0 hp i oi (by simpa using hi) j oj (by omega) (by simpa using hj) (by rw[Qtr,Nat.zero_add]; exact hc)
  simpa using this
 ·have hlt:i < j:=by omega
  rw[decide_eq_false (by omega)]
  cases hlj:listed.getD j false with
  | false=>rfl
  | true=>
   have hm:=QjW ops.toList D _ ops.toList 0 hp j oj (by simpa using hj) i oi (by omega) (by simpa using hi) (by rw[Nat.zero_add]; exact hc)
   have:=Qfv he hdn j oj hj (hdn j oj hj hlj) i (by simpa using hm)
   rw[hli]at this; cases this
end Go.Proofs.YticoemblgkemiaaGreatDoor
namespace Go.Proofs.YticoemblgkemiaaGreatDoor
open Go.RowKit
theorem QBh {x:X} {b off:Nat} (h:x.soft= .loc b off):x= .loc b off:=by
 cases x with
 | d y=>cases y<;>simp[X.soft]at h
 | _=>exact h
theorem Qdp {ev ev':Operand→X} (l:List Operand) (h:∀x∈l,ev x=ev' x):l.map ev=l.map ev':=List.map_congr_left h
def Qc1:Op→List Operand
 | .load _ x=>[x]
 | .store _ x _=>[x]
 | op=>op.operands.toList
theorem QuJ {op:Op} {x:Operand} (h:x∈Qc1 op):x∈op.operands.toList:=by
 cases op<;>first | exact h | (simp only[Qc1,List.mem_singleton]at h; subst h; simp[Op.operands])
theorem Qoq {Γ:Tys} {eqs:List (TypeId×Nat)} {Δ:Nat→List D→Option D} {op:Op} {ev ev':Operand→X} {boxes boxes':List (Nat×List X)} {toks toks':List Nat} (he:∀x∈op.operands.toList,ev x=ev' x)
  (hb:QvR op=true→∀x∈Qc1 op,∀b∈(ev' x).locs,Qt boxes b=Qt boxes' b) (ht:Qkl op=true→toks=toks'):aop Γ eqs Δ op ev boxes toks=aop Γ eqs Δ op ev' boxes' toks':=by
 cases op with
 | call cc=>
  obtain⟨callee,args,argTypes⟩:=cc;simp only[aop,Qog];have hargs:∀x∈args.toList,ev x=ev' x:=fun x hx=>he x (by simp only[Op.operands,Call.operands,Array.toList_append,List.mem_append]; exact .inr hx)
  have hm:args.toList.map ev=args.toList.map ev':=Qdp _ hargs;cases callee with
  | value f=>
   have hf:ev f=ev' f:=he f (by simp[Op.operands,Call.operands])
   have hbo:=hb rfl;have hb1:∀b∈(ev' f).locs,Qt boxes b=Qt boxes' b:=hbo f (by simp[Qc1,Op.operands,Call.operands])
   have hb2:QeD boxes (args.toList.map ev')=QeD boxes' (args.toList.map ev'):=Qj7 fun y hy=>by
    obtain⟨x,hx,rfl⟩:=List.mem_map.1 hy;exact hbo x (by simp only[Qc1,Op.operands,Call.operands,Array.toList_append,List.mem_append]; exact .inr hx)
   simp only[hf,hm,hb2];split
   ·rfl
   ·rfl
   ·rename_i g pre caps heq;rw[heq]at hb1;rw[QeI (caps:=caps) hb1]
   ·rfl
  | invoke r m=>rfl
  | builtin bi=>
   cases bi<;>simp only
   ·have ht':=ht rfl;subst ht';split
    ·rename_i s x T T' ha hT;rw[hargs s (by rw[ha]; simp),hargs x (by rw[ha]; simp)]
    ·rfl
   ·split
    ·rename_i x T ha hT;rw[hargs x (by rw[ha]; simp)]
    ·rfl
   ·split
    ·rename_i x y ha;rw[hargs x (by rw[ha]; simp),hargs y (by rw[ha]; simp)]
    ·rfl
   ·split
    ·rename_i x y ha;rw[hargs x (by rw[ha]; simp),hargs y (by rw[ha]; simp)]
    ·rfl
 | load T x=>
  have hx:=he x (by simp[Op.operands])
  have hbx:=hb rfl x (by simp[Qc1])
  simp only[aop,hx];congr 1;unfold Qm8 QkO;split
  ·rfl
  ·split
   ·rename_i b off heq;rw[hbx b (by rw[QBh heq]; simp[X.locs])]
   ·rfl
   ·rfl
 | store T x y=>
  have hx:=he x (by simp[Op.operands])
  have hy:=he y (by simp[Op.operands])
  have hbx:=hb rfl x (by simp[Qc1])
  simp only[aop,hx,hy];split
  ·rename_i b off cs ii heq _ _;rw[hbx b (by rw[heq]; simp[X.locs])]
  ·rfl
 | makeFunc fn first caps=>
  simp only[aop];have h1:first.toList.map ev=first.toList.map ev':=Qdp _ fun x hx=>he x (by simp only[Op.operands,Array.toList_append,List.mem_append]; exact .inl hx)
  have h2:caps.toList.map ev=caps.toList.map ev':=Qdp _ fun x hx=>he x (by simp only[Op.operands,Array.toList_append,List.mem_append]; exact .inr hx)
  rw[h1,h2]
 | build T parts=>
  simp only[aop];have:(parts.toList.map fun p=>(p.1,ev p.2))=parts.toList.map fun p=>(p.1,ev' p.2):=List.map_congr_left fun p hp=>by
   rw[he p.2 (by simp only[Op.operands,List.mem_map]; exact⟨p,hp,rfl⟩)]
  rw[this]
 | buildSlice T n parts=>
  simp only[aop];have:(parts.toList.map fun p=>(p.1,ev p.2))=parts.toList.map fun p=>(p.1,ev' p.2):=List.map_congr_left fun p hp=>by
   rw[he p.2 (by simp only[Op.operands,List.mem_map]; exact⟨p,hp,rfl⟩)]
  rw[this]
 | slice T x lo hi mx=>
  simp only[aop];have hx:=he x (by simp[Op.operands])
  have h1:lo.map ev=lo.map ev':=by cases lo with | none=>rfl | some y=>simp only[Option.map_some]; rw[he y (by simp[Op.operands])]
  have h2:hi.map ev=hi.map ev':=by cases hi with | none=>rfl | some y=>simp only[Option.map_some]; rw[he y (by simp[Op.operands])]
  have h3:mx.map ev=mx.map ev':=by cases mx with | none=>rfl | some y=>simp only[Option.map_some]; rw[he y (by simp[Op.operands])]
  rw[hx,h1,h2,h3]
 | _=>
  first
   | rfl
   | (simp only[aop]; simp only[Op.operands,Array.toList,List.mem_cons,List.not_mem_nil,or_false,forall_eq_or_imp,forall_eq]at he; simp only[he])
theorem Inv.eqv {N:Nat} {m0:Nat→Nat→Prop} {w0:Base} {g:Gh} {σ σ':St} {a:Act} {w:World} (I:Inv N m0 w0 g σ a w) (h1:∀u,Qt σ'.tmps u=Qt σ.tmps u) (h2:∀b,Qt σ'.boxes b=Qt σ.boxes b) (h3:σ'.toks=σ.toks) (h4:σ'.maps=σ.maps):Inv N m0 w0 g σ' a w:=
 ⟨I.below,I.size,I.defers,I.lt,I.old,I.new,fun t x h=>by rw[h3]; exact I.tmps t x (by rw[←h1]; exact h),I.boxb,I.boxi,I.tokb,I.toki,fun b cs h blk hb=>by rw[h3]; exact I.boxes b cs (by rw[←h2]; exact h) blk hb,I.out,I.fz,by rw[h4]; exact I.maps,I.cells⟩
theorem Qcn {Γ:Tys} {eqs:List (TypeId×Nat)} {Δ:Nat→List D→Option D} {op:Op} {ev:Operand→X} {boxes:List (Nat×List X)} {toks:List Nat} {r:Res} (h:aop Γ eqs Δ op ev boxes toks=some r):(∀t k rows,r= .app t k rows→Qkl op=true)∧(∀b off cs,r= .set b off cs→isW op=true∧∃x∈Qc1 op,ev x= .loc b off):=by
 have key:∀x:Option X,∀r,Res.ofX x=some r→∃y,r= .q y:=fun x r h=>by cases x<;>simp[Res.ofX]at h; exact⟨_,h.symm⟩
 cases op<;>simp only[aop]at h<;>first
  | (cases h; done)
  | (obtain⟨y,rfl⟩:=key _ _ h; exact⟨(fun _ _ _ e=>by cases e),(fun _ _ _ e=>by cases e)⟩)
  | (simp only[Option.some.injEq]at h; subst h; exact⟨(fun _ _ _ e=>by cases e),(fun _ _ _ e=>by cases e)⟩)
  | skip
 case alloc T=>
  split at h<;>first | (cases h; done) | (simp only[Option.some.injEq]at h; subst h; exact⟨(fun _ _ _ e=>by cases e),(fun _ _ _ e=>by cases e)⟩)
 case makeSlice T l c=>
  unfold Qwk at h
  (repeat' split at h)<;>first | (cases h; done) | (simp only[Option.some.injEq]at h; subst h; exact⟨(fun _ _ _ e=>by cases e),(fun _ _ _ e=>by cases e)⟩)
 case box T x=>
  split at h<;>first | (cases h; done) | (simp only[Option.some.injEq]at h; subst h; exact⟨(fun _ _ _ e=>by cases e),(fun _ _ _ e=>by cases e)⟩)
 case buildSlice T n p=>
  split at h<;>first | (cases h; done) | (simp only[Option.some.injEq]at h; subst h; exact⟨(fun _ _ _ e=>by cases e),(fun _ _ _ e=>by cases e)⟩)
 case store T x y=>
  split at h
  ·rename_i b off cs ii heq _ _;split at h
   ·split at h
    ·simp only[Option.some.injEq]at h; subst h;refine⟨fun _ _ _ e=>(by cases e),fun b' off' cs' e=>⟨rfl,x,by simp[Qc1],?_⟩⟩
     simp only[Res.set.injEq]at e;obtain⟨rfl,rfl,_⟩:=e;exact heq
    ·cases h
   ·cases h
  ·cases h
 case call cc=>
  obtain⟨callee,args,argTypes⟩:=cc;unfold Qog at h;simp only at h;split at h
  ·split at h
   ·obtain⟨y,rfl⟩:=key _ _ h; exact⟨fun _ _ _ e=>(by cases e),fun _ _ _ e=>(by cases e)⟩
   ·cases h
  ·refine⟨fun _ _ _ _=>rfl,fun b off cs e=>?_⟩;subst e
   exfalso
   split at h
   ·split at h
    ·obtain⟨cs,hcs⟩:=QjO h; cases hcs
    ·unfold QgU at h
     (repeat' split at h)<;>first | cases h | simp at h
   ·cases h
  ·split at h
   ·obtain⟨y,rfl⟩:=key _ _ h; exact⟨fun _ _ _ e=>(by cases e),fun _ _ _ e=>(by cases e)⟩
   ·cases h
  ·split at h
   ·obtain⟨y,rfl⟩:=key _ _ h; exact⟨fun _ _ _ e=>(by cases e),fun _ _ _ e=>(by cases e)⟩
   ·cases h
  ·(repeat' split at h)<;>first | (cases h; done) | (simp only[Option.some.injEq]at h; subst h; exact⟨fun _ _ _ e=>(by cases e),fun _ _ _ e=>(by cases e)⟩) | (rename_i hfre; obtain⟨k,rows,_,rfl⟩:=Qqu h; exact⟨fun _ _ _ _=>hfre,fun _ _ _ e=>(by cases e)⟩) | (obtain⟨y,rfl⟩:=QpN h; exact⟨fun _ _ _ e=>(by cases e),fun _ _ _ e=>(by cases e)⟩)
  ·cases h
end Go.Proofs.YticoemblgkemiaaGreatDoor
namespace Go.Proofs.YticoemblgkemiaaGreatDoor
open Go.RowKit
theorem QiR:∀(l:List Oper) {j k:Nat} {o o':Oper} {d:Nat},(QR l).Nodup→l[j]?=some o→l[k]?=some o'→Qai o=some d→Qai o'=some d→j=k
 | [],j,k,o,o',d,_,h,_,_,_=>by simp at h
 | p::t,j,k,o,o',d,hn,h1,h2,h3,h4=>by
  have hmem:∀(l:List Oper) (q:Nat) (x:Oper),l[q]?=some x→Qai x=some d→d∈QR l:=by
   intro l
   induction l with
   | nil=>intro q x h; simp at h
   | cons y t ih=>
    intro q x h hx;rw[Qad];cases q with
    | zero=>simp at h; subst h; rw[hx]; simp
    | succ q=>have:=ih q x (by simpa using h) hx; simp[this]
  rw[Qad]at hn;cases j with
  | zero=>
   cases k with
   | zero=>rfl
   | succ k=>
    simp at h1; subst h1;rw[h3]at hn;simp only[List.cons_append,List.nil_append,List.nodup_cons]at hn;exact absurd (hmem t k o' (by simpa using h2) h4) hn.1
  | succ j=>
   cases k with
   | zero=>
    simp at h2; subst h2;rw[h4]at hn;simp only[List.cons_append,List.nil_append,List.nodup_cons]at hn;exact absurd (hmem t j o (by simpa using h1) h3) hn.1
   | succ k=>exact congrArg (· +1) (QiR t (j:=j) (k:=k) (List.nodup_append.1 hn).2.1 (by simpa using h1) (by simpa using h2) h3 h4)
theorem Qcq:∀(l:List Oper) {q:Nat} {x:Oper} {d:Nat},l[q]?=some x→Qai x=some d→d∈QR l
 | [],q,x,d,h,_=>by simp at h
 | y::t,q,x,d,h,hx=>by
  rw[Qad];cases q with
  | zero=>simp at h; subst h; rw[hx]; simp
  | succ q=>have:=Qcq t (q:=q) (x:=x) (by simpa using h) hx; simp[this]
theorem QmF {S:Type} {X:Nat→Bool} {F:En→S→S} :∀(l:List En) (s:S),(∀e∈l,X e.i=true→F e s=s)→comp X F l s=s
 | [],s,_=>rfl
 | e::t,s,h=>by
  simp only[comp];by_cases hx:X e.i=true
  ·rw[if_pos hx,h e (by simp) hx]; exact QmF t s fun e' he=>h e' (by simp[he])
  ·rw[if_neg hx]; exact QmF t s fun e' he=>h e' (by simp[he])
theorem QGS {Γ:Tys} {eqs:List (TypeId×Nat)} {Δ:Nat→List D→Option D} {op:Op} {ev:Operand→X} {boxes:List (Nat×List X)} {toks:List Nat} {r:Res} (h:aop Γ eqs Δ op ev boxes toks=some r) (hw:QvR op=true) {x:Operand} (hx:x∈Qc1 op) {b:Nat} (hl:b∈(ev x).locs):Qt boxes b≠none:=by
 intro hn;cases op<;>simp only[QvR,isW,Qkl]at hw<;>try (cases hw; done)
 case load T y=>
  simp only[Qc1,List.mem_singleton]at hx; subst hx;simp only[aop,Qm8,QkO]at h;cases hT:Γ T with
  | none=>rw[hT]at h; cases h
  | some i=>
   rw[hT]at h;cases hy:ev x with
   | loc b' off=>
    rw[hy]at hl h;simp only[X.locs,List.mem_singleton]at hl;subst hl;simp only[X.soft,hn]at h; cases h
   | fx f first caps=>rw[hy]at h; cases h
   | bs b' o' n' k'=>rw[hy]at h; cases h
   | mp b'=>rw[hy]at h; cases h
   | agb cs'=>rw[hy]at h; cases h
   | _=>rw[hy]at hl; simp[X.locs]at hl
 case store T y z=>
  simp only[Qc1,List.mem_singleton]at hx; subst hx;simp only[aop]at h;split at h
  ·rename_i heq _ _;rw[heq]at hl;simp only[X.locs,List.mem_singleton]at hl;subst hl;rw[hn]at h; cases h
  ·cases h
 case call cc=>
  obtain⟨callee,args,argTypes⟩:=cc;cases callee with
  | value f=>
   have hargs:∀{xs:Option (List D)},xs=QeD boxes (args.toList.map ev)→(∃ds,xs=some ds)→x∈args.toList→False:=by
    rintro xs hxs ⟨ds,rfl⟩ hxa;exact Qlw hxs.symm (ev x) (List.mem_map.2 ⟨x,hxa,rfl⟩) b hl hn
   simp only[Qc1,Op.operands,Call.operands,Array.toList_append,List.mem_append]at hx;have hx':x=f∨x∈args.toList:=by simpa using hx
   simp only[aop,Qog]at h;split at h
   ·rename_i gf first caps hf
    rcases hx' with rfl | hx'
    ·rw[hf]at hl; simp[X.locs]at hl
    ·split at h
     ·split at h
      ·rename_i ds hds;have:=Ql3 hds (ev x) (List.mem_map.2 ⟨x,hx',rfl⟩);rw[this]at hl; simp at hl
      ·exact hargs rfl (QiB h) hx'
     ·cases h
   ·rename_i gf pre post hf;rcases hx' with rfl | hx'
    ·rw[hf]at hl; simp[X.locs]at hl
    ·exact hargs rfl (QiB h) hx'
   ·rename_i gf pre caps hf;split at h
    ·rename_i post hpost;rcases hx' with rfl | hx'
     ·rw[hf]at hl;exact QfZ hpost b hl hn
     ·exact hargs rfl (QiB h) hx'
    ·cases h
   ·cases h
  | _=>simp[isVC]at hw
theorem Qu8 {Γ:Tys} {eqs:List (TypeId×Nat)} {Δ:Nat→List D→Option D} {op:Op} {ev:Operand→X} {boxes:List (Nat×List X)} {toks:List Nat} {b off:Nat} {cs:List X} (h:aop Γ eqs Δ op ev boxes toks=some (.set b off cs)):∀v,Qbj op=some v→ev (.tmp v)= .loc b off:=by
 intro v hv;have hw:=(Qcn h).2 b off cs rfl;cases op<;>first | (cases hw.1; done) | skip
 case store T x y=>
  unfold Qbj at hv;split at hv
  ·rename_i heq; cases heq
  ·rename_i u y' T' heq;cases heq;cases hv;simp only[aop]at h;split at h
   ·rename_i heq _ _;split at h
    ·split at h
     ·simp only[Option.some.injEq,Res.set.injEq]at h;obtain⟨rfl,rfl,_⟩:=h;exact heq
     ·cases h
    ·cases h
   ·cases h
  ·cases hv
theorem QB8 {Γ:Tys} {eqs:List (TypeId×Nat)} {Δ:Nat→List D→Option D} {op:Op} {ev:Operand→X} {boxes:List (Nat×List X)} {toks:List Nat} {r:Res} (h:aop Γ eqs Δ op ev boxes toks=some r) {u:Nat} (hu:Qbj op=some u) {x:Operand} (hx:x∈Qc1 op) {b:Nat} (hl:b∈(ev x).locs):∃off,ev (.tmp u)= .loc b off:=by
 unfold Qbj at hu;split at hu
 ·rename_i T v;cases hu;simp only[Qc1,List.mem_singleton]at hx; subst hx;simp only[aop,Qm8,QkO]at h;cases hT:Γ T with
  | none=>rw[hT]at h; cases h
  | some i=>
   rw[hT]at h;cases hy:ev (.tmp u)with
   | loc b' off=>rw[hy]at hl; simp only[X.locs,List.mem_singleton]at hl; subst hl; exact⟨off,rfl⟩
   | fx f first caps=>rw[hy]at h; cases h
   | bs b' o' n' k'=>rw[hy]at h; cases h
   | mp b'=>rw[hy]at h; cases h
   | agb cs'=>rw[hy]at h; cases h
   | _=>rw[hy]at hl; simp[X.locs]at hl
 ·rename_i T v y;cases hu;simp only[Qc1,List.mem_singleton]at hx; subst hx;simp only[aop]at h;split at h
  ·rename_i b' off cs i heq h2 _;rw[heq]at hl; simp only[X.locs,List.mem_singleton]at hl; subst hl; exact⟨off,heq⟩
  ·cases h
 ·cases hu
theorem QvX {Γ:Tys} {eqs:List (TypeId×Nat)} {Δ:Nat→List D→Option D} {o:Oper} {ev:Operand→X} {boxes:List (Nat×List X)} {toks:List Nat} {r:Res} (h:aop Γ eqs Δ o.op ev boxes toks=some r) {u:Nat} (ha:Qai o=some u):∃cs,r= .new cs:=by
 unfold Qai at ha;split at ha
 ·rename_i T heq;rw[heq]at h;simp only[aop]at h;split at h
  ·simp only[Option.some.injEq]at h; exact⟨_,h.symm⟩
  ·cases h
 ·rename_i T x heq;rw[heq]at h;simp only[aop]at h;split at h
  ·simp only[Option.some.injEq]at h; exact⟨_,h.symm⟩
  ·cases h
 ·rename_i T l x heq;rw[heq]at h;simp only[aop,Qwk]at h
  (repeat' split at h)<;>first | (cases h; done) | (simp only[Option.some.injEq]at h; exact⟨_,h.symm⟩)
 ·rename_i T x heq;rw[heq]at h;cases h
 ·rename_i cc heq;rw[heq]at h;split at ha
  ·rename_i hab;simp only[aop,Qog,Qu6 hab,hab,if_true]at h;split at h
   ·exact QjO h
   ·cases h
  ·cases ha
 ·cases ha
theorem Qpt {o:Oper} {u:Nat} (h:Qbj o.op=some u):u∈Qe4 o:=by
 unfold Qbj at h;unfold Qe4;split at h
 ·rename_i heq; cases h; rw[heq]; simp[Op.operands]
 ·rename_i heq; cases h; rw[heq]; simp[Op.operands]
 ·cases h
theorem QAB {ops:List Oper} {σ:St} {L:List En} (hidx:∀(j:Nat) (e:En),L[j]?=some e→e.i=j) (hent:∀e∈L,∃o,ops[e.i]?=some o∧e.d=o.dst∧(∀u,Qai o=some u→(∃cs,e.r= .new cs)∨e.r= .skip)) (hlen:L.length=ops.length)
  (hplain:∀t x,Qt σ.tmps t=some x→x.plain (QR ops)=true) {i u b off:Nat} {o:Oper} (ho:ops[i]?=some o) (hu:u∈Qe4 o) (h:Qt (Qbu (fun k=>decide (k < i)) L σ).tmps u=some (.loc b off)):
  (Qhm u ops=true→b=u∧u∈QR ops)∧(u∉QhL ops→b∉QR ops):=by
 rw[Qd1]at h;constructor
 ·intro hm;obtain⟨a,oa,k1,k2,k3,k4⟩:=QsQ hm;have hai:=k4 i o ho hu;have haL:a < L.length:=by rw[hlen]; exact(List.getElem?_eq_some_iff.1 k1).1
  have he:=List.getElem?_eq_getElem haL;have hi:=hidx a _ he;obtain⟨o',q1,q2,q3⟩:=hent L[a] (List.getElem_mem haL);rw[hi,k1]at q1;simp only[Option.some.injEq]at q1;subst q1;have hd:L[a].d=some u:=by rw[q2]; exact QiS k2
  have hsp:L=L.take a++L[a]::L.drop (a+1):=by rw[←List.drop_eq_getElem_cons haL,List.take_append_drop]
  rw[hsp,QeL]at h;simp only[comp]at h;rw[hi]at h;rw[if_pos (decide_eq_true hai)]at h;rw[Qfz _ _ (fun e he'=> .inr fun s=>by
   unfold En.tm;rw[if_neg];intro hdu;obtain⟨j,hj,rfl⟩:=List.getElem_of_mem he';have hh:L[a+1+j]?=some ((L.drop (a+1))[j]):=by rw[←List.getElem?_eq_getElem hj,List.getElem?_drop]
   have hi2:=hidx _ _ hh;obtain⟨o2,r1,r2,_⟩:=hent _ (List.mem_of_getElem? hh);have:=k3 _ o2 r1 (by rw[←r2]; exact hdu)
   omega)]at h
  unfold En.tm at h;rw[if_pos hd]at h;simp only[Option.some.injEq]at h;rcases q3 u k2 with⟨cs,hr⟩ | hr
  ·unfold En.x at h;rw[hr,hd]at h;simp only[Option.getD_some,NewC.x]at h;split at h
   ·simp only[X.loc.injEq]at h;exact⟨h.1.symm,Qcq ops k1 k2⟩
   ·cases h
  ·unfold En.x at h;rw[hr]at h;cases h
 ·intro hn;rw[Qfz _ _ (fun e he=> .inr fun s=>by
   unfold En.tm;rw[if_neg];intro hdu;obtain⟨o2,r1,r2,_⟩:=hent e he;exact hn (Qsa r1 (by rw[←r2]; exact hdu)))]at h
  have:=hplain _ _ h;simp only[X.plain,Bool.not_eq_true',List.contains_eq_mem,decide_eq_false_iff_not]at this;exact this
theorem Qr2 {ops:List Oper} {σ:St} :∀{D:List (Nat×Nat)},Qil ops σ D=true→∀i j,(i,j)∈D→∃u v,(ops[i]?).bind (fun a=>Qbj a.op)=some u∧(ops[j]?).bind (fun b=>Qbj b.op)=some v∧u∉QhL (ops.drop i)∧v∉QhL (ops.drop j)∧QMU (σ.ev (.tmp u)) (σ.ev (.tmp v))=true
 | [],_,i,j,h=>by simp at h
 | (a,b)::t,hd,i,j,h=>by
  simp only[Qil,Bool.and_eq_true]at hd;rcases List.mem_cons.1 h with h | h
  ·simp only[Prod.mk.injEq]at h;obtain⟨rfl,rfl⟩:=h;have h1:=hd.1;split at h1
   ·rename_i u v hu hv;simp only[Bool.and_eq_true,Bool.not_eq_true',List.contains_eq_mem,decide_eq_false_iff_not]at h1;exact⟨u,v,hu,hv,h1.1.1,h1.1.2,h1.2⟩
   ·cases h1
  ·exact Qr2 hd.2 i j h
theorem QqD {ops:List Oper} {u v b:Nat} (hap:QlB ops u v=true) (h1:(Qhm u ops=true→b=u∧u∈QR ops)∧(u∉QhL ops→b∉QR ops)) (h2:(Qhm v ops=true→b=v∧v∈QR ops)∧(v∉QhL ops→b∉QR ops)):False:=by
 unfold QlB at hap;simp only[Bool.or_eq_true,Bool.and_eq_true,Bool.not_eq_true',List.contains_eq_mem,decide_eq_false_iff_not,bne_iff_ne]at hap;rcases hap with(⟨a,c⟩ | ⟨a,c⟩) | ⟨⟨a,c⟩,e⟩
 ·obtain⟨rfl,m⟩:=h1.1 a; exact h2.2 c m
 ·obtain⟨rfl,m⟩:=h2.1 a; exact h1.2 c m
 ·obtain⟨rfl,_⟩:=h1.1 a; obtain⟨rfl,_⟩:=h2.1 c; exact e rfl
section
variable {F:Fence} {n:Nat} {P:Program} {c:Cx} {m0:Nat→Nat→Prop} {w0:Base} {g:Gh} {σ σ':St} {a:Act} {w:World}
theorem Qer (X:Nat→Bool):∀(l:List En) (σ:St),(Qbu X l σ).maps=σ.maps
 | [],σ=>rfl
 | e::t,σ=>by
  simp only[Qbu];split
  ·rw[Qer X t]; rfl
  ·exact Qer X t σ
set_option maxHeartbeats 1000000 in
theorem Quv (hF:FreeF F) (hc:CxOk P c) {D:List (Nat×Nat)} {ops:Array Oper} {σ1:St} (hst:Qav (QR ops.toList) σ=true) (hal0:∀d∈QR ops.toList,w0.out d=none) (hops:c.ops ops.toList 0 ops.toList σ=some σ1) (hdB:Qil ops.toList σ1 D=true) (hd:QiG D ops.toList=true) (I:Inv c.N m0 w0 g σ a w) {Q:Exit→Act→World→Prop} (hQ:∀g' a' w',Inv c.N m0 w0 g' σ1 a' w'→(∀j,ops.size≤j→¬g'.used (QaN j))→Q .normal a' w'):wpAnyIn F n P .any ops Q ops.size (Array.replicate ops.size false) a w:=by
   obtain⟨hnd,hpl⟩:=QaJ hst;have hnd:=QbX _ hnd;obtain⟨I1,hal,hus⟩:=I.start hal0 hst hpl;have hst':=hst;simp only[Qav,Bool.and_eq_true]at hst';obtain⟨⟨⟨⟨_,_⟩,htx⟩,hbx⟩,_⟩:=hst';have hno:∀b∈QR ops.toList,Qt σ.boxes b=none:=by
    intro b hb;cases hg:Qt σ.boxes b with
    | none=>rfl
    | some cs=>
     have h:=List.all_eq_true.1 hbx _ (QeZ hg);simp only[Bool.and_eq_true,Bool.not_eq_true',List.contains_eq_mem,decide_eq_false_iff_not]at h;exact absurd hb h.1
   obtain⟨L,l1,l2,l3⟩:=QkR c ops.toList ops.toList 0 σ σ1 hops;simp only[Nat.zero_add]at l3;have hent:∀e∈L,∃o,ops[e.i]?=some o∧L[e.i]?=some e∧e.d=o.dst∧QF5 c ops.toList o (Qbu (fun k=>decide (k < e.i)) L σ) e.r∧((Qbu (fun k=>decide (k < e.i)) L σ).res e.i o.dst e.r).isSome=true:=by
    intro e he;obtain⟨j,hj,rfl⟩:=List.getElem_of_mem he;have hjo:j < ops.toList.length:=by omega
    obtain⟨r,h1,h2,h3,h4⟩:=l3 j ops.toList[j] (List.getElem?_eq_getElem hjo);have h5:=h1;rw[List.getElem?_eq_getElem hj]at h1;simp only[Option.some.injEq]at h1;rw[h1];exact⟨ops.toList[j],by rw[←Array.getElem?_toList]; exact List.getElem?_eq_getElem hjo,h5,rfl,h3,h4⟩
   have hnew:∀e∈L,∀cs,e.r= .new cs→∀d,e.d=some d→∃o,ops.toList[e.i]?=some o∧Qai o=some d:=by
    intro e he cs hr d hd';obtain⟨o,h1,h2,h3,h4,_⟩:=hent e he;refine⟨o,by simpa using h1,?_⟩
    rcases h4 with⟨_,h4⟩ | ⟨_,h4⟩
    ·rw[hr]at h4; rw[Qcl h4,←h3]; exact hd'
    ·rw[hr]at h4; cases h4
   have hsame:∀e∈L,∀e'∈L,∀cs cs',e.r= .new cs→e'.r= .new cs'→∀d,e.d=some d→e'.d=some d→e.i=e'.i:=by
    intro e he e' he' cs cs' hr hr' d hd1 hd2;obtain⟨o,h1,h2⟩:=hnew e he cs hr d hd1;obtain⟨o',h3,h4⟩:=hnew e' he' cs' hr' d hd2;exact QiR _ hnd h1 h3 h2 h4
   have hidx:∀(j:Nat) (e:En),L[j]?=some e→e.i=j:=by
    intro j e hj;have hjL:j < ops.toList.length:=by rw[←l1]; exact(List.getElem?_eq_some_iff.1 hj).1
    obtain⟨r',h1,_⟩:=l3 j _ (List.getElem?_eq_getElem hjL);rw[h1]at hj; simp only[Option.some.injEq]at hj; rw[←hj]
   have haddr:∀(i:Nat) (o:Oper) (u b off:Nat),ops[i]?=some o→Qbj o.op=some u→(Qbu (fun k=>decide (k < i)) L σ).ev (.tmp u)= .loc b off→(Qhm u ops.toList=true→b=u∧u∈QR ops.toList)∧(u∉QhL ops.toList→b∉QR ops.toList):=by
    intro i o u b off ho hu hev;refine QAB hidx (fun e he=>?_) l1 (fun t x hx=>List.all_eq_true.1 htx _ (QeZ hx)) (by simpa using ho) (Qpt hu) (off:=off) ?_
    ·obtain⟨o',h1,_,h3,h4,_⟩:=hent e he;refine⟨o',by simpa using h1,h3,fun u' hu'=>?_⟩
     rcases h4 with⟨_,hs⟩ | ⟨_,hs⟩
     ·exact .inl (QvX hs hu')
     ·exact .inr hs
    ·simp only[St.ev]at hev;cases hg:Qt (Qbu (fun k=>decide (k < i)) L σ).tmps u with
     | none=>rw[hg]at hev; cases hev
     | some y=>rw[hg]at hev; simp only[Option.getD_some]at hev; rw[hev]
   have hsaddr:∀e∈L,∀o,ops[e.i]?=some o→∀b off cs,e.r= .set b off cs→∀v,Qbj o.op=some v→(Qbu (fun k=>decide (k < e.i)) L σ).ev (.tmp v)= .loc b off:=by
    intro e he o ho b off cs hr v hv;obtain⟨o',h1,_,_,h4,_⟩:=hent e he;rw[ho]at h1; cases h1;rcases h4 with⟨_,hs⟩ | ⟨_,hs⟩
    ·rw[hr]at hs; exact Qu8 hs v hv
    ·rw[hr]at hs; cases hs
   have hevf:∀(i u:Nat),u∉QhL (ops.toList.drop i)→σ1.ev (.tmp u)=(Qbu (fun k=>decide (k < i)) L σ).ev (.tmp u):=by
    intro i u hu;simp only[St.ev];rw[l2,Qd1,Qd1];congr 1;refine Qb0 L _ fun e he=>?_;by_cases hei:e.i < i
    ·left; simp[hei]
    ·right;intro s;unfold En.tm;rw[if_neg];intro hdu;obtain⟨o2,r1,_,r2,_⟩:=hent e he;refine hu (List.mem_filterMap.2 ⟨o2,?_,by rw[←r2]; exact hdu⟩)
     refine List.mem_of_getElem? (i:=e.i - i) ?_;rw[List.getElem?_drop,show i+(e.i - i)=e.i by omega]
     simpa using r1
   have hapart:∀(i:Nat) (o:Oper) (j:Nat) (oj:Oper) (b:Nat),ops[i]?=some o→ops[j]?=some oj→(∀u,Qbj o.op=some u→∃off,(Qbu (fun k=>decide (k < i)) L σ).ev (.tmp u)= .loc b off)→(∀u,Qbj oj.op=some u→∃off,(Qbu (fun k=>decide (k < j)) L σ).ev (.tmp u)= .loc b off)→Qg9 ops.toList D i j o oj=false:=by
    intro i o j oj b hi hj h1 h2;have hdif:∀(i:Nat) (o:Oper) (j:Nat) (oj:Oper),ops[i]?=some o→ops[j]?=some oj→(∀u,Qbj o.op=some u→∃off,(Qbu (fun k=>decide (k < i)) L σ).ev (.tmp u)= .loc b off)→(∀u,Qbj oj.op=some u→∃off,(Qbu (fun k=>decide (k < j)) L σ).ev (.tmp u)= .loc b off)→D.contains (i,j)=false:=by
     intro i o j oj hi hj h1 h2;cases hcd:D.contains (i,j)with
     | false=>rfl
     | true=>
      exfalso
      obtain⟨u,v,q1,q2,q3⟩:=Qr2 hdB _ _ (by simpa using hcd)
      have hi':ops.toList[i]?=some o:=by simpa using hi
      have hj':ops.toList[j]?=some oj:=by simpa using hj
      rw[hi']at q1; rw[hj']at q2;obtain⟨o1,e1⟩:=h1 u q1;obtain⟨o2,e2⟩:=h2 v q2;obtain⟨q3,q4,q5⟩:=q3;rw[hevf i u q3,hevf j v q4,e1,e2]at q5;simp[QMU]at q5
    have hd1:=hdif i o j oj hi hj h1 h2;have hd2:=hdif j oj i o hj hi h2 h1;unfold Qg9;rw[hd1,hd2,Bool.or_false,Bool.or_false];cases hap:Qg6 ops.toList o oj with
    | false=>rfl
    | true=>
     exfalso
     unfold Qg6 at hap;split at hap
     ·rename_i u v hu hv;obtain⟨o1,e1⟩:=h1 u hu;obtain⟨o2,e2⟩:=h2 v hv;exact QqD hap (haddr i o u b o1 hi hu e1) (haddr j oj v b o2 hj hv e2)
     ·cases hap
   have hunborn:∀e∈L,∀cs,e.r= .new cs→∀b,e.d=some b→∀i,i≤e.i→Qt (Qbu (fun k=>decide (k < i)) L σ).boxes b=none:=by
    intro e he cs hr b hb i hi;obtain⟨o,h1,h2⟩:=hnew e he cs hr b hb;rw[Qgj,hno b (Qcq _ h1 h2)];refine QmF L none fun e' he' hx=>?_;unfold En.bx;split
    ·rename_i cs' hr';split
     ·rename_i hd';have:=hsame e he e' he' cs cs' hr hr' b hb hd';simp at hx; omega
     ·rfl
    ·split<;>rfl
    ·rfl
   refine Qpi (fun listed a w=>∃g,Inv c.N m0 w0 g (Qbu (fun k=>listed.getD k false) L σ) a w∧(∀e∈L,listed.getD e.i false=false→∀cs,e.r= .new cs→∀d,e.d=some d→g.box d=none)∧
    (∀e∈L,listed.getD e.i false=true→∀b off cs,e.r= .set b off cs→g.box b≠none)∧(∀e∈L,listed.getD e.i false=false→¬g.used (QaN e.i))∧∀j,ops.size≤j→¬g.used (QaN j)) ?dep ?step ?fin ops.size (Array.replicate ops.size false) a _ (by simp) ?down (by simp) ?start
   case dep=>
    intro i o ho e he hb;have hd':=hd;simp only[QiG,Bool.and_eq_true]at hd';have:=Qct ops.toList 0 hd'.1 i o (by simpa using ho) e he hb
    omega
   case down=>
    intro i o ho hl;have:i < ops.size:=(Array.getElem?_eq_some_iff.1 ho).1;simp[Array.getD_eq_getD_getElem?,this]at hl
   case start=>
    have h0:∀k,(Array.replicate ops.size false).getD k false=false:=by
     intro k;simp only[Array.getD_eq_getD_getElem?,Array.getElem?_replicate];split<;>rfl
    have hf:∀(l:List En) (σ:St),Qbu (fun k=>(Array.replicate ops.size false).getD k false) l σ=σ:=by
     intro l
     induction l with
     | nil=>intro σ; rfl
     | cons e t ih=>intro σ; simp only[Qbu]; rw[if_neg (by rw[h0]; simp)]; exact ih σ
    refine⟨_,by rw[hf]; exact I1,fun e he _ cs hr d hd'=>?_,fun e he hl=>?_,fun e he _=>hus e.i,fun j _=>hus j⟩
    ·obtain⟨o,h1,h2⟩:=hnew e he cs hr d hd';exact(hal d (Qcq _ h1 h2)).1
    ·rw[h0]at hl; cases hl
   case fin=>
    rintro listed a' w' hs hall ⟨g',I',_,_,_,hjs⟩;have hf:Qbu (fun k=>listed.getD k false) L σ=σ1:=by
     rw[l2];have:∀(l:List En) (σ:St),(∀e∈l,listed.getD e.i false=true)→Qbu (fun k=>listed.getD k false) l σ=Qbu (fun _=>true) l σ:=by
      intro l
      induction l with
      | nil=>intro σ _; rfl
      | cons e t ih=>
       intro σ he;simp only[Qbu,he e (by simp),if_true]
       exact ih _ fun e' h'=>he e' (by simp[h'])
     refine this L σ fun e he=>?_;obtain⟨o,h1,_⟩:=hent e he;have hlt:e.i < ops.size:=(Array.getElem?_eq_some_iff.1 h1).1;rw[←QcW (by omega)]; exact hall e.i hlt
    rw[hf]at I';exact hQ g' a' w' I' hjs
   case step=>
    rintro listed i o a' w' hs hdn ho hli hdep ⟨g1,IS,hJ2,hJ3,hJ4,hJ5⟩ K hK;have hilt:i < ops.size:=(Array.getElem?_eq_some_iff.1 ho).1;have hXi:listed.getD i false=false:=by rw[←QcW (by omega)]; exact hli
    obtain⟨r,hLi,hdst,hstep,hres⟩:=l3 i o (by simpa using ho)
    have heL:(⟨i,o.dst,r⟩:En)∈L:=List.mem_of_getElem? hLi;have hconf:∀j oj,ops[j]?=some oj→Qid ops.toList D i j o oj=true→listed.getD j false=decide (j < i):=by
     intro j oj hj hcf;by_cases hji:j=i
     ·rw[hji,hXi]; simp
     ·exact Quc hd hdn ho hj hXi hdep hcf hji
    generalize hS:Qbu (fun k=>listed.getD k false) L σ=S at*;generalize hT:Qbu (fun k=>decide (k < i)) L σ=T at*;have htm:∀u∈QgR ops.toList o,Qt S.tmps u=Qt T.tmps u:=by
     intro u hu;rw[←hS,←hT,Qd1,Qd1];refine Qb0 L _ fun e he=>?_;obtain⟨oj,h1,_,h3,_⟩:=hent e he;by_cases hdu:e.d=some u
     ·left;refine hconf e.i oj h1 ?_;unfold Qid;rw[←h3,hdu];simp[hu]
     ·right; intro s; unfold En.tm; rw[if_neg hdu]
    have hev:∀x∈o.op.operands.toList,S.ev x=T.ev x:=by
     intro x hx;cases x with
     | tmp t=>
      simp only[St.ev];rw[htm t];unfold QgR Qe4;simp only[List.mem_append,List.mem_filterMap];exact .inl (.inl ⟨.tmp t,hx,rfl⟩)
     | _=>rfl
    have hwant:Qa5 ops.toList S o=Qa5 ops.toList T o:=by
     unfold Qa5;cases hg:o.guard with
     | none=>rfl
     | some p=>
      obtain⟨j,want⟩:=p;simp only;cases hj:(ops.toList[j]?).bind (·.dst)with
      | none=>rfl
      | some t=>
       simp only;rw[htm t];unfold QgR Qte;rw[hg];simp only[hj];simp
    have hsplit:∃A B,L=A++(⟨i,o.dst,r⟩:En)::B∧(∀e∈A++B,e.i≠i∧e∈L)∧∀e∈B,i < e.i:=by
     have hiL:i < L.length:=by rw[l1]; simpa using hilt
     have hLe:L[i]=⟨i,o.dst,r⟩:=by have:=hLi; rw[List.getElem?_eq_getElem hiL]at this; simpa using this
     refine⟨L.take i,L.drop (i+1),?_,?_,?_⟩
     ·rw[←hLe,←List.drop_eq_getElem_cons hiL,List.take_append_drop]
     ·intro e he;have hidx:∀(j:Nat) (e:En),L[j]?=some e→e.i=j:=by
       intro j e hj;have hjL:j < ops.toList.length:=by rw[←l1]; exact(List.getElem?_eq_some_iff.1 hj).1
       obtain⟨r',h1,_⟩:=l3 j _ (List.getElem?_eq_getElem hjL);rw[h1]at hj; simp only[Option.some.injEq]at hj; rw[←hj]
      rcases List.mem_append.1 he with he | he
      ·obtain⟨j,hj,rfl⟩:=List.getElem_of_mem he;have hj':j < i:=by simp at hj; omega
       have:L[j]?=some ((L.take i)[j]):=by
        rw[←List.getElem?_eq_getElem hj,List.getElem?_take,if_pos hj']
       exact⟨by rw[hidx j _ this]; omega,List.mem_of_getElem? this⟩
      ·obtain⟨j,hj,rfl⟩:=List.getElem_of_mem he;have:L[i+1+j]?=some ((L.drop (i+1))[j]):=by
        rw[←List.getElem?_eq_getElem hj,List.getElem?_drop]
       exact⟨by rw[hidx _ _ this]; omega,List.mem_of_getElem? this⟩
     ·intro e he;obtain⟨j,hj,rfl⟩:=List.getElem_of_mem he;have hh:L[i+1+j]?=some ((L.drop (i+1))[j]):=by
       rw[←List.getElem?_eq_getElem hj,List.getElem?_drop]
      have hjL:i+1+j < ops.toList.length:=by rw[←l1]; exact(List.getElem?_eq_some_iff.1 hh).1
      obtain⟨r',h1,_⟩:=l3 (i+1+j) _ (List.getElem?_eq_getElem hjL);rw[h1]at hh; simp only[Option.some.injEq]at hh; rw[←hh]; show i < i+1+j; omega
    obtain⟨A,B,hAB,hne,hBlt⟩:=hsplit;have hset:∀k,(listed.setIfInBounds i true).getD k false=if k=i then true else listed.getD k false:=fun k=>Qde listed i k false (by omega)
    have hnext:∀g' a' w',Inv c.N m0 w0 g' ((⟨i,o.dst,r⟩:En).ap S) a' w'→(∀j,g1.box j=none→((∀cs,r≠ .new cs)∨o.dst≠some j)→g'.box j=none)→(∀t,g'.used t→g1.used t∨t=QaN i)→(∀j,g1.box j≠none→g'.box j≠none)→
      (∀b off cs,r= .set b off cs→g1.box b≠none)→K a' w':=by
     intro g' a' w' I' p2 p3 p4 p5;refine hK a' w' ⟨g',I'.eqv (fun u=>?_) (fun b=>?_) ?_ ?_,fun e he hl cs hr d hd'=>?_,fun e he hl b off cs hr=>?_,fun e he hl hu=>?_,fun j hj hu=>?_⟩
     ·rw[Qd1,QJf,←hS,Qd1];by_cases hdu:o.dst=some u
      ·rw[hAB];refine QgS A B ⟨i,o.dst,r⟩ _ hXi (by rw[hset,if_pos rfl]) (fun e he=>by rw[hset,if_neg (hne e he).1]) fun e he=>?_
       obtain⟨oj,h1,_,h3,_⟩:=hent e (hne e (by simp[he])).2
       by_cases hdj:e.d=some u
       ·left;show listed.getD e.i false=false;rw[hconf e.i oj h1 (by unfold Qid; rw[hdu]; simp only; rw[show(QgR ops.toList oj).contains u=true by unfold QgR; rw[←h3,hdj]; simp]; simp)]
        have:=hBlt e he;simp; omega
       ·right; intro s; unfold En.tm; rw[if_neg hdj]
      ·have:(⟨i,o.dst,r⟩:En).tm u=fun s=>s:=by funext s; unfold En.tm; rw[if_neg hdu]
       rw[this];refine Qb0 L _ fun e he=>?_;by_cases hei:e.i=i
       ·right;have:e=⟨i,o.dst,r⟩:=by
         obtain⟨_,_,h2,_⟩:=hent e he;rw[hei,hLi]at h2; simpa using h2.symm
        rw[this]; intro s; unfold En.tm; rw[if_neg hdu]
       ·left; rw[hset,if_neg hei]
     ·rw[Qgj,QKd,←hS,Qgj];by_cases hnb:(∃cs,r= .new cs∧o.dst=some b)∨∃off cs,r= .set b off cs
      ·rw[hAB];refine QgS A B ⟨i,o.dst,r⟩ _ hXi (by rw[hset,if_pos rfl]) (fun e he=>by rw[hset,if_neg (hne e he).1]) fun e he=>?_
       obtain⟨hei,heL'⟩:=hne e (by simp[he])
       obtain⟨oj,h1,_,h3,h4,_⟩:=hent e heL';have hgt:=hBlt e he;by_cases hnew':∃cs,e.r= .new cs∧e.d=some b
       ·obtain⟨cs',hr',hd'⟩:=hnew';rcases hnb with⟨cs,hr,hdb⟩ | ⟨off,cs,hr⟩
        ·exact absurd (hsame e heL' ⟨i,o.dst,r⟩ heL cs' cs hr' hr b hd' hdb) hei
        ·have hu:=hunborn e heL' cs' hr' b hd' i (by omega)
         rw[hT]at hu;rw[hr]at hres;simp only[St.res,hu]at hres;cases hres
       ·by_cases hset':∃off cs,e.r= .set b off cs
        ·obtain⟨off',cs',hr'⟩:=hset';left;show listed.getD e.i false=false;rcases hnb with⟨cs,hr,hdb⟩ | ⟨off,cs,hr⟩
         ·cases hl:listed.getD e.i false with
          | false=>rfl
          | true=>exact absurd (hJ2 _ heL hXi cs hr b hdb) (hJ3 e heL' hl b off' cs' hr')
         ·have w1:isW o.op=true:=by
           rcases hstep with⟨_,hs⟩ | ⟨_,hs⟩
           ·exact((Qcn hs).2 b off cs hr).1
           ·rw[hr]at hs; cases hs
          have w2:isW oj.op=true:=by
           rcases h4 with⟨_,hs⟩ | ⟨_,hs⟩
           ·exact((Qcn hs).2 b off' cs' hr').1
           ·rw[hr']at hs; cases hs
          have w3:QvR oj.op=true:=QyH w2;have hap:Qg9 ops.toList D i e.i o oj=false:=hapart i o e.i oj b (by simpa using ho) h1 (fun u hu=>⟨off,by have:=hsaddr ⟨i,o.dst,r⟩ heL o (by simpa using ho) b off cs hr u hu; exact this⟩) (fun u hu=>⟨off',hsaddr e heL' oj h1 b off' cs' hr' u hu⟩)
          rw[hconf e.i oj h1 (by unfold Qid; rw[w1,w3,hap]; simp)]
          simp; omega
        ·right;intro s;unfold En.bx;split
         ·rename_i cs' hr';rw[if_neg fun hd'=>hnew' ⟨cs',hr',hd'⟩]
         ·rename_i b' off' cs' hr';rw[if_neg fun hb'=>hset' ⟨off',cs',by rw[hr',hb']⟩]
         ·rfl
      ·have hid:∀s,(⟨i,o.dst,r⟩:En).bx b s=s:=by
        intro s;unfold En.bx;split
        ·rename_i cs hr;rw[if_neg fun hd'=>hnb (.inl ⟨cs,hr,hd'⟩)]
        ·rename_i b' off' cs' hr';rw[if_neg fun hb'=>hnb (.inr ⟨off',cs',by have h:r= .set b' off' cs':=hr'; rw[h,hb']⟩)]
        ·rfl
       rw[hid];refine Qb0 L _ fun e he=>?_;by_cases hei:e.i=i
       ·right;have:e=⟨i,o.dst,r⟩:=by
         obtain⟨_,_,h2,_⟩:=hent e he;rw[hei,hLi]at h2; simpa using h2.symm
        rw[this]; exact hid
       ·left; rw[hset,if_neg hei]
     ·show _=(⟨i,o.dst,r⟩:En).tk S.toks;rw[QhW,←hS,QhW];by_cases hnb:∃t k rows,r= .app t k rows
      ·obtain⟨t,k,rows,hr⟩:=hnb;rw[hAB];refine QgS A B ⟨i,o.dst,r⟩ _ hXi (by rw[hset,if_pos rfl]) (fun e he=>by rw[hset,if_neg (hne e he).1]) fun e he=>?_
       obtain⟨hei,heL'⟩:=hne e (by simp[he])
       obtain⟨oj,h1,_,h3,h4,_⟩:=hent e heL';have hgt:=hBlt e he;by_cases hap:∃t k rows,e.r= .app t k rows
       ·obtain⟨t',k',rows',hr'⟩:=hap;left;show listed.getD e.i false=false;have w1:Qkl o.op=true:=by
         rcases hstep with⟨_,hs⟩ | ⟨_,hs⟩
         ·exact(Qcn hs).1 t k rows hr
         ·rw[hr]at hs; cases hs
        have w2:Qkl oj.op=true:=by
         rcases h4 with⟨_,hs⟩ | ⟨_,hs⟩
         ·exact(Qcn hs).1 t' k' rows' hr'
         ·rw[hr']at hs; cases hs
        rw[hconf e.i oj h1 (by unfold Qid; rw[w1,w2]; simp)]
        simp; omega
       ·right;intro s;unfold En.tk;split
        ·rename_i t' k' rows' hr'; exact absurd ⟨t',k',rows',hr'⟩ hap
        ·rfl
      ·have hid:∀s,(⟨i,o.dst,r⟩:En).tk s=s:=by
        intro s;unfold En.tk;split
        ·rename_i t' k' rows' hr'; exact absurd ⟨t',k',rows',hr'⟩ hnb
        ·rfl
       rw[hid];refine Qb0 L _ fun e he=>?_;by_cases hei:e.i=i
       ·right;have:e=⟨i,o.dst,r⟩:=by
         obtain⟨_,_,h2,_⟩:=hent e he;rw[hei,hLi]at h2; simpa using h2.symm
        rw[this]; exact hid
       ·left; rw[hset,if_neg hei]
     ·show _=S.maps;rw[Qer,←hS,Qer]
     ·rw[hset]at hl;by_cases hei:e.i=i
      ·rw[if_pos hei]at hl; cases hl
      ·rw[if_neg hei]at hl;refine p2 d (hJ2 e he hl cs hr d hd') ?_;by_cases hn:∃cs,r= .new cs
       ·right;intro hd2;obtain⟨cs2,hr2⟩:=hn;exact hei (hsame e he ⟨i,o.dst,r⟩ heL cs cs2 hr hr2 d hd' hd2)
       ·left; exact fun cs e=>hn ⟨cs,e⟩
     ·rw[hset]at hl;by_cases hei:e.i=i
      ·have:e=⟨i,o.dst,r⟩:=by
        obtain⟨_,_,h2,_⟩:=hent e he;rw[hei,hLi]at h2; simpa using h2.symm
       rw[this]at hr;exact p4 b (p5 b off cs hr)
      ·rw[if_neg hei]at hl;exact p4 b (hJ3 e he hl b off cs hr)
     ·rw[hset]at hl;by_cases hei:e.i=i
      ·rw[if_pos hei]at hl; cases hl
      ·rw[if_neg hei]at hl;rcases p3 _ hu with h1 | h1
       ·exact hJ4 e he hl h1
       ·unfold QaN at h1; omega
     ·rcases p3 _ hu with h1 | h1
      ·exact hJ5 j hj h1
      ·unfold QaN at h1; omega
    unfold wpOpIn;simp only[ho];rcases hstep with⟨hw,haop⟩ | ⟨hw,rfl⟩
    ·
     rw[if_pos (QbF IS ops o (by rw[hwant]; exact hw))]
     have hboxS:QvR o.op=true→∀x∈Qc1 o.op,∀b∈(T.ev x).locs,Qt S.boxes b=Qt T.boxes b∧g1.box b≠none:=by
      intro hrw x hx b hxl;have hgb:g1.box b≠none:=by
       have:=QbD IS x;rw[hev x (QuJ hx)]at this;exact QnU this b hxl
      refine⟨?_,hgb⟩;have hTb:=QGS haop hrw hx hxl;rw[←hS,←hT,Qgj,Qgj];refine Qb0 L _ fun e he=>?_;obtain⟨oj,h1,_,h3,h4,_⟩:=hent e he;by_cases hnew':∃cs,e.r= .new cs∧e.d=some b
      ·left;obtain⟨cs,hr',hd'⟩:=hnew';have hx1:listed.getD e.i false=true:=by
        cases hl:listed.getD e.i false with
        | true=>rfl
        | false=>exact absurd (hJ2 e he hl cs hr' b hd') hgb
       rw[hx1];rcases Nat.lt_or_ge e.i i with hlt | hge
       ·simp[hlt]
       ·have:=hunborn e he cs hr' b hd' i hge;rw[hT]at this; exact absurd this hTb
      ·by_cases hset':∃off cs,e.r= .set b off cs
       ·left;obtain⟨off',cs',hr'⟩:=hset';have w2:isW oj.op=true:=by
         rcases h4 with⟨_,hs⟩ | ⟨_,hs⟩
         ·exact((Qcn hs).2 b off' cs' hr').1
         ·rw[hr']at hs; cases hs
        have hap:Qg9 ops.toList D i e.i o oj=false:=hapart i o e.i oj b (by simpa using ho) h1 (fun u hu=>by have:=QB8 haop hu hx hxl; rw[hT]; exact this) (fun u hu=>⟨off',hsaddr e he oj h1 b off' cs' hr' u hu⟩)
        exact hconf e.i oj h1 (by unfold Qid; rw[hrw,w2,hap]; simp)
       ·right;intro s;unfold En.bx;split
        ·rename_i cs' hr';rw[if_neg fun hd'=>hnew' ⟨cs',hr',hd'⟩]
        ·rename_i b' off' cs' hr';rw[if_neg fun hb'=>hset' ⟨off',cs',by rw[hr',hb']⟩]
        ·rfl
     have htoks:Qkl o.op=true→S.toks=T.toks:=by
      intro hap;rw[←hS,←hT,QhW,QhW];refine Qb0 L _ fun e he=>?_;obtain⟨oj,h1,_,h3,h4,_⟩:=hent e he;by_cases hap':∃t k rows,e.r= .app t k rows
      ·left;obtain⟨t',k',rows',hr'⟩:=hap';have w2:Qkl oj.op=true:=by
        rcases h4 with⟨_,hs⟩ | ⟨_,hs⟩
        ·exact(Qcn hs).1 t' k' rows' hr'
        ·rw[hr']at hs; cases hs
       exact hconf e.i oj h1 (by unfold Qid; rw[hap,w2]; simp)
      ·right;intro s;unfold En.tk;split
       ·rename_i t' k' rows' hr'; exact absurd ⟨t',k',rows',hr'⟩ hap'
       ·rfl
     have haopS:aop c.Γ c.eqs c.Δ o.op S.ev S.boxes S.toks=some r:=by
      rw[←haop];exact Qoq hev (fun hrw x hx b hxl=>(hboxS hrw x hx b hxl).1) htoks
     have hsetb:∀b off cs,r= .set b off cs→Qt S.boxes b=Qt T.boxes b∧g1.box b≠none:=by
      intro b off cs hr;obtain⟨h1,x,h2,h3⟩:=(Qcn haop).2 b off cs hr;have hrw:QvR o.op=true:=QyH h1;exact hboxS hrw x h2 b (by rw[h3]; simp[X.locs])
     obtain⟨S',hS'⟩:∃S',S.res i o.dst r=some S':=by
      cases r with
      | set b off cs=>
       obtain⟨h1,_⟩:=hsetb b off cs rfl;simp only[St.res,h1];simp only[St.res]at hres;cases hb:Qt T.boxes b with
       | none=>rw[hb]at hres; cases hres
       | some old=>exact⟨_,rfl⟩
      | new cs=>
       cases hdd:o.dst with
       | none=>rw[hdd]at hres; cases hres
       | some d=>exact⟨_,rfl⟩
      | app t k rows=>
       cases hdd:o.dst with
       | none=>rw[hdd]at hres; cases hres
       | some d=>exact⟨_,rfl⟩
      | _=>exact⟨_,rfl⟩
     have hap:=QoN hS';subst hap;refine Qe0 hc.ty hc.eq hc.del hF haopS (show PutOk c.N i S o.dst r _ by unfold PutOk St.put; rw[if_pos hdst]; exact hS') IS (fun cs hr d hd'=>⟨hJ2 _ heL hXi cs hr d hd',?_⟩) (hJ4 _ heL hXi) fun g' a2 w2 I' p2 p3 p4=>?_
     ·obtain⟨o',q1,q2⟩:=hnew _ heL cs hr d hd';rw[←hS,Qer];exact(hal d (Qcq _ q1 q2)).2
     exact hnext g' a2 w2 I' p2 p3 p4 fun b off cs hr=>(hsetb b off cs hr).2
    ·
     rw[if_neg (by rw[QbF IS ops o (by rw[hwant]; exact hw)]; simp)]
     refine⟨fun f _=>hF.fn f,?_⟩;have hdo:QjT c.N o.dst:=by
      intro x hx;rw[hx]at hdst;simpa[Qh0]using hdst
     exact hnext g1 _ w' (IS.put hdo (x:= .d (.v (.tuple #[]))) (v:=undef) (by simp only[RelX,Rel]; rfl)) (fun _ h _=>h) (fun _ h=> .inl h) (fun _ h=>h) (fun _ _ _ h=>by cases h)
theorem QpF (hF:FreeF F) (hc:CxOk P c) {D:List (Nat×Nat)} {ops:Array Oper} {σ1:St} (hst:Qav (QR ops.toList) σ=true) (hal0:∀d∈QR ops.toList,w0.out d=none) (hops:c.ops ops.toList 0 ops.toList σ=some σ1) (hdB:Qil ops.toList σ1 D=true) (hd:QiG D ops.toList=true) (I:Inv c.N m0 w0 g σ a w) {Q:Exit→Act→World→Prop} (hQ:∀g' a' w',Inv c.N m0 w0 g' σ1 a' w'→(∀j,ops.size≤j→¬g'.used (QaN j))→Q .normal a' w'):wpAnyIn F n P .any ops Q ops.size (Array.replicate ops.size false) a w.drew:=Quv hF hc hst hal0 hops hdB hd I.drew hQ
theorem Qp6 (hF:FreeF F) (hc:CxOk P c) {id:Nat} {ops:Array Oper} (h:c.region id ops.toList σ=some σ') (hal:∀d∈QR ops.toList,w0.out d=none) (hd:QiG (c.diff id) ops.toList=true) (I:Inv c.N m0 w0 g σ a w) {Q:Exit→Act→World→Prop} (hQ:∀g' a' w',Inv c.N m0 w0 g' σ' a' w'→Q .normal a' w'):(Code.region id ops true).wpIn F n P Q a w:=by
 unfold Cx.region at h;split at h
 ·rename_i hst;split at h
  ·rename_i σ1 hops;split at h
   ·rename_i hdB;simp only[Option.some.injEq]at h; subst h;refine wpIn_region_any hc.mix (QpF hF hc hst hal hops hdB hd I fun g' a' w' I' _=>?_);obtain⟨g2,I2⟩:=I'.close id;exact hQ g2 a' w' I2
   ·cases h
  ·cases h
 ·cases h
end
end Go.Proofs.YticoemblgkemiaaGreatDoor
namespace Go.Proofs.YticoemblgkemiaaGreatDoor
open Go.RowKit Go.MapKept Go.ChangeMaps
section
variable {F:Fence} {n:Nat} {P:Program} {ops opsP:Array Oper}
theorem Oper.wpIn_mono2 {o:Oper} {a:Act} {w:World} {K K':Act→World→Prop} {Q Q':Exit→Act→World→Prop} (h:∀a w,K a w→K' a w) (hQ:∀c a w,Q (.panic c) a w→Q' (.panic c) a w) (hL:LetsOut Q→LetsOut Q')
  (hh:o.wpIn F n P a w K Q):o.wpIn F n P a w K' Q':=by
 refine⟨hh.1,?_⟩;have h2:=hh.2;generalize(o.semAt F.round a.eval).run P w=r at h2⊢;cases r with
 | halt x w'=>cases x<;>simp only[Oper.uponIn]at h2⊢ <;>first | exact hQ _ _ _ h2 | exact h2
 | ok x w'=>
  cases x<;>simp only[Oper.uponIn]at h2⊢
  case enter f args=>exact⟨h2.1,CallsIn.mono h2.2 fun e w'' he=>by cases e<;>first | exact h _ _ he | exact hQ _ _ _ he | exact hL he⟩
  case row r args=>exact⟨h2.1,RowsIn.mono h2.2 fun _ _ he=>h _ _ he⟩
  case round=>exact⟨h2.1,RoundIn.mono h2.2 fun e w'' he=>by cases e<;>first | exact h _ _ he | exact hQ _ _ _ he | exact hL he⟩
  all_goals first | exact h _ _ h2 | exact h2
def QqO (F:Fence) (n:Nat) (P:Program) (ops:Array Oper) (m:Nat) (Q:Exit→Act→World→Prop):Exit→Act→World→Prop
 | .normal,a,w=>∀(QbK:Nat) (listed:Array Bool),ops.size - m≤QbK→listed.size=ops.size→(∀i,i < ops.size→listed.getD i false=decide (i < m))→wpAnyIn F n P .any ops Q QbK listed a w
 | _,_,_=>False
def Qvn (ops:List Oper) (m:Nat):Bool:=(List.range (ops.length - m)).all fun k=>(List.range m).all fun i=>((QpG ops).getD (m+k) 0).testBit i
theorem QwM {ops:List Oper} {m:Nat} (h:Qvn ops m=true) {j i:Nat} (h1:m≤j) (h2:j < ops.length) (h3:i < m):((QpG ops).getD j 0).testBit i=true:=by
 have:=List.all_eq_true.1 h (j - m) (List.mem_range.2 (by omega))
 rw[show m+(j - m)=j by omega]at this
 exact List.all_eq_true.1 this i (List.mem_range.2 h3)
theorem QyB {listed:Array Bool} (he:QdO 0 ops.toList=true) (hs:listed.size=ops.size) (hr:Region.ready .any ops listed=[]):∀i,i < ops.size→listed.getD i true=true:=by
 intro i
 induction i using Nat.strongRecOn with
 | ind i ih=>
  intro hi;by_cases hli:listed.getD i true=true
  ·exact hli
  ·exfalso
   have hm:i∈Region.ready .any ops listed:=Qbb.2 ⟨ops[i],by simp[hi],by simpa using hli,fun e hee hb=>by
    have h1:=Qct ops.toList 0 he i ops[i] (by simp[hi]) e hee hb
    have h2:=ih e.on (by omega) (by omega)
    rw[←QcW (by omega)]; exact h2⟩
   rw[hr]at hm; cases hm
variable {Q:Exit→Act→World→Prop}
theorem Qtw (he:QdO 0 ops.toList=true) {m:Nat} (hP:opsP.toList=ops.toList.take m) (hm:m≤ops.size) (hl:Qvn ops.toList m=true) (hg:∀(i:Nat) (o:Oper),opsP[i]?=some o→∀(j:Nat) (want:Bool),o.guard=some (j,want)→j < m):
  ∀(fuelP QbK:Nat) (listedP listed:Array Bool) (a:Act) (w:World),listedP.size=m→listed.size=ops.size→(∀i,i < m→listedP.getD i false=listed.getD i false)→(∀i,m≤i→listed.getD i false=false)→Qn5 ops listed→fuelP+(ops.size - m)≤QbK→
   wpAnyIn F n P .any opsP (QqO F n P ops m Q) fuelP listedP a w→wpAnyIn F n P .any ops Q QbK listed a w:=by
 have hat:∀i,i < m→opsP[i]?=ops[i]?:=by
  intro i hi;have:opsP.toList[i]?=(ops.toList.take m)[i]?:=by rw[hP]
  rw[List.getElem?_take,if_pos hi]at this;simpa using this
 have hsz:opsP.size=m:=by
  have:=congrArg List.length hP;simp at this; omega
 have hdone:∀(QbK:Nat) (listedP listed:Array Bool) (a:Act) (w:World),listedP.size=m→listed.size=ops.size→(∀i,i < m→listedP.getD i false=listed.getD i false)→(∀i,m≤i→listed.getD i false=false)→Qn5 ops listed→(ops.size - m)≤QbK→Region.ready .any opsP listedP=[]→
   QqO F n P ops m Q .normal a w→wpAnyIn F n P .any ops Q QbK listed a w:=by
  intro QbK listedP listed a w h1 h2 h3 h4 h5 h6 h7 h8;have heP:QdO 0 opsP.toList=true:=by
   have key:∀(l:List Oper) (i k:Nat),QdO i l=true→QdO i (l.take k)=true:=by
    intro l
    induction l with
    | nil=>intro i k h; simp[QdO]
    | cons o t ih=>
     intro i k h;cases k with
     | zero=>rfl
     | succ k=>
      simp only[QdO,Bool.and_eq_true,List.take_succ_cons]at h⊢;exact⟨h.1,ih (i+1) k h.2⟩
   rw[hP]; exact key _ _ _ he
  have hall:=QyB heP (by rw[h1,hsz]) h7
  refine h8 QbK listed h6 h2 fun i hi=>?_;by_cases him:i < m
  ·rw[←h3 i him,←QcW (by omega),hall i (by omega)]; simp[him]
  ·rw[h4 i (by omega)]; simp[him]
 intro fuelP
 induction fuelP with
 | zero=>
  intro QbK listedP listed a w h1 h2 h3 h4 h5 h6 h7;exact hdone QbK listedP listed a w h1 h2 h3 h4 h5 (by omega) h7.1 h7.2
 | succ fP ih=>
  intro QbK listedP listed a w h1 h2 h3 h4 h5 h6 h7;by_cases hr:Region.ready .any opsP listedP=[]
  ·exact hdone QbK listedP listed a w h1 h2 h3 h4 h5 (by omega) hr (h7.1 hr)
  obtain⟨f,rfl⟩:∃f,QbK=f+1:=⟨QbK - 1,by omega⟩
  have hsame:∀i,i < m→(i∈Region.ready .any opsP listedP↔i∈Region.ready .any ops listed):=by
   intro i hi;rw[Qbb,Qbb,hat i hi];have e1:listedP.getD i true=listed.getD i true:=by rw[QcW (by omega),QcW (by omega),h3 i hi]
   rw[e1];have e2:∀o,ops[i]?=some o→(Qla o listedP↔Qla o listed):=by
    intro o ho;refine⟨fun h e hee hb=>?_,fun h e hee hb=>?_⟩
    ·have:=Qct ops.toList 0 he i o (by simpa using ho) e hee hb
     rw[←h3 e.on (by omega)]; exact h e hee hb
    ·have:=Qct ops.toList 0 he i o (by simpa using ho) e hee hb
     rw[h3 e.on (by omega)]; exact h e hee hb
   exact⟨fun⟨o,q1,q2,q3⟩=>⟨o,q1,q2,(e2 o q1).1 q3⟩,fun⟨o,q1,q2,q3⟩=>⟨o,q1,q2,(e2 o q1).2 q3⟩⟩
  refine⟨fun hr'=>?_,fun i hi=>?_⟩
  ·exfalso
   refine hr (List.eq_nil_iff_forall_not_mem.2 fun j hj=>?_);have hjm:j < m:=by
    obtain⟨o,q1,_⟩:=Qbb.1 hj;have:=(Array.getElem?_eq_some_iff.1 q1).1; omega
   have:=(hsame j hjm).1 hj;rw[hr']at this; cases this
  ·obtain⟨o,q1,q2,q3⟩:=Qbb.1 hi;have his:=(Array.getElem?_eq_some_iff.1 q1).1;by_cases him:i < m
   ·have hw:=h7.2 i ((hsame i him).2 hi);have key:∀a' w',wpAnyIn F n P .any opsP (QqO F n P ops m Q) fP (listedP.setIfInBounds i true) a' w'→wpAnyIn F n P .any ops Q f (listed.setIfInBounds i true) a' w':=by
     intro a' w' h';refine ih f _ _ a' w' (by simp[h1]) (by simp[h2]) (fun j hj=>?_) (fun j hj=>?_) ?_ (by omega) h'
     ·rw[Qde _ _ _ _ (by omega),Qde _ _ _ _ (by omega),h3 j hj]
     ·rw[Qde _ _ _ _ (by omega),if_neg (by omega)]; exact h4 j hj
     ·intro j o' hj hlj e hee hb;rw[Qde _ _ _ _ (by omega)]at hlj⊢
      by_cases e1:e.on=i
      ·rw[if_pos e1]
      ·rw[if_neg e1];by_cases e2:j=i
       ·subst e2; rw[q1]at hj; cases hj; exact q3 e hee hb
       ·rw[if_neg e2]at hlj; exact h5 j o' hj hlj e hee hb
    have hoP:opsP[i]?=some o:=by rw[hat i him]; exact q1
    have hwt:Region.wanted o (yielded opsP a.tmps)=Region.wanted o (yielded ops a.tmps):=by
     unfold Region.wanted;cases hgd:o.guard with
     | none=>rfl
     | some p=>
      obtain⟨j,want⟩:=p;simp only;unfold yielded;rw[hat j (hg i o hoP j want hgd)]
    unfold wpOpIn at hw⊢;simp only[q1];simp only[hoP]at hw;rw[hwt]at hw;split
    ·rename_i hwn;rw[if_pos hwn]at hw;exact Oper.wpIn_mono2 key (fun _ _ _ h=>h.elim) (fun⟨_,_,h⟩=>h.elim) hw
    ·rename_i hwn;rw[if_neg hwn]at hw;exact⟨hw.1,key _ _ hw.2⟩
   ·exfalso
    refine hr (List.eq_nil_iff_forall_not_mem.2 fun j hj=>?_);obtain⟨o',p1,p2,p3⟩:=Qbb.1 hj;have hjm:j < m:=by have:=(Array.getElem?_eq_some_iff.1 p1).1; omega
    have hb:=Qfv he h5 i o q1 q3 j (QwM hl (by omega) (by simpa using his) (by omega))
    rw[QcW (by omega),h3 j hjm,hb]at p2
    cases p2
theorem QHN {listed:Array Bool} (he:QdO 0 ops.toList=true) {m:Nat} (h:∀i,i < ops.size→listed.getD i false=decide (i < m)):Qn5 ops listed:=by
 intro i o ho hlo e hee hb;have hi:=(Array.getElem?_eq_some_iff.1 ho).1;have h1:=Qct ops.toList 0 he i o (by simpa using ho) e hee hb
 rw[h i hi]at hlo;rw[h e.on (by omega)]
 simp at hlo⊢; omega
def QGv (ops:List Oper) (m:Nat):Bool:=ops.all fun o=>match o.guard with | some (j,_)=>decide (j < m) | none=>true
def QpB (D:List (Nat×Nat)) (ops:List Oper) (m:Nat):Bool:=QdO 0 ops&&QiG D (ops.take m)&&Qvn ops m&&QGv (ops.take m) m
end
section
variable {F:Fence} {n:Nat} {P:Program} {c:Cx} {m0:Nat→Nat→Prop} {w0:Base} {g:Gh} {σ σ':St} {a:Act} {w:World}
theorem Qrn (l:List Oper) (m:Nat):∀d∈QR (l.take m),d∈QR l:=by
 induction l generalizing m with
 | nil=>intro d hd; simpa using hd
 | cons o t ih=>
  intro d hd;cases m with
  | zero=>cases hd
  | succ m=>
   rw[List.take_succ_cons,Qad]at hd;rw[Qad];simp only[List.mem_append]at hd⊢;exact hd.imp id (ih m d)
theorem Quk (hF:FreeF F) (hc:CxOk P c) {id m:Nat} {ops:Array Oper} {σ1:St} (hst:Qav (QR (ops.toList.take m)) σ=true) (hal:∀d∈QR ops.toList,w0.out d=none) (hops:c.ops (ops.toList.take m) 0 (ops.toList.take m) σ=some σ1) (hdB:Qil (ops.toList.take m) σ1 (c.diff id)=true) (hd:QpB (c.diff id) ops.toList m=true) (hm:m≤ops.size) (I:Inv c.N m0 w0 g σ a w) {Q:Exit→Act→World→Prop}
  (hQ:∀g' a' w',Inv c.N m0 w0 g' σ1 a' w'→(∀j,m≤j→¬g'.used (QaN j))→∀(QbK:Nat) (listed:Array Bool),ops.size - m≤QbK→listed.size=ops.size→(∀i,i < ops.size→listed.getD i false=decide (i < m))→wpAnyIn F n P .any ops Q QbK listed a' w'):(Code.region id ops true).wpIn F n P Q a w:=by
 simp only[QpB,Bool.and_eq_true]at hd;obtain⟨⟨⟨he,hdp⟩,hl⟩,hgd⟩:=hd;obtain⟨opsP,hP⟩:∃opsP:Array Oper,opsP.toList=ops.toList.take m:=⟨(ops.toList.take m).toArray,by simp⟩
 have hsz:opsP.size=m:=by
  have:=congrArg List.length hP;simp at this; omega
 rw[←hP]at hst hops hdB hdp hgd;refine wpIn_region_any hc.mix (Qtw (opsP:=opsP) he hP hm hl (fun i o ho j want hgo=>?_) opsP.size ops.size (Array.replicate opsP.size false) (Array.replicate ops.size false) a _ (by simp[hsz]) (by simp) (fun i hi=>?_) (fun i hi=>?_) (fun i o ho hlo=>?_) (by omega) (QpF hF hc hst (fun d hd=>hal d (Qrn _ m d (by rw[←hP]; exact hd))) hops hdB hdp I fun g' a' w' I' hu=>?_))
 ·have:=List.all_eq_true.1 hgd o (List.mem_of_getElem? (by simpa using ho))
  rw[hgo]at this;simpa using this
 ·simp[Array.getD_eq_getD_getElem?,Array.getElem?_replicate,hsz,hi,show i < ops.size by omega]
 ·simp only[Array.getD_eq_getD_getElem?,Array.getElem?_replicate]; split<;>rfl
 ·simp only[Array.getD_eq_getD_getElem?,Array.getElem?_replicate]at hlo;split at hlo<;>cases hlo
 ·rw[hsz]at hu;exact hQ g' a' w' I' hu
end
end Go.Proofs.YticoemblgkemiaaGreatDoor
namespace Go.Proofs.YticoemblgkemiaaGreatDoor
open Go.RowKit Go.MapKept Go.ChangeMaps
section
variable {F:Fence} {n:Nat} {P:Program} {c:Cx} {m0:Nat→Nat→Prop} {w0:Base} {g:Gh} {σ σ':St} {a:Act} {w:World}
theorem Qn6 (hF:FreeF F) (hc:CxOk P c) {id:Nat} {ops:Array Oper} (h:c.regionL id ops.toList σ=some σ') (hal:∀d∈QR ops.toList,w0.out d=none) (hd:QpB (c.diff id) ops.toList (ops.toList.length - 1)=true) (I:Inv c.N m0 w0 g σ a w) {Q:Exit→Act→World→Prop} (hQ:∀g' a' w',Inv c.N m0 w0 g' σ' a' w'→Q .normal a' w'):(Code.region id ops true).wpIn F n P Q a w:=by
 unfold Cx.regionL at h;simp only at h;split at h
 case isFalse=>cases h
 rename_i hst;split at h
 case h_2=>cases h
 rename_i σ1 hops;split at h
 case isFalse=>cases h
 rename_i hdB;split at h
 case h_2=>cases h
 rename_i o hlast;split at h
 case h_2=>cases h
 rename_i hg hao;split at h
 case h_2=>cases h
 rename_i σ2 heff;simp only[Option.some.injEq]at h; subst h;have hlen:ops.toList.length=ops.size:=by simp
 rw[hlen]at hst hops hdB hlast heff hd;have hpos:0 < ops.size:=by
  have:=congrArg List.length hlast;simp at this; omega
 have hd':=hd;simp only[QpB,Bool.and_eq_true]at hd';obtain⟨⟨⟨he,_⟩,hl⟩,_⟩:=hd';have hat:ops[ops.size - 1]?=some o:=by
  have:(ops.toList.drop (ops.size - 1))[0]?=some o:=by rw[hlast]; rfl
  rw[List.getElem?_drop]at this;simpa using this
 refine Quk hF hc hst hal hops hdB hd (by omega) I fun g' a' w' I' hu QbK listed hf hs hli=>?_
 have hdn:=QHN he hli;obtain⟨f,rfl⟩:∃f,QbK=f+1:=⟨QbK - 1,by omega⟩
 have hrdy:ops.size - 1∈Region.ready .any ops listed:=Qbb.2 ⟨o,hat,by rw[QcW (by omega),hli _ (by omega)]; simp,fun e hee hb=>by
  have h1:=Qct ops.toList 0 he _ o (by simpa using hat) e hee hb
  rw[hli e.on (by omega)]; simp; omega⟩
 refine⟨fun hr=>(by rw[hr]at hrdy; cases hrdy),fun i hi=>?_⟩
 obtain⟨o',h1,h2,h3⟩:=Qbb.1 hi;have his:=(Array.getElem?_eq_some_iff.1 h1).1;have hik:i=ops.size - 1:=by
  rw[QcW (by omega),hli i his]at h2
  simp at h2; omega
 subst hik;rw[hat]at h1; cases h1;have hnil:Region.ready .any ops (listed.setIfInBounds (ops.size - 1) true)=[]:=by
  refine List.eq_nil_iff_forall_not_mem.2 fun j hj=>?_;obtain⟨oj,q1,q2,_⟩:=Qbb.1 hj;have hj':=(Array.getElem?_eq_some_iff.1 q1).1;rw[Qde _ _ _ _ (by omega)]at q2
  split at q2
  ·cases q2
  ·rw[QcW (by omega),hli j hj']at q2
   simp at q2; omega
 unfold wpOpIn;simp only[hat];rw[if_pos (by simp[Region.wanted,hg])]
 refine Qjw hF hc heff I' (fun d hd=>by rw[hao]at hd; cases hd) (hu _ (Nat.le_refl _)) fun g2 a2 w2 I2 _ _=>?_
 obtain⟨g3,I3⟩:=I2.close id;have:=hQ g3 a2 w2 I3;cases f with
 | zero=>exact⟨hnil,this⟩
 | succ f=>exact⟨fun _=>this,fun i hi=>by rw[hnil]at hi; cases hi⟩
theorem Inv.tops (I:Inv c.N m0 w0 g σ a w) (q:IncI):Inv c.N m0 w0 g { σ with tmps:=tops q σ.tmps} a w:=
 ⟨I.below,I.size,I.defers,I.lt,I.old,I.new,fun t x hx=>by
  simp only[Go.Proofs.YticoemblgkemiaaGreatDoor.tops,Qt]at hx;split at hx
  ·cases hx; simp[RelX,Rel]
  ·split at hx
   ·cases hx; simp[RelX,Rel]
   ·split at hx
    ·cases hx; simp[RelX,Rel]
    ·split at hx
     ·cases hx; simp[RelX,Rel]
     ·exact I.tmps t x hx,I.boxb,I.boxi,I.tokb,I.toki,I.boxes,I.out,I.fz,I.maps,I.cells⟩
theorem Inv.putTop (I:Inv c.N m0 w0 g σ a w) {d:Nat} (hd:d < c.N) (ht:∀x,Qt σ.tmps d=some x→x= .d .top) (v:Value):Inv c.N m0 w0 g σ (a.put (some d) v) w:=
 ⟨I.below,by rw[QbP]; exact I.size,by rw[Qa0]; exact I.defers,I.lt,I.old,I.new,fun t x hx=>by
  rw[Qcm _ _ _ _ (by rw[I.size]; exact hd)]
  split
  ·rename_i e; subst e; rw[ht x hx]; simp[RelX,Rel]
  ·exact I.tmps t x hx,I.boxb,I.boxi,I.tokb,I.toki,I.boxes,I.out,I.fz,I.maps,I.cells⟩
theorem QSt (q:IncI) (t:List (Nat×X)) {d:Nat} (hd:d=q.dl∨d=q.da∨d=q.de∨d=q.dx):∀x,Qt (tops q t) d=some x→x= .d .top:=by
 intro x hx;simp only[tops,Qt]at hx
 (repeat' split at hx)<;>first | (cases hx; rfl) | (exfalso; rcases hd with h | h | h | h<;>contradiction)
def QRl (b:Nat):List (Nat×(Nat×List (Value×Value)))→List (Nat×(Nat×List (Value×Value)))
 | []=>[]
 | p::t=>if p.1=b then QRl b t else p::QRl b t
theorem QSf (b:Nat):∀(l:List (Nat×(Nat×List (Value×Value)))) {i:Nat} {mc:Nat×List (Value×Value)},Qt (QRl b l) i=some mc→i≠b∧Qt l i=some mc
 | [],i,mc,h=>by cases h
 | (j,x)::t,i,mc,h=>by
  simp only[QRl]at h;split at h
  ·rename_i e;obtain⟨h1,h2⟩:=QSf b t h;exact⟨h1,by simp only[Qt]; rw[if_neg (by rw[e]; exact h1)]; exact h2⟩
  ·rename_i e;simp only[Qt]at h⊢;split at h
   ·rename_i e2; rw[if_pos e2]; exact⟨by rw[e2]; exact e,h⟩
   ·rename_i e2; rw[if_neg e2]; exact QSf b t h
set_option maxHeartbeats 2000000 in
theorem QTZ (hF:FreeF F) (hc:CxOk P c) {id:Nat} {ops:Array Oper} (h:c.regionI id ops.toList σ=some σ') (hal:∀d∈QR ops.toList,w0.out d=none) (hd:QpB (c.diff id) ops.toList (ops.toList.length - 5)=true)
  (hM:∀p∈[(1,0),(3,2),(4,0),(4,1),(4,2),(4,3)],((QpG ops.toList).getD (ops.toList.length - 5+p.1) 0).testBit (ops.toList.length - 5+p.2)=true) (I:Inv c.N m0 w0 g σ a w) {Q:Exit→Act→World→Prop} (hQ:∀g' a' w',Inv c.N m0 w0 g' σ' a' w'→Q .normal a' w'):(Code.region id ops true).wpIn F n P Q a w:=by
 unfold Cx.regionI at h;simp only at h;split at h
 case isFalse=>cases h
 rename_i hst;split at h
 case h_2=>cases h
 rename_i σ1 hops;split at h
 case isFalse=>cases h
 rename_i hdB;split at h
 case h_2=>cases h
 rename_i q hinc;split at h
 case h_2=>cases h
 rename_i b sh es e0 j kv v0 hmap hkey hlook;split at h
 case isFalse=>cases h
 rename_i hNs;obtain⟨hN1,hN2,hN3,hN4⟩:=hNs;simp only[Option.some.injEq]at h; subst h;have hlen:ops.toList.length=ops.size:=by simp
 rw[hlen]at hst hops hdB hinc hd hM;obtain⟨m,hm⟩:∃m,m=ops.size - 5:=⟨_,rfl⟩;rw[←hm]at hst hops hdB hinc hd hM;have hd':=hd;simp only[QpB,Bool.and_eq_true]at hd';obtain⟨⟨⟨he,_⟩,hl⟩,_⟩:=hd';unfold QXb at hinc;split at hinc
 case h_2=>cases hinc
 rename_i dl T tm tk ty1 ps1 af1 da ti dl' tb ty2 ps2 af2 de T' m' k' ty3 ps3 af3 dx de' ty4 ps4 af4 T2 m2 dx' da' ty5 ps5 af5 hdrop;split at hinc
 case isFalse=>cases hinc
 rename_i hcond;obtain⟨⟨rfl,rfl,rfl,rfl⟩,⟨rfl,rfl,rfl,rfl,rfl⟩,hnd,hnm,hnk⟩:=hcond;simp only[Option.some.injEq]at hinc;have hqdl:q.dl=dl':=by rw[←hinc]
 have hqda:q.da=da':=by rw[←hinc]
 have hqde:q.de=de':=by rw[←hinc]
 have hqdx:q.dx=dx':=by rw[←hinc]
 have hqm:q.m=m2:=by rw[←hinc]
 have hqk:q.k=k':=by rw[←hinc]
 have hqT:q.T=T2:=by rw[←hinc]
 rw[hqdl]at hN1; rw[hqda]at hN2; rw[hqde]at hN3; rw[hqdx]at hN4; rw[hqm,hqT]at hmap; rw[hqm,hqk,hqT]at hlook; rw[hqk]at hkey;simp only[Qcz,Bool.and_eq_true,Bool.not_eq_true',List.contains_eq_mem,List.mem_cons,List.not_mem_nil,or_false,decide_eq_false_iff_not,not_or,and_true,not_false_eq_true]at hnd hnm hnk;obtain⟨⟨d1,d2,d3⟩,⟨d4,d5⟩,d6⟩:=hnd;obtain⟨n1,n2,n3,n4⟩:=hnm;obtain⟨k1,k2,k3,k4⟩:=hnk;have hsz5:ops.size=m+5:=by
  have:=congrArg List.length hdrop;simp at this; omega
 have hat:∀(r:Nat),ops[m+r]?=(ops.toList.drop m)[r]?:=fun r=>by rw[List.getElem?_drop]; simp
 rw[hdrop]at hat;have o0:=hat 0;have o1:=hat 1;have o2:=hat 2;have o3:=hat 3;have o4:=hat 4;simp only[List.getElem?_cons_zero,List.getElem?_cons_succ]at o0 o1 o2 o3 o4;clear hat;obtain⟨hmp,hmaps,i0,K,t1,t2,t3,t4⟩:=Qiq hmap;have hT:=(hc.ty T2 i0 t1).und;rw[t2]at hT;have hKO:=hc.keys K sh t3;have hz:∀w,(zeroValue e0).run P w= .ok j.zero w:=fun w=>Qii (hc.ty _ _ t4) w;obtain⟨hsh,hwf,hv0⟩:shK kv=sh∧wfK kv∧(QcG es kv).getD j.zero= .int .i64 v0:=by
  unfold Cx.lookup at hlook;rw[hmap,hkey]at hlook;simp only at hlook;split at hlook
  ·rename_i hcond;simp only[Option.some.injEq]at hlook;exact⟨hcond.1,Qqk.1 hcond.2.1,hlook⟩
  ·cases hlook
 refine Quk hF hc hst hal hops hdB hd (by omega) I fun g' a' w' I' hu QbK listed hf hs hli=>?_
 have hrm:=QbD I' (.tmp m2);rw[hmp]at hrm;obtain⟨blk,hbx,hvm⟩:=hrm;have hvk:=Qq3 hkey (QbD I' (.tmp k'));have hvm':a'.tmps.getD m2 undef= .map (some blk):=hvm;have hvk':a'.tmps.getD k' undef=kv:=hvk;obtain⟨S,hS⟩:∃S:Bool→Bool→Bool→Bool→Act→World→Prop,S=fun b0 b1 b2 b3 a w=>∃g,Inv c.N m0 w0 g { σ1 with tmps:=tops q σ1.tmps,maps:=if b2 then QRl b σ1.maps else σ1.maps} a w∧g.box b=some blk∧a.tmps.getD m2 undef= .map (some blk)∧a.tmps.getD k' undef=kv∧
  (b0=true→a.tmps.getD dl' undef= .int .i64 v0)∧(b1=true→a.tmps.getD da' undef= .int .i64 (IntKind.i64.wrap (v0+1)))∧(b2=true→∃(v:Value) (st:Nat),a.tmps.getD de' undef= .tuple #[v,goInt st]∧MapP w blk sh es j.zero kv st∧(b3=true→a.tmps.getD dx' undef=goInt st)):=⟨_,rfl⟩
 obtain⟨Fin,hFin⟩:∃Fin:Act→World→Prop,Fin=fun a w=>∃g,Inv c.N m0 w0 g { tmps:=tops q σ1.tmps,boxes:=σ1.boxes,toks:=σ1.toks,maps:=(b,(sh,(kv,.int .i64 (IntKind.i64.wrap (v0+1)))::es))::σ1.maps} a w:=⟨_,rfl⟩;have gput:∀(a:Act) (d:Nat) (v:Value) (t:Nat),a.tmps.size=c.N→d < c.N→(a.put (some d) v).tmps.getD t undef=if t=d then v else a.tmps.getD t undef:=fun a d v t h1 h2=>Qcm a d v t (by rw[h1]; exact h2)
 have s0:∀(b1 b2 b3:Bool) (a:Act) (w:World) (next:Act→World→Prop),S false b1 b2 b3 a w→b1=false→(∀a' w',S true b1 b2 b3 a' w'→next a' w')→(⟨some dl',.lookup T2 (.tmp m2) (.tmp k') false,ty1,ps1,af1,none⟩:Oper).wpIn F n P a w next Q:=by
  intro b1 b2 b3 a w next h hb1 hn
  subst hb1;rw[hS]at h;obtain⟨g,Ig,q1,q2,q3,_,q5,q6⟩:=h;have hrun:(Instr.lookup T2 (.map (some blk)) kv false).run P w= .ok (.int .i64 v0) w:=by
   rw[←hv0];cases b2 with
   | false=>exact QBe hKO hT hz (Ig.maps b _ hmaps blk q1) hsh hwf
   | true=>
    obtain⟨v,st,_,h2,_⟩:=q6 rfl;exact QWU hKO hT h2 hsh hwf
  refine Qck hF (v:= .int .i64 v0) (w':=w) ?_ (hn _ _ ?_)
  ·have e1:a.eval (.tmp m2)= .map (some blk):=q2;have e2:a.eval (.tmp k')=kv:=q3;simp only[execOp,e1,e2,Sem.run_bind,hrun,Result.andThen_ok]; rfl
  ·rw[hS];refine⟨g,Ig.putTop hN1 (QSt q _ (by rw[hqdl]; exact .inl rfl)) _,q1,?_,?_,fun _=>?_,fun h=>(by cases h),fun h=>?_⟩
   ·rw[gput _ _ _ _ Ig.size hN1,if_neg n1]; exact q2
   ·rw[gput _ _ _ _ Ig.size hN1,if_neg k1]; exact q3
   ·rw[gput _ _ _ _ Ig.size hN1,if_pos rfl]
   ·obtain⟨v,st,h1,h2,h3⟩:=q6 h;exact⟨v,st,by rw[gput _ _ _ _ Ig.size hN1,if_neg (fun e=>d2 e.symm)]; exact h1,h2,fun h=>by rw[gput _ _ _ _ Ig.size hN1,if_neg (fun e=>d3 e.symm)]; exact h3 h⟩
 have s1:∀(b2 b3:Bool) (a:Act) (w:World) (next:Act→World→Prop),S true false b2 b3 a w→(∀a' w',S true true b2 b3 a' w'→next a' w')→(⟨some da',.binOp .add ti (.tmp dl') (.const (.int .i64 1)) tb,ty2,ps2,af2,none⟩:Oper).wpIn F n P a w next Q:=by
  intro b2 b3 a w next h hn
  rw[hS]at h;obtain⟨g,Ig,q1,q2,q3,q4,_,q6⟩:=h;have e1:a.eval (.tmp dl')= .int .i64 v0:=q4 rfl;have e2:a.eval (.const (.int .i64 1))= .int .i64 1:=rfl;obtain⟨v,h1,h2⟩:=QHM hc.ty hc.eq (g:=g) (base:=0) (toks:=[]) (w:=w) (op:= .add) (T:=ti) (x:= .d (.v (.int .i64 v0))) (y:= .d (.v (.int .i64 1))) (z:= .d (.v (.int .i64 (IntKind.i64.wrap (v0+1))))) (vx:= .int .i64 v0) (vy:= .int .i64 1) (.tmp dl') (.const (.int .i64 1)) (by simp[QNA,vop,iop]) (by simp[RelX,Rel]) (by simp[RelX,Rel])
  have hv:v= .int .i64 (IntKind.i64.wrap (v0+1)):=by simpa[RelX,Rel]using h2
  subst hv;refine Qck hF (v:= .int .i64 (IntKind.i64.wrap (v0+1))) (w':=w) ?_ (hn _ _ ?_)
  ·simp only[execOp,e1,e2,Sem.run_bind]at h1⊢; rw[h1,Result.andThen_ok]; rfl
  ·rw[hS];refine⟨g,Ig.putTop hN2 (QSt q _ (by rw[hqda]; exact .inr (.inl rfl))) _,q1,?_,?_,fun _=>?_,fun _=>?_,fun h=>?_⟩
   ·rw[gput _ _ _ _ Ig.size hN2,if_neg n2]; exact q2
   ·rw[gput _ _ _ _ Ig.size hN2,if_neg k2]; exact q3
   ·rw[gput _ _ _ _ Ig.size hN2,if_neg d1]; exact q4 rfl
   ·rw[gput _ _ _ _ Ig.size hN2,if_pos rfl]
   ·obtain⟨v,st,h1,h2,h3⟩:=q6 h;exact⟨v,st,by rw[gput _ _ _ _ Ig.size hN2,if_neg (fun e=>d4 e.symm)]; exact h1,h2,fun h=>by rw[gput _ _ _ _ Ig.size hN2,if_neg (fun e=>d5 e.symm)]; exact h3 h⟩
 have s2:∀(b0 b1 b3:Bool) (a:Act) (w:World) (next:Act→World→Prop),S b0 b1 false b3 a w→b3=false→(∀a' w',S b0 b1 true b3 a' w'→next a' w')→(⟨some de',.mapEntry T2 (.tmp m2) (.tmp k'),ty3,ps3,af3,none⟩:Oper).wpIn F n P a w next Q:=by
  intro b0 b1 b3 a w next h hb3 hn
  subst hb3;rw[hS]at h;obtain⟨g,Ig,q1,q2,q3,q4,q5,_⟩:=h;have hMA:=Ig.maps b _ hmaps blk q1;obtain⟨v1,st,l1,c1,hrun,hP⟩:=Qzm hKO hT hz hMA hsh hwf;have e1:a.eval (.tmp m2)= .map (some blk):=q2;have e2:a.eval (.tmp k')=kv:=q3;obtain⟨l0,c0,hh,_⟩:=hMA;refine Qck hF (v:= .tuple #[v1,goInt st]) (w':=setBlock w blk (.map l1 c1)) ?_ (hn _ _ ?_)
  ·simp only[execOp,e1,e2,Sem.run_bind,hrun,Result.andThen_ok]; rfl
  ·have I2:=Ig.setMap q1 hh (l:=l1) (cl:=c1) (QRl b σ1.maps) (fun i mc hi blk' hblk'=>by
    obtain⟨p1,p2⟩:=QSf b _ hi;have hne:blk'≠blk:=fun e=>p1 (Ig.boxi i b blk (e ▸ hblk') q1);exact(Ig.maps i mc p2 blk' hblk').keep (heap_setBlock_other hh _ hne))
   rw[hS];refine⟨g,(by exact I2.putTop hN3 (QSt q _ (by rw[hqde]; exact .inr (.inr (.inl rfl)))) _),q1,?_,?_,fun h=>?_,fun h=>?_,fun _=>⟨v1,st,?_,hP,fun h=>by cases h⟩⟩
   ·rw[gput _ _ _ _ Ig.size hN3,if_neg n3]; exact q2
   ·rw[gput _ _ _ _ Ig.size hN3,if_neg k3]; exact q3
   ·rw[gput _ _ _ _ Ig.size hN3,if_neg d2]; exact q4 h
   ·rw[gput _ _ _ _ Ig.size hN3,if_neg d4]; exact q5 h
   ·rw[gput _ _ _ _ Ig.size hN3,if_pos rfl]
 have s3:∀(b0 b1:Bool) (a:Act) (w:World) (next:Act→World→Prop),S b0 b1 true false a w→(∀a' w',S b0 b1 true true a' w'→next a' w')→(⟨some dx',.extract (.tmp de') 1,ty4,ps4,af4,none⟩:Oper).wpIn F n P a w next Q:=by
  intro b0 b1 a w next h hn
  rw[hS]at h;obtain⟨g,Ig,q1,q2,q3,q4,q5,q6⟩:=h;obtain⟨v,st,h1,h2,_⟩:=q6 rfl;have e1:a.eval (.tmp de')= .tuple #[v,goInt st]:=h1;refine Qck hF (v:=goInt st) (w':=w) ?_ (hn _ _ ?_)
  ·simp[execOp,e1,Instr.extract]
  ·rw[hS];refine⟨g,Ig.putTop hN4 (QSt q _ (by rw[hqdx]; exact .inr (.inr (.inr rfl)))) _,q1,?_,?_,fun h=>?_,fun h=>?_,fun _=>⟨v,st,?_,h2,fun _=>?_⟩⟩
   ·rw[gput _ _ _ _ Ig.size hN4,if_neg n4]; exact q2
   ·rw[gput _ _ _ _ Ig.size hN4,if_neg k4]; exact q3
   ·rw[gput _ _ _ _ Ig.size hN4,if_neg d3]; exact q4 h
   ·rw[gput _ _ _ _ Ig.size hN4,if_neg d5]; exact q5 h
   ·rw[gput _ _ _ _ Ig.size hN4,if_neg d6]; exact h1
   ·rw[gput _ _ _ _ Ig.size hN4,if_pos rfl]
 have s4:∀(a:Act) (w:World) (next:Act→World→Prop),S true true true true a w→(∀a' w',Fin a' w'→next a' w')→(⟨none,.entryStore T2 (.tmp m2) (.tmp dx') (.tmp da'),ty5,ps5,af5,none⟩:Oper).wpIn F n P a w next Q:=by
  intro a w next h hn
  rw[hS]at h;obtain⟨g,Ig,q1,q2,q3,q4,q5,q6⟩:=h;obtain⟨v,st,h1,h2,h3⟩:=q6 rfl;obtain⟨l2,c2,hrun,hMA⟩:=Qvo (P:=P) (T:=T2) (val:= .int .i64 (IntKind.i64.wrap (v0+1))) h2 hsh hwf;have e1:a.eval (.tmp m2)= .map (some blk):=q2;have e2:a.eval (.tmp dx')=goInt st:=h3 rfl;have e3:a.eval (.tmp da')= .int .i64 (IntKind.i64.wrap (v0+1)):=q5 rfl;obtain⟨l0,c0,hh,_⟩:=h2;refine QCY hF (w':=setBlock w blk (.map l2 c2)) ?_ (hn _ _ ?_)
  ·simp only[execOp,e1,e2,e3,Sem.run_bind,hrun,Result.andThen_ok]; rfl
  ·rw[hFin];have hMM:QsO g (setBlock w blk (.map l2 c2)) ((b,(sh,(kv,.int .i64 (IntKind.i64.wrap (v0+1)))::es))::σ1.maps):=by
    intro i mc hi blk' hblk';simp only[Qt]at hi;split at hi
    ·rename_i e; subst e;rw[q1]at hblk'; cases hblk';simp only[Option.some.injEq]at hi; subst hi;exact hMA
    ·rename_i e;have hne:blk'≠blk:=fun e2=>e (Ig.boxi i b blk (e2 ▸ hblk') q1);have hi2:Qt (QRl b σ1.maps) i=some mc:=by
      have key:∀(l:List (Nat×(Nat×List (Value×Value)))),Qt (QRl b l) i=Qt l i:=by
       intro l
       induction l with
       | nil=>rfl
       | cons p t ih=>
        simp only[QRl];split
        ·rename_i e3; rw[ih]; simp only[Qt]; rw[if_neg (by rw[e3]; exact e)]
        ·simp only[Qt]; rw[ih]
      rw[key]; exact hi
     exact(Ig.maps i mc hi2 blk' hblk').keep (heap_setBlock_other hh _ hne)
   exact⟨g,Ig.setMap q1 hh _ hMM⟩
 refine Qpi (fun listed a w=>(∀i,i < m→listed.getD i false=true)∧(listed.getD (m+4) false=true→Fin a w)∧(listed.getD (m+4) false=false→S (listed.getD m false) (listed.getD (m+1) false) (listed.getD (m+2) false) (listed.getD (m+3) false) a w)) (fun i o ho e hee hb=>by
  have:=Qct ops.toList 0 he i o (by simpa using ho) e hee hb; omega) ?step ?fin QbK listed a' w' hs (QHN he hli) ?cnt ?start
 case cnt=>
  have key:∀(l:List Bool) (k m:Nat),(∀i,i < l.length→l[i]?=some (decide (k+i < m)))→l.count false≤l.length - (m - k):=by
   intro l
   induction l with
   | nil=>intro k m _; simp
   | cons x t ih=>
    intro k m h;have h0:=h 0 (by simp)
    simp only[List.getElem?_cons_zero,Option.some.injEq,Nat.add_zero]at h0;have:=ih (k+1) m fun i hi=>by
     have:=h (i+1) (by simpa using hi)
     rw[List.getElem?_cons_succ]at this;rw[this,show k+(i+1)=k+1+i by omega]
    simp only[List.count_cons,List.length_cons];by_cases hk:k < m
    ·rw[h0]; simp[hk]; omega
    ·rw[h0]; simp[hk]; omega
  have:=key listed.toList 0 m (fun i hi=>by
   have hi':i < listed.size:=by simpa using hi
   have:=hli i (by omega)
   rw[Array.getD_eq_getD_getElem?,Array.getElem?_eq_getElem hi',Option.getD_some]at this;simp[hi',this])
  have hl2:listed.toList.length=listed.size:=by simp
  omega
 case start=>
  refine⟨fun i hi=>by rw[hli i (by omega)]; simp[hi],fun h=>?_,fun _=>?_⟩
  ·rw[hli _ (by omega)]at h
   exact absurd (of_decide_eq_true h) (by omega)
  ·rw[hli m (by omega),hli (m+1) (by omega),hli (m+2) (by omega),hli (m+3) (by omega)]
   simp only[Nat.lt_irrefl,decide_false,show ¬m+1 < m by omega,show ¬m+2 < m by omega,show ¬m+3 < m by omega]
   rw[hS];exact⟨g',I'.tops q,hbx,hvm',hvk',fun h=>(by cases h),fun h=>(by cases h),fun h=>(by cases h)⟩
 case fin=>
  rintro listed a w hs2 hall ⟨_,hf2,_⟩;have:=hall (m+4) (by omega)
  rw[QcW (by omega)]at this
  have:=hf2 this;rw[hFin]at this;obtain⟨g,Ig⟩:=this;obtain⟨g2,I2⟩:=Ig.close id;exact hQ g2 a w I2
 case step=>
  rintro listed i o a w hs2 hdn ho hli2 hdep ⟨hpre,hfin,hmid⟩ Kn hK;have his:=(Array.getElem?_eq_some_iff.1 ho).1;have hXi:listed.getD i false=false:=by rw[←QcW (by omega)]; exact hli2
  have him:m≤i:=by
   rcases Nat.lt_or_ge i m with h | h
   ·rw[hpre i h]at hXi; cases hXi
   ·exact h
  have hset:∀k,(listed.setIfInBounds i true).getD k false=if k=i then true else listed.getD k false:=fun k=>Qde listed i k false (by omega)
  have hpre2:∀k,k < m→(listed.setIfInBounds i true).getD k false=true:=fun k hk=>by rw[hset]; split; rfl; exact hpre k hk
  have hbit:∀p∈[(1,0),(3,2),(4,0),(4,1),(4,2),(4,3)],i=m+p.1→listed.getD (m+p.2) false=true:=fun p hp e=>Qfv he hdn i o ho hdep _ (by rw[e]; exact hM p hp)
  have h4f:listed.getD (m+4) false=false:=by
   cases h:listed.getD (m+4) false with
   | false=>rfl
   | true=>
    exfalso
    have hdo:=hdn (m+4) _ o4 h;have hdone:∀p∈[(4,0),(4,1),(4,2),(4,3)],listed.getD (m+p.2) false=true:=fun p hp=>Qfv he hdn (m+4) _ o4 hdo _ (by
     have:=hM (4,p.2) (by simp only[List.mem_cons,List.not_mem_nil,or_false]at hp⊢; rcases hp with rfl | rfl | rfl | rfl<;>simp)
     simpa using this)
    have a0:=hdone (4,0) (by simp)
    have a1:=hdone (4,1) (by simp)
    have a2:=hdone (4,2) (by simp)
    have a3:=hdone (4,3) (by simp)
    simp only[Nat.add_zero]at a0;have:i=m∨i=m+1∨i=m+2∨i=m+3∨i=m+4:=by omega
    rcases this with e | e | e | e | e<;>rw[e]at hXi<;>first | (rw[a0]at hXi; cases hXi) | (rw[a1]at hXi; cases hXi) | (rw[a2]at hXi; cases hXi) | (rw[a3]at hXi; cases hXi) | (rw[h]at hXi; cases hXi)
  have hmid:=hmid h4f;have hwant:Region.wanted o (yielded ops a.tmps)=true→o.wpIn F n P a w Kn Q→wpOpIn F n P ops Q i Kn a w:=by
   intro h1 h2;unfold wpOpIn;simp only[ho];rw[if_pos h1]; exact h2
  have hcase:i=m∨i=m+1∨i=m+2∨i=m+3∨i=m+4:=by omega
  rcases hcase with e | e | e | e | e
  ·subst e;rw[Nat.add_zero]at o0;rw[o0]at ho; cases ho;have hb1:listed.getD (i+1) false=false:=by
    cases h:listed.getD (i+1) false with
    | false=>rfl
    | true=>
     have:=Qfv he hdn (i+1) _ o1 (hdn (i+1) _ o1 h) (i+0) (by have:=hM (1,0) (by simp); simpa using this)
     rw[Nat.add_zero,hXi]at this; cases this
   rw[hXi]at hmid;refine hwant rfl (s0 _ _ _ a w Kn hmid hb1 fun a' w' h'=>hK a' w' ⟨hpre2,fun h=>?_,fun _=>?_⟩)
   ·rw[hset,if_neg (by omega),h4f]at h; cases h
   ·rw[hset,hset,hset,hset,if_pos rfl,if_neg (by omega),if_neg (by omega),if_neg (by omega)]; exact h'
  ·subst e;rw[o1]at ho; cases ho;have hb0:listed.getD m false=true:=by have:=hbit (1,0) (by simp) rfl; simpa using this
   rw[hXi,hb0]at hmid;refine hwant rfl (s1 _ _ a w Kn hmid fun a' w' h'=>hK a' w' ⟨hpre2,fun h=>?_,fun _=>?_⟩)
   ·rw[hset,if_neg (by omega),h4f]at h; cases h
   ·rw[hset,hset,hset,hset,if_neg (by omega),if_pos rfl,if_neg (by omega),if_neg (by omega),hb0]; exact h'
  ·subst e;rw[o2]at ho; cases ho;have hb3:listed.getD (m+3) false=false:=by
    cases h:listed.getD (m+3) false with
    | false=>rfl
    | true=>
     have:=Qfv he hdn (m+3) _ o3 (hdn (m+3) _ o3 h) (m+2) (by have:=hM (3,2) (by simp); simpa using this)
     rw[hXi]at this; cases this
   rw[hXi]at hmid;refine hwant rfl (s2 _ _ _ a w Kn hmid hb3 fun a' w' h'=>hK a' w' ⟨hpre2,fun h=>?_,fun _=>?_⟩)
   ·rw[hset,if_neg (by omega),h4f]at h; cases h
   ·rw[hset,hset,hset,hset,if_neg (by omega),if_neg (by omega),if_pos rfl,if_neg (by omega)]; exact h'
  ·subst e;rw[o3]at ho; cases ho;have hb2:listed.getD (m+2) false=true:=hbit (3,2) (by simp) rfl
   rw[hXi,hb2]at hmid;refine hwant rfl (s3 _ _ a w Kn hmid fun a' w' h'=>hK a' w' ⟨hpre2,fun h=>?_,fun _=>?_⟩)
   ·rw[hset,if_neg (by omega),h4f]at h; cases h
   ·rw[hset,hset,hset,hset,if_neg (by omega),if_neg (by omega),if_neg (by omega),if_pos rfl,hb2]; exact h'
  ·subst e;rw[o4]at ho; cases ho;have b0:listed.getD m false=true:=by have:=hbit (4,0) (by simp) rfl; simpa using this
   have b1:listed.getD (m+1) false=true:=hbit (4,1) (by simp) rfl
   have b2:listed.getD (m+2) false=true:=hbit (4,2) (by simp) rfl
   have b3:listed.getD (m+3) false=true:=hbit (4,3) (by simp) rfl
   rw[b0,b1,b2,b3]at hmid;refine hwant rfl (s4 a w Kn hmid fun a' w' h'=>hK a' w' ⟨hpre2,fun _=>h',fun h=>?_⟩);rw[hset,if_pos rfl]at h; cases h
end
end Go.Proofs.YticoemblgkemiaaGreatDoor
namespace Go.Proofs.YticoemblgkemiaaGreatDoor
open Go.RowKit Go.MapKept Go.ChangeMaps
section
variable {F:Fence} {n:Nat} {P:Program} {ops opsS:Array Oper} {Q:Exit→Act→World→Prop}
def QRr (n k:Nat):Array Bool:=((List.range n).map fun i=>decide (i < k)).toArray
theorem QRo (n k:Nat):(QRr n k).size=n:=by simp[QRr]
theorem QR8 (n k i:Nat) (h:i < n):(QRr n k)[i]?=some (decide (i < k)):=by simp[QRr,h]
theorem QS4 {l:Array Bool} {n k:Nat} (hs:l.size=n) (h:∀i,i < n→l.getD i false=decide (i < k)):l=QRr n k:=by
 apply Array.ext_getElem?;intro i;by_cases hi:i < n
 ·rw[QR8 n k i hi];have:=h i hi;rw[Array.getD_eq_getD_getElem?,Array.getElem?_eq_getElem (by omega)]at this
  rw[Array.getElem?_eq_getElem (by omega)]
  simpa using this
 ·rw[Array.getElem?_eq_none (by omega),Array.getElem?_eq_none (by rw[QRo]; omega)]
theorem QTG (n j:Nat) (hj:j < n):(QRr n j).setIfInBounds j true=QRr n (j+1):=by
 refine QS4 (by simp[QRo]) fun i hi=>?_
 rw[Qde _ _ _ _ (by rw[QRo]; omega)]
 split
 ·rename_i e; subst e; simp
 ·rename_i e;rw[Array.getD_eq_getD_getElem?,QR8 n j i hi,Option.getD_some];rw[decide_eq_decide];omega
theorem Q0R {a:Act} {w:World} {K:Act→World→Prop} (h:idO.wpIn F n P a w K Q):K a w:=by
 have h2:=h.2;have e:(idO.semAt F.round a.eval).run P w= .ok (.value (.bool true)) w:=by
  cases F.round<;>rfl
 rw[e]at h2;exact h2
variable {k:Nat}
theorem QVf (hS:∀i,i < k→opsS[i]?=some idO) (hk:k≤opsS.size):∀(d j:Nat) (a:Act) (w:World) (QbK:Nat),j+d=k→wpAnyIn F n P .any opsS Q (d+QbK) (QRr opsS.size j) a w→wpAnyIn F n P .any opsS Q QbK (QRr opsS.size k) a w
 | 0,j,a,w,QbK,hj,h=>by
  rw[Nat.add_zero]at hj;subst hj
  rwa [Nat.zero_add]at h
 | d+1,j,a,w,QbK,hj,h=>by
  rw[show d+1+QbK=(d+QbK)+1 by omega]at h
  have hjs:j < opsS.size:=by omega
  have ho:=hS j (by omega)
  have hr:j∈Region.ready .any opsS (QRr opsS.size j):=Qbb.2 ⟨idO,ho,by rw[Array.getD_eq_getD_getElem?,QR8 _ _ _ hjs]; simp,fun e hee=>by simp[idO]at hee⟩
  have h1:=h.2 j hr;unfold wpOpIn at h1;rw[ho]at h1;simp only at h1;rw[if_pos (by simp[Region.wanted,idO])]at h1
  have h2:=Q0R h1;rw[QTG _ _ hjs]at h2;exact QVf hS hk d (j+1) a w QbK (by omega) h2
theorem QX6 (hsz:opsS.size=ops.size) (hS:∀i,k≤i→opsS[i]?=ops[i]?) (hg:∀(i:Nat) (o:Oper),k≤i→ops[i]?=some o→o.guard=none):∀(QbK fuel':Nat) (listed:Array Bool) (a:Act) (w:World),QbK≤fuel'→listed.size=ops.size→(∀i,i < k→i < ops.size→listed.getD i true=true)→wpAnyIn F n P .any opsS Q QbK listed a w→wpAnyIn F n P .any ops Q fuel' listed a w:=by
 have hready:∀(listed:Array Bool),(∀i,i < k→i < ops.size→listed.getD i true=true)→∀i,i∈Region.ready .any ops listed↔i∈Region.ready .any opsS listed:=by
  intro listed hl i;rw[Qbb,Qbb];by_cases hi:k≤i
  ·rw[hS i hi]
  ·constructor
   ·rintro⟨o,h1,h2,_⟩;rw[hl i (by omega) (Array.getElem?_eq_some_iff.1 h1).1]at h2; cases h2
   ·rintro⟨o,h1,h2,_⟩;rw[hl i (by omega) (by rw[←hsz]; exact(Array.getElem?_eq_some_iff.1 h1).1)]at h2; cases h2
 intro QbK
 induction QbK with
 | zero=>
  intro fuel' listed a w hf hs hl h;have hn:Region.ready .any ops listed=[]:=List.eq_nil_iff_forall_not_mem.2 fun i hi=>by
   have:=(hready listed hl i).1 hi;rw[h.1]at this; cases this
  cases fuel' with
  | zero=>exact⟨hn,h.2⟩
  | succ f=>exact⟨fun _=>h.2,fun i hi=>by rw[hn]at hi; cases hi⟩
 | succ QbK ih=>
  intro fuel' listed a w hf hs hl h;obtain⟨f,rfl⟩:∃f,fuel'=f+1:=⟨fuel' - 1,by omega⟩
  refine⟨fun hr=>h.1 (List.eq_nil_iff_forall_not_mem.2 fun i hi=>by
   have:=(hready listed hl i).2 hi;rw[hr]at this; cases this),fun i hi=>?_⟩
  have h1:=h.2 i ((hready listed hl i).1 hi);obtain⟨o,q1,q2,_⟩:=Qbb.1 hi;have his:=(Array.getElem?_eq_some_iff.1 q1).1;have hik:k≤i:=by
   by_cases hik:k≤i
   ·exact hik
   ·rw[hl i (by omega) his]at q2; cases q2
  have hgo:=hg i o hik q1;unfold wpOpIn at h1⊢;rw[hS i hik]at h1;rw[q1]at h1⊢;simp only at h1⊢;have hw:∀t,Region.wanted o t=true:=fun t=>by simp[Region.wanted,hgo]
  rw[if_pos (hw _)]at h1⊢;refine Oper.wpIn_mono (fun a' w' h'=>ih f _ a' w' (by omega) (by simp[hs]) (fun j hj hjs=>?_) h') h1
  rw[QcW (by simp[hs]; exact hjs),Qde _ _ _ _ (by rw[hs]; exact his)]
  split
  ·rfl
  ·rw[←QcW (by rw[hs]; exact hjs)]; exact hl j hj hjs
theorem QVj {c:Cx} {all:List Oper} :∀(k i:Nat) (rest:List Oper) (σ:St),c.ops all i (List.replicate k idO++rest) σ=c.ops all (i+k) rest σ
 | 0,i,rest,σ=>rfl
 | k+1,i,rest,σ=>by
  rw[List.replicate_succ,List.cons_append,Cx.ops];have e:c.step all i idO σ=some σ:=rfl;rw[e];simp only;rw[QVj k (i+1) rest σ,show i+1+k=i+(k+1) by omega]
theorem QVO (k:Nat) (rest:List Oper):QR (List.replicate k idO++rest)=QR rest:=by
 induction k with
 | zero=>rfl
 | succ k ih=>rw[List.replicate_succ,List.cons_append]; exact ih
def QWs (D:List (Nat×Nat)) (ops:List Oper) (m:Nat):Bool:=QpB D ops m&&Qvn ops (m+1)&&QiG [] (QR5 (m+1) ops)&&(ops.drop (m+1)).all (fun o=>o.guard.isNone)&&decide (m < ops.length)
end
section
variable {F:Fence} {n:Nat} {P:Program} {c:Cx} {m0:Nat→Nat→Prop} {w0:Base} {g:Gh} {σ σ':St} {a:Act} {w:World}
theorem QU9 (l:List Oper) (m:Nat):∀d∈QR (l.drop m),d∈QR l:=by
 induction l generalizing m with
 | nil=>intro d hd; simpa using hd
 | cons o t ih=>
  intro d hd;cases m with
  | zero=>exact hd
  | succ m=>
   rw[List.drop_succ_cons]at hd;rw[Qad];simp only[List.mem_append];exact .inr (ih m d hd)
theorem QT0 (hF:FreeF F) (hc:CxOk P c) {id m:Nat} {ops:Array Oper} (h:c.regionS id m ops.toList σ=some σ') (hal:∀d∈QR ops.toList,w0.out d=none) (hd:QWs (c.diff id) ops.toList m=true) (I:Inv c.N m0 w0 g σ a w) {Q:Exit→Act→World→Prop} (hQ:∀g' a' w',Inv c.N m0 w0 g' σ' a' w'→Q .normal a' w'):(Code.region id ops true).wpIn F n P Q a w:=by
 simp only[QWs,Bool.and_eq_true,decide_eq_true_eq]at hd;obtain⟨⟨⟨⟨hd,hl1⟩,hd2⟩,hgs⟩,hm⟩:=hd;unfold Cx.regionS at h;simp only at h;split at h
 case isFalse=>cases h
 rename_i hst;split at h
 case h_2=>cases h
 rename_i σ1 hops;split at h
 case isFalse=>cases h
 rename_i hdB;split at h
 case h_2=>cases h
 rename_i o rest hlast;split at h
 case h_2=>cases h
 rename_i hg hao;split at h
 case h_2=>cases h
 rename_i σ2 heff;split at h
 case isFalse=>cases h
 rename_i hst2;split at h
 case h_2=>cases h
 rename_i σ3 hops2;simp only[Option.some.injEq]at h; subst h;have hlen:ops.toList.length=ops.size:=by simp
 rw[hlen]at hm;have hd':=hd;simp only[QpB,Bool.and_eq_true]at hd';obtain⟨⟨⟨he,_⟩,hl⟩,_⟩:=hd';have hat:ops[m]?=some o:=by
  have:(ops.toList.drop m)[0]?=some o:=by rw[hlast]; rfl
  rw[List.getElem?_drop]at this;simpa using this
 have hdr:ops.toList.drop (m+1)=rest:=by
  have:=congrArg (List.drop 1) hlast;rw[List.drop_drop]at this;simpa[Nat.add_comm]using this
 refine Quk hF hc hst hal hops hdB hd (by omega) I fun g' a' w' I' hu QbK listed hf hs hli=>?_
 have hdn:=QHN he hli;obtain⟨f,rfl⟩:∃f,QbK=f+1:=⟨QbK - 1,by omega⟩
 have hrdy:m∈Region.ready .any ops listed:=Qbb.2 ⟨o,hat,by rw[QcW (by omega),hli _ (by omega)]; simp,fun e hee hb=>by
  have h1:=Qct ops.toList 0 he _ o (by simpa using hat) e hee hb
  rw[hli e.on (by omega)]; simp; omega⟩
 refine⟨fun hr=>(by rw[hr]at hrdy; cases hrdy),fun i hi=>?_⟩
 obtain⟨o',h1,h2,h3⟩:=Qbb.1 hi;have his:=(Array.getElem?_eq_some_iff.1 h1).1;have hik:i=m:=by
  rw[QcW (by omega),hli i his]at h2
  simp at h2;by_cases e:i=m
  ·exact e
  ·exfalso
   have hb:=Qfv he hdn i o' h1 h3 m (QwM hl1 (by omega) (by simpa using his) (by omega))
   rw[hli m hm]at hb;simp at hb
 subst hik;rw[hat]at h1; cases h1;unfold wpOpIn;simp only[hat];rw[if_pos (by simp[Region.wanted,hg])]
 refine Qjw hF hc heff I' (fun d hd=>by rw[hao]at hd; cases hd) (hu _ (Nat.le_refl _)) fun g2 a2 w2 I2 _ _=>?_
 have hlist:listed.setIfInBounds i true=QRr ops.size (i+1):=by
  rw[←QTG _ _ hm];rw[QS4 hs hli]
 obtain⟨opsS,hS⟩:∃opsS:Array Oper,opsS.toList=QR5 (i+1) ops.toList:=⟨(QR5 (i+1) ops.toList).toArray,by simp⟩
 have hSs:opsS.size=ops.size:=by
  have:=congrArg List.length hS;simp[QR5]at this; omega
 have hS1:∀j,j < i+1→opsS[j]?=some idO:=by
  intro j hj;have:opsS.toList[j]?=some idO:=by
   rw[hS,QR5,List.getElem?_append,if_pos (by simpa using hj),List.getElem?_replicate,if_pos hj]
  simpa using this
 have hS2:∀j,i+1≤j→opsS[j]?=ops[j]?:=by
  intro j hj;have:opsS.toList[j]?=ops.toList[j]?:=by
   rw[hS,QR5,List.getElem?_append,if_neg (by simp; omega),List.getElem?_drop]
   simp only[List.length_replicate];rw[show i+1+(j - (i+1))=j by omega]
  simpa using this
 rw[hlist];have hall:QR opsS.toList=QR rest:=by rw[hS,QR5,QVO,hdr]
 have hrun:wpAnyIn F n P .any opsS Q opsS.size (Array.replicate opsS.size false) a2 w2:=by
  refine Quv hF hc (σ:=σ2) (σ1:=σ3) (by rw[hall]; exact hst2) (fun d hd=>hal d (by rw[hall,←hdr]at hd; exact QU9 _ _ d hd)) ?_ rfl (by rw[hS]; exact hd2) I2 fun g3 a3 w3 I3 _=>?_
  ·rw[hS]
   conv=>lhs; rw[show c.ops (QR5 (i+1) ops.toList) 0 (QR5 (i+1) ops.toList) σ2=c.ops (QR5 (i+1) ops.toList) 0 (List.replicate (i+1) idO++ops.toList.drop (i+1)) σ2 from rfl]
   rw[QVj,Nat.zero_add,hdr]; exact hops2
  ·obtain⟨g4,I4⟩:=I3.close id;exact hQ g4 a3 w3 I4
 have e0:Array.replicate opsS.size false=QRr opsS.size 0:=QS4 (by simp) fun j hj=>by
  rw[Array.getD_eq_getD_getElem?,Array.getElem?_replicate,if_pos hj]; simp
 rw[e0]at hrun;have h4:=QVf (k:=i+1) hS1 (by omega) (i+1) 0 a2 w2 (opsS.size - (i+1)) (by omega) (by rw[show i+1+(opsS.size - (i+1))=opsS.size by omega]; exact hrun)
 rw[hSs]at h4;refine QX6 (k:=i+1) hSs hS2 (fun j oj hj hoj=>?_) (ops.size - (i+1)) f _ a2 w2 (by omega) (QRo _ _) (fun j hj hjs=>?_) h4
 ·have:oj∈ops.toList.drop (i+1):=List.mem_of_getElem? (i:=j - (i+1)) (by rw[List.getElem?_drop,show i+1+(j - (i+1))=j by omega]; simpa using hoj)
  have:=List.all_eq_true.1 hgs oj this;simpa using this
 ·rw[Array.getD_eq_getD_getElem?,QR8 _ _ _ hjs];simp; omega
theorem QWN {ops:Array Oper} {Q:Exit→Act→World→Prop} (he:QdO 0 ops.toList=true) {m0':Nat} (hch:∀t,m0'≤t→t < ops.size→Qvn ops.toList t=true):∀(r m:Nat),m0'≤m→m+r=ops.size→∀(listed:Array Bool) (QbK:Nat) (a:Act) (w:World),r≤QbK→listed.size=ops.size→(∀i,i < ops.size→listed.getD i false=decide (i < m))→
  wpListIn F n P ops Q (ops.toList.drop m) a w→wpAnyIn F n P .any ops Q QbK listed a w:=by
 have hnil:∀(listed:Array Bool),listed.size=ops.size→(∀i,i < ops.size→listed.getD i false=true)→Region.ready .any ops listed=[]:=by
  intro listed hs hl;refine List.eq_nil_iff_forall_not_mem.2 fun j hj=>?_;obtain⟨oj,q1,q2,_⟩:=Qbb.1 hj;have hj':=(Array.getElem?_eq_some_iff.1 q1).1;rw[QcW (by omega),hl j hj']at q2
  cases q2
 intro r
 induction r with
 | zero=>
  intro m _ hmr listed QbK a w _ hs hl h;have hd:ops.toList.drop m=[]:=List.drop_eq_nil_of_le (by simp; omega)
  rw[hd]at h;have hn:=hnil listed hs (fun i hi=>by rw[hl i hi]; simp; omega)
  cases QbK with
  | zero=>exact⟨hn,h⟩
  | succ f=>exact⟨fun _=>h,fun i hi=>by rw[hn]at hi; cases hi⟩
 | succ r ih=>
  intro m hm0 hmr listed QbK a w hf hs hl h;obtain⟨f,rfl⟩:∃f,QbK=f+1:=⟨QbK - 1,by omega⟩
  have hm:m < ops.size:=by omega
  obtain⟨om,hom⟩:∃om,om=ops[m]:=⟨_,rfl⟩;have hat:ops[m]?=some om:=by rw[hom]; exact Array.getElem?_eq_getElem hm
  have hdn:=QHN he hl;have hrdy:m∈Region.ready .any ops listed:=Qbb.2 ⟨om,hat,by rw[QcW (by omega),hl _ hm]; simp,fun e hee hb=>by
   have h1:=Qct ops.toList 0 he m om (by simpa using hat) e hee hb
   rw[hl e.on (by omega)]; simp; omega⟩
  refine⟨fun hr=>(by rw[hr]at hrdy; cases hrdy),fun i hi=>?_⟩
  obtain⟨o',h1,h2,h3⟩:=Qbb.1 hi;have his:=(Array.getElem?_eq_some_iff.1 h1).1;have hik:i=m:=by
   rw[QcW (by omega),hl i his]at h2
   simp at h2;by_cases e:i=m
   ·exact e
   ·exfalso
    have hb:=Qfv he hdn i o' h1 h3 m (QwM (hch i (by omega) his) (Nat.le_refl _) (by simpa using his) (by omega))
    rw[hl m hm]at hb;simp at hb
  subst hik;have hdrop:ops.toList.drop i=om::ops.toList.drop (i+1):=by
   rw[List.drop_eq_getElem_cons (by simpa using hm),hom]; simp
  rw[hdrop]at h;unfold wpListIn at h;have hstep:∀a' w',wpListIn F n P ops Q (ops.toList.drop (i+1)) a' w'→wpAnyIn F n P .any ops Q f (listed.setIfInBounds i true) a' w':=fun a' w' h'=>
   ih (i+1) (by omega) (by omega) _ f a' w' (by omega) (by simp[hs]) (fun j hj=>by
    rw[Qde _ _ _ _ (by omega)]
    split
    ·rename_i e; subst e; simp
    ·rename_i e; rw[hl j hj]; simp; omega) h'
  unfold wpOpIn;simp only[hat];split at h
  ·rename_i hw; rw[if_pos hw]; exact Oper.wpIn_mono hstep h
  ·rename_i hw; rw[if_neg hw]; exact⟨h.1,hstep _ _ h.2⟩
def QWB (D:List (Nat×Nat)) (ops:List Oper) (m:Nat):Bool:=QpB D ops m&&(List.range ops.length).all (fun t=>decide (t < m)||Qvn ops t)&&(ops.drop m).all (fun o=>(Qai o).isNone)&&decide (m≤ops.length)
theorem QU0 {l:List Oper} (h:l.all (fun o=>(Qai o).isNone)=true):QR l=[]:=by
 induction l with
 | nil=>rfl
 | cons o t ih=>
  simp only[List.all_cons,Bool.and_eq_true]at h;rw[Qad,ih h.2];cases ho:Qai o with
  | none=>rfl
  | some d=>rw[ho]at h; cases h.1
theorem QTQ (hF:FreeF F) (hc:CxOk P c) {id m:Nat} {ops:Array Oper} (h:c.regionC id m ops.toList σ=some σ') (hal:∀d∈QR ops.toList,w0.out d=none) (hd:QWB (c.diff id) ops.toList m=true) (I:Inv c.N m0 w0 g σ a w) {Q:Exit→Act→World→Prop} (hQ:∀g' a' w',Inv c.N m0 w0 g' σ' a' w'→Q .normal a' w'):(Code.region id ops true).wpIn F n P Q a w:=by
 simp only[QWB,Bool.and_eq_true,decide_eq_true_eq]at hd;obtain⟨⟨⟨hd,hl1⟩,hno⟩,hm⟩:=hd;unfold Cx.regionC at h;split at h
 case isFalse=>cases h
 rename_i hst;split at h
 case h_2=>cases h
 rename_i σ1 hops;split at h
 case isFalse=>cases h
 rename_i hdB;split at h
 case h_2=>cases h
 rename_i σ2 hopsE;simp only[Option.some.injEq]at h; subst h;have hlen:ops.toList.length=ops.size:=by simp
 rw[hlen]at hm hl1;have hd':=hd;simp only[QpB,Bool.and_eq_true]at hd';obtain⟨⟨⟨he,_⟩,hl⟩,_⟩:=hd';have hch:∀t,m≤t→t < ops.size→Qvn ops.toList t=true:=fun t h1 h2=>by
  have:=List.all_eq_true.1 hl1 t (List.mem_range.2 h2);simp only[Bool.or_eq_true,decide_eq_true_eq]at this;exact this.resolve_left (by omega)
 refine Quk hF hc hst hal hops hdB hd (by omega) I fun g' a' w' I' hu QbK listed hf hs hli=>?_
 have hn:=QU0 hno;refine QWN he hch (ops.size - m) m (Nat.le_refl _) (by omega) listed QbK a' w' hf hs hli ?_
 refine Qbt hF hc ops _ m σ1 σ2 g' a' w' hopsE I' (by rw[hn]; exact List.nodup_nil) (by rw[hn]; intro d h; cases h) hu fun g2 a2 w2 I2=>?_
 obtain⟨g3,I3⟩:=I2.close id;exact hQ g3 a2 w2 I3
end
end Go.Proofs.YticoemblgkemiaaGreatDoor
