/-
  Regions that draw their order: what is ordered there. For any program. No program here.
-/
import Derived.Test.YticoemblgkemiaaGreatDoorZAmB
set_option linter.unusedSectionVars false
set_option linter.unusedSimpArgs false
set_option linter.unusedVariables false
namespace Go.Proofs.YticoemblgkemiaaGreatDoor
open Go.RowKit
def Qla (o:Oper) (aD:Array Bool):Prop:=∀e∈o.after.toList,Region.binds .any e=true->aD.getD e.on false=true
def Qn5 (ops:Array Oper) (aD:Array Bool):Prop:=∀i o,ops[i]?=some o->aD.getD i false=true->Qla o aD
theorem Qde (l:Array Bool) (i j:Nat) (d:Bool) (hi:i < l.size):(l.setIfInBounds i true).getD j d=if j=i then true else l.getD j d:=by
 simp only[Array.getD_eq_getD_getElem?,Array.getElem?_setIfInBounds];by_cases h:i=j
 .subst h; simp[hi]
 .simp[h,show ¬j=i from λe=>h e.symm]
theorem QcW {l:Array Bool} {i:Nat} (hi:i < l.size):l.getD i true=l.getD i false:=by simp[Array.getD_eq_getD_getElem?,hi]
theorem Qbb {ops:Array Oper} {aD:Array Bool} {i:Nat} :i∈Region.ready .any ops aD↔∃o,ops[i]?=some o/\aD.getD i true=false/\Qla o aD:=by
 unfold Region.ready Qla;simp only[List.mem_filter,Zm,Za,Bool.not_eq_true'];constructor
 .rintro⟨h1,h2,h3⟩;refine⟨ops[i],by simp[h1],h2,?_⟩
  simp only[Array.getElem?_eq_getElem h1,Option.map_some,Option.getD_some,Array.all_eq_true]at h3;intro e he hb;obtain⟨k,hk,rfl⟩:=List.getElem_of_mem he;have:=h3 k (by simpa using hk)
  simp only[Array.getElem_toList]at hb|-;simpa[hb]using this
 .rintro⟨o,h1,h2,h3⟩;obtain⟨hi,rfl⟩:=Zj.1 h1;refine⟨hi,h2,?_⟩;simp only[h1,Option.map_some,Option.getD_some,Array.all_eq_true];intro k hk;have:=h3 (ops[i].after[k]) (by simp)
  by_cases hb:Region.binds .any (ops[i].after[k])=true
  .simp[this hb]
  .simp[hb]
theorem Qpi {F:Fence} {n:Nat} {P:Program} {ops:Array Oper} {Q:Exit->Act->World->Prop} (J:Array Bool->Act->World->Prop) (eH:∀(i:Nat) (o:Oper),ops[i]?=some o->∀e∈o.after.toList,Region.binds .any e=true->e.on < i)
  (dK:∀(aD:Array Bool) (i:Nat) (o:Oper) (a:Act) (w:World),aD.size=ops.size->Qn5 ops aD->ops[i]?=some o->aD.getD i true=false->Qla o aD->J aD a w->∀K:Act->World->Prop,(∀a' w',J (aD.setIfInBounds i true) a' w'->K a' w')->wpOpIn F n P ops Q i K a w)
  (cY:∀(aD:Array Bool) (a:Act) (w:World),aD.size=ops.size->(∀i,i < ops.size->aD.getD i true=true)->J aD a w->Q .normal a w):
  ∀(QbK:Nat) (aD:Array Bool) (a:Act) (w:World),aD.size=ops.size->Qn5 ops aD->aD.toList.count false<=QbK->J aD a w->wpAnyIn F n P .any ops Q QbK aD a w:=by
 have hall:∀aD:Array Bool,aD.size=ops.size->Region.ready .any ops aD=[]->∀i,i < ops.size->aD.getD i true=true:=by
  intro aD hs hr i
  induction i using Nat.strongRecOn with
  | ind i ihi=>
   intro hi;by_cases fV:aD.getD i true=true
   .exact fV
   .exfalso
    have hm:i∈Region.ready .any ops aD:=Qbb.2 ⟨ops[i],by simp[hi],by simpa using fV,λe he hb=>by
     have h1:=eH i ops[i] (by simp[hi]) e he hb
     have h2:=ihi e.on h1 (by omega)
     rw[<-QcW (by omega)]; exact h2⟩
    rw[hr]at hm; cases hm
 intro QbK
 induction QbK with
 | zero=>
  intro aD a w hs hd hc hJ;have vC:∀i,i < ops.size->aD.getD i true=true:=by
   intro i hi;by_cases fV:aD.getD i true=true
   .exact fV
   .exfalso
    have:aD[i]'(by omega)=false:=by simpa[Array.getD_eq_getD_getElem?,show i < aD.size by omega]using fV
    have hp:0 < aD.toList.count false:=List.count_pos_iff.2 (by rw[<-this]; simp)
    omega
  refine⟨List.eq_nil_iff_forall_not_mem.2 λj hj=>?_,cY aD a w hs vC hJ⟩;obtain⟨o,h1,h2,_⟩:=Qbb.1 hj;rw[vC j (Zj.1 h1).1]at h2; cases h2
 | succ QbK ih=>
  intro aD a w hs hd hc hJ;refine⟨λhr=>cY aD a w hs (hall aD hs hr) hJ,λi hi=>?_⟩;obtain⟨o,ho,fV,fO⟩:=Qbb.1 hi;have qF:i < aD.size:=by rw[hs]; exact(Zj.1 ho).1
  refine dK aD i o a w hs hd ho fV fO hJ _ λa' w' hJ'=>ih _ a' w' (by simp[hs]) ?_ ?_ hJ'
  .intro j o' hj hl e he hb;rw[Qde _ _ _ _ qF]at hl|-;by_cases h1:e.on=i
   .rw[if_pos h1]
   .rw[if_neg h1];by_cases h2:j=i
    .subst h2;rw[ho]at hj; cases hj;exact fO e he hb
    .rw[if_neg h2]at hl;exact hd j o' hj hl e he hb
  .have hf':aD.toList[i]'(by simpa using qF)=false:=by simpa[Array.getD_eq_getD_getElem?,qF]using fV
   have hp:0 < aD.toList.count false:=List.count_pos_iff.2 (by rw[<-hf']; exact Ze _)
   rw[Array.toList_setIfInBounds,List.count_set (by simpa using qF)]
   simp[hf'];simp at hp;have:=Array.count_pos_iff.2 (show false∈aD from by simpa using hp)
   have hc':=hc;rw[Array.count_toList]at hc';omega
def Qqf (acc:List Nat):List Edge->Nat->Nat
 | [],s=>s
 | e::t,s=>Qqf acc t (if Region.binds .any e then s||| (2 ^ e.on||| acc.getD e.on 0)else s)
def Qik:List Nat->List Oper->List Nat
 | acc,[]=>acc
 | acc,o::t=>Qik (acc++[Qqf acc o.after.toList 0]) t
def QpG (ops:List Oper):List Nat:=Qik [] ops
def QdO:Nat->List Oper->Bool
 | _,[]=>true
 | i,o::t=>o.after.toList.all (λe=>!Region.binds .any e||decide (e.on < i))&&QdO (i+1) t
theorem QpV (acc:List Nat) (i:Nat):∀(l:List Edge) (s:Nat),(Qqf acc l s).testBit i=true->s.testBit i=true\/∃e∈l,Region.binds .any e=true/\(e.on=i\/(acc.getD e.on 0).testBit i=true)
 | [],s,h=> .inl h
 | e::t,s,h=>by
  simp only[Qqf]at h;rcases QpV acc i t _ h with h1 | ⟨e',h1,h2⟩
  .split at h1
   .rename_i hb;simp only[Nat.testBit_or,Bool.or_eq_true]at h1;rcases h1 with h1 | h1 | h1
    .exact .inl h1
    .refine .inr ⟨e,by simp,hb,.inl ?_⟩
     rw[Nat.testBit_two_pow]at h1; simpa using h1
    .exact .inr ⟨e,by simp,hb,.inr h1⟩
   .exact .inl h1
  .exact .inr ⟨e',by simp[h1],h2⟩
theorem Ql5:∀(l:List Oper) (acc:List Nat),(∀j,j < acc.length->(Qik acc l)[j]?=acc[j]?)/\∀j o,l[j]?=some o->∃j3,(Qik acc l)[acc.length+j]?=some (Qqf j3 o.after.toList 0)/\j3.length=acc.length+j/\∀k,k < j3.length->(Qik acc l)[k]?=j3[k]?
 | [],acc=>⟨λj _=>rfl,λj o h=>by simp at h⟩
 | o::t,acc=>by
  simp only[Qik];obtain⟨h1,h2⟩:=Ql5 t (acc++[Qqf acc o.after.toList 0]);refine⟨λj hj=>?_,λj o' hj=>?_⟩
  .rw[h1 j (by simp; omega),List.getElem?_append,if_pos hj]
  .cases j with
   | zero=>
    simp at hj; subst hj;refine⟨acc,?_,rfl,λk hk=>?_⟩
    .rw[Nat.add_zero,h1 acc.length (by simp)]; simp
    .rw[h1 k (by simp; omega),List.getElem?_append,if_pos hk]
   | succ j=>
    obtain⟨j3,q1,q2,q3⟩:=h2 j o' (by simpa using hj)
    refine⟨j3,?_,by simp at q2; omega,q3⟩
    rw[show acc.length+(j+1)=(acc++[Qqf acc o.after.toList 0]).length+j by simp; omega]; exact q1
theorem Qct:∀(l:List Oper) (i:Nat),QdO i l=true->∀j o,l[j]?=some o->∀e∈o.after.toList,Region.binds .any e=true->e.on < i+j
 | [],i,_,j,o,h=>by simp at h
 | o::t,i,hb,j,o',h=>by
  simp only[QdO,Za]at hb;cases j with
  | zero=>
   simp at h; subst h;intro e he sA;have:=Zl.1 hb.1 e he;simpa[sA]using this
  | succ j=>
   have:=Qct t (i+1) hb.2 j o' (by simpa using h)
   intro e he sA;have:=this e he sA;omega
theorem Qfv {ops:Array Oper} (he:QdO 0 ops.toList=true) {aD:Array Bool} (hd:Qn5 ops aD):∀(j:Nat) (o:Oper),ops[j]?=some o->Qla o aD->∀i,((QpG ops.toList).getD j 0).testBit i=true->aD.getD i false=true:=by
 intro j
 induction j using Nat.strongRecOn with
 | ind j ih=>
  intro o ho fO i hi;have ho':ops.toList[j]?=some o:=by simpa using ho
  obtain⟨j3,q1,q2,q3⟩:=(Ql5 ops.toList []).2 j o ho';simp only[List.length_nil,Nat.zero_add]at q1 q2;rw[Zd,QpG,q1,Option.getD_some]at hi;rcases QpV _ _ _ _ hi with h | ⟨e,h1,h2,h3⟩
  .simp at h
  .have aQ:=Qct ops.toList 0 he j o ho' e h1 h2;have jA:=fO e h1 h2;rcases h3 with h3 | h3
   .rw[<-h3]; exact jA
   .have l6:e.on < j:=by omega
    have oR:j < ops.size:=(Zj.1 ho).1;have hoe:ops[e.on]?=some ops[e.on]:=Array.getElem?_eq_getElem (by omega)
    refine ih e.on l6 _ hoe (hd e.on _ hoe jA) i ?_;rw[Zd,QpG,q3 e.on (by omega),<-Zd]; exact h3
section
variable {F:Fence} {n:Nat} {P:Program} {c:Cx} {m0:Nat->Nat->Prop} {w0:Base} {g:Gh} {σ σ':St} {a:Act} {w:World}
theorem QeZ {α:Type} {l:List (Nat×α)} {k:Nat} {x:α} (h:Qt l k=some x):(k,x)∈l:=by
 induction l with
 | nil=>cases h
 | cons p t ih=>
  obtain⟨k',y⟩:=p;simp only[Qt]at h;split at h
  .rename_i e; simp only[Zs]at h; subst h; subst e; simp
  .exact List.mem_cons_of_mem _ (ih h)
theorem QbX:∀(l:List Nat),Qcz l=true->l.Nodup
 | [],_=>List.nodup_nil
 | x::t,h=>by
  simp only[Qcz,Za,Bool.not_eq_true',List.contains_eq_mem,decide_eq_false_iff_not]at h;exact List.nodup_cons.2 ⟨h.1,QbX t h.2⟩
def Q5 (al:List Nat) (g:Gh):Gh:= { g with box:=λi=>if al.contains i then none else g.box i,used:=λt=>g.used t/\t < 1000000}
theorem QeH {al:List Nat} :∀{caps:List (Sum Nat D)} {vs:List Value},QdV al caps=true->CapsR g w caps vs->CapsR (Q5 al g) w caps vs
 | [],_,_,h=>h
 | .inl b::t,vs,hp,h=>by
  simp only[QdV,Za,Bool.not_eq_true']at hp;simp only[CapsR]at h|-;obtain⟨v,vt,h1,⟨blk,h2,h3⟩,h4⟩:=h;exact⟨v,vt,h1,⟨blk,by simp only[Q5]; rw[if_neg (by rw[hp.1]; simp)]; exact h2,h3⟩,QeH hp.2 h4⟩
 | .inr d::t,vs,hp,h=>by
  simp only[QdV]at hp;simp only[CapsR]at h|-;obtain⟨v,vt,h1,h2,h4⟩:=h;exact⟨v,vt,h1,h2,QeH hp h4⟩
theorem Qke {al:List Nat} {base:Nat} {toks:List Nat} {x:X} {v:Value} (hp:x.plain al=true) (h:RelX g w base toks x v):RelX (Q5 al g) w base toks x v:=by
 cases x with
 | d y=>exact h
 | agz cs=>exact h
 | agb cs=>simp only[X.plain]at hp; cases hp
 | fx f a caps=>
  obtain⟨fs,cs,h1,h2,h3⟩:=h;exact⟨fs,cs,h1,h2,QeH (by simpa only[X.plain]using hp) h3⟩
 | loc b o=>
  obtain⟨blk,h1,h2⟩:=h;simp only[X.plain,Bool.not_eq_true']at hp;exact⟨blk,by simp only[Q5]; rw[if_neg (by rw[hp]; simp)]; exact h1,h2⟩
 | bs b o n k=>
  obtain⟨blk,c,h1,h2⟩:=h;simp only[X.plain,Bool.not_eq_true']at hp;exact⟨blk,c,by simp only[Q5]; rw[if_neg (by rw[hp]; simp)]; exact h1,h2⟩
 | mp b=>
  obtain⟨blk,h1,h2⟩:=h;simp only[X.plain,Bool.not_eq_true']at hp;exact⟨blk,by simp only[Q5]; rw[if_neg (by rw[hp]; simp)]; exact h1,h2⟩
 | sl k rows own=>
  cases own with
  | ex=>exact h
  | tok t=>
   simp only[X.plain,decide_eq_true_eq]at hp;exact⟨h.1,⟨h.2.1,hp⟩,h.2.2⟩
  | own t=>
   simp only[X.plain,decide_eq_true_eq]at hp;exact⟨h.1,⟨h.2.1,hp⟩,h.2.2⟩
theorem QAL {α:Type} {l:List (Nat×α)} {al:List Nat} (h:l.all (λp=>!al.contains p.1)=true) {d:Nat} (hd:d∈al):Qt l d=none:=by
 cases hg:Qt l d with
 | none=>rfl
 | some x=>
  have:=Zl.1 h _ (QeZ hg);simp only[Bool.not_eq_true',List.contains_eq_mem,decide_eq_false_iff_not]at this;exact absurd hd this
theorem Inv.start (I:Inv c.N m0 w0 g σ a w) {al:List Nat} (aN:∀d∈al,w0.out d=none) (h:Qav al σ=true) (fH:∀i cs,Qt σ.boxes i=some cs->∀x∈cs,x.plain al=true):
  Inv c.N m0 w0 (Q5 al g) σ a w/\(∀d∈al,(Q5 al g).box d=none/\Qt σ.maps d=none)/\∀i,¬(Q5 al g).used (QaN i):=by
 simp only[Qav,Za]at h;obtain⟨⟨⟨⟨_,h0⟩,h1⟩,h2⟩,h3⟩:=h;have hb:∀i b,(Q5 al g).box i=some b->g.box i=some b:=by
  intro i b hi;simp only[Q5]at hi;split at hi
  .cases hi
  .exact hi
 refine⟨⟨I.below,I.size,I.defers,I.lt,I.old,I.new,λt x hx=>?_,λi b hi=>I.boxb i b (hb i b hi),λi j b hi hj=>I.boxi i j b (hb i b hi) (hb j b hj),λt b ht=>?_,I.toki,λb cs hc blk aG=>?_,λi b hi=>?_,I.fz,λi mc hi blk aG=>I.maps i mc hi blk (hb i blk aG),I.cells⟩,λd hd=>⟨?_,QAL h3 hd⟩,λi hi=>?_⟩
 .exact Qke (Zl.1 h1 _ (QeZ hx)) (I.tmps t x hx)
 .obtain⟨k1,k2,k3⟩:=I.tokb t b ht;exact⟨k1,k2,λi hi=>k3 i (hb i b hi)⟩
 .obtain⟨vs,ty,k1,k2,k3⟩:=I.boxes b cs hc blk (hb b blk aG);exact⟨vs,ty,k1,k2,λj x v q1 q2=>⟨(k3 j x v q1 q2).1,Qke (fH b cs hc x (List.mem_of_getElem? q1)) (k3 j x v q1 q2).2⟩⟩
 .have h3:=I.out i b hi;simp only[Q5];rw[if_neg]
  .exact h3
  .intro hc;rw[aN i (by simpa using hc)]at hi; cases hi
 .simp only[Q5]; rw[if_pos (by simpa using hd)]
 .have:=hi.2;unfold QaN at this; omega
theorem Inv.close (I:Inv c.N m0 w0 g σ a w) (id:Nat):∃g',Inv c.N m0 w0 g' (c.close id σ) a w:=by
 have C0:Cl g σ.toks { g with tok:=λ_=>none,used:=λ_=>False} σ.toks []:=⟨rfl,rfl,(λs h=>h.elim),(λs b h=>by cases h),(λs t b h=>by cases h),(λt h=>h)⟩
 obtain⟨g1,C1,T1,h1⟩:=QfP (w:=w) (base:=w0.heap.size) I.toki (toks:=σ.toks) (tmps:=σ.tmps) (f:=λt=>a.tmps.getD t undef) I.tmps (c.kp id) _ _ _ C0;obtain⟨g2,C2,T2,h2⟩:=Qgk (w:=w) (base:=w0.heap.size) I.toki c.kb I.boxes (Qf5 σ.boxes (Qd8 (Qe8 σ.tmps (c.kp id) σ.toks []).1)++QoE c.kb) g1 _ _ C1;refine⟨g2,⟨I.below,I.size,I.defers,by rw[C2.imm]; exact I.lt,by rw[C2.imm]; exact I.old,by rw[C2.imm]; exact I.new,λt x hx=>RelX.tr T2 (h1 t x hx),by rw[C2.box,C2.imm]; exact I.boxb,by rw[C2.box]; exact I.boxi,λt b hb=>?_,C2.inj,h2,by rw[C2.box]; exact I.out,I.fz,λi mc hi blk aG=>I.maps i mc (QyS hi) blk (by rw[C2.box]at aG; exact aG),I.cells⟩⟩
 obtain⟨_,t',k1,_⟩:=C2.tok t b hb;rw[C2.box]; exact I.tokb t' b k1
theorem QbF (I:Inv c.N m0 w0 g σ a w) (ops:Array Oper) (o:Oper) {b:Bool} (h:Qa5 ops.toList σ o=some b):Region.wanted o (yielded ops a.tmps)=b:=by
 unfold Qa5 at h;unfold Region.wanted;cases hg:o.guard with
 | none=>rw[hg]at h; simpa using h
 | some p=>
  obtain⟨j,fN⟩:=p;rw[hg]at h;simp only at h|-;have e:ops.toList[j]?=ops[j]?:=by simp
  rw[e]at h;unfold yielded;cases hj:(ops[j]?).bind (·.dst)with
  | none=>rw[hj]at h; cases h
  | some t=>
   rw[hj]at h;simp only[Option.bind_some]at h|-;split at h
   .rename_i bb hx;have hr:=I.tmps t _ hx;simp only[RelX,Rel]at hr;have hv:a.tmps[t]?=some (.bool bb):=by
     rw[Array.getD_eq_getD_getElem?]at hr;cases hh:a.tmps[t]? with
     | none=>rw[hh]at hr; simp[undef]at hr
     | some v=>rw[hh]at hr; simp at hr; rw[hr]
    rw[hv];simp only[Zs]at h; subst h;cases bb<;>cases fN<;>rfl
   .rename_i vs hx;have hr:=I.tmps t _ hx;simp only[RelX,Rel]at hr;simp only[Zs]at h; subst h;rw[Array.getD_eq_getD_getElem?]at hr;cases hh:a.tmps[t]? with
    | none=>cases fN<;>rfl
    | some v=>rw[hh]at hr; simp at hr; subst hr; cases fN<;>rfl
   .cases h
theorem Qad (o:Oper) (t:List Oper):QR (o::t)=(match Qai o with | some d=>[d] | none=>[])++QR t:=by
 simp only[QR]; cases Qai o<;>rfl
theorem Qcl {Γ:Tys} {eqs:List (TypeId×Nat)} {Δ:Nat->List D->Option D} {o:Oper} {ev:Operand->X} {boxes:List (Nat×List X)} {toks:List Nat} {cs:NewC} (h:aop Γ eqs Δ o.op ev boxes toks=some (.new cs)):Qai o=o.dst:=by
 obtain⟨dst,op,ty,pos,after,guard⟩:=o;have key:∀x:Option X,Res.ofX x≠some (.new cs):=λx h=>by cases x<;>simp[Res.ofX]at h
 cases op<;>simp only[aop]at h<;>first
  | rfl
  | (cases h; done)
  | exact absurd h (key _)
  | (simp at h; done)
  | skip
 case store T x y=>
  (repeat' split at h)<;>first | cases h | simp at h
 case buildSlice T n p=>
  (repeat' split at h)<;>first | cases h | simp at h
 case call cc=>
  obtain⟨callee,args,argTypes⟩:=cc;unfold Qog at h;simp only at h;split at h
  ·(repeat' split at h)<;>first | (cases h; done) | exact absurd h (key _)
  .split at h
   .split at h
    .rename_i nQ;simp only[Qai,nQ,if_true]
    .unfold QgU at h
     (repeat' split at h)<;>first | (cases h; done) | (simp at h; done)
   .cases h
  ·(repeat' split at h)<;>first | (cases h; done) | exact absurd h (key _)
  ·(repeat' split at h)<;>first | (cases h; done) | exact absurd h (key _)
  ·(repeat' split at h)<;>first | (cases h; done) | (simp at h; done) | (obtain⟨k,rows,_,hd⟩:=Qqu h; cases hd) | (obtain⟨d,hd⟩:=QpN h; cases hd)
  .cases h
theorem Qsj {N i:Nat} {σ σ':St} {d:Option Nat} {r:Res} (h:σ.put N i d r=some σ'):σ'.maps=σ.maps:=by
 unfold St.put at h;split at h
 .unfold St.res at h
  (repeat' split at h)<;>first | (cases h; done) | (simp only[Zs]at h; subst h; rfl)
 .cases h
theorem Qbt (hF:FreeF F) (hc:CxOk P c) (ops:Array Oper) {Q:Exit->Act->World->Prop} :∀(rest:List Oper) (i:Nat) (σ σ':St) (g:Gh) (a:Act) (w:World),c.opsE ops.toList i rest σ=some σ'->Inv c.N m0 w0 g σ a w->(QR rest).Nodup->(∀d∈QR rest,g.box d=none/\Qt σ.maps d=none)->(∀j,i<=j->¬g.used (QaN j))->
  (∀g' a' w',Inv c.N m0 w0 g' σ' a' w'->Q .normal a' w')->wpListIn F n P ops Q rest a w
 | [],i,σ,σ',g,a,w,h,I,_,_,_,hQ=>by
  simp only[Cx.opsE,Zs]at h; subst h;exact hQ g a w I
 | o::t,i,σ,σ',g,a,w,h,I,bZ,aN,cR,hQ=>by
  simp only[Cx.opsE]at h;split at h
  .rename_i σ1 dE;have iB:(QR t).Nodup:=by
    rw[Qad]at bZ;exact(List.nodup_append.1 bZ).2.1
   have halt:∀d∈QR t,d∈QR (o::t):=λd hd=>by rw[Qad]; simp[hd]
   unfold Cx.stepE at dE;split at dE
   .rename_i σ2 hs;simp only[Zs]at dE; subst dE;have h1:c.ops ops.toList i [o] σ=some σ2:=by simp only[Cx.ops,hs]
    unfold Cx.step at hs;split at hs
    .rename_i hw;have j4:=QbF I ops o hw;unfold wpListIn;rw[if_pos j4];split at hs
     .rename_i r hr;refine Qe0 hc.ty hc.eq hc.del hF hr hs I (λcs e d hd=>?_) (cR i (Zr _)) λg' a' w' I' hb hu _=>?_
      .subst e;refine aN d ?_;rw[Qad,Qcl hr,hd]; simp
      .refine Qbt hF hc ops t (i+1) σ2 σ' g' a' w' h I' iB (λd hd=>⟨hb d (aN d (halt d hd)).1 ?_,by rw[Qsj hs]; exact(aN d (halt d hd)).2⟩) (λj hj mG=>?_) hQ
       .by_cases cH:∃cs,r= .new cs
        .right;intro e;obtain⟨cs,bM⟩:=cH;subst bM;rw[Qad,Qcl hr,e]at bZ;simp only[List.cons_append,List.nil_append,List.nodup_cons]at bZ;exact bZ.1 hd
        .left; intro cs e; exact cH ⟨cs,e⟩
       .rcases hu _ mG with h1 | h1
        .exact cR j (by omega) h1
        .unfold QaN at h1; omega
     .cases hs
    .rename_i hw;have j4:=QbF I ops o hw;unfold wpListIn;rw[if_neg (by rw[j4]; simp)]
     refine⟨λf _=>hF.fn f,?_⟩;have hp:PutOk c.N i σ o.dst .skip σ2:=hs;have hd:=hp.dst;have hg:=hp.get;simp only[St.res,Zs]at hg; subst hg;exact Qbt hF hc ops t (i+1) _ σ' g _ w h (I.put hd (x:= .d (.v (.tuple #[]))) (v:=undef) (by simp only[RelX,Rel]; rfl)) iB (λd hd=>aN d (halt d hd)) (λj hj=>cR j (by omega)) hQ
    .cases hs
   .split at dE
    .rename_i hw;have j4:=QbF I ops o hw;unfold wpListIn;rw[if_pos j4];refine Qjw hF hc dE I (λd hd=>aN d (by rw[Qad,hd]; simp)) (cR i (Zr _)) λg' a' w' I' hb hu=>?_
     refine Qbt hF hc ops t (i+1) σ1 σ' g' a' w' h I' iB (λd hd=>hb d (aN d (halt d hd)) λe=>?_) (λj hj mG=>?_) hQ
     .rw[Qad,e]at bZ;simp only[List.cons_append,List.nil_append,List.nodup_cons]at bZ;exact bZ.1 hd
     .rcases hu _ mG with h1 | h1
      .exact cR j (by omega) h1
      .unfold QaN at h1; omega
    .cases dE
  .cases h
theorem QaJ {al:List Nat} (h:Qav al σ=true):Qcz al=true/\∀i cs,Qt σ.boxes i=some cs->∀x∈cs,x.plain al=true:=by
 simp only[Qav,Za]at h;obtain⟨⟨⟨⟨bZ,_⟩,_⟩,dN⟩,_⟩:=h;refine⟨bZ,λi cs hi x hx=>?_⟩;have h:=Zl.1 dN _ (QeZ hi);simp only[Za]at h;exact Zl.1 h.2 x hx
theorem Qo1 (hF:FreeF F) (hc:CxOk P c) {id:Nat} {ops:Array Oper} (h:c.regionE id ops.toList σ=some σ') (aN:∀d∈QR ops.toList,w0.out d=none) (I:Inv c.N m0 w0 g σ a w) {Q:Exit->Act->World->Prop} (hQ:∀g' a' w',Inv c.N m0 w0 g' σ' a' w'->Q .normal a' w'):(Code.region id ops false).wpIn F n P Q a w:=by
 unfold Cx.regionE at h;split at h
 .rename_i bT;split at h
  .rename_i σ1 dB;simp only[Zs]at h; subst h;obtain⟨bZ,c7⟩:=QaJ bT;obtain⟨I1,mH,cR⟩:=I.start aN bT c7;refine wpIn_region_list (Qbt hF hc ops ops.toList 0 σ σ1 _ a w dB I1 (QbX _ bZ) mH (λj _=>cR j) λg' a' w' I'=>?_);obtain⟨g2,I2⟩:=I'.close id;exact hQ g2 a' w' I2
  .cases h
 .cases h
end
structure En where
 i:Nat
 d:Option Nat
 r:Res
def En.x (e:En):X:=
 match e.r with
 | .q x=>x
 | .skip=> .d (.v (.tuple #[]))
 | .got d=> .d d
 | .new cs=>cs.x (e.d.getD 0)
 | .lay k rows=> .sl k rows .ex
 | .set _ _ _=> .d .top
 | .app _ k rows=> .sl k rows (.tok (QaN e.i))
def En.tm (u:Nat) (e:En) (s:Option X):Option X:=if e.d=some u then some e.x else s
def En.bx (b:Nat) (e:En) (s:Option (List X)):Option (List X):=
 match e.r with
 | .new cs=>if e.d=some b then some cs.cells else s
 | .set b' off cs=>if b'=b then s.map (λold=>QCj old off cs)else s
 | _=>s
def En.tk (e:En) (s:List Nat):List Nat:=match e.r with | .app t _ _=>Qb5 s t (QaN e.i) | _=>s
def En.boxes (e:En) (l:List (Nat×List X)):List (Nat×List X):=
 match e.r with
 | .new cs=>match e.d with | some d=>(d,cs.cells)::l | none=>l
 | .set b off cs=>match Qt l b with | some old=>(b,QCj old off cs)::l | none=>l
 | _=>l
def En.ap (e:En) (σ:St):St:= { tmps:=Qlm σ.tmps e.d e.x,boxes:=e.boxes σ.boxes,toks:=e.tk σ.toks,maps:=σ.maps}
theorem QoN {σ σ':St} {i:Nat} {d:Option Nat} {r:Res} (h:σ.res i d r=some σ'):σ'=(⟨i,d,r⟩:En).ap σ:=by
 cases r with
 | q x=>simp only[St.res,Zs]at h; rw[<-h]; rfl
 | skip=>simp only[St.res,Zs]at h; rw[<-h]; rfl
 | got x=>simp only[St.res,Zs]at h; rw[<-h]; rfl
 | lay k rows=>simp only[St.res,Zs]at h; rw[<-h]; rfl
 | new cs=>cases d with
  | none=>cases h
  | some d=>simp only[St.res,Zs]at h; rw[<-h]; rfl
 | set b off cs=>
  simp only[St.res]at h;cases hb:Qt σ.boxes b with
  | none=>rw[hb]at h; cases h
  | some old=>
   rw[hb]at h; simp only[Zs]at h; rw[<-h];simp[En.ap,En.boxes,En.x,En.tk,hb]
 | app t k rows=>cases d with
  | none=>cases h
  | some d=>simp only[St.res,Zs]at h; rw[<-h]; rfl
theorem QJf (e:En) (σ:St) (u:Nat):Qt (e.ap σ).tmps u=e.tm u (Qt σ.tmps u):=by
 simp only[En.ap,En.tm,Qlm];cases h:e.d with
 | none=>simp
 | some d=>
  simp only[Qt];by_cases hu:u=d
  .subst hu; simp
  .rw[if_neg hu,if_neg (by simpa using λe=>hu e.symm)]
theorem QKd (e:En) (σ:St) (b:Nat):Qt (e.ap σ).boxes b=e.bx b (Qt σ.boxes b):=by
 simp only[En.ap,En.boxes,En.bx];cases e.r with
 | new cs=>
  cases h:e.d with
  | none=>simp
  | some d=>
   simp only[Qt];by_cases hu:b=d
   .subst hu; simp
   .rw[if_neg hu,if_neg (by simpa using λe=>hu e.symm)]
 | set b' off cs=>
  simp only;cases hb:Qt σ.boxes b' with
  | none=>
   by_cases fG:b'=b
   .subst fG; rw[if_pos rfl,hb]; rfl
   .rw[if_neg fG]
  | some old=>
   simp only[Qt];by_cases fG:b'=b
   .subst fG; rw[if_pos rfl,if_pos rfl,hb]; rfl
   .rw[if_neg fG,if_neg (λe=>fG e.symm)]
 | _=>rfl
def Qbu (X:Nat->Bool):List En->St->St
 | [],σ=>σ
 | e::t,σ=>Qbu X t (if X e.i then e.ap σ else σ)
def comp {S:Type} (X:Nat->Bool) (F:En->S->S):List En->S->S
 | [],s=>s
 | e::t,s=>comp X F t (if X e.i then F e s else s)
theorem Qd1 (X:Nat->Bool) (u:Nat):∀(l:List En) (σ:St),Qt (Qbu X l σ).tmps u=comp X (En.tm u) l (Qt σ.tmps u)
 | [],σ=>rfl
 | e::t,σ=>by
  simp only[Qbu,comp];rw[Qd1 X u t];congr 1;split
  .exact QJf e σ u
  .rfl
theorem Qgj (X:Nat->Bool) (b:Nat):∀(l:List En) (σ:St),Qt (Qbu X l σ).boxes b=comp X (En.bx b) l (Qt σ.boxes b)
 | [],σ=>rfl
 | e::t,σ=>by
  simp only[Qbu,comp];rw[Qgj X b t];congr 1;split
  .exact QKd e σ b
  .rfl
theorem QhW (X:Nat->Bool):∀(l:List En) (σ:St),(Qbu X l σ).toks=comp X En.tk l σ.toks
 | [],σ=>rfl
 | e::t,σ=>by
  simp only[Qbu,comp];rw[QhW X t];congr 1;split<;>rfl
theorem Qb0 {S:Type} {X Y:Nat->Bool} {F:En->S->S} :∀(l:List En) (s:S),(∀e∈l,X e.i=Y e.i\/∀s,F e s=s)->comp X F l s=comp Y F l s
 | [],s,_=>rfl
 | e::t,s,h=>by
  simp only[comp];rw[Qb0 t _ λe' he=>h e' (by simp[he])]
  congr 1;rcases h e (by simp)with h1 | h1
  .rw[h1]
  .rw[h1]; simp
theorem Qfz {S:Type} {X:Nat->Bool} {F:En->S->S} :∀(l:List En) (s:S),(∀e∈l,X e.i=false\/∀s,F e s=s)->comp X F l s=s
 | [],s,_=>rfl
 | e::t,s,h=>by
  simp only[comp];rw[Qfz t _ λe' he=>h e' (by simp[he])]
  rcases h e (by simp)with h1 | h1
  .rw[h1]; simp
  .rw[h1]; simp
theorem QeL {S:Type} (X:Nat->Bool) (F:En->S->S):∀(l k:List En) (s:S),comp X F (l++k) s=comp X F k (comp X F l s)
 | [],k,s=>rfl
 | e::t,k,s=>by simp only[List.cons_append,comp]; exact QeL X F t k _
theorem QgS {S:Type} {X Y:Nat->Bool} {F:En->S->S} (A B:List En) (e:En) (s:S) (hX:X e.i=false) (hY:Y e.i=true) (hA:∀e'∈A++B,Y e'.i=X e'.i) (hB:∀e'∈B,X e'.i=false\/∀s,F e' s=s):
  comp Y F (A++e::B) s=F e (comp X F (A++e::B) s):=by
 rw[QeL,QeL];simp only[comp,hX,hY,if_true,Bool.false_eq_true,if_false];rw[Qb0 (X:=Y) (Y:=X) A s λe' he=> .inl (hA e' (by simp[he]))]
 rw[Qfz B _ hB];rw[Qfz B _ λe' he=>(hB e' he).imp (λh=>by rw[hA e' (by simp[he])]; exact h) id]
def QF5 (c:Cx) (ops:List Oper) (o:Oper) (σ:St) (r:Res):Prop:=
 (Qa5 ops σ o=some true/\aop c.Γ c.eqs c.Δ o.op σ.ev σ.boxes σ.toks=some r)\/(Qa5 ops σ o=some false/\r= .skip)
theorem QkR (c:Cx) (ops:List Oper):∀(rest:List Oper) (i:Nat) (σ σF:St),c.ops ops i rest σ=some σF->
  ∃L:List En,L.length=rest.length/\σF=Qbu (λ_=>true) L σ/\∀j o,rest[j]?=some o->∃r,L[j]?=some ⟨i+j,o.dst,r⟩/\Qh0 c.N o.dst=true/\QF5 c ops o (Qbu (λk=>decide (k < i+j)) L σ) r/\
   ((Qbu (λk=>decide (k < i+j)) L σ).res (i+j) o.dst r).isSome=true
 | [],i,σ,σF,h=>by
  simp only[Cx.ops,Zs]at h;exact⟨[],rfl,h.symm,λj o h=>by simp at h⟩
 | o::t,i,σ,σF,h=>by
  simp only[Cx.ops]at h;split at h
  .rename_i σ1 hs;obtain⟨r,hr,hp⟩:∃r,QF5 c ops o σ r/\σ.put c.N i o.dst r=some σ1:=by
    unfold Cx.step at hs;split at hs
    .rename_i hw;split at hs
     .rename_i r hr; exact⟨r,.inl ⟨hw,hr⟩,hs⟩
     .cases hs
    .rename_i hw; exact⟨.skip,.inr ⟨hw,rfl⟩,hs⟩
    .cases hs
   unfold St.put at hp;split at hp
   .rename_i oS;obtain⟨L,l1,l2,l3⟩:=QkR c ops t (i+1) σ1 σF h;have fM:=QoN hp;have kZ:∀(L':List En) (σ:St),(∀e∈L',i<=e.i)->Qbu (λk=>decide (k < i)) L' σ=σ:=by
     intro L'
     induction L' with
     | nil=>intro σ _; rfl
     | cons e t ih=>
      intro σ he;simp only[Qbu];have:=he e (by simp)
      rw[if_neg (by simp; omega)]
      exact ih σ λe' h'=>he e' (by simp[h'])
    have eG:∀e∈L,i+1<=e.i:=by
     intro e he;obtain⟨j,hj,rfl⟩:=List.getElem_of_mem he;have j5:j < t.length:=by omega
     obtain⟨r',h1,_⟩:=l3 j t[j] (Zg j5);rw[Zg hj]at h1;simp only[Zs]at h1;rw[h1]; show i+1<=i+1+j; omega
    refine⟨⟨i,o.dst,r⟩::L,by simp[l1],by simp only[Qbu,if_true]; rw[<-fM]; exact l2,λj o' hj=>?_⟩
    cases j with
    | zero=>
     simp at hj; subst hj;have hf:Qbu (λk=>decide (k < i+0)) (⟨i,o.dst,r⟩::L) σ=σ:=by
      rw[Nat.add_zero];exact kZ _ σ λe he=>by
       rcases List.mem_cons.1 he with rfl | he
       .exact Zr _
       .have:=eG e he; omega
     refine⟨r,rfl,oS,by rw[hf]; exact hr,by rw[hf,Nat.add_zero,hp]; rfl⟩
    | succ j=>
     obtain⟨r',h1,h2,h3,h4⟩:=l3 j o' (by simpa using hj)
     have hf:Qbu (λk=>decide (k < i+(j+1))) (⟨i,o.dst,r⟩::L) σ=Qbu (λk=>decide (k < i+1+j)) L σ1:=by
      simp only[Qbu];rw[if_pos (by simp),<-fM,show i+(j+1)=i+1+j by omega]
     rw[hf,show i+(j+1)=i+1+j by omega]
     exact⟨r',by simpa using h1,h2,h3,h4⟩
   .cases hp
  .cases h
def Qe4 (o:Oper):List Nat:=o.op.operands.toList.filterMap λ| .tmp t=>some t | _=>none
def Qte (ops:List Oper) (o:Oper):List Nat:=match o.guard with | some (j,_)=>((ops[j]?).bind (·.dst)).toList | none=>[]
def QgR (ops:List Oper) (o:Oper):List Nat:=Qe4 o++Qte ops o++o.dst.toList
def Qkl:Op->Bool
 | .call cc=>(match cc.callee with | .builtin .append=>true | .value f=>QCb f | _=>false)
 | _=>false
def isW (op:Op):Bool:=match op with | .store _ _ _=>true | _=>false
def isVC (c:Call):Bool:=match c.callee with | .value _=>true | _=>false
def QvR (op:Op):Bool:=match op with | .load _ _=>true | .call c=>isVC c | op=>isW op
theorem QyH {op:Op} (h:isW op=true):QvR op=true:=by cases op<;>first | (cases h; done) | rfl
def Qhm (u:Nat):List Oper->Bool
 | []=>false
 | o::t=>if Qai o=some u then !(QhL t).contains u&&!(Qe4 o).contains u else !(Qe4 o).contains u&&!(o.dst==some u)&&Qhm u t
theorem Qsa {ops:List Oper} {i u:Nat} {o:Oper} (h:ops[i]?=some o) (hd:o.dst=some u):u∈QhL ops:=List.mem_filterMap.2 ⟨o,List.mem_of_getElem? h,hd⟩
theorem QiS {o:Oper} {u:Nat} (h:Qai o=some u):o.dst=some u:=by
 unfold Qai at h;split at h<;>first | exact h | (cases h; done) | (split at h<;>first | exact h | (cases h; done))
theorem QsQ {u:Nat} :∀{ops:List Oper},Qhm u ops=true->∃(a:Nat) (o:Oper),ops[a]?=some o/\Qai o=some u/\(∀(i:Nat) (o':Oper),ops[i]?=some o'->o'.dst=some u->i=a)/\∀(i:Nat) (o':Oper),ops[i]?=some o'->u∈Qe4 o'->a < i
 | [],h=>by cases h
 | o::t,h=>by
  unfold Qhm at h;by_cases ha:Qai o=some u
  .rw[if_pos ha]at h;simp only[Za,Bool.not_eq_true',List.contains_eq_mem,decide_eq_false_iff_not]at h;refine⟨0,o,rfl,ha,λi o' hi hd=>?_,λi o' hi hu=>?_⟩
   .cases i with
    | zero=>rfl
    | succ i=>exact absurd (Qsa (by simpa using hi) hd) h.1
   .cases i with
    | zero=>simp at hi; subst hi; exact absurd hu h.2
    | succ i=>omega
  .rw[if_neg ha]at h;simp only[Za,Bool.not_eq_true',List.contains_eq_mem,decide_eq_false_iff_not]at h;obtain⟨⟨h1,h2⟩,h3⟩:=h;obtain⟨a,oa,k1,k2,k3,k4⟩:=QsQ h3;refine⟨a+1,oa,by simpa using k1,k2,λi o' hi hd=>?_,λi o' hi hu=>?_⟩
   .cases i with
    | zero=>simp at hi; subst hi; rw[hd]at h2; simp at h2
    | succ i=>rw[k3 i o' (by simpa using hi) hd]
   .cases i with
    | zero=>simp at hi; subst hi; exact absurd hu h1
    | succ i=>have:=k4 i o' (by simpa using hi) hu; omega
def QlB (ops:List Oper) (u v:Nat):Bool:=(Qhm u ops&&!(QhL ops).contains v)||(Qhm v ops&&!(QhL ops).contains u)||(Qhm u ops&&Qhm v ops&&u != v)
def Qg6 (ops:List Oper) (a b:Oper):Bool:=
 match Qbj a.op,Qbj b.op with
 | some u,some v=>QlB ops u v
 | _,_=>false
theorem Qro (ops:List Oper) (u v:Nat):QlB ops u v=QlB ops v u:=by
 unfold QlB;rw[Bool.or_comm (Qhm u ops&&!(QhL ops).contains v),Bool.and_comm (Qhm u ops) (Qhm v ops),bne_comm]
theorem Qu1 (ops:List Oper) (a b:Oper):Qg6 ops a b=Qg6 ops b a:=by
 unfold Qg6;cases Qbj a.op<;>cases Qbj b.op<;>simp only;exact Qro ops _ _
def Qg9 (ops:List Oper) (D:List (Nat×Nat)) (i j:Nat) (a b:Oper):Bool:=Qg6 ops a b||D.contains (i,j)||D.contains (j,i)
theorem Qrk (ops:List Oper) (D:List (Nat×Nat)) (i j:Nat) (a b:Oper):Qg9 ops D i j a b=Qg9 ops D j i b a:=by
 unfold Qg9;rw[Qu1,Bool.or_assoc,Bool.or_assoc,Bool.or_comm (D.contains (i,j))]
def Qid (ops:List Oper) (D:List (Nat×Nat)) (i j:Nat) (a b:Oper):Bool:=
 (match a.dst with | some d=>(QgR ops b).contains d | none=>false)||(match b.dst with | some d=>(QgR ops a).contains d | none=>false)||(((isW a.op&&QvR b.op)||(QvR a.op&&isW b.op))&&!Qg9 ops D i j a b)||(Qkl a.op&&Qkl b.op)
def QrL (ops:List Oper) (D:List (Nat×Nat)) (M:List Nat):Nat->List Oper->Bool
 | _,[]=>true
 | j,b::t=>(ops.take j).zipIdx.all (λ(a,i)=>!Qid ops D i j a b||(M.getD j 0).testBit i)&&QrL ops D M (j+1) t
def QiG (D:List (Nat×Nat)) (ops:List Oper):Bool:=QdO 0 ops&&QrL ops D (QpG ops) 0 ops
theorem QjW (ops:List Oper) (D:List (Nat×Nat)) (M:List Nat):∀(l:List Oper) (k:Nat),QrL ops D M k l=true->∀j b,l[j]?=some b->∀i a,i < k+j->ops[i]?=some a->Qid ops D i (k+j) a b=true->(M.getD (k+j) 0).testBit i=true
 | [],k,_,j,b,h=>by simp at h
 | b0::t,k,hp,j,b,h=>by
  simp only[QrL,Za]at hp;cases j with
  | zero=>
   simp at h; subst h;intro i a hi ha hc;have:=Zl.1 hp.1 (a,i) (by
    rw[List.mem_zipIdx_iff_getElem?];simp only;rw[List.getElem?_take,if_pos (by omega)]; exact ha)
   rw[Nat.add_zero]at hc;simpa[hc]using this
  | succ j=>
   intro i a hi ha hc;rw[show k+(j+1)=k+1+j by omega]at hc|-
   exact QjW ops D M t (k+1) hp.2 j b (by simpa using h) i a (by omega) ha hc
theorem Qtr (ops:List Oper) (D:List (Nat×Nat)) (i j:Nat) (a b:Oper):Qid ops D i j a b=Qid ops D j i b a:=by
 unfold Qid;rw[Qrk];cases Qg9 ops D j i b a<;>cases isW a.op<;>cases isW b.op<;>cases QvR a.op<;>cases QvR b.op<;>cases Qkl a.op<;>cases Qkl b.op<;>simp[Bool.or_comm]
theorem Quc {ops:Array Oper} {D:List (Nat×Nat)} (hd:QiG D ops.toList=true) {aD:Array Bool} (lU:Qn5 ops aD) {i j:Nat} {oi oj:Oper} (hi:ops[i]?=some oi) (hj:ops[j]?=some oj) (fV:aD.getD i false=false) (eH:Qla oi aD) (hc:Qid ops.toList D i j oi oj=true) (aS:j≠i):
  aD.getD j false=decide (j < i):=by
 simp only[QiG,Za]at hd;obtain⟨he,hp⟩:=hd;rcases Nat.lt_or_ge j i with h | h
 .rw[decide_eq_true h];refine Qfv he lU i oi hi eH j ?_;have:=QjW ops.toList D _ ops.toList 0 hp i oi (by simpa using hi) j oj (by omega) (by simpa using hj) (by rw[Qtr,Nat.zero_add]; exact hc)
  simpa using this
 .have aQ:i < j:=by omega
  rw[decide_eq_false (by omega)]
  cases vD:aD.getD j false with
  | false=>rfl
  | true=>
   have hm:=QjW ops.toList D _ ops.toList 0 hp j oj (by simpa using hj) i oi (by omega) (by simpa using hi) (by rw[Nat.zero_add]; exact hc)
   have:=Qfv he lU j oj hj (lU j oj hj vD) i (by simpa using hm)
   rw[fV]at this; cases this
theorem QBh {x:X} {b off:Nat} (h:x.soft= .loc b off):x= .loc b off:=by
 cases x with
 | d y=>cases y<;>simp[X.soft]at h
 | _=>exact h
theorem Qdp {ev iC:Operand->X} (l:List Operand) (h:∀x∈l,ev x=iC x):l.map ev=l.map iC:=List.map_congr_left h
def Qc1:Op->List Operand
 | .load _ x=>[x]
 | .store _ x _=>[x]
 | op=>op.operands.toList
theorem QuJ {op:Op} {x:Operand} (h:x∈Qc1 op):x∈op.operands.toList:=by
 cases op<;>first | exact h | (simp only[Qc1,List.mem_singleton]at h; subst h; simp[Op.operands])
theorem Qoq {Γ:Tys} {eqs:List (TypeId×Nat)} {Δ:Nat->List D->Option D} {op:Op} {ev iC:Operand->X} {boxes bI:List (Nat×List X)} {toks toks':List Nat} (he:∀x∈op.operands.toList,ev x=iC x)
  (hb:QvR op=true->∀x∈Qc1 op,∀b∈(iC x).locs,Qt boxes b=Qt bI b) (ht:Qkl op=true->toks=toks'):aop Γ eqs Δ op ev boxes toks=aop Γ eqs Δ op iC bI toks':=by
 cases op with
 | call cc=>
  obtain⟨callee,args,argTypes⟩:=cc;simp only[aop,Qog];have aW:∀x∈args.toList,ev x=iC x:=λx hx=>he x (by simp only[Op.operands,Call.operands,Array.toList_append,Zp]; exact .inr hx)
  have hm:args.toList.map ev=args.toList.map iC:=Qdp _ aW;cases callee with
  | value f=>
   have hf:ev f=iC f:=he f (by simp[Op.operands,Call.operands])
   have eC:=hb rfl;have cN:∀b∈(iC f).locs,Qt boxes b=Qt bI b:=eC f (by simp[Qc1,Op.operands,Call.operands])
   have eV:QeD boxes (args.toList.map iC)=QeD bI (args.toList.map iC):=Qj7 λy hy=>by
    obtain⟨x,hx,rfl⟩:=List.mem_map.1 hy;exact eC x (by simp only[Qc1,Op.operands,Call.operands,Array.toList_append,Zp]; exact .inr hx)
   simp only[hf,hm,eV];split
   .rfl
   .rfl
   .rename_i g pre caps heq;rw[heq]at cN;rw[QeI (caps:=caps) cN]
   .rfl
  | invoke r m=>rfl
  | builtin bi=>
   cases bi<;>simp only
   .have iU:=ht rfl;subst iU;split
    .rename_i s x T T' ha hT;rw[aW s (by rw[ha]; simp),aW x (by rw[ha]; simp)]
    .rfl
   .split
    .rename_i x T ha hT;rw[aW x (by rw[ha]; simp)]
    .rfl
   .split
    .rename_i x y ha;rw[aW x (by rw[ha]; simp),aW y (by rw[ha]; simp)]
    .rfl
   .split
    .rename_i x y ha;rw[aW x (by rw[ha]; simp),aW y (by rw[ha]; simp)]
    .rfl
 | load T x=>
  have hx:=he x (by simp[Op.operands])
  have dN:=hb rfl x (by simp[Qc1])
  simp only[aop,hx];congr 1;unfold Qm8 QkO;split
  .rfl
  .split
   .rename_i b off heq;rw[dN b (by rw[QBh heq]; simp[X.locs])]
   .rfl
   .rfl
 | store T x y=>
  have hx:=he x (by simp[Op.operands])
  have hy:=he y (by simp[Op.operands])
  have dN:=hb rfl x (by simp[Qc1])
  simp only[aop,hx,hy];split
  .rename_i b off cs ii heq _ _;rw[dN b (by rw[heq]; simp[X.locs])]
  .rfl
 | makeFunc fn first caps=>
  simp only[aop];have h1:first.toList.map ev=first.toList.map iC:=Qdp _ λx hx=>he x (by simp only[Op.operands,Array.toList_append,Zp]; exact .inl hx)
  have h2:caps.toList.map ev=caps.toList.map iC:=Qdp _ λx hx=>he x (by simp only[Op.operands,Array.toList_append,Zp]; exact .inr hx)
  rw[h1,h2]
 | build T parts=>
  simp only[aop];have:(parts.toList.map λp=>(p.1,ev p.2))=parts.toList.map λp=>(p.1,iC p.2):=List.map_congr_left λp hp=>by
   rw[he p.2 (by simp only[Op.operands,List.mem_map]; exact⟨p,hp,rfl⟩)]
  rw[this]
 | buildSlice T n parts=>
  simp only[aop];have:(parts.toList.map λp=>(p.1,ev p.2))=parts.toList.map λp=>(p.1,iC p.2):=List.map_congr_left λp hp=>by
   rw[he p.2 (by simp only[Op.operands,List.mem_map]; exact⟨p,hp,rfl⟩)]
  rw[this]
 | slice T x lo hi mx=>
  simp only[aop];have hx:=he x (by simp[Op.operands])
  have h1:lo.map ev=lo.map iC:=by cases lo with | none=>rfl | some y=>simp only[Option.map_some]; rw[he y (by simp[Op.operands])]
  have h2:hi.map ev=hi.map iC:=by cases hi with | none=>rfl | some y=>simp only[Option.map_some]; rw[he y (by simp[Op.operands])]
  have h3:mx.map ev=mx.map iC:=by cases mx with | none=>rfl | some y=>simp only[Option.map_some]; rw[he y (by simp[Op.operands])]
  rw[hx,h1,h2,h3]
 | _=>
  first
   | rfl
   | (simp only[aop]; simp only[Op.operands,List.mem_cons,List.not_mem_nil,or_false,forall_eq_or_imp,forall_eq]at he; simp only[he])
theorem Inv.eqv {N:Nat} {m0:Nat->Nat->Prop} {w0:Base} {g:Gh} {σ σ':St} {a:Act} {w:World} (I:Inv N m0 w0 g σ a w) (h1:∀u,Qt σ'.tmps u=Qt σ.tmps u) (h2:∀b,Qt σ'.boxes b=Qt σ.boxes b) (h3:σ'.toks=σ.toks) (h4:σ'.maps=σ.maps):Inv N m0 w0 g σ' a w:=
 ⟨I.below,I.size,I.defers,I.lt,I.old,I.new,λt x h=>by rw[h3]; exact I.tmps t x (by rw[<-h1]; exact h),I.boxb,I.boxi,I.tokb,I.toki,λb cs h blk hb=>by rw[h3]; exact I.boxes b cs (by rw[<-h2]; exact h) blk hb,I.out,I.fz,by rw[h4]; exact I.maps,I.cells⟩
theorem Qcn {Γ:Tys} {eqs:List (TypeId×Nat)} {Δ:Nat->List D->Option D} {op:Op} {ev:Operand->X} {boxes:List (Nat×List X)} {toks:List Nat} {r:Res} (h:aop Γ eqs Δ op ev boxes toks=some r):(∀t k rows,r= .app t k rows->Qkl op=true)/\(∀b off cs,r= .set b off cs->isW op=true/\∃x∈Qc1 op,ev x= .loc b off):=by
 have key:∀x:Option X,∀r,Res.ofX x=some r->∃y,r= .q y:=λx r h=>by cases x<;>simp[Res.ofX]at h; exact⟨_,h.symm⟩
 cases op<;>simp only[aop]at h<;>first
  | (cases h; done)
  | (obtain⟨y,rfl⟩:=key _ _ h; exact⟨(λ_ _ _ e=>by cases e),(λ_ _ _ e=>by cases e)⟩)
  | (simp only[Zs]at h; subst h; exact⟨(λ_ _ _ e=>by cases e),(λ_ _ _ e=>by cases e)⟩)
  | skip
 case alloc T=>
  split at h<;>first | (cases h; done) | (simp only[Zs]at h; subst h; exact⟨(λ_ _ _ e=>by cases e),(λ_ _ _ e=>by cases e)⟩)
 case makeSlice T l c=>
  unfold Qwk at h
  (repeat' split at h)<;>first | (cases h; done) | (simp only[Zs]at h; subst h; exact⟨(λ_ _ _ e=>by cases e),(λ_ _ _ e=>by cases e)⟩)
 case box T x=>
  split at h<;>first | (cases h; done) | (simp only[Zs]at h; subst h; exact⟨(λ_ _ _ e=>by cases e),(λ_ _ _ e=>by cases e)⟩)
 case buildSlice T n p=>
  split at h<;>first | (cases h; done) | (simp only[Zs]at h; subst h; exact⟨(λ_ _ _ e=>by cases e),(λ_ _ _ e=>by cases e)⟩)
 case store T x y=>
  split at h
  .rename_i b off cs ii heq _ _;split at h
   .split at h
    .simp only[Zs]at h; subst h;refine⟨λ_ _ _ e=>(by cases e),λb' dF bK e=>⟨rfl,x,by simp[Qc1],?_⟩⟩
     simp only[Res.set.injEq]at e;obtain⟨rfl,rfl,_⟩:=e;exact heq
    .cases h
   .cases h
  .cases h
 case call cc=>
  obtain⟨callee,args,argTypes⟩:=cc;unfold Qog at h;simp only at h;split at h
  .split at h
   .obtain⟨y,rfl⟩:=key _ _ h; exact⟨λ_ _ _ e=>(by cases e),λ_ _ _ e=>(by cases e)⟩
   .cases h
  .refine⟨λ_ _ _ _=>rfl,λb off cs e=>?_⟩;subst e
   exfalso
   split at h
   .split at h
    .obtain⟨cs,bM⟩:=QjO h; cases bM
    .unfold QgU at h
     (repeat' split at h)<;>first | cases h | simp at h
   .cases h
  .split at h
   .obtain⟨y,rfl⟩:=key _ _ h; exact⟨λ_ _ _ e=>(by cases e),λ_ _ _ e=>(by cases e)⟩
   .cases h
  .split at h
   .obtain⟨y,rfl⟩:=key _ _ h; exact⟨λ_ _ _ e=>(by cases e),λ_ _ _ e=>(by cases e)⟩
   .cases h
  ·(repeat' split at h)<;>first | (cases h; done) | (simp only[Zs]at h; subst h; exact⟨λ_ _ _ e=>(by cases e),λ_ _ _ e=>(by cases e)⟩) | (rename_i k6; obtain⟨k,rows,_,rfl⟩:=Qqu h; exact⟨λ_ _ _ _=>k6,λ_ _ _ e=>(by cases e)⟩) | (obtain⟨y,rfl⟩:=QpN h; exact⟨λ_ _ _ e=>(by cases e),λ_ _ _ e=>(by cases e)⟩)
  .cases h
theorem QiR:∀(l:List Oper) {j k:Nat} {o o':Oper} {d:Nat},(QR l).Nodup->l[j]?=some o->l[k]?=some o'->Qai o=some d->Qai o'=some d->j=k
 | [],j,k,o,o',d,_,h,_,_,_=>by simp at h
 | p::t,j,k,o,o',d,hn,h1,h2,h3,h4=>by
  have c8:∀(l:List Oper) (q:Nat) (x:Oper),l[q]?=some x->Qai x=some d->d∈QR l:=by
   intro l
   induction l with
   | nil=>intro q x h; simp at h
   | cons y t ih=>
    intro q x h hx;rw[Qad];cases q with
    | zero=>simp at h; subst h; rw[hx]; simp
    | succ q=>have:=ih q x (by simpa using h) hx; simp[this]
  rw[Qad]at hn;cases j with
  | zero=>
   cases k with
   | zero=>rfl
   | succ k=>
    simp at h1; subst h1;rw[h3]at hn;simp only[List.cons_append,List.nil_append,List.nodup_cons]at hn;exact absurd (c8 t k o' (by simpa using h2) h4) hn.1
  | succ j=>
   cases k with
   | zero=>
    simp at h2; subst h2;rw[h4]at hn;simp only[List.cons_append,List.nil_append,List.nodup_cons]at hn;exact absurd (c8 t j o (by simpa using h1) h3) hn.1
   | succ k=>exact congrArg (· +1) (QiR t (j:=j) (k:=k) (List.nodup_append.1 hn).2.1 (by simpa using h1) (by simpa using h2) h3 h4)
theorem Qcq:∀(l:List Oper) {q:Nat} {x:Oper} {d:Nat},l[q]?=some x->Qai x=some d->d∈QR l
 | [],q,x,d,h,_=>by simp at h
 | y::t,q,x,d,h,hx=>by
  rw[Qad];cases q with
  | zero=>simp at h; subst h; rw[hx]; simp
  | succ q=>have:=Qcq t (q:=q) (x:=x) (by simpa using h) hx; simp[this]
theorem QmF {S:Type} {X:Nat->Bool} {F:En->S->S} :∀(l:List En) (s:S),(∀e∈l,X e.i=true->F e s=s)->comp X F l s=s
 | [],s,_=>rfl
 | e::t,s,h=>by
  simp only[comp];by_cases hx:X e.i=true
  .rw[if_pos hx,h e (by simp) hx]; exact QmF t s λe' he=>h e' (by simp[he])
  .rw[if_neg hx]; exact QmF t s λe' he=>h e' (by simp[he])
theorem QGS {Γ:Tys} {eqs:List (TypeId×Nat)} {Δ:Nat->List D->Option D} {op:Op} {ev:Operand->X} {boxes:List (Nat×List X)} {toks:List Nat} {r:Res} (h:aop Γ eqs Δ op ev boxes toks=some r) (hw:QvR op=true) {x:Operand} (hx:x∈Qc1 op) {b:Nat} (hl:b∈(ev x).locs):Qt boxes b≠none:=by
 intro hn;cases op<;>simp only[QvR,isW]at hw<;>try (cases hw; done)
 case load T y=>
  simp only[Qc1,List.mem_singleton]at hx; subst hx;simp only[aop,Qm8,QkO]at h;cases hT:Γ T with
  | none=>rw[hT]at h; cases h
  | some i=>
   rw[hT]at h;cases hy:ev x with
   | loc b' off=>
    rw[hy]at hl h;simp only[X.locs,List.mem_singleton]at hl;subst hl;simp only[X.soft,hn]at h; cases h
   | fx f first caps=>rw[hy]at h; cases h
   | bs b' o' n' k'=>rw[hy]at h; cases h
   | mp b'=>rw[hy]at h; cases h
   | agb bK=>rw[hy]at h; cases h
   | _=>rw[hy]at hl; simp[X.locs]at hl
 case store T y z=>
  simp only[Qc1,List.mem_singleton]at hx; subst hx;simp only[aop]at h;split at h
  .rename_i heq _ _;rw[heq]at hl;simp only[X.locs,List.mem_singleton]at hl;subst hl;rw[hn]at h; cases h
  .cases h
 case call cc=>
  obtain⟨callee,args,argTypes⟩:=cc;cases callee with
  | value f=>
   have aW:∀{xs:Option (List D)},xs=QeD boxes (args.toList.map ev)->(∃ds,xs=some ds)->x∈args.toList->False:=by
    rintro xs f7 ⟨ds,rfl⟩ hxa;exact Qlw f7.symm (ev x) (List.mem_map.2 ⟨x,hxa,rfl⟩) b hl hn
   simp only[Qc1,Op.operands,Call.operands,Array.toList_append,Zp]at hx;have hx':x=f\/x∈args.toList:=by simpa using hx
   simp only[aop,Qog]at h;split at h
   .rename_i gf first caps hf
    rcases hx' with rfl | hx'
    .rw[hf]at hl; simp[X.locs]at hl
    .split at h
     .split at h
      .rename_i ds cB;have:=Ql3 cB (ev x) (List.mem_map.2 ⟨x,hx',rfl⟩);rw[this]at hl; simp at hl
      .exact aW rfl (QiB h) hx'
     .cases h
   .rename_i gf pre post hf;rcases hx' with rfl | hx'
    .rw[hf]at hl; simp[X.locs]at hl
    .exact aW rfl (QiB h) hx'
   .rename_i gf pre caps hf;split at h
    .rename_i post cC;rcases hx' with rfl | hx'
     .rw[hf]at hl;exact QfZ cC b hl hn
     .exact aW rfl (QiB h) hx'
    .cases h
   .cases h
  | _=>simp[isVC]at hw
theorem Qu8 {Γ:Tys} {eqs:List (TypeId×Nat)} {Δ:Nat->List D->Option D} {op:Op} {ev:Operand->X} {boxes:List (Nat×List X)} {toks:List Nat} {b off:Nat} {cs:List X} (h:aop Γ eqs Δ op ev boxes toks=some (.set b off cs)):∀v,Qbj op=some v->ev (.tmp v)= .loc b off:=by
 intro v hv;have hw:=(Qcn h).2 b off cs rfl;cases op<;>first | (cases hw.1; done) | skip
 case store T x y=>
  unfold Qbj at hv;split at hv
  .rename_i heq; cases heq
  .rename_i u y' T' heq;cases heq;cases hv;simp only[aop]at h;split at h
   .rename_i heq _ _;split at h
    .split at h
     .simp only[Zs,Res.set.injEq]at h;obtain⟨rfl,rfl,_⟩:=h;exact heq
     .cases h
    .cases h
   .cases h
  .cases hv
theorem QB8 {Γ:Tys} {eqs:List (TypeId×Nat)} {Δ:Nat->List D->Option D} {op:Op} {ev:Operand->X} {boxes:List (Nat×List X)} {toks:List Nat} {r:Res} (h:aop Γ eqs Δ op ev boxes toks=some r) {u:Nat} (hu:Qbj op=some u) {x:Operand} (hx:x∈Qc1 op) {b:Nat} (hl:b∈(ev x).locs):∃off,ev (.tmp u)= .loc b off:=by
 unfold Qbj at hu;split at hu
 .rename_i T v;cases hu;simp only[Qc1,List.mem_singleton]at hx; subst hx;simp only[aop,Qm8,QkO]at h;cases hT:Γ T with
  | none=>rw[hT]at h; cases h
  | some i=>
   rw[hT]at h;cases hy:ev (.tmp u)with
   | loc b' off=>rw[hy]at hl; simp only[X.locs,List.mem_singleton]at hl; subst hl; exact⟨off,rfl⟩
   | fx f first caps=>rw[hy]at h; cases h
   | bs b' o' n' k'=>rw[hy]at h; cases h
   | mp b'=>rw[hy]at h; cases h
   | agb bK=>rw[hy]at h; cases h
   | _=>rw[hy]at hl; simp[X.locs]at hl
 .rename_i T v y;cases hu;simp only[Qc1,List.mem_singleton]at hx; subst hx;simp only[aop]at h;split at h
  .rename_i b' off cs i heq h2 _;rw[heq]at hl; simp only[X.locs,List.mem_singleton]at hl; subst hl; exact⟨off,heq⟩
  .cases h
 .cases hu
theorem QvX {Γ:Tys} {eqs:List (TypeId×Nat)} {Δ:Nat->List D->Option D} {o:Oper} {ev:Operand->X} {boxes:List (Nat×List X)} {toks:List Nat} {r:Res} (h:aop Γ eqs Δ o.op ev boxes toks=some r) {u:Nat} (ha:Qai o=some u):∃cs,r= .new cs:=by
 unfold Qai at ha;split at ha
 .rename_i T heq;rw[heq]at h;simp only[aop]at h;split at h
  .simp only[Zs]at h; exact⟨_,h.symm⟩
  .cases h
 .rename_i T x heq;rw[heq]at h;simp only[aop]at h;split at h
  .simp only[Zs]at h; exact⟨_,h.symm⟩
  .cases h
 .rename_i T l x heq;rw[heq]at h;simp only[aop,Qwk]at h
  (repeat' split at h)<;>first | (cases h; done) | (simp only[Zs]at h; exact⟨_,h.symm⟩)
 .rename_i T x heq;rw[heq]at h;cases h
 .rename_i cc heq;rw[heq]at h;split at ha
  .rename_i nQ;simp only[aop,Qog,Qu6 nQ,nQ,if_true]at h;split at h
   .exact QjO h
   .cases h
  .cases ha
 .cases ha
theorem Qpt {o:Oper} {u:Nat} (h:Qbj o.op=some u):u∈Qe4 o:=by
 unfold Qbj at h;unfold Qe4;split at h
 .rename_i heq; cases h; rw[heq]; simp[Op.operands]
 .rename_i heq; cases h; rw[heq]; simp[Op.operands]
 .cases h
theorem QAB {ops:List Oper} {σ:St} {L:List En} (eG:∀(j:Nat) (e:En),L[j]?=some e->e.i=j) (cA:∀e∈L,∃o,ops[e.i]?=some o/\e.d=o.dst/\(∀u,Qai o=some u->(∃cs,e.r= .new cs)\/e.r= .skip)) (aI:L.length=ops.length)
  (sD:∀t x,Qt σ.tmps t=some x->x.plain (QR ops)=true) {i u b off:Nat} {o:Oper} (ho:ops[i]?=some o) (hu:u∈Qe4 o) (h:Qt (Qbu (λk=>decide (k < i)) L σ).tmps u=some (.loc b off)):
  (Qhm u ops=true->b=u/\u∈QR ops)/\(u∉QhL ops->b∉QR ops):=by
 rw[Qd1]at h;constructor
 .intro hm;obtain⟨a,oa,k1,k2,k3,k4⟩:=QsQ hm;have hai:=k4 i o ho hu;have haL:a < L.length:=by rw[aI]; exact(Zi.1 k1).1
  have he:=Zg haL;have hi:=eG a _ he;obtain⟨o',q1,q2,q3⟩:=cA L[a] (Ze haL);rw[hi,k1]at q1;simp only[Zs]at q1;subst q1;have hd:L[a].d=some u:=by rw[q2]; exact QiS k2
  have vE:L=L.take a++L[a]::L.drop (a+1):=by rw[<-List.drop_eq_getElem_cons haL,List.take_append_drop]
  rw[vE,QeL]at h;simp only[comp]at h;rw[hi]at h;rw[if_pos (decide_eq_true hai)]at h;rw[Qfz _ _ (λe mI=> .inr λs=>by
   unfold En.tm;rw[if_neg];intro lV;obtain⟨j,hj,rfl⟩:=List.getElem_of_mem mI;have hh:L[a+1+j]?=some ((L.drop (a+1))[j]):=by rw[<-Zg hj,List.getElem?_drop]
   have hi2:=eG _ _ hh;obtain⟨o2,r1,r2,_⟩:=cA _ (List.mem_of_getElem? hh);have:=k3 _ o2 r1 (by rw[<-r2]; exact lV)
   omega)]at h
  unfold En.tm at h;rw[if_pos hd]at h;simp only[Zs]at h;rcases q3 u k2 with⟨cs,hr⟩ | hr
  .unfold En.x at h;rw[hr,hd]at h;simp only[Option.getD_some,NewC.x]at h;split at h
   .simp only[X.loc.injEq]at h;exact⟨h.1.symm,Qcq ops k1 k2⟩
   .cases h
  .unfold En.x at h;rw[hr]at h;cases h
 .intro hn;rw[Qfz _ _ (λe he=> .inr λs=>by
   unfold En.tm;rw[if_neg];intro lV;obtain⟨o2,r1,r2,_⟩:=cA e he;exact hn (Qsa r1 (by rw[<-r2]; exact lV)))]at h
  have:=sD _ _ h;simp only[X.plain,Bool.not_eq_true',List.contains_eq_mem,decide_eq_false_iff_not]at this;exact this
theorem Qr2 {ops:List Oper} {σ:St} :∀{D:List (Nat×Nat)},Qil ops σ D=true->∀i j,(i,j)∈D->∃u v,(ops[i]?).bind (λa=>Qbj a.op)=some u/\(ops[j]?).bind (λb=>Qbj b.op)=some v/\u∉QhL (ops.drop i)/\v∉QhL (ops.drop j)/\QMU (σ.ev (.tmp u)) (σ.ev (.tmp v))=true
 | [],_,i,j,h=>by simp at h
 | (a,b)::t,hd,i,j,h=>by
  simp only[Qil,Za]at hd;rcases List.mem_cons.1 h with h | h
  .simp only[Prod.mk.injEq]at h;obtain⟨rfl,rfl⟩:=h;have h1:=hd.1;split at h1
   .rename_i u v hu hv;simp only[Za,Bool.not_eq_true',List.contains_eq_mem,decide_eq_false_iff_not]at h1;exact⟨u,v,hu,hv,h1.1.1,h1.1.2,h1.2⟩
   .cases h1
  .exact Qr2 hd.2 i j h
theorem QqD {ops:List Oper} {u v b:Nat} (fM:QlB ops u v=true) (h1:(Qhm u ops=true->b=u/\u∈QR ops)/\(u∉QhL ops->b∉QR ops)) (h2:(Qhm v ops=true->b=v/\v∈QR ops)/\(v∉QhL ops->b∉QR ops)):False:=by
 unfold QlB at fM;simp only[Bool.or_eq_true,Za,Bool.not_eq_true',List.contains_eq_mem,decide_eq_false_iff_not,bne_iff_ne]at fM;rcases fM with(⟨a,c⟩ | ⟨a,c⟩) | ⟨⟨a,c⟩,e⟩
 .obtain⟨rfl,m⟩:=h1.1 a; exact h2.2 c m
 .obtain⟨rfl,m⟩:=h2.1 a; exact h1.2 c m
 .obtain⟨rfl,_⟩:=h1.1 a; obtain⟨rfl,_⟩:=h2.1 c; exact e rfl
section
variable {F:Fence} {n:Nat} {P:Program} {c:Cx} {m0:Nat->Nat->Prop} {w0:Base} {g:Gh} {σ σ':St} {a:Act} {w:World}
theorem Qer (X:Nat->Bool):∀(l:List En) (σ:St),(Qbu X l σ).maps=σ.maps
 | [],σ=>rfl
 | e::t,σ=>by
  simp only[Qbu];split
  .rw[Qer X t]; rfl
  .exact Qer X t σ
set_option maxHeartbeats 1000000 in
theorem Quv (hF:FreeF F) (hc:CxOk P c) {D:List (Nat×Nat)} {ops:Array Oper} {σ1:St} (bT:Qav (QR ops.toList) σ=true) (mJ:∀d∈QR ops.toList,w0.out d=none) (dB:c.ops ops.toList 0 ops.toList σ=some σ1) (mK:Qil ops.toList σ1 D=true) (hd:QiG D ops.toList=true) (I:Inv c.N m0 w0 g σ a w) {Q:Exit->Act->World->Prop} (hQ:∀g' a' w',Inv c.N m0 w0 g' σ1 a' w'->(∀j,ops.size<=j->¬g'.used (QaN j))->Q .normal a' w'):wpAnyIn F n P .any ops Q ops.size (Array.replicate ops.size false) a w:=by
   obtain⟨bZ,c7⟩:=QaJ bT;have bZ:=QbX _ bZ;obtain⟨I1,aN,cR⟩:=I.start mJ bT c7;have mL:=bT;simp only[Qav,Za]at mL;obtain⟨⟨⟨⟨_,_⟩,htx⟩,dN⟩,_⟩:=mL;have bC:∀b∈QR ops.toList,Qt σ.boxes b=none:=by
    intro b hb;cases hg:Qt σ.boxes b with
    | none=>rfl
    | some cs=>
     have h:=Zl.1 dN _ (QeZ hg);simp only[Za,Bool.not_eq_true',List.contains_eq_mem,decide_eq_false_iff_not]at h;exact absurd hb h.1
   obtain⟨L,l1,l2,l3⟩:=QkR c ops.toList ops.toList 0 σ σ1 dB;simp only[Nat.zero_add]at l3;have cA:∀e∈L,∃o,ops[e.i]?=some o/\L[e.i]?=some e/\e.d=o.dst/\QF5 c ops.toList o (Qbu (λk=>decide (k < e.i)) L σ) e.r/\((Qbu (λk=>decide (k < e.i)) L σ).res e.i o.dst e.r).isSome=true:=by
    intro e he;obtain⟨j,hj,rfl⟩:=List.getElem_of_mem he;have hjo:j < ops.toList.length:=by omega
    obtain⟨r,h1,h2,h3,h4⟩:=l3 j ops.toList[j] (Zg hjo);have h5:=h1;rw[Zg hj]at h1;simp only[Zs]at h1;rw[h1];exact⟨ops.toList[j],by rw[<-Array.getElem?_toList]; exact Zg hjo,h5,rfl,h3,h4⟩
   have cH:∀e∈L,∀cs,e.r= .new cs->∀d,e.d=some d->∃o,ops.toList[e.i]?=some o/\Qai o=some d:=by
    intro e he cs hr d bY;obtain⟨o,h1,h2,h3,h4,_⟩:=cA e he;refine⟨o,by simpa using h1,?_⟩
    rcases h4 with⟨_,h4⟩ | ⟨_,h4⟩
    .rw[hr]at h4; rw[Qcl h4,<-h3]; exact bY
    .rw[hr]at h4; cases h4
   have cU:∀e∈L,∀e'∈L,∀cs bK,e.r= .new cs->e'.r= .new bK->∀d,e.d=some d->e'.d=some d->e.i=e'.i:=by
    intro e he e' mI cs bK hr bL d k9 kN;obtain⟨o,h1,h2⟩:=cH e he cs hr d k9;obtain⟨o',h3,h4⟩:=cH e' mI bK bL d kN;exact QiR _ bZ h1 h3 h2 h4
   have eG:∀(j:Nat) (e:En),L[j]?=some e->e.i=j:=by
    intro j e hj;have vF:j < ops.toList.length:=by rw[<-l1]; exact(Zi.1 hj).1
    obtain⟨r',h1,_⟩:=l3 j _ (Zg vF);rw[h1]at hj; simp only[Zs]at hj; rw[<-hj]
   have qG:∀(i:Nat) (o:Oper) (u b off:Nat),ops[i]?=some o->Qbj o.op=some u->(Qbu (λk=>decide (k < i)) L σ).ev (.tmp u)= .loc b off->(Qhm u ops.toList=true->b=u/\u∈QR ops.toList)/\(u∉QhL ops.toList->b∉QR ops.toList):=by
    intro i o u b off ho hu iD;refine QAB eG (λe he=>?_) l1 (λt x hx=>Zl.1 htx _ (QeZ hx)) (by simpa using ho) (Qpt hu) (off:=off) ?_
    .obtain⟨o',h1,_,h3,h4,_⟩:=cA e he;refine⟨o',by simpa using h1,h3,λu' mG=>?_⟩
     rcases h4 with⟨_,hs⟩ | ⟨_,hs⟩
     .exact .inl (QvX hs mG)
     .exact .inr hs
    .simp only[St.ev]at iD;cases hg:Qt (Qbu (λk=>decide (k < i)) L σ).tmps u with
     | none=>rw[hg]at iD; cases iD
     | some y=>rw[hg]at iD; simp only[Option.getD_some]at iD; rw[iD]
   have j6:∀e∈L,∀o,ops[e.i]?=some o->∀b off cs,e.r= .set b off cs->∀v,Qbj o.op=some v->(Qbu (λk=>decide (k < e.i)) L σ).ev (.tmp v)= .loc b off:=by
    intro e he o ho b off cs hr v hv;obtain⟨o',h1,_,_,h4,_⟩:=cA e he;rw[ho]at h1; cases h1;rcases h4 with⟨_,hs⟩ | ⟨_,hs⟩
    .rw[hr]at hs; exact Qu8 hs v hv
    .rw[hr]at hs; cases hs
   have vG:∀(i u:Nat),u∉QhL (ops.toList.drop i)->σ1.ev (.tmp u)=(Qbu (λk=>decide (k < i)) L σ).ev (.tmp u):=by
    intro i u hu;simp only[St.ev];rw[l2,Qd1,Qd1];congr 1;refine Qb0 L _ λe he=>?_;by_cases fW:e.i < i
    .left; simp[fW]
    .right;intro s;unfold En.tm;rw[if_neg];intro lV;obtain⟨o2,r1,_,r2,_⟩:=cA e he;refine hu (List.mem_filterMap.2 ⟨o2,?_,by rw[<-r2]; exact lV⟩)
     refine List.mem_of_getElem? (i:=e.i - i) ?_;rw[List.getElem?_drop,show i+(e.i - i)=e.i by omega]
     simpa using r1
   have mM:∀(i:Nat) (o:Oper) (j:Nat) (oj:Oper) (b:Nat),ops[i]?=some o->ops[j]?=some oj->(∀u,Qbj o.op=some u->∃off,(Qbu (λk=>decide (k < i)) L σ).ev (.tmp u)= .loc b off)->(∀u,Qbj oj.op=some u->∃off,(Qbu (λk=>decide (k < j)) L σ).ev (.tmp u)= .loc b off)->Qg9 ops.toList D i j o oj=false:=by
    intro i o j oj b hi hj h1 h2;have vH:∀(i:Nat) (o:Oper) (j:Nat) (oj:Oper),ops[i]?=some o->ops[j]?=some oj->(∀u,Qbj o.op=some u->∃off,(Qbu (λk=>decide (k < i)) L σ).ev (.tmp u)= .loc b off)->(∀u,Qbj oj.op=some u->∃off,(Qbu (λk=>decide (k < j)) L σ).ev (.tmp u)= .loc b off)->D.contains (i,j)=false:=by
     intro i o j oj hi hj h1 h2;cases vI:D.contains (i,j)with
     | false=>rfl
     | true=>
      exfalso
      obtain⟨u,v,q1,q2,q3⟩:=Qr2 mK _ _ (by simpa using vI)
      have hi':ops.toList[i]?=some o:=by simpa using hi
      have cM:ops.toList[j]?=some oj:=by simpa using hj
      rw[hi']at q1; rw[cM]at q2;obtain⟨o1,e1⟩:=h1 u q1;obtain⟨o2,e2⟩:=h2 v q2;obtain⟨q3,q4,q5⟩:=q3;rw[vG i u q3,vG j v q4,e1,e2]at q5;simp[QMU]at q5
    have k9:=vH i o j oj hi hj h1 h2;have kN:=vH j oj i o hj hi h2 h1;unfold Qg9;rw[k9,kN,Bool.or_false,Bool.or_false];cases fM:Qg6 ops.toList o oj with
    | false=>rfl
    | true=>
     exfalso
     unfold Qg6 at fM;split at fM
     .rename_i u v hu hv;obtain⟨o1,e1⟩:=h1 u hu;obtain⟨o2,e2⟩:=h2 v hv;exact QqD fM (qG i o u b o1 hi hu e1) (qG j oj v b o2 hj hv e2)
     .cases fM
   have kO:∀e∈L,∀cs,e.r= .new cs->∀b,e.d=some b->∀i,i<=e.i->Qt (Qbu (λk=>decide (k < i)) L σ).boxes b=none:=by
    intro e he cs hr b hb i hi;obtain⟨o,h1,h2⟩:=cH e he cs hr b hb;rw[Qgj,bC b (Qcq _ h1 h2)];refine QmF L none λe' mI hx=>?_;unfold En.bx;split
    .rename_i bK bL;split
     .rename_i bY;have:=cU e he e' mI cs bK hr bL b hb bY;simp at hx; omega
     .rfl
    .split<;>rfl
    .rfl
   refine Qpi (λaD a w=>∃g,Inv c.N m0 w0 g (Qbu (λk=>aD.getD k false) L σ) a w/\(∀e∈L,aD.getD e.i false=false->∀cs,e.r= .new cs->∀d,e.d=some d->g.box d=none)/\
    (∀e∈L,aD.getD e.i false=true->∀b off cs,e.r= .set b off cs->g.box b≠none)/\(∀e∈L,aD.getD e.i false=false->¬g.used (QaN e.i))/\∀j,ops.size<=j->¬g.used (QaN j)) ?dep ?step ?fin ops.size (Array.replicate ops.size false) a _ (by simp) ?down (by simp) ?start
   case dep=>
    intro i o ho e he hb;have bY:=hd;simp only[QiG,Za]at bY;have:=Qct ops.toList 0 bY.1 i o (by simpa using ho) e he hb
    omega
   case down=>
    intro i o ho hl;have:i < ops.size:=(Zj.1 ho).1;simp[Array.getD_eq_getD_getElem?,this]at hl
   case start=>
    have h0:∀k,(Array.replicate ops.size false).getD k false=false:=by
     intro k;simp only[Array.getD_eq_getD_getElem?,Array.getElem?_replicate];split<;>rfl
    have hf:∀(l:List En) (σ:St),Qbu (λk=>(Array.replicate ops.size false).getD k false) l σ=σ:=by
     intro l
     induction l with
     | nil=>intro σ; rfl
     | cons e t ih=>intro σ; simp only[Qbu]; rw[if_neg (by rw[h0]; simp)]; exact ih σ
    refine⟨_,by rw[hf]; exact I1,λe he _ cs hr d bY=>?_,λe he hl=>?_,λe he _=>cR e.i,λj _=>cR j⟩
    .obtain⟨o,h1,h2⟩:=cH e he cs hr d bY;exact(aN d (Qcq _ h1 h2)).1
    .rw[h0]at hl; cases hl
   case fin=>
    rintro aD a' w' hs hall ⟨g',I',_,_,_,oR⟩;have hf:Qbu (λk=>aD.getD k false) L σ=σ1:=by
     rw[l2];have:∀(l:List En) (σ:St),(∀e∈l,aD.getD e.i false=true)->Qbu (λk=>aD.getD k false) l σ=Qbu (λ_=>true) l σ:=by
      intro l
      induction l with
      | nil=>intro σ _; rfl
      | cons e t ih=>
       intro σ he;simp only[Qbu,he e (by simp),if_true]
       exact ih _ λe' h'=>he e' (by simp[h'])
     refine this L σ λe he=>?_;obtain⟨o,h1,_⟩:=cA e he;have aQ:e.i < ops.size:=(Zj.1 h1).1;rw[<-QcW (by omega)]; exact hall e.i aQ
    rw[hf]at I';exact hQ g' a' w' I' oR
   case step=>
    rintro aD i o a' w' hs lU ho fV eH ⟨g1,IS,nR,kP,hJ4,hJ5⟩ K hK;have vJ:i < ops.size:=(Zj.1 ho).1;have kQ:aD.getD i false=false:=by rw[<-QcW (by omega)]; exact fV
    obtain⟨r,tV,dZ,dK,bP⟩:=l3 i o (by simpa using ho)
    have sE:(⟨i,o.dst,r⟩:En)∈L:=List.mem_of_getElem? tV;have gU:∀j oj,ops[j]?=some oj->Qid ops.toList D i j o oj=true->aD.getD j false=decide (j < i):=by
     intro j oj hj vK;by_cases lA:j=i
     .rw[lA,kQ]; simp
     .exact Quc hd lU ho hj kQ eH vK lA
    generalize hS:Qbu (λk=>aD.getD k false) L σ=S at*;generalize hT:Qbu (λk=>decide (k < i)) L σ=T at*;have nS:∀u∈QgR ops.toList o,Qt S.tmps u=Qt T.tmps u:=by
     intro u hu;rw[<-hS,<-hT,Qd1,Qd1];refine Qb0 L _ λe he=>?_;obtain⟨oj,h1,_,h3,_⟩:=cA e he;by_cases lV:e.d=some u
     .left;refine gU e.i oj h1 ?_;unfold Qid;rw[<-h3,lV];simp[hu]
     .right; intro s; unfold En.tm; rw[if_neg lV]
    have iD:∀x∈o.op.operands.toList,S.ev x=T.ev x:=by
     intro x hx;cases x with
     | tmp t=>
      simp only[St.ev];rw[nS t];unfold QgR Qe4;simp only[Zp,List.mem_filterMap];exact .inl (.inl ⟨.tmp t,hx,rfl⟩)
     | _=>rfl
    have qH:Qa5 ops.toList S o=Qa5 ops.toList T o:=by
     unfold Qa5;cases hg:o.guard with
     | none=>rfl
     | some p=>
      obtain⟨j,fN⟩:=p;simp only;cases hj:(ops.toList[j]?).bind (·.dst)with
      | none=>rfl
      | some t=>
       simp only;rw[nS t];unfold QgR Qte;rw[hg];simp only[hj];simp
    have fX:∃A B,L=A++(⟨i,o.dst,r⟩:En)::B/\(∀e∈A++B,e.i≠i/\e∈L)/\∀e∈B,i < e.i:=by
     have hiL:i < L.length:=by rw[l1]; simpa using vJ
     have hLe:L[i]=⟨i,o.dst,r⟩:=by have:=tV; rw[Zg hiL]at this; simpa using this
     refine⟨L.take i,L.drop (i+1),?_,?_,?_⟩
     .rw[<-hLe,<-List.drop_eq_getElem_cons hiL,List.take_append_drop]
     .intro e he;have eG:∀(j:Nat) (e:En),L[j]?=some e->e.i=j:=by
       intro j e hj;have vF:j < ops.toList.length:=by rw[<-l1]; exact(Zi.1 hj).1
       obtain⟨r',h1,_⟩:=l3 j _ (Zg vF);rw[h1]at hj; simp only[Zs]at hj; rw[<-hj]
      rcases Zp.1 he with he | he
      .obtain⟨j,hj,rfl⟩:=List.getElem_of_mem he;have cM:j < i:=by simp at hj; omega
       have:L[j]?=some ((L.take i)[j]):=by
        rw[<-Zg hj,List.getElem?_take,if_pos cM]
       exact⟨by rw[eG j _ this]; omega,List.mem_of_getElem? this⟩
      .obtain⟨j,hj,rfl⟩:=List.getElem_of_mem he;have:L[i+1+j]?=some ((L.drop (i+1))[j]):=by
        rw[<-Zg hj,List.getElem?_drop]
       exact⟨by rw[eG _ _ this]; omega,List.mem_of_getElem? this⟩
     .intro e he;obtain⟨j,hj,rfl⟩:=List.getElem_of_mem he;have hh:L[i+1+j]?=some ((L.drop (i+1))[j]):=by
       rw[<-Zg hj,List.getElem?_drop]
      have vF:i+1+j < ops.toList.length:=by rw[<-l1]; exact(Zi.1 hh).1
      obtain⟨r',h1,_⟩:=l3 (i+1+j) _ (Zg vF);rw[h1]at hh; simp only[Zs]at hh; rw[<-hh]; show i < i+1+j; omega
    obtain⟨A,B,hAB,aS,sF⟩:=fX;have bX:∀k,(aD.setIfInBounds i true).getD k false=if k=i then true else aD.getD k false:=λk=>Qde aD i k false (by omega)
    have d4:∀g' a' w',Inv c.N m0 w0 g' ((⟨i,o.dst,r⟩:En).ap S) a' w'->(∀j,g1.box j=none->((∀cs,r≠ .new cs)\/o.dst≠some j)->g'.box j=none)->(∀t,g'.used t->g1.used t\/t=QaN i)->(∀j,g1.box j≠none->g'.box j≠none)->
      (∀b off cs,r= .set b off cs->g1.box b≠none)->K a' w':=by
     intro g' a' w' I' p2 p3 p4 p5;refine hK a' w' ⟨g',I'.eqv (λu=>?_) (λb=>?_) ?_ ?_,λe he hl cs hr d bY=>?_,λe he hl b off cs hr=>?_,λe he hl hu=>?_,λj hj hu=>?_⟩
     .rw[Qd1,QJf,<-hS,Qd1];by_cases lV:o.dst=some u
      .rw[hAB];refine QgS A B ⟨i,o.dst,r⟩ _ kQ (by rw[bX,if_pos rfl]) (λe he=>by rw[bX,if_neg (aS e he).1]) λe he=>?_
       obtain⟨oj,h1,_,h3,_⟩:=cA e (aS e (by simp[he])).2
       by_cases hdj:e.d=some u
       .left;show aD.getD e.i false=false;rw[gU e.i oj h1 (by unfold Qid; rw[lV]; simp only; rw[show(QgR ops.toList oj).contains u=true by unfold QgR; rw[<-h3,hdj]; simp]; simp)]
        have:=sF e he;simp; omega
       .right; intro s; unfold En.tm; rw[if_neg hdj]
      .have:(⟨i,o.dst,r⟩:En).tm u=λs=>s:=by funext s; unfold En.tm; rw[if_neg lV]
       rw[this];refine Qb0 L _ λe he=>?_;by_cases fW:e.i=i
       .right;have:e=⟨i,o.dst,r⟩:=by
         obtain⟨_,_,h2,_⟩:=cA e he;rw[fW,tV]at h2; simpa using h2.symm
        rw[this]; intro s; unfold En.tm; rw[if_neg lV]
       .left; rw[bX,if_neg fW]
     .rw[Qgj,QKd,<-hS,Qgj];by_cases eB:(∃cs,r= .new cs/\o.dst=some b)\/∃off cs,r= .set b off cs
      .rw[hAB];refine QgS A B ⟨i,o.dst,r⟩ _ kQ (by rw[bX,if_pos rfl]) (λe he=>by rw[bX,if_neg (aS e he).1]) λe he=>?_
       obtain⟨fW,j7⟩:=aS e (by simp[he])
       obtain⟨oj,h1,_,h3,h4,_⟩:=cA e j7;have hgt:=sF e he;by_cases hnew':∃cs,e.r= .new cs/\e.d=some b
       .obtain⟨bK,bL,bY⟩:=hnew';rcases eB with⟨cs,hr,oS⟩ | ⟨off,cs,hr⟩
        .exact absurd (cU e j7 ⟨i,o.dst,r⟩ sE bK cs bL hr b bY oS) fW
        .have hu:=kO e j7 bK bL b bY i (by omega)
         rw[hT]at hu;rw[hr]at bP;simp only[St.res,hu]at bP;cases bP
       .by_cases hset':∃off cs,e.r= .set b off cs
        .obtain⟨dF,bK,bL⟩:=hset';left;show aD.getD e.i false=false;rcases eB with⟨cs,hr,oS⟩ | ⟨off,cs,hr⟩
         .cases hl:aD.getD e.i false with
          | false=>rfl
          | true=>exact absurd (nR _ sE kQ cs hr b oS) (kP e j7 hl b dF bK bL)
         .have w1:isW o.op=true:=by
           rcases dK with⟨_,hs⟩ | ⟨_,hs⟩
           .exact((Qcn hs).2 b off cs hr).1
           .rw[hr]at hs; cases hs
          have w2:isW oj.op=true:=by
           rcases h4 with⟨_,hs⟩ | ⟨_,hs⟩
           .exact((Qcn hs).2 b dF bK bL).1
           .rw[bL]at hs; cases hs
          have w3:QvR oj.op=true:=QyH w2;have fM:Qg9 ops.toList D i e.i o oj=false:=mM i o e.i oj b (by simpa using ho) h1 (λu hu=>⟨off,by have:=j6 ⟨i,o.dst,r⟩ sE o (by simpa using ho) b off cs hr u hu; exact this⟩) (λu hu=>⟨dF,j6 e j7 oj h1 b dF bK bL u hu⟩)
          rw[gU e.i oj h1 (by unfold Qid; rw[w1,w3,fM]; simp)]
          simp; omega
        .right;intro s;unfold En.bx;split
         .rename_i bK bL;rw[if_neg λbY=>hnew' ⟨bK,bL,bY⟩]
         .rename_i b' dF bK bL;rw[if_neg λdO=>hset' ⟨dF,bK,by rw[bL,dO]⟩]
         .rfl
      .have hid:∀s,(⟨i,o.dst,r⟩:En).bx b s=s:=by
        intro s;unfold En.bx;split
        .rename_i cs hr;rw[if_neg λbY=>eB (.inl ⟨cs,hr,bY⟩)]
        .rename_i b' dF bK bL;rw[if_neg λdO=>eB (.inr ⟨dF,bK,by have h:r= .set b' dF bK:=bL; rw[h,dO]⟩)]
        .rfl
       rw[hid];refine Qb0 L _ λe he=>?_;by_cases fW:e.i=i
       .right;have:e=⟨i,o.dst,r⟩:=by
         obtain⟨_,_,h2,_⟩:=cA e he;rw[fW,tV]at h2; simpa using h2.symm
        rw[this]; exact hid
       .left; rw[bX,if_neg fW]
     .show _=(⟨i,o.dst,r⟩:En).tk S.toks;rw[QhW,<-hS,QhW];by_cases eB:∃t k rows,r= .app t k rows
      .obtain⟨t,k,rows,hr⟩:=eB;rw[hAB];refine QgS A B ⟨i,o.dst,r⟩ _ kQ (by rw[bX,if_pos rfl]) (λe he=>by rw[bX,if_neg (aS e he).1]) λe he=>?_
       obtain⟨fW,j7⟩:=aS e (by simp[he])
       obtain⟨oj,h1,_,h3,h4,_⟩:=cA e j7;have hgt:=sF e he;by_cases fM:∃t k rows,e.r= .app t k rows
       .obtain⟨t',k',aF,bL⟩:=fM;left;show aD.getD e.i false=false;have w1:Qkl o.op=true:=by
         rcases dK with⟨_,hs⟩ | ⟨_,hs⟩
         .exact(Qcn hs).1 t k rows hr
         .rw[hr]at hs; cases hs
        have w2:Qkl oj.op=true:=by
         rcases h4 with⟨_,hs⟩ | ⟨_,hs⟩
         .exact(Qcn hs).1 t' k' aF bL
         .rw[bL]at hs; cases hs
        rw[gU e.i oj h1 (by unfold Qid; rw[w1,w2]; simp)]
        simp; omega
       .right;intro s;unfold En.tk;split
        .rename_i t' k' aF bL; exact absurd ⟨t',k',aF,bL⟩ fM
        .rfl
      .have hid:∀s,(⟨i,o.dst,r⟩:En).tk s=s:=by
        intro s;unfold En.tk;split
        .rename_i t' k' aF bL; exact absurd ⟨t',k',aF,bL⟩ eB
        .rfl
       rw[hid];refine Qb0 L _ λe he=>?_;by_cases fW:e.i=i
       .right;have:e=⟨i,o.dst,r⟩:=by
         obtain⟨_,_,h2,_⟩:=cA e he;rw[fW,tV]at h2; simpa using h2.symm
        rw[this]; exact hid
       .left; rw[bX,if_neg fW]
     .show _=S.maps;rw[Qer,<-hS,Qer]
     .rw[bX]at hl;by_cases fW:e.i=i
      .rw[if_pos fW]at hl; cases hl
      .rw[if_neg fW]at hl;refine p2 d (nR e he hl cs hr d bY) ?_;by_cases hn:∃cs,r= .new cs
       .right;intro kN;obtain⟨cs2,hr2⟩:=hn;exact fW (cU e he ⟨i,o.dst,r⟩ sE cs cs2 hr hr2 d bY kN)
       .left; exact λcs e=>hn ⟨cs,e⟩
     .rw[bX]at hl;by_cases fW:e.i=i
      .have:e=⟨i,o.dst,r⟩:=by
        obtain⟨_,_,h2,_⟩:=cA e he;rw[fW,tV]at h2; simpa using h2.symm
       rw[this]at hr;exact p4 b (p5 b off cs hr)
      .rw[if_neg fW]at hl;exact p4 b (kP e he hl b off cs hr)
     .rw[bX]at hl;by_cases fW:e.i=i
      .rw[if_pos fW]at hl; cases hl
      .rw[if_neg fW]at hl;rcases p3 _ hu with h1 | h1
       .exact hJ4 e he hl h1
       .unfold QaN at h1; omega
     .rcases p3 _ hu with h1 | h1
      .exact hJ5 j hj h1
      .unfold QaN at h1; omega
    unfold wpOpIn;simp only[ho];rcases dK with⟨hw,gM⟩ | ⟨hw,rfl⟩
    ·
     rw[if_pos (QbF IS ops o (by rw[qH]; exact hw))]
     have qI:QvR o.op=true->∀x∈Qc1 o.op,∀b∈(T.ev x).locs,Qt S.boxes b=Qt T.boxes b/\g1.box b≠none:=by
      intro tW x hx b mN;have tR:g1.box b≠none:=by
       have:=QbD IS x;rw[iD x (QuJ hx)]at this;exact QnU this b mN
      refine⟨?_,tR⟩;have vL:=QGS gM tW hx mN;rw[<-hS,<-hT,Qgj,Qgj];refine Qb0 L _ λe he=>?_;obtain⟨oj,h1,_,h3,h4,_⟩:=cA e he;by_cases hnew':∃cs,e.r= .new cs/\e.d=some b
      .left;obtain⟨cs,bL,bY⟩:=hnew';have dJ:aD.getD e.i false=true:=by
        cases hl:aD.getD e.i false with
        | true=>rfl
        | false=>exact absurd (nR e he hl cs bL b bY) tR
       rw[dJ];rcases Nat.lt_or_ge e.i i with aQ | hge
       .simp[aQ]
       .have:=kO e he cs bL b bY i hge;rw[hT]at this; exact absurd this vL
      .by_cases hset':∃off cs,e.r= .set b off cs
       .left;obtain⟨dF,bK,bL⟩:=hset';have w2:isW oj.op=true:=by
         rcases h4 with⟨_,hs⟩ | ⟨_,hs⟩
         .exact((Qcn hs).2 b dF bK bL).1
         .rw[bL]at hs; cases hs
        have fM:Qg9 ops.toList D i e.i o oj=false:=mM i o e.i oj b (by simpa using ho) h1 (λu hu=>by have:=QB8 gM hu hx mN; rw[hT]; exact this) (λu hu=>⟨dF,j6 e he oj h1 b dF bK bL u hu⟩)
        exact gU e.i oj h1 (by unfold Qid; rw[tW,w2,fM]; simp)
       .right;intro s;unfold En.bx;split
        .rename_i bK bL;rw[if_neg λbY=>hnew' ⟨bK,bL,bY⟩]
        .rename_i b' dF bK bL;rw[if_neg λdO=>hset' ⟨dF,bK,by rw[bL,dO]⟩]
        .rfl
     have vM:Qkl o.op=true->S.toks=T.toks:=by
      intro fM;rw[<-hS,<-hT,QhW,QhW];refine Qb0 L _ λe he=>?_;obtain⟨oj,h1,_,h3,h4,_⟩:=cA e he;by_cases hap':∃t k rows,e.r= .app t k rows
      .left;obtain⟨t',k',aF,bL⟩:=hap';have w2:Qkl oj.op=true:=by
        rcases h4 with⟨_,hs⟩ | ⟨_,hs⟩
        .exact(Qcn hs).1 t' k' aF bL
        .rw[bL]at hs; cases hs
       exact gU e.i oj h1 (by unfold Qid; rw[fM,w2]; simp)
      .right;intro s;unfold En.tk;split
       .rename_i t' k' aF bL; exact absurd ⟨t',k',aF,bL⟩ hap'
       .rfl
     have vN:aop c.Γ c.eqs c.Δ o.op S.ev S.boxes S.toks=some r:=by
      rw[<-gM];exact Qoq iD (λtW x hx b mN=>(qI tW x hx b mN).1) vM
     have qJ:∀b off cs,r= .set b off cs->Qt S.boxes b=Qt T.boxes b/\g1.box b≠none:=by
      intro b off cs hr;obtain⟨h1,x,h2,h3⟩:=(Qcn gM).2 b off cs hr;have tW:QvR o.op=true:=QyH h1;exact qI tW x h2 b (by rw[h3]; simp[X.locs])
     obtain⟨S',y8⟩:∃S',S.res i o.dst r=some S':=by
      cases r with
      | set b off cs=>
       obtain⟨h1,_⟩:=qJ b off cs rfl;simp only[St.res,h1];simp only[St.res]at bP;cases hb:Qt T.boxes b with
       | none=>rw[hb]at bP; cases bP
       | some old=>exact⟨_,rfl⟩
      | new cs=>
       cases fO:o.dst with
       | none=>rw[fO]at bP; cases bP
       | some d=>exact⟨_,rfl⟩
      | app t k rows=>
       cases fO:o.dst with
       | none=>rw[fO]at bP; cases bP
       | some d=>exact⟨_,rfl⟩
      | _=>exact⟨_,rfl⟩
     have fM:=QoN y8;subst fM;refine Qe0 hc.ty hc.eq hc.del hF vN (show PutOk c.N i S o.dst r _ by unfold PutOk St.put; rw[if_pos dZ]; exact y8) IS (λcs hr d bY=>⟨nR _ sE kQ cs hr d bY,?_⟩) (hJ4 _ sE kQ) λg' a2 w2 I' p2 p3 p4=>?_
     .obtain⟨o',q1,q2⟩:=cH _ sE cs hr d bY;rw[<-hS,Qer];exact(aN d (Qcq _ q1 q2)).2
     exact d4 g' a2 w2 I' p2 p3 p4 λb off cs hr=>(qJ b off cs hr).2
    ·
     rw[if_neg (by rw[QbF IS ops o (by rw[qH]; exact hw)]; simp)]
     refine⟨λf _=>hF.fn f,?_⟩;have hdo:QjT c.N o.dst:=by
      intro x hx;rw[hx]at dZ;simpa[Qh0]using dZ
     exact d4 g1 _ w' (IS.put hdo (x:= .d (.v (.tuple #[]))) (v:=undef) (by simp only[RelX,Rel]; rfl)) (λ_ h _=>h) (λ_ h=> .inl h) (λ_ h=>h) (λ_ _ _ h=>by cases h)
theorem QpF (hF:FreeF F) (hc:CxOk P c) {D:List (Nat×Nat)} {ops:Array Oper} {σ1:St} (bT:Qav (QR ops.toList) σ=true) (mJ:∀d∈QR ops.toList,w0.out d=none) (dB:c.ops ops.toList 0 ops.toList σ=some σ1) (mK:Qil ops.toList σ1 D=true) (hd:QiG D ops.toList=true) (I:Inv c.N m0 w0 g σ a w) {Q:Exit->Act->World->Prop} (hQ:∀g' a' w',Inv c.N m0 w0 g' σ1 a' w'->(∀j,ops.size<=j->¬g'.used (QaN j))->Q .normal a' w'):wpAnyIn F n P .any ops Q ops.size (Array.replicate ops.size false) a w.drew:=Quv hF hc bT mJ dB mK hd I.drew hQ
theorem Qp6 (hF:FreeF F) (hc:CxOk P c) {id:Nat} {ops:Array Oper} (h:c.region id ops.toList σ=some σ') (aN:∀d∈QR ops.toList,w0.out d=none) (hd:QiG (c.diff id) ops.toList=true) (I:Inv c.N m0 w0 g σ a w) {Q:Exit->Act->World->Prop} (hQ:∀g' a' w',Inv c.N m0 w0 g' σ' a' w'->Q .normal a' w'):(Code.region id ops true).wpIn F n P Q a w:=by
 unfold Cx.region at h;split at h
 .rename_i bT;split at h
  .rename_i σ1 dB;split at h
   .rename_i mK;simp only[Zs]at h; subst h;refine wpIn_region_any hc.mix (QpF hF hc bT aN dB mK hd I λg' a' w' I' _=>?_);obtain⟨g2,I2⟩:=I'.close id;exact hQ g2 a' w' I2
   .cases h
  .cases h
 .cases h
end
end Go.Proofs.YticoemblgkemiaaGreatDoor
namespace Go.Proofs.YticoemblgkemiaaGreatDoor
open Go.RowKit Go.MapKept Go.ChangeMaps
section
variable {F:Fence} {n:Nat} {P:Program} {ops opsP:Array Oper}
theorem Oper.wpIn_mono2 {o:Oper} {a:Act} {w:World} {K K':Act->World->Prop} {Q Q':Exit->Act->World->Prop} (h:∀a w,K a w->K' a w) (hQ:∀c a w,Q (.panic c) a w->Q' (.panic c) a w) (hL:LetsOut Q->LetsOut Q')
  (hh:o.wpIn F n P a w K Q):o.wpIn F n P a w K' Q':=by
 refine⟨hh.1,?_⟩;have h2:=hh.2;generalize(o.semAt F.round a.eval).run P w=r at h2|-;cases r with
 | halt x w'=>cases x<;>simp only[Oper.uponIn]at h2|- <;>first | exact hQ _ _ _ h2 | exact h2
 | ok x w'=>
  cases x<;>simp only[Oper.uponIn]at h2|-
  case enter f args=>exact⟨h2.1,CallsIn.mono h2.2 λe gP he=>by cases e<;>first | exact h _ _ he | exact hQ _ _ _ he | exact hL he⟩
  case row r args=>exact⟨h2.1,RowsIn.mono h2.2 λ_ _ he=>h _ _ he⟩
  case round=>exact⟨h2.1,RoundIn.mono h2.2 λe gP he=>by cases e<;>first | exact h _ _ he | exact hQ _ _ _ he | exact hL he⟩
  all_goals first | exact h _ _ h2 | exact h2
def QqO (F:Fence) (n:Nat) (P:Program) (ops:Array Oper) (m:Nat) (Q:Exit->Act->World->Prop):Exit->Act->World->Prop
 | .normal,a,w=>∀(QbK:Nat) (aD:Array Bool),ops.size - m<=QbK->aD.size=ops.size->(∀i,i < ops.size->aD.getD i false=decide (i < m))->wpAnyIn F n P .any ops Q QbK aD a w
 | _,_,_=>False
def Qvn (ops:List Oper) (m:Nat):Bool:=(List.range (ops.length - m)).all λk=>(List.range m).all λi=>((QpG ops).getD (m+k) 0).testBit i
theorem QwM {ops:List Oper} {m:Nat} (h:Qvn ops m=true) {j i:Nat} (h1:m<=j) (h2:j < ops.length) (h3:i < m):((QpG ops).getD j 0).testBit i=true:=by
 have:=Zl.1 h (j - m) (Zm.2 (by omega))
 rw[show m+(j - m)=j by omega]at this
 exact Zl.1 this i (Zm.2 h3)
theorem QyB {aD:Array Bool} (he:QdO 0 ops.toList=true) (hs:aD.size=ops.size) (hr:Region.ready .any ops aD=[]):∀i,i < ops.size->aD.getD i true=true:=by
 intro i
 induction i using Nat.strongRecOn with
 | ind i ih=>
  intro hi;by_cases fV:aD.getD i true=true
  .exact fV
  .exfalso
   have hm:i∈Region.ready .any ops aD:=Qbb.2 ⟨ops[i],by simp[hi],by simpa using fV,λe kR hb=>by
    have h1:=Qct ops.toList 0 he i ops[i] (by simp[hi]) e kR hb
    have h2:=ih e.on (by omega) (by omega)
    rw[<-QcW (by omega)]; exact h2⟩
   rw[hr]at hm; cases hm
variable {Q:Exit->Act->World->Prop}
theorem Qtw (he:QdO 0 ops.toList=true) {m:Nat} (hP:opsP.toList=ops.toList.take m) (hm:m<=ops.size) (hl:Qvn ops.toList m=true) (hg:∀(i:Nat) (o:Oper),opsP[i]?=some o->∀(j:Nat) (fN:Bool),o.guard=some (j,fN)->j < m):
  ∀(kS QbK:Nat) (bB aD:Array Bool) (a:Act) (w:World),bB.size=m->aD.size=ops.size->(∀i,i < m->bB.getD i false=aD.getD i false)->(∀i,m<=i->aD.getD i false=false)->Qn5 ops aD->kS+(ops.size - m)<=QbK->
   wpAnyIn F n P .any opsP (QqO F n P ops m Q) kS bB a w->wpAnyIn F n P .any ops Q QbK aD a w:=by
 have bV:∀i,i < m->opsP[i]?=ops[i]?:=by
  intro i hi;have:opsP.toList[i]?=(ops.toList.take m)[i]?:=by rw[hP]
  rw[List.getElem?_take,if_pos hi]at this;simpa using this
 have bJ:opsP.size=m:=by
  have:=congrArg List.length hP;simp at this; omega
 have jA:∀(QbK:Nat) (bB aD:Array Bool) (a:Act) (w:World),bB.size=m->aD.size=ops.size->(∀i,i < m->bB.getD i false=aD.getD i false)->(∀i,m<=i->aD.getD i false=false)->Qn5 ops aD->(ops.size - m)<=QbK->Region.ready .any opsP bB=[]->
   QqO F n P ops m Q .normal a w->wpAnyIn F n P .any ops Q QbK aD a w:=by
  intro QbK bB aD a w h1 h2 h3 h4 h5 h6 h7 h8;have heP:QdO 0 opsP.toList=true:=by
   have key:∀(l:List Oper) (i k:Nat),QdO i l=true->QdO i (l.take k)=true:=by
    intro l
    induction l with
    | nil=>intro i k h; simp[QdO]
    | cons o t ih=>
     intro i k h;cases k with
     | zero=>rfl
     | succ k=>
      simp only[QdO,Za,List.take_succ_cons]at h|-;exact⟨h.1,ih (i+1) k h.2⟩
   rw[hP]; exact key _ _ _ he
  have hall:=QyB heP (by rw[h1,bJ]) h7
  refine h8 QbK aD h6 h2 λi hi=>?_;by_cases k5:i < m
  .rw[<-h3 i k5,<-QcW (by omega),hall i (by omega)]; simp[k5]
  .rw[h4 i (by omega)]; simp[k5]
 intro kS
 induction kS with
 | zero=>
  intro QbK bB aD a w h1 h2 h3 h4 h5 h6 h7;exact jA QbK bB aD a w h1 h2 h3 h4 h5 (by omega) h7.1 h7.2
 | succ fP ih=>
  intro QbK bB aD a w h1 h2 h3 h4 h5 h6 h7;by_cases hr:Region.ready .any opsP bB=[]
  .exact jA QbK bB aD a w h1 h2 h3 h4 h5 (by omega) hr (h7.1 hr)
  obtain⟨f,rfl⟩:∃f,QbK=f+1:=⟨QbK - 1,by omega⟩
  have cU:∀i,i < m->(i∈Region.ready .any opsP bB↔i∈Region.ready .any ops aD):=by
   intro i hi;rw[Qbb,Qbb,bV i hi];have e1:bB.getD i true=aD.getD i true:=by rw[QcW (by omega),QcW (by omega),h3 i hi]
   rw[e1];have e2:∀o,ops[i]?=some o->(Qla o bB↔Qla o aD):=by
    intro o ho;refine⟨λh e kR hb=>?_,λh e kR hb=>?_⟩
    .have:=Qct ops.toList 0 he i o (by simpa using ho) e kR hb
     rw[<-h3 e.on (by omega)]; exact h e kR hb
    .have:=Qct ops.toList 0 he i o (by simpa using ho) e kR hb
     rw[h3 e.on (by omega)]; exact h e kR hb
   exact⟨λ⟨o,q1,q2,q3⟩=>⟨o,q1,q2,(e2 o q1).1 q3⟩,λ⟨o,q1,q2,q3⟩=>⟨o,q1,q2,(e2 o q1).2 q3⟩⟩
  refine⟨λbL=>?_,λi hi=>?_⟩
  .exfalso
   refine hr (List.eq_nil_iff_forall_not_mem.2 λj hj=>?_);have hjm:j < m:=by
    obtain⟨o,q1,_⟩:=Qbb.1 hj;have:=(Zj.1 q1).1; omega
   have:=(cU j hjm).1 hj;rw[bL]at this; cases this
  .obtain⟨o,q1,q2,q3⟩:=Qbb.1 hi;have qF:=(Zj.1 q1).1;by_cases k5:i < m
   .have hw:=h7.2 i ((cU i k5).2 hi);have key:∀a' w',wpAnyIn F n P .any opsP (QqO F n P ops m Q) fP (bB.setIfInBounds i true) a' w'->wpAnyIn F n P .any ops Q f (aD.setIfInBounds i true) a' w':=by
     intro a' w' h';refine ih f _ _ a' w' (by simp[h1]) (by simp[h2]) (λj hj=>?_) (λj hj=>?_) ?_ (by omega) h'
     .rw[Qde _ _ _ _ (by omega),Qde _ _ _ _ (by omega),h3 j hj]
     .rw[Qde _ _ _ _ (by omega),if_neg (by omega)]; exact h4 j hj
     .intro j o' hj vD e kR hb;rw[Qde _ _ _ _ (by omega)]at vD|-
      by_cases e1:e.on=i
      .rw[if_pos e1]
      .rw[if_neg e1];by_cases e2:j=i
       .subst e2; rw[q1]at hj; cases hj; exact q3 e kR hb
       .rw[if_neg e2]at vD; exact h5 j o' hj vD e kR hb
    have hoP:opsP[i]?=some o:=by rw[bV i k5]; exact q1
    have lB:Region.wanted o (yielded opsP a.tmps)=Region.wanted o (yielded ops a.tmps):=by
     unfold Region.wanted;cases nT:o.guard with
     | none=>rfl
     | some p=>
      obtain⟨j,fN⟩:=p;simp only;unfold yielded;rw[bV j (hg i o hoP j fN nT)]
    unfold wpOpIn at hw|-;simp only[q1];simp only[hoP]at hw;rw[lB]at hw;split
    .rename_i hwn;rw[if_pos hwn]at hw;exact Oper.wpIn_mono2 key (λ_ _ _ h=>h.elim) (λ⟨_,_,h⟩=>h.elim) hw
    .rename_i hwn;rw[if_neg hwn]at hw;exact⟨hw.1,key _ _ hw.2⟩
   .exfalso
    refine hr (List.eq_nil_iff_forall_not_mem.2 λj hj=>?_);obtain⟨o',p1,p2,p3⟩:=Qbb.1 hj;have hjm:j < m:=by have:=(Zj.1 p1).1; omega
    have hb:=Qfv he h5 i o q1 q3 j (QwM hl (by omega) (by simpa using qF) (by omega))
    rw[QcW (by omega),h3 j hjm,hb]at p2
    cases p2
theorem QHN {aD:Array Bool} (he:QdO 0 ops.toList=true) {m:Nat} (h:∀i,i < ops.size->aD.getD i false=decide (i < m)):Qn5 ops aD:=by
 intro i o ho fE e kR hb;have hi:=(Zj.1 ho).1;have h1:=Qct ops.toList 0 he i o (by simpa using ho) e kR hb
 rw[h i hi]at fE;rw[h e.on (by omega)]
 simp at fE|-; omega
def QGv (ops:List Oper) (m:Nat):Bool:=ops.all λo=>match o.guard with | some (j,_)=>decide (j < m) | none=>true
def QpB (D:List (Nat×Nat)) (ops:List Oper) (m:Nat):Bool:=QdO 0 ops&&QiG D (ops.take m)&&Qvn ops m&&QGv (ops.take m) m
end
section
variable {F:Fence} {n:Nat} {P:Program} {c:Cx} {m0:Nat->Nat->Prop} {w0:Base} {g:Gh} {σ σ':St} {a:Act} {w:World}
theorem Qrn (l:List Oper) (m:Nat):∀d∈QR (l.take m),d∈QR l:=by
 induction l generalizing m with
 | nil=>intro d hd; simpa using hd
 | cons o t ih=>
  intro d hd;cases m with
  | zero=>cases hd
  | succ m=>
   rw[List.take_succ_cons,Qad]at hd;rw[Qad];simp only[Zp]at hd|-;exact hd.imp id (ih m d)
theorem Quk (hF:FreeF F) (hc:CxOk P c) {id m:Nat} {ops:Array Oper} {σ1:St} (bT:Qav (QR (ops.toList.take m)) σ=true) (aN:∀d∈QR ops.toList,w0.out d=none) (dB:c.ops (ops.toList.take m) 0 (ops.toList.take m) σ=some σ1) (mK:Qil (ops.toList.take m) σ1 (c.diff id)=true) (hd:QpB (c.diff id) ops.toList m=true) (hm:m<=ops.size) (I:Inv c.N m0 w0 g σ a w) {Q:Exit->Act->World->Prop}
  (hQ:∀g' a' w',Inv c.N m0 w0 g' σ1 a' w'->(∀j,m<=j->¬g'.used (QaN j))->∀(QbK:Nat) (aD:Array Bool),ops.size - m<=QbK->aD.size=ops.size->(∀i,i < ops.size->aD.getD i false=decide (i < m))->wpAnyIn F n P .any ops Q QbK aD a' w'):(Code.region id ops true).wpIn F n P Q a w:=by
 simp only[QpB,Za]at hd;obtain⟨⟨⟨he,hdp⟩,hl⟩,nT⟩:=hd;obtain⟨opsP,hP⟩:∃opsP:Array Oper,opsP.toList=ops.toList.take m:=⟨(ops.toList.take m).toArray,by simp⟩
 have bJ:opsP.size=m:=by
  have:=congrArg List.length hP;simp at this; omega
 rw[<-hP]at bT dB mK hdp nT;refine wpIn_region_any hc.mix (Qtw (opsP:=opsP) he hP hm hl (λi o ho j fN tX=>?_) opsP.size ops.size (Array.replicate opsP.size false) (Array.replicate ops.size false) a _ (by simp[bJ]) (by simp) (λi hi=>?_) (λi hi=>?_) (λi o ho fE=>?_) (by omega) (QpF hF hc bT (λd hd=>aN d (Qrn _ m d (by rw[<-hP]; exact hd))) dB mK hdp I λg' a' w' I' hu=>?_))
 .have:=Zl.1 nT o (List.mem_of_getElem? (by simpa using ho))
  rw[tX]at this;simpa using this
 .simp[Array.getD_eq_getD_getElem?,bJ,hi,show i < ops.size by omega]
 .simp only[Array.getD_eq_getD_getElem?,Array.getElem?_replicate]; split<;>rfl
 .simp only[Array.getD_eq_getD_getElem?,Array.getElem?_replicate]at fE;split at fE<;>cases fE
 .rw[bJ]at hu;exact hQ g' a' w' I' hu
end
section
variable {F:Fence} {n:Nat} {P:Program} {c:Cx} {m0:Nat->Nat->Prop} {w0:Base} {g:Gh} {σ σ':St} {a:Act} {w:World}
theorem Qn6 (hF:FreeF F) (hc:CxOk P c) {id:Nat} {ops:Array Oper} (h:c.regionL id ops.toList σ=some σ') (aN:∀d∈QR ops.toList,w0.out d=none) (hd:QpB (c.diff id) ops.toList (ops.toList.length - 1)=true) (I:Inv c.N m0 w0 g σ a w) {Q:Exit->Act->World->Prop} (hQ:∀g' a' w',Inv c.N m0 w0 g' σ' a' w'->Q .normal a' w'):(Code.region id ops true).wpIn F n P Q a w:=by
 unfold Cx.regionL at h;simp only at h;split at h
 case isFalse=>cases h
 rename_i bT;split at h
 case h_2=>cases h
 rename_i σ1 dB;split at h
 case isFalse=>cases h
 rename_i mK;split at h
 case h_2=>cases h
 rename_i o gV;split at h
 case h_2=>cases h
 rename_i hg hao;split at h
 case h_2=>cases h
 rename_i σ2 mB;simp only[Zs]at h; subst h;have aI:ops.toList.length=ops.size:=by simp
 rw[aI]at bT dB mK gV mB hd;have gD:0 < ops.size:=by
  have:=congrArg List.length gV;simp at this; omega
 have bY:=hd;simp only[QpB,Za]at bY;obtain⟨⟨⟨he,_⟩,hl⟩,_⟩:=bY;have bV:ops[ops.size - 1]?=some o:=by
  have:(ops.toList.drop (ops.size - 1))[0]?=some o:=by rw[gV]; rfl
  rw[List.getElem?_drop]at this;simpa using this
 refine Quk hF hc bT aN dB mK hd (by omega) I λg' a' w' I' hu QbK aD hf hs fV=>?_
 have lU:=QHN he fV;obtain⟨f,rfl⟩:∃f,QbK=f+1:=⟨QbK - 1,by omega⟩
 have vO:ops.size - 1∈Region.ready .any ops aD:=Qbb.2 ⟨o,bV,by rw[QcW (by omega),fV _ (by omega)]; simp,λe kR hb=>by
  have h1:=Qct ops.toList 0 he _ o (by simpa using bV) e kR hb
  rw[fV e.on (by omega)]; simp; omega⟩
 refine⟨λhr=>(by rw[hr]at vO; cases vO),λi hi=>?_⟩
 obtain⟨o',h1,h2,h3⟩:=Qbb.1 hi;have qF:=(Zj.1 h1).1;have vP:i=ops.size - 1:=by
  rw[QcW (by omega),fV i qF]at h2
  simp at h2; omega
 subst vP;rw[bV]at h1; cases h1;have lC:Region.ready .any ops (aD.setIfInBounds (ops.size - 1) true)=[]:=by
  refine List.eq_nil_iff_forall_not_mem.2 λj hj=>?_;obtain⟨oj,q1,q2,_⟩:=Qbb.1 hj;have cM:=(Zj.1 q1).1;rw[Qde _ _ _ _ (by omega)]at q2
  split at q2
  .cases q2
  .rw[QcW (by omega),fV j cM]at q2
   simp at q2; omega
 unfold wpOpIn;simp only[bV];rw[if_pos (by simp[Region.wanted,hg])]
 refine Qjw hF hc mB I' (λd hd=>by rw[hao]at hd; cases hd) (hu _ (Zr _)) λg2 a2 w2 I2 _ _=>?_
 obtain⟨g3,I3⟩:=I2.close id;have:=hQ g3 a2 w2 I3;cases f with
 | zero=>exact⟨lC,this⟩
 | succ f=>exact⟨λ_=>this,λi hi=>by rw[lC]at hi; cases hi⟩
end
section
variable {F:Fence} {n:Nat} {P:Program} {ops opsS:Array Oper} {Q:Exit->Act->World->Prop}
variable {k:Nat}
end
section
variable {F:Fence} {n:Nat} {P:Program} {c:Cx} {m0:Nat->Nat->Prop} {w0:Base} {g:Gh} {σ σ':St} {a:Act} {w:World}
end
end Go.Proofs.YticoemblgkemiaaGreatDoor
