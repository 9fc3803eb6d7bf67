/-
  Regions that draw their order: what is ordered there. For any program. No program here.
-/
import Derived.Test.YtnfeakhkfehkhaaGreatDoorZAmB
set_option linter.unusedSectionVars false
set_option linter.unusedSimpArgs false
set_option linter.unusedVariables false
namespace Go.Proofs.YtnfeakhkfehkhaaGreatDoor
open Go.RowKit
def Qj5 (o:Oper) (aD:Array Bool):Prop:=∀e∈o.after.toList,Region.binds .any e=true->aD.getD e.on false=true
def QmF (ops:Array Oper) (aD:Array Bool):Prop:=∀i o,ops[i]?=some o->aD.getD i false=true->Qj5 o aD
theorem QcA (l:Array Bool) (i j:Nat) (d:Bool) (hi:i < l.size):(l.setIfInBounds i true).getD j d=if j=i then true else l.getD j d:=by
 simp only[Array.getD_eq_getD_getElem?,Array.getElem?_setIfInBounds];by_cases h:i=j
 .subst h; simp[hi]
 .simp[h,show ¬j=i from λe=>h e.symm]
theorem Qcr {l:Array Bool} {i:Nat} (hi:i < l.size):l.getD i true=l.getD i false:=by simp[Array.getD_eq_getD_getElem?,hi]
theorem QaU {ops:Array Oper} {aD:Array Bool} {i:Nat} :i∈Region.ready .any ops aD↔∃o,ops[i]?=some o/\aD.getD i true=false/\Qj5 o aD:=by
 unfold Region.ready Qj5;simp only[List.mem_filter,Zm,Za,Bool.not_eq_true'];constructor
 .rintro⟨h1,h2,h3⟩;refine⟨ops[i],by simp[h1],h2,?_⟩
  simp only[Array.getElem?_eq_getElem h1,Option.map_some,Option.getD_some,Array.all_eq_true]at h3;intro e he hb;obtain⟨k,hk,rfl⟩:=List.getElem_of_mem he;have:=h3 k (by simpa using hk)
  simp only[Array.getElem_toList]at hb|-;simpa[hb]using this
 .rintro⟨o,h1,h2,h3⟩;obtain⟨hi,rfl⟩:=Zj.1 h1;refine⟨hi,h2,?_⟩;simp only[h1,Option.map_some,Option.getD_some,Array.all_eq_true];intro k hk;have:=h3 (ops[i].after[k]) (by simp)
  by_cases hb:Region.binds .any (ops[i].after[k])=true
  .simp[this hb]
  .simp[hb]
theorem Qm5 {F:Fence} {n:Nat} {P:Program} {ops:Array Oper} {Q:Exit->Act->World->Prop} (J:Array Bool->Act->World->Prop) (eH:∀(i:Nat) (o:Oper),ops[i]?=some o->∀e∈o.after.toList,Region.binds .any e=true->e.on < i)
  (dL:∀(aD:Array Bool) (i:Nat) (o:Oper) (a:Act) (w:World),aD.size=ops.size->QmF ops aD->ops[i]?=some o->aD.getD i true=false->Qj5 o aD->J aD a w->∀K:Act->World->Prop,(∀a' w',J (aD.setIfInBounds i true) a' w'->K a' w')->wpOpIn F n P ops Q i K a w)
  (cY:∀(aD:Array Bool) (a:Act) (w:World),aD.size=ops.size->(∀i,i < ops.size->aD.getD i true=true)->J aD a w->Q .normal a w):
  ∀(Qbx:Nat) (aD:Array Bool) (a:Act) (w:World),aD.size=ops.size->QmF ops aD->aD.toList.count false<=Qbx->J aD a w->wpAnyIn F n P .any ops Q Qbx aD a w:=by
 have hall:∀aD:Array Bool,aD.size=ops.size->Region.ready .any ops aD=[]->∀i,i < ops.size->aD.getD i true=true:=by
  intro aD hs hr i
  induction i using Nat.strongRecOn with
  | ind i ihi=>
   intro hi;by_cases fR:aD.getD i true=true
   .exact fR
   .exfalso
    have hm:i∈Region.ready .any ops aD:=QaU.2 ⟨ops[i],by simp[hi],by simpa using fR,λe he hb=>by
     have h1:=eH i ops[i] (by simp[hi]) e he hb
     have h2:=ihi e.on h1 (by omega)
     rw[<-Qcr (by omega)]; exact h2⟩
    rw[hr]at hm; cases hm
 intro Qbx
 induction Qbx with
 | zero=>
  intro aD a w hs hd hc hJ;have u5:∀i,i < ops.size->aD.getD i true=true:=by
   intro i hi;by_cases fR:aD.getD i true=true
   .exact fR
   .exfalso
    have:aD[i]'(by omega)=false:=by simpa[Array.getD_eq_getD_getElem?,show i < aD.size by omega]using fR
    have hp:0 < aD.toList.count false:=List.count_pos_iff.2 (by rw[<-this]; simp)
    omega
  refine⟨List.eq_nil_iff_forall_not_mem.2 λj hj=>?_,cY aD a w hs u5 hJ⟩;obtain⟨o,h1,h2,_⟩:=QaU.1 hj;rw[u5 j (Zj.1 h1).1]at h2; cases h2
 | succ Qbx ih=>
  intro aD a w hs hd hc hJ;refine⟨λhr=>cY aD a w hs (hall aD hs hr) hJ,λi hi=>?_⟩;obtain⟨o,ho,fR,fG⟩:=QaU.1 hi;have pL:i < aD.size:=by rw[hs]; exact(Zj.1 ho).1
  refine dL aD i o a w hs hd ho fR fG hJ _ λa' w' hJ'=>ih _ a' w' (by simp[hs]) ?_ ?_ hJ'
  .intro j o' hj hl e he hb;rw[QcA _ _ _ _ pL]at hl|-;by_cases h1:e.on=i
   .rw[if_pos h1]
   .rw[if_neg h1];by_cases h2:j=i
    .subst h2;rw[ho]at hj; cases hj;exact fG e he hb
    .rw[if_neg h2]at hl;exact hd j o' hj hl e he hb
  .have hf':aD.toList[i]'(by simpa using pL)=false:=by simpa[Array.getD_eq_getD_getElem?,pL]using fR
   have hp:0 < aD.toList.count false:=List.count_pos_iff.2 (by rw[<-hf']; exact Ze _)
   rw[Array.toList_setIfInBounds,List.count_set (by simpa using pL)]
   simp[hf'];simp at hp;have:=Array.count_pos_iff.2 (show false∈aD from by simpa using hp)
   have hc':=hc;rw[Array.count_toList]at hc';omega
def QpJ (acc:List Nat):List Edge->Nat->Nat
 | [],s=>s
 | e::t,s=>QpJ acc t (if Region.binds .any e then s||| (2 ^ e.on||| acc.getD e.on 0)else s)
def Qg6:List Nat->List Oper->List Nat
 | acc,[]=>acc
 | acc,o::t=>Qg6 (acc++[QpJ acc o.after.toList 0]) t
def Qoe (ops:List Oper):List Nat:=Qg6 [] ops
def Qdj:Nat->List Oper->Bool
 | _,[]=>true
 | i,o::t=>o.after.toList.all (λe=>!Region.binds .any e||decide (e.on < i))&&Qdj (i+1) t
theorem Qnv (acc:List Nat) (i:Nat):∀(l:List Edge) (s:Nat),(QpJ acc l s).testBit i=true->s.testBit i=true\/∃e∈l,Region.binds .any e=true/\(e.on=i\/(acc.getD e.on 0).testBit i=true)
 | [],s,h=> .inl h
 | e::t,s,h=>by
  simp only[QpJ]at h;rcases Qnv acc i t _ h with h1 | ⟨e',h1,h2⟩
  .split at h1
   .rename_i hb;simp only[Nat.testBit_or,Bool.or_eq_true]at h1;rcases h1 with h1 | h1 | h1
    .exact .inl h1
    .refine .inr ⟨e,by simp,hb,.inl ?_⟩
     rw[Nat.testBit_two_pow]at h1; simpa using h1
    .exact .inr ⟨e,by simp,hb,.inr h1⟩
   .exact .inl h1
  .exact .inr ⟨e',by simp[h1],h2⟩
theorem Qkq:∀(l:List Oper) (acc:List Nat),(∀j,j < acc.length->(Qg6 acc l)[j]?=acc[j]?)/\∀j o,l[j]?=some o->∃jV,(Qg6 acc l)[acc.length+j]?=some (QpJ jV o.after.toList 0)/\jV.length=acc.length+j/\∀k,k < jV.length->(Qg6 acc l)[k]?=jV[k]?
 | [],acc=>⟨λj _=>rfl,λj o h=>by simp at h⟩
 | o::t,acc=>by
  simp only[Qg6];obtain⟨h1,h2⟩:=Qkq t (acc++[QpJ acc o.after.toList 0]);refine⟨λj hj=>?_,λj o' hj=>?_⟩
  .rw[h1 j (by simp; omega),List.getElem?_append,if_pos hj]
  .cases j with
   | zero=>
    simp at hj; subst hj;refine⟨acc,?_,rfl,λk hk=>?_⟩
    .rw[Nat.add_zero,h1 acc.length (by simp)]; simp
    .rw[h1 k (by simp; omega),List.getElem?_append,if_pos hk]
   | succ j=>
    obtain⟨jV,q1,q2,q3⟩:=h2 j o' (by simpa using hj)
    refine⟨jV,?_,by simp at q2; omega,q3⟩
    rw[show acc.length+(j+1)=(acc++[QpJ acc o.after.toList 0]).length+j by simp; omega]; exact q1
theorem Qca:∀(l:List Oper) (i:Nat),Qdj i l=true->∀j o,l[j]?=some o->∀e∈o.after.toList,Region.binds .any e=true->e.on < i+j
 | [],i,_,j,o,h=>by simp at h
 | o::t,i,hb,j,o',h=>by
  simp only[Qdj,Za]at hb;cases j with
  | zero=>
   simp at h; subst h;intro e he rJ;have:=Zl.1 hb.1 e he;simpa[rJ]using this
  | succ j=>
   have:=Qca t (i+1) hb.2 j o' (by simpa using h)
   intro e he rJ;have:=this e he rJ;omega
theorem QeV {ops:Array Oper} (he:Qdj 0 ops.toList=true) {aD:Array Bool} (hd:QmF ops aD):∀(j:Nat) (o:Oper),ops[j]?=some o->Qj5 o aD->∀i,((Qoe ops.toList).getD j 0).testBit i=true->aD.getD i false=true:=by
 intro j
 induction j using Nat.strongRecOn with
 | ind j ih=>
  intro o ho fG i hi;have ho':ops.toList[j]?=some o:=by simpa using ho
  obtain⟨jV,q1,q2,q3⟩:=(Qkq ops.toList []).2 j o ho';simp only[List.length_nil,Nat.zero_add]at q1 q2;rw[Zd,Qoe,q1,Option.getD_some]at hi;rcases Qnv _ _ _ _ hi with h | ⟨e,h1,h2,h3⟩
  .simp at h
  .have aR:=Qca ops.toList 0 he j o ho' e h1 h2;have iT:=fG e h1 h2;rcases h3 with h3 | h3
   .rw[<-h3]; exact iT
   .have l8:e.on < j:=by omega
    have n5:j < ops.size:=(Zj.1 ho).1;have hoe:ops[e.on]?=some ops[e.on]:=Array.getElem?_eq_getElem (by omega)
    refine ih e.on l8 _ hoe (hd e.on _ hoe iT) i ?_;rw[Zd,Qoe,q3 e.on (by omega),<-Zd]; exact h3
section
variable {F:Fence} {n:Nat} {P:Program} {c:Cx} {m0:Nat->Nat->Prop} {w0:Base} {g:Gh} {σ σ':St} {a:Act} {w:World}
theorem QdY {α:Type} {l:List (Nat×α)} {k:Nat} {x:α} (h:Qv l k=some x):(k,x)∈l:=by
 induction l with
 | nil=>cases h
 | cons p t ih=>
  obtain⟨k',y⟩:=p;simp only[Qv]at h;split at h
  .rename_i e; simp only[Zs]at h; subst h; subst e; simp
  .exact List.mem_cons_of_mem _ (ih h)
theorem QbE:∀(l:List Nat),QcP l=true->l.Nodup
 | [],_=>List.nodup_nil
 | x::t,h=>by
  simp only[QcP,Za,Bool.not_eq_true',List.contains_eq_mem,decide_eq_false_iff_not]at h;exact List.nodup_cons.2 ⟨h.1,QbE t h.2⟩
def Q9 (al:List Nat) (g:Gh):Gh:= { g with box:=λi=>if al.contains i then none else g.box i,used:=λt=>g.used t/\t < 1000000}
theorem QdX {al:List Nat} :∀{caps:List (Sum Nat D)} {vs:List Value},Qc5 al caps=true->CapsR g w caps vs->CapsR (Q9 al g) w caps vs
 | [],_,_,h=>h
 | .inl b::t,vs,hp,h=>by
  simp only[Qc5,Za,Bool.not_eq_true']at hp;simp only[CapsR]at h|-;obtain⟨v,vt,h1,⟨blk,h2,h3⟩,h4⟩:=h;exact⟨v,vt,h1,⟨blk,by simp only[Q9]; rw[if_neg (by rw[hp.1]; simp)]; exact h2,h3⟩,QdX hp.2 h4⟩
 | .inr d::t,vs,hp,h=>by
  simp only[Qc5]at hp;simp only[CapsR]at h|-;obtain⟨v,vt,h1,h2,h4⟩:=h;exact⟨v,vt,h1,h2,QdX hp h4⟩
theorem QiD {al:List Nat} {base:Nat} {toks:List Nat} {x:X} {v:Value} (hp:x.plain al=true) (h:RelX g w base toks x v):RelX (Q9 al g) w base toks x v:=by
 cases x with
 | d y=>exact h
 | agz cs=>exact h
 | agb cs=>simp only[X.plain]at hp; cases hp
 | fx f a caps=>
  obtain⟨fs,cs,h1,h2,h3⟩:=h;exact⟨fs,cs,h1,h2,QdX (by simpa only[X.plain]using hp) h3⟩
 | loc b o=>
  obtain⟨blk,h1,h2⟩:=h;simp only[X.plain,Bool.not_eq_true']at hp;exact⟨blk,by simp only[Q9]; rw[if_neg (by rw[hp]; simp)]; exact h1,h2⟩
 | bs b o n k=>
  obtain⟨blk,c,h1,h2⟩:=h;simp only[X.plain,Bool.not_eq_true']at hp;exact⟨blk,c,by simp only[Q9]; rw[if_neg (by rw[hp]; simp)]; exact h1,h2⟩
 | mp b=>
  obtain⟨blk,h1,h2⟩:=h;simp only[X.plain,Bool.not_eq_true']at hp;exact⟨blk,by simp only[Q9]; rw[if_neg (by rw[hp]; simp)]; exact h1,h2⟩
 | sl k rows own=>
  cases own with
  | ex=>exact h
  | tok t=>
   simp only[X.plain,decide_eq_true_eq]at hp;exact⟨h.1,⟨h.2.1,hp⟩,h.2.2⟩
  | own t=>
   simp only[X.plain,decide_eq_true_eq]at hp;exact⟨h.1,⟨h.2.1,hp⟩,h.2.2⟩
theorem QxK {α:Type} {l:List (Nat×α)} {al:List Nat} (h:l.all (λp=>!al.contains p.1)=true) {d:Nat} (hd:d∈al):Qv l d=none:=by
 cases hg:Qv l d with
 | none=>rfl
 | some x=>
  have:=Zl.1 h _ (QdY hg);simp only[Bool.not_eq_true',List.contains_eq_mem,decide_eq_false_iff_not]at this;exact absurd hd this
theorem Inv.start (I:Inv c.N m0 w0 g σ a w) {al:List Nat} (aP:∀d∈al,w0.out d=none) (h:Qan al σ=true) (eB:∀i cs,Qv σ.boxes i=some cs->∀x∈cs,x.plain al=true):
  Inv c.N m0 w0 (Q9 al g) σ a w/\(∀d∈al,(Q9 al g).box d=none/\Qv σ.maps d=none)/\∀i,¬(Q9 al g).used (Qat i):=by
 simp only[Qan,Za]at h;obtain⟨⟨⟨⟨_,h0⟩,h1⟩,h2⟩,h3⟩:=h;have hb:∀i b,(Q9 al g).box i=some b->g.box i=some b:=by
  intro i b hi;simp only[Q9]at hi;split at hi
  .cases hi
  .exact hi
 refine⟨⟨I.below,I.size,I.defers,I.lt,I.old,I.new,λt x hx=>?_,λi b hi=>I.boxb i b (hb i b hi),λi j b hi hj=>I.boxi i j b (hb i b hi) (hb j b hj),λt b ht=>?_,I.toki,λb cs hc blk aG=>?_,λi b hi=>?_,I.fz,λi mc hi blk aG=>I.maps i mc hi blk (hb i blk aG),I.cells⟩,λd hd=>⟨?_,QxK h3 hd⟩,λi hi=>?_⟩
 .exact QiD (Zl.1 h1 _ (QdY hx)) (I.tmps t x hx)
 .obtain⟨k1,k2,k3⟩:=I.tokb t b ht;exact⟨k1,k2,λi hi=>k3 i (hb i b hi)⟩
 .obtain⟨vs,ty,k1,k2,k3⟩:=I.boxes b cs hc blk (hb b blk aG);exact⟨vs,ty,k1,k2,λj x v q1 q2=>⟨(k3 j x v q1 q2).1,QiD (eB b cs hc x (List.mem_of_getElem? q1)) (k3 j x v q1 q2).2⟩⟩
 .have h3:=I.out i b hi;simp only[Q9];rw[if_neg]
  .exact h3
  .intro hc;rw[aP i (by simpa using hc)]at hi; cases hi
 .simp only[Q9]; rw[if_pos (by simpa using hd)]
 .have:=hi.2;unfold Qat at this; omega
theorem Inv.close (I:Inv c.N m0 w0 g σ a w) (id:Nat):∃g',Inv c.N m0 w0 g' (c.close id σ) a w:=by
 have C0:Cl g σ.toks { g with tok:=λ_=>none,used:=λ_=>False} σ.toks []:=⟨rfl,rfl,(λs h=>h.elim),(λs b h=>by cases h),(λs t b h=>by cases h),(λt h=>h)⟩
 obtain⟨g1,C1,T1,h1⟩:=Qfa (w:=w) (base:=w0.heap.size) I.toki (toks:=σ.toks) (tmps:=σ.tmps) (f:=λt=>a.tmps.getD t undef) I.tmps (c.kp id) _ _ _ C0;obtain⟨g2,C2,T2,h2⟩:=Qe1 (w:=w) (base:=w0.heap.size) I.toki c.kb I.boxes (Qe3 σ.boxes (Qdq (Qeo σ.tmps (c.kp id) σ.toks []).1)++Qnm c.kb) g1 _ _ C1;refine⟨g2,⟨I.below,I.size,I.defers,by rw[C2.imm]; exact I.lt,by rw[C2.imm]; exact I.old,by rw[C2.imm]; exact I.new,λt x hx=>RelX.tr T2 (h1 t x hx),by rw[C2.box,C2.imm]; exact I.boxb,by rw[C2.box]; exact I.boxi,λt b hb=>?_,C2.inj,h2,by rw[C2.box]; exact I.out,I.fz,λi mc hi blk aG=>I.maps i mc (Qvt hi) blk (by rw[C2.box]at aG; exact aG),I.cells⟩⟩
 obtain⟨_,t',k1,_⟩:=C2.tok t b hb;rw[C2.box]; exact I.tokb t' b k1
theorem Qbo (I:Inv c.N m0 w0 g σ a w) (ops:Array Oper) (o:Oper) {b:Bool} (h:QaL ops.toList σ o=some b):Region.wanted o (yielded ops a.tmps)=b:=by
 unfold QaL at h;unfold Region.wanted;cases hg:o.guard with
 | none=>rw[hg]at h; simpa using h
 | some p=>
  obtain⟨j,fH⟩:=p;rw[hg]at h;simp only at h|-;have e:ops.toList[j]?=ops[j]?:=by simp
  rw[e]at h;unfold yielded;cases hj:(ops[j]?).bind (·.dst)with
  | none=>rw[hj]at h; cases h
  | some t=>
   rw[hj]at h;simp only[Option.bind_some]at h|-;split at h
   .rename_i bb hx;have hr:=I.tmps t _ hx;simp only[RelX,Rel]at hr;have hv:a.tmps[t]?=some (.bool bb):=by
     rw[Array.getD_eq_getD_getElem?]at hr;cases hh:a.tmps[t]? with
     | none=>rw[hh]at hr; simp[undef]at hr
     | some v=>rw[hh]at hr; simp at hr; rw[hr]
    rw[hv];simp only[Zs]at h; subst h;cases bb<;>cases fH<;>rfl
   .rename_i vs hx;have hr:=I.tmps t _ hx;simp only[RelX,Rel]at hr;simp only[Zs]at h; subst h;rw[Array.getD_eq_getD_getElem?]at hr;cases hh:a.tmps[t]? with
    | none=>cases fH<;>rfl
    | some v=>rw[hh]at hr; simp at hr; subst hr; cases fH<;>rfl
   .cases h
theorem Q7 (o:Oper) (t:List Oper):QP (o::t)=(match Qab o with | some d=>[d] | none=>[])++QP t:=by
 simp only[QP]; cases Qab o<;>rfl
theorem Qb0 {Γ:Tys} {eqs:List (TypeId×Nat)} {Δ:Nat->List D->Option D} {o:Oper} {ev:Operand->X} {boxes:List (Nat×List X)} {toks:List Nat} {cs:NewC} (h:aop Γ eqs Δ o.op ev boxes toks=some (.new cs)):Qab o=o.dst:=by
 obtain⟨dst,op,ty,pos,after,guard⟩:=o;have key:∀x:Option X,Res.ofX x≠some (.new cs):=λx h=>by cases x<;>simp[Res.ofX]at h
 cases op<;>simp only[aop]at h<;>first
  | rfl
  | (cases h; done)
  | exact absurd h (key _)
  | (simp at h; done)
  | skip
 case store T x y=>
  (repeat' split at h)<;>first | cases h | simp at h
 case buildSlice T n p=>
  (repeat' split at h)<;>first | cases h | simp at h
 case call cc=>
  obtain⟨callee,args,argTypes⟩:=cc;unfold QnO at h;simp only at h;split at h
  ·(repeat' split at h)<;>first | (cases h; done) | exact absurd h (key _)
  .split at h
   .split at h
    .rename_i tG;simp only[Qab,tG,if_true]
    .unfold QfV at h
     (repeat' split at h)<;>first | (cases h; done) | (simp at h; done)
   .cases h
  ·(repeat' split at h)<;>first | (cases h; done) | exact absurd h (key _)
  ·(repeat' split at h)<;>first | (cases h; done) | exact absurd h (key _)
  ·(repeat' split at h)<;>first | (cases h; done) | (simp at h; done) | (obtain⟨k,rows,_,hd⟩:=Qo7 h; cases hd) | (obtain⟨d,hd⟩:=Qm9 h; cases hd)
  .cases h
theorem Qrc {N i:Nat} {σ σ':St} {d:Option Nat} {r:Res} (h:σ.put N i d r=some σ'):σ'.maps=σ.maps:=by
 unfold St.put at h;split at h
 .unfold St.res at h
  (repeat' split at h)<;>first | (cases h; done) | (simp only[Zs]at h; subst h; rfl)
 .cases h
theorem QbD (hF:FreeF F) (hc:CxOk P c) (ops:Array Oper) {Q:Exit->Act->World->Prop} :∀(rest:List Oper) (i:Nat) (σ σ':St) (g:Gh) (a:Act) (w:World),c.opsE ops.toList i rest σ=some σ'->Inv c.N m0 w0 g σ a w->(QP rest).Nodup->(∀d∈QP rest,g.box d=none/\Qv σ.maps d=none)->(∀j,i<=j->¬g.used (Qat j))->
  (∀g' a' w',Inv c.N m0 w0 g' σ' a' w'->Q .normal a' w')->wpListIn F n P ops Q rest a w
 | [],i,σ,σ',g,a,w,h,I,_,_,_,hQ=>by
  simp only[Cx.opsE,Zs]at h; subst h;exact hQ g a w I
 | o::t,i,σ,σ',g,a,w,h,I,cB,aP,dA,hQ=>by
  simp only[Cx.opsE]at h;split at h
  .rename_i σ1 dG;have gU:(QP t).Nodup:=by
    rw[Q7]at cB;exact(List.nodup_append.1 cB).2.1
   have halt:∀d∈QP t,d∈QP (o::t):=λd hd=>by rw[Q7]; simp[hd]
   unfold Cx.stepE at dG;split at dG
   .rename_i σ2 hs;simp only[Zs]at dG; subst dG;have h1:c.ops ops.toList i [o] σ=some σ2:=by simp only[Cx.ops,hs]
    unfold Cx.step at hs;split at hs
    .rename_i hw;have jW:=Qbo I ops o hw;unfold wpListIn;rw[if_pos jW];split at hs
     .rename_i r hr;refine Qd3 hc.ty hc.eq hc.del hF hr hs I (λcs e d hd=>?_) (dA i (Zr _)) λg' a' w' I' hb hu _=>?_
      .subst e;refine aP d ?_;rw[Q7,Qb0 hr,hd]; simp
      .refine QbD hF hc ops t (i+1) σ2 σ' g' a' w' h I' gU (λd hd=>⟨hb d (aP d (halt d hd)).1 ?_,by rw[Qrc hs]; exact(aP d (halt d hd)).2⟩) (λj hj l9=>?_) hQ
       .by_cases cJ:∃cs,r= .new cs
        .right;intro e;obtain⟨cs,bP⟩:=cJ;subst bP;rw[Q7,Qb0 hr,e]at cB;simp only[List.cons_append,List.nil_append,List.nodup_cons]at cB;exact cB.1 hd
        .left; intro cs e; exact cJ ⟨cs,e⟩
       .rcases hu _ l9 with h1 | h1
        .exact dA j (by omega) h1
        .unfold Qat at h1; omega
     .cases hs
    .rename_i hw;have jW:=Qbo I ops o hw;unfold wpListIn;rw[if_neg (by rw[jW]; simp)]
     refine⟨λf _=>hF.fn f,?_⟩;have hp:PutOk c.N i σ o.dst .skip σ2:=hs;have hd:=hp.dst;have hg:=hp.get;simp only[St.res,Zs]at hg; subst hg;exact QbD hF hc ops t (i+1) _ σ' g _ w h (I.put hd (x:= .d (.v (.tuple #[]))) (v:=undef) (by simp only[RelX,Rel]; rfl)) gU (λd hd=>aP d (halt d hd)) (λj hj=>dA j (by omega)) hQ
    .cases hs
   .split at dG
    .rename_i hw;have jW:=Qbo I ops o hw;unfold wpListIn;rw[if_pos jW];refine Qjs hF hc dG I (λd hd=>aP d (by rw[Q7,hd]; simp)) (dA i (Zr _)) λg' a' w' I' hb hu=>?_
     refine QbD hF hc ops t (i+1) σ1 σ' g' a' w' h I' gU (λd hd=>hb d (aP d (halt d hd)) λe=>?_) (λj hj l9=>?_) hQ
     .rw[Q7,e]at cB;simp only[List.cons_append,List.nil_append,List.nodup_cons]at cB;exact cB.1 hd
     .rcases hu _ l9 with h1 | h1
      .exact dA j (by omega) h1
      .unfold Qat at h1; omega
    .cases dG
  .cases h
theorem Qaz {al:List Nat} (h:Qan al σ=true):QcP al=true/\∀i cs,Qv σ.boxes i=some cs->∀x∈cs,x.plain al=true:=by
 simp only[Qan,Za]at h;obtain⟨⟨⟨⟨cB,_⟩,_⟩,dO⟩,_⟩:=h;refine⟨cB,λi cs hi x hx=>?_⟩;have h:=Zl.1 dO _ (QdY hi);simp only[Za]at h;exact Zl.1 h.2 x hx
theorem Qnq (hF:FreeF F) (hc:CxOk P c) {id:Nat} {ops:Array Oper} (h:c.regionE id ops.toList σ=some σ') (aP:∀d∈QP ops.toList,w0.out d=none) (I:Inv c.N m0 w0 g σ a w) {Q:Exit->Act->World->Prop} (hQ:∀g' a' w',Inv c.N m0 w0 g' σ' a' w'->Q .normal a' w'):(Code.region id ops false).wpIn F n P Q a w:=by
 unfold Cx.regionE at h;split at h
 .rename_i bV;split at h
  .rename_i σ1 dB;simp only[Zs]at h; subst h;obtain⟨cB,dE⟩:=Qaz bV;obtain⟨I1,mA,dA⟩:=I.start aP bV dE;refine wpIn_region_list (QbD hF hc ops ops.toList 0 σ σ1 _ a w dB I1 (QbE _ cB) mA (λj _=>dA j) λg' a' w' I'=>?_);obtain⟨g2,I2⟩:=I'.close id;exact hQ g2 a' w' I2
  .cases h
 .cases h
end
structure En where
 i:Nat
 d:Option Nat
 r:Res
def En.x (e:En):X:=
 match e.r with
 | .q x=>x
 | .skip=> .d (.v (.tuple #[]))
 | .got d=> .d d
 | .new cs=>cs.x (e.d.getD 0)
 | .lay k rows=> .sl k rows .ex
 | .set _ _ _=> .d .top
 | .app _ k rows=> .sl k rows (.tok (Qat e.i))
def En.tm (u:Nat) (e:En) (s:Option X):Option X:=if e.d=some u then some e.x else s
def En.bx (b:Nat) (e:En) (s:Option (List X)):Option (List X):=
 match e.r with
 | .new cs=>if e.d=some b then some cs.cells else s
 | .set b' off cs=>if b'=b then s.map (λold=>QA2 old off cs)else s
 | _=>s
def En.tk (e:En) (s:List Nat):List Nat:=match e.r with | .app t _ _=>QbI s t (Qat e.i) | _=>s
def En.boxes (e:En) (l:List (Nat×List X)):List (Nat×List X):=
 match e.r with
 | .new cs=>match e.d with | some d=>(d,cs.cells)::l | none=>l
 | .set b off cs=>match Qv l b with | some old=>(b,QA2 old off cs)::l | none=>l
 | _=>l
def En.ap (e:En) (σ:St):St:= { tmps:=Qj4 σ.tmps e.d e.x,boxes:=e.boxes σ.boxes,toks:=e.tk σ.toks,maps:=σ.maps}
theorem Qnw {σ σ':St} {i:Nat} {d:Option Nat} {r:Res} (h:σ.res i d r=some σ'):σ'=(⟨i,d,r⟩:En).ap σ:=by
 cases r with
 | q x=>simp only[St.res,Zs]at h; rw[<-h]; rfl
 | skip=>simp only[St.res,Zs]at h; rw[<-h]; rfl
 | got x=>simp only[St.res,Zs]at h; rw[<-h]; rfl
 | lay k rows=>simp only[St.res,Zs]at h; rw[<-h]; rfl
 | new cs=>cases d with
  | none=>cases h
  | some d=>simp only[St.res,Zs]at h; rw[<-h]; rfl
 | set b off cs=>
  simp only[St.res]at h;cases hb:Qv σ.boxes b with
  | none=>rw[hb]at h; cases h
  | some old=>
   rw[hb]at h; simp only[Zs]at h; rw[<-h];simp[En.ap,En.boxes,En.x,En.tk,hb]
 | app t k rows=>cases d with
  | none=>cases h
  | some d=>simp only[St.res,Zs]at h; rw[<-h]; rfl
theorem QDl (e:En) (σ:St) (u:Nat):Qv (e.ap σ).tmps u=e.tm u (Qv σ.tmps u):=by
 simp only[En.ap,En.tm,Qj4];cases h:e.d with
 | none=>simp
 | some d=>
  simp only[Qv];by_cases hu:u=d
  .subst hu; simp
  .rw[if_neg hu,if_neg (by simpa using λe=>hu e.symm)]
theorem QC2 (e:En) (σ:St) (b:Nat):Qv (e.ap σ).boxes b=e.bx b (Qv σ.boxes b):=by
 simp only[En.ap,En.boxes,En.bx];cases e.r with
 | new cs=>
  cases h:e.d with
  | none=>simp
  | some d=>
   simp only[Qv];by_cases hu:b=d
   .subst hu; simp
   .rw[if_neg hu,if_neg (by simpa using λe=>hu e.symm)]
 | set b' off cs=>
  simp only;cases hb:Qv σ.boxes b' with
  | none=>
   by_cases fE:b'=b
   .subst fE; rw[if_pos rfl,hb]; rfl
   .rw[if_neg fE]
  | some old=>
   simp only[Qv];by_cases fE:b'=b
   .subst fE; rw[if_pos rfl,if_pos rfl,hb]; rfl
   .rw[if_neg fE,if_neg (λe=>fE e.symm)]
 | _=>rfl
def Qbb (X:Nat->Bool):List En->St->St
 | [],σ=>σ
 | e::t,σ=>Qbb X t (if X e.i then e.ap σ else σ)
def comp {S:Type} (X:Nat->Bool) (F:En->S->S):List En->S->S
 | [],s=>s
 | e::t,s=>comp X F t (if X e.i then F e s else s)
theorem Qdw (X:Nat->Bool) (u:Nat):∀(l:List En) (σ:St),Qv (Qbb X l σ).tmps u=comp X (En.tm u) l (Qv σ.tmps u)
 | [],σ=>rfl
 | e::t,σ=>by
  simp only[Qbb,comp];rw[Qdw X u t];congr 1;split
  .exact QDl e σ u
  .rfl
theorem Qff (X:Nat->Bool) (b:Nat):∀(l:List En) (σ:St),Qv (Qbb X l σ).boxes b=comp X (En.bx b) l (Qv σ.boxes b)
 | [],σ=>rfl
 | e::t,σ=>by
  simp only[Qbb,comp];rw[Qff X b t];congr 1;split
  .exact QC2 e σ b
  .rfl
theorem QgC (X:Nat->Bool):∀(l:List En) (σ:St),(Qbb X l σ).toks=comp X En.tk l σ.toks
 | [],σ=>rfl
 | e::t,σ=>by
  simp only[Qbb,comp];rw[QgC X t];congr 1;split<;>rfl
theorem QbG {S:Type} {X Y:Nat->Bool} {F:En->S->S} :∀(l:List En) (s:S),(∀e∈l,X e.i=Y e.i\/∀s,F e s=s)->comp X F l s=comp Y F l s
 | [],s,_=>rfl
 | e::t,s,h=>by
  simp only[comp];rw[QbG t _ λe' he=>h e' (by simp[he])]
  congr 1;rcases h e (by simp)with h1 | h1
  .rw[h1]
  .rw[h1]; simp
theorem QeH {S:Type} {X:Nat->Bool} {F:En->S->S} :∀(l:List En) (s:S),(∀e∈l,X e.i=false\/∀s,F e s=s)->comp X F l s=s
 | [],s,_=>rfl
 | e::t,s,h=>by
  simp only[comp];rw[QeH t _ λe' he=>h e' (by simp[he])]
  rcases h e (by simp)with h1 | h1
  .rw[h1]; simp
  .rw[h1]; simp
theorem Qd5 {S:Type} (X:Nat->Bool) (F:En->S->S):∀(l k:List En) (s:S),comp X F (l++k) s=comp X F k (comp X F l s)
 | [],k,s=>rfl
 | e::t,k,s=>by simp only[List.cons_append,comp]; exact Qd5 X F t k _
theorem Qf1 {S:Type} {X Y:Nat->Bool} {F:En->S->S} (A B:List En) (e:En) (s:S) (hX:X e.i=false) (hY:Y e.i=true) (hA:∀e'∈A++B,Y e'.i=X e'.i) (hB:∀e'∈B,X e'.i=false\/∀s,F e' s=s):
  comp Y F (A++e::B) s=F e (comp X F (A++e::B) s):=by
 rw[Qd5,Qd5];simp only[comp,hX,hY,if_true,Bool.false_eq_true,if_false];rw[QbG (X:=Y) (Y:=X) A s λe' he=> .inl (hA e' (by simp[he]))]
 rw[QeH B _ hB];rw[QeH B _ λe' he=>(hB e' he).imp (λh=>by rw[hA e' (by simp[he])]; exact h) id]
def QzZ (c:Cx) (ops:List Oper) (o:Oper) (σ:St) (r:Res):Prop:=
 (QaL ops σ o=some true/\aop c.Γ c.eqs c.Δ o.op σ.ev σ.boxes σ.toks=some r)\/(QaL ops σ o=some false/\r= .skip)
theorem Qi5 (c:Cx) (ops:List Oper):∀(rest:List Oper) (i:Nat) (σ σF:St),c.ops ops i rest σ=some σF->
  ∃L:List En,L.length=rest.length/\σF=Qbb (λ_=>true) L σ/\∀j o,rest[j]?=some o->∃r,L[j]?=some ⟨i+j,o.dst,r⟩/\Qg3 c.N o.dst=true/\QzZ c ops o (Qbb (λk=>decide (k < i+j)) L σ) r/\
   ((Qbb (λk=>decide (k < i+j)) L σ).res (i+j) o.dst r).isSome=true
 | [],i,σ,σF,h=>by
  simp only[Cx.ops,Zs]at h;exact⟨[],rfl,h.symm,λj o h=>by simp at h⟩
 | o::t,i,σ,σF,h=>by
  simp only[Cx.ops]at h;split at h
  .rename_i σ1 hs;obtain⟨r,hr,hp⟩:∃r,QzZ c ops o σ r/\σ.put c.N i o.dst r=some σ1:=by
    unfold Cx.step at hs;split at hs
    .rename_i hw;split at hs
     .rename_i r hr; exact⟨r,.inl ⟨hw,hr⟩,hs⟩
     .cases hs
    .rename_i hw; exact⟨.skip,.inr ⟨hw,rfl⟩,hs⟩
    .cases hs
   unfold St.put at hp;split at hp
   .rename_i oD;obtain⟨L,l1,l2,l3⟩:=Qi5 c ops t (i+1) σ1 σF h;have fD:=Qnw hp;have kW:∀(L':List En) (σ:St),(∀e∈L',i<=e.i)->Qbb (λk=>decide (k < i)) L' σ=σ:=by
     intro L'
     induction L' with
     | nil=>intro σ _; rfl
     | cons e t ih=>
      intro σ he;simp only[Qbb];have:=he e (by simp)
      rw[if_neg (by simp; omega)]
      exact ih σ λe' h'=>he e' (by simp[h'])
    have eG:∀e∈L,i+1<=e.i:=by
     intro e he;obtain⟨j,hj,rfl⟩:=List.getElem_of_mem he;have jX:j < t.length:=by omega
     obtain⟨r',h1,_⟩:=l3 j t[j] (Zg jX);rw[Zg hj]at h1;simp only[Zs]at h1;rw[h1]; show i+1<=i+1+j; omega
    refine⟨⟨i,o.dst,r⟩::L,by simp[l1],by simp only[Qbb,if_true]; rw[<-fD]; exact l2,λj o' hj=>?_⟩
    cases j with
    | zero=>
     simp at hj; subst hj;have hf:Qbb (λk=>decide (k < i+0)) (⟨i,o.dst,r⟩::L) σ=σ:=by
      rw[Nat.add_zero];exact kW _ σ λe he=>by
       rcases List.mem_cons.1 he with rfl | he
       .exact Zr _
       .have:=eG e he; omega
     refine⟨r,rfl,oD,by rw[hf]; exact hr,by rw[hf,Nat.add_zero,hp]; rfl⟩
    | succ j=>
     obtain⟨r',h1,h2,h3,h4⟩:=l3 j o' (by simpa using hj)
     have hf:Qbb (λk=>decide (k < i+(j+1))) (⟨i,o.dst,r⟩::L) σ=Qbb (λk=>decide (k < i+1+j)) L σ1:=by
      simp only[Qbb];rw[if_pos (by simp),<-fD,show i+(j+1)=i+1+j by omega]
     rw[hf,show i+(j+1)=i+1+j by omega]
     exact⟨r',by simpa using h1,h2,h3,h4⟩
   .cases hp
  .cases h
def Qen (o:Oper):List Nat:=o.op.operands.toList.filterMap λ| .tmp t=>some t | _=>none
def Qqx (ops:List Oper) (o:Oper):List Nat:=match o.guard with | some (j,_)=>((ops[j]?).bind (·.dst)).toList | none=>[]
def QfT (ops:List Oper) (o:Oper):List Nat:=Qen o++Qqx ops o++o.dst.toList
def Qju:Op->Bool
 | .call cc=>(match cc.callee with | .builtin .append=>true | .value f=>Qym f | _=>false)
 | _=>false
def isW (op:Op):Bool:=match op with | .store _ _ _=>true | _=>false
def isVC (c:Call):Bool:=match c.callee with | .value _=>true | _=>false
def Qtf (op:Op):Bool:=match op with | .load _ _=>true | .call c=>isVC c | op=>isW op
theorem Qvc {op:Op} (h:isW op=true):Qtf op=true:=by cases op<;>first | (cases h; done) | rfl
def Qgf (u:Nat):List Oper->Bool
 | []=>false
 | o::t=>if Qab o=some u then !(Qgi t).contains u&&!(Qen o).contains u else !(Qen o).contains u&&!(o.dst==some u)&&Qgf u t
theorem Qq0 {ops:List Oper} {i u:Nat} {o:Oper} (h:ops[i]?=some o) (hd:o.dst=some u):u∈Qgi ops:=List.mem_filterMap.2 ⟨o,List.mem_of_getElem? h,hd⟩
theorem QhK {o:Oper} {u:Nat} (h:Qab o=some u):o.dst=some u:=by
 unfold Qab at h;split at h<;>first | exact h | (cases h; done) | (split at h<;>first | exact h | (cases h; done))
theorem Qqy {u:Nat} :∀{ops:List Oper},Qgf u ops=true->∃(a:Nat) (o:Oper),ops[a]?=some o/\Qab o=some u/\(∀(i:Nat) (o':Oper),ops[i]?=some o'->o'.dst=some u->i=a)/\∀(i:Nat) (o':Oper),ops[i]?=some o'->u∈Qen o'->a < i
 | [],h=>by cases h
 | o::t,h=>by
  unfold Qgf at h;by_cases ha:Qab o=some u
  .rw[if_pos ha]at h;simp only[Za,Bool.not_eq_true',List.contains_eq_mem,decide_eq_false_iff_not]at h;refine⟨0,o,rfl,ha,λi o' hi hd=>?_,λi o' hi hu=>?_⟩
   .cases i with
    | zero=>rfl
    | succ i=>exact absurd (Qq0 (by simpa using hi) hd) h.1
   .cases i with
    | zero=>simp at hi; subst hi; exact absurd hu h.2
    | succ i=>omega
  .rw[if_neg ha]at h;simp only[Za,Bool.not_eq_true',List.contains_eq_mem,decide_eq_false_iff_not]at h;obtain⟨⟨h1,h2⟩,h3⟩:=h;obtain⟨a,oa,k1,k2,k3,k4⟩:=Qqy h3;refine⟨a+1,oa,by simpa using k1,k2,λi o' hi hd=>?_,λi o' hi hu=>?_⟩
   .cases i with
    | zero=>simp at hi; subst hi; rw[hd]at h2; simp at h2
    | succ i=>rw[k3 i o' (by simpa using hi) hd]
   .cases i with
    | zero=>simp at hi; subst hi; exact absurd hu h1
    | succ i=>have:=k4 i o' (by simpa using hi) hu; omega
def QkR (ops:List Oper) (u v:Nat):Bool:=(Qgf u ops&&!(Qgi ops).contains v)||(Qgf v ops&&!(Qgi ops).contains u)||(Qgf u ops&&Qgf v ops&&u != v)
def QgY (ops:List Oper) (a b:Oper):Bool:=
 match Qa0 a.op,Qa0 b.op with
 | some u,some v=>QkR ops u v
 | _,_=>false
theorem QoY (ops:List Oper) (u v:Nat):QkR ops u v=QkR ops v u:=by
 unfold QkR;rw[Bool.or_comm (Qgf u ops&&!(Qgi ops).contains v),Bool.and_comm (Qgf u ops) (Qgf v ops),bne_comm]
theorem Qr5 (ops:List Oper) (a b:Oper):QgY ops a b=QgY ops b a:=by
 unfold QgY;cases Qa0 a.op<;>cases Qa0 b.op<;>simp only;exact QoY ops _ _
def Qgc (ops:List Oper) (D:List (Nat×Nat)) (i j:Nat) (a b:Oper):Bool:=QgY ops a b||D.contains (i,j)||D.contains (j,i)
theorem QoX (ops:List Oper) (D:List (Nat×Nat)) (i j:Nat) (a b:Oper):Qgc ops D i j a b=Qgc ops D j i b a:=by
 unfold Qgc;rw[Qr5,Bool.or_assoc,Bool.or_assoc,Bool.or_comm (D.contains (i,j))]
def Qht (ops:List Oper) (D:List (Nat×Nat)) (i j:Nat) (a b:Oper):Bool:=
 (match a.dst with | some d=>(QfT ops b).contains d | none=>false)||(match b.dst with | some d=>(QfT ops a).contains d | none=>false)||(((isW a.op&&Qtf b.op)||(Qtf a.op&&isW b.op))&&!Qgc ops D i j a b)||(Qju a.op&&Qju b.op)
def Qqd (ops:List Oper) (D:List (Nat×Nat)) (M:List Nat):Nat->List Oper->Bool
 | _,[]=>true
 | j,b::t=>(ops.take j).zipIdx.all (λ(a,i)=>!Qht ops D i j a b||(M.getD j 0).testBit i)&&Qqd ops D M (j+1) t
def QhE (D:List (Nat×Nat)) (ops:List Oper):Bool:=Qdj 0 ops&&Qqd ops D (Qoe ops) 0 ops
theorem Qjn (ops:List Oper) (D:List (Nat×Nat)) (M:List Nat):∀(l:List Oper) (k:Nat),Qqd ops D M k l=true->∀j b,l[j]?=some b->∀i a,i < k+j->ops[i]?=some a->Qht ops D i (k+j) a b=true->(M.getD (k+j) 0).testBit i=true
 | [],k,_,j,b,h=>by simp at h
 | b0::t,k,hp,j,b,h=>by
  simp only[Qqd,Za]at hp;cases j with
  | zero=>
   simp at h; subst h;intro i a hi ha hc;have:=Zl.1 hp.1 (a,i) (by
    rw[List.mem_zipIdx_iff_getElem?];simp only;rw[List.getElem?_take,if_pos (by omega)]; exact ha)
   rw[Nat.add_zero]at hc;simpa[hc]using this
  | succ j=>
   intro i a hi ha hc;rw[show k+(j+1)=k+1+j by omega]at hc|-
   exact Qjn ops D M t (k+1) hp.2 j b (by simpa using h) i a (by omega) ha hc
theorem QrP (ops:List Oper) (D:List (Nat×Nat)) (i j:Nat) (a b:Oper):Qht ops D i j a b=Qht ops D j i b a:=by
 unfold Qht;rw[QoX];cases Qgc ops D j i b a<;>cases isW a.op<;>cases isW b.op<;>cases Qtf a.op<;>cases Qtf b.op<;>cases Qju a.op<;>cases Qju b.op<;>simp[Bool.or_comm]
theorem QrF {ops:Array Oper} {D:List (Nat×Nat)} (hd:QhE D ops.toList=true) {aD:Array Bool} (lI:QmF ops aD) {i j:Nat} {oi oj:Oper} (hi:ops[i]?=some oi) (hj:ops[j]?=some oj) (fR:aD.getD i false=false) (eH:Qj5 oi aD) (hc:Qht ops.toList D i j oi oj=true) (aS:j≠i):
  aD.getD j false=decide (j < i):=by
 simp only[QhE,Za]at hd;obtain⟨he,hp⟩:=hd;rcases Nat.lt_or_ge j i with h | h
 .rw[decide_eq_true h];refine QeV he lI i oi hi eH j ?_;have:=Qjn ops.toList D _ ops.toList 0 hp i oi (by simpa using hi) j oj (by omega) (by simpa using hj) (by rw[QrP,Nat.zero_add]; exact hc)
  simpa using this
 .have aR:i < j:=by omega
  rw[decide_eq_false (by omega)]
  cases u6:aD.getD j false with
  | false=>rfl
  | true=>
   have hm:=Qjn ops.toList D _ ops.toList 0 hp j oj (by simpa using hj) i oi (by omega) (by simpa using hi) (by rw[Nat.zero_add]; exact hc)
   have:=QeV he lI j oj hj (lI j oj hj u6) i (by simpa using hm)
   rw[fR]at this; cases this
theorem Qyi {x:X} {b off:Nat} (h:x.soft= .loc b off):x= .loc b off:=by
 cases x with
 | d y=>cases y<;>simp[X.soft]at h
 | _=>exact h
theorem Qc0 {ev gV:Operand->X} (l:List Operand) (h:∀x∈l,ev x=gV x):l.map ev=l.map gV:=List.map_congr_left h
def QcL:Op->List Operand
 | .load _ x=>[x]
 | .store _ x _=>[x]
 | op=>op.operands.toList
theorem Qr0 {op:Op} {x:Operand} (h:x∈QcL op):x∈op.operands.toList:=by
 cases op<;>first | exact h | (simp only[QcL,List.mem_singleton]at h; subst h; simp[Op.operands])
theorem Qm3 {Γ:Tys} {eqs:List (TypeId×Nat)} {Δ:Nat->List D->Option D} {op:Op} {ev gV:Operand->X} {boxes bL:List (Nat×List X)} {toks toks':List Nat} (he:∀x∈op.operands.toList,ev x=gV x)
  (hb:Qtf op=true->∀x∈QcL op,∀b∈(gV x).locs,Qv boxes b=Qv bL b) (ht:Qju op=true->toks=toks'):aop Γ eqs Δ op ev boxes toks=aop Γ eqs Δ op gV bL toks':=by
 cases op with
 | call cc=>
  obtain⟨callee,args,argTypes⟩:=cc;simp only[aop,QnO];have aY:∀x∈args.toList,ev x=gV x:=λx hx=>he x (by simp only[Op.operands,Call.operands,Array.toList_append,Zp]; exact .inr hx)
  have hm:args.toList.map ev=args.toList.map gV:=Qc0 _ aY;cases callee with
  | value f=>
   have hf:ev f=gV f:=he f (by simp[Op.operands,Call.operands])
   have d8:=hb rfl;have eD:∀b∈(gV f).locs,Qv boxes b=Qv bL b:=d8 f (by simp[QcL,Op.operands,Call.operands])
   have eR:QdN boxes (args.toList.map gV)=QdN bL (args.toList.map gV):=QjO λy hy=>by
    obtain⟨x,hx,rfl⟩:=List.mem_map.1 hy;exact d8 x (by simp only[QcL,Op.operands,Call.operands,Array.toList_append,Zp]; exact .inr hx)
   simp only[hf,hm,eR];split
   .rfl
   .rfl
   .rename_i g pre caps heq;rw[heq]at eD;rw[QdU (caps:=caps) eD]
   .rfl
  | invoke r m=>rfl
  | builtin bi=>
   cases bi<;>simp only
   .have iN:=ht rfl;subst iN;split
    .rename_i s x T T' ha hT;rw[aY s (by rw[ha]; simp),aY x (by rw[ha]; simp)]
    .rfl
   .split
    .rename_i x T ha hT;rw[aY x (by rw[ha]; simp)]
    .rfl
   .split
    .rename_i x y ha;rw[aY x (by rw[ha]; simp),aY y (by rw[ha]; simp)]
    .rfl
   .split
    .rename_i x y ha;rw[aY x (by rw[ha]; simp),aY y (by rw[ha]; simp)]
    .rfl
 | load T x=>
  have hx:=he x (by simp[Op.operands])
  have dO:=hb rfl x (by simp[QcL])
  simp only[aop,hx];congr 1;unfold Qmq Qip;split
  .rfl
  .split
   .rename_i b off heq;rw[dO b (by rw[Qyi heq]; simp[X.locs])]
   .rfl
   .rfl
 | store T x y=>
  have hx:=he x (by simp[Op.operands])
  have hy:=he y (by simp[Op.operands])
  have dO:=hb rfl x (by simp[QcL])
  simp only[aop,hx,hy];split
  .rename_i b off cs ii heq _ _;rw[dO b (by rw[heq]; simp[X.locs])]
  .rfl
 | makeFunc fn first caps=>
  simp only[aop];have h1:first.toList.map ev=first.toList.map gV:=Qc0 _ λx hx=>he x (by simp only[Op.operands,Array.toList_append,Zp]; exact .inl hx)
  have h2:caps.toList.map ev=caps.toList.map gV:=Qc0 _ λx hx=>he x (by simp only[Op.operands,Array.toList_append,Zp]; exact .inr hx)
  rw[h1,h2]
 | build T parts=>
  simp only[aop];have:(parts.toList.map λp=>(p.1,ev p.2))=parts.toList.map λp=>(p.1,gV p.2):=List.map_congr_left λp hp=>by
   rw[he p.2 (by simp only[Op.operands,List.mem_map]; exact⟨p,hp,rfl⟩)]
  rw[this]
 | buildSlice T n parts=>
  simp only[aop];have:(parts.toList.map λp=>(p.1,ev p.2))=parts.toList.map λp=>(p.1,gV p.2):=List.map_congr_left λp hp=>by
   rw[he p.2 (by simp only[Op.operands,List.mem_map]; exact⟨p,hp,rfl⟩)]
  rw[this]
 | slice T x lo hi mx=>
  simp only[aop];have hx:=he x (by simp[Op.operands])
  have h1:lo.map ev=lo.map gV:=by cases lo with | none=>rfl | some y=>simp only[Option.map_some]; rw[he y (by simp[Op.operands])]
  have h2:hi.map ev=hi.map gV:=by cases hi with | none=>rfl | some y=>simp only[Option.map_some]; rw[he y (by simp[Op.operands])]
  have h3:mx.map ev=mx.map gV:=by cases mx with | none=>rfl | some y=>simp only[Option.map_some]; rw[he y (by simp[Op.operands])]
  rw[hx,h1,h2,h3]
 | _=>
  first
   | rfl
   | (simp only[aop]; simp only[Op.operands,List.mem_cons,List.not_mem_nil,or_false,forall_eq_or_imp,forall_eq]at he; simp only[he])
theorem Inv.eqv {N:Nat} {m0:Nat->Nat->Prop} {w0:Base} {g:Gh} {σ σ':St} {a:Act} {w:World} (I:Inv N m0 w0 g σ a w) (h1:∀u,Qv σ'.tmps u=Qv σ.tmps u) (h2:∀b,Qv σ'.boxes b=Qv σ.boxes b) (h3:σ'.toks=σ.toks) (h4:σ'.maps=σ.maps):Inv N m0 w0 g σ' a w:=
 ⟨I.below,I.size,I.defers,I.lt,I.old,I.new,λt x h=>by rw[h3]; exact I.tmps t x (by rw[<-h1]; exact h),I.boxb,I.boxi,I.tokb,I.toki,λb cs h blk hb=>by rw[h3]; exact I.boxes b cs (by rw[<-h2]; exact h) blk hb,I.out,I.fz,by rw[h4]; exact I.maps,I.cells⟩
theorem QbZ {Γ:Tys} {eqs:List (TypeId×Nat)} {Δ:Nat->List D->Option D} {op:Op} {ev:Operand->X} {boxes:List (Nat×List X)} {toks:List Nat} {r:Res} (h:aop Γ eqs Δ op ev boxes toks=some r):(∀t k rows,r= .app t k rows->Qju op=true)/\(∀b off cs,r= .set b off cs->isW op=true/\∃x∈QcL op,ev x= .loc b off):=by
 have key:∀x:Option X,∀r,Res.ofX x=some r->∃y,r= .q y:=λx r h=>by cases x<;>simp[Res.ofX]at h; exact⟨_,h.symm⟩
 cases op<;>simp only[aop]at h<;>first
  | (cases h; done)
  | (obtain⟨y,rfl⟩:=key _ _ h; exact⟨(λ_ _ _ e=>by cases e),(λ_ _ _ e=>by cases e)⟩)
  | (simp only[Zs]at h; subst h; exact⟨(λ_ _ _ e=>by cases e),(λ_ _ _ e=>by cases e)⟩)
  | skip
 case alloc T=>
  split at h<;>first | (cases h; done) | (simp only[Zs]at h; subst h; exact⟨(λ_ _ _ e=>by cases e),(λ_ _ _ e=>by cases e)⟩)
 case makeSlice T l c=>
  unfold Qva at h
  (repeat' split at h)<;>first | (cases h; done) | (simp only[Zs]at h; subst h; exact⟨(λ_ _ _ e=>by cases e),(λ_ _ _ e=>by cases e)⟩)
 case box T x=>
  split at h<;>first | (cases h; done) | (simp only[Zs]at h; subst h; exact⟨(λ_ _ _ e=>by cases e),(λ_ _ _ e=>by cases e)⟩)
 case buildSlice T n p=>
  split at h<;>first | (cases h; done) | (simp only[Zs]at h; subst h; exact⟨(λ_ _ _ e=>by cases e),(λ_ _ _ e=>by cases e)⟩)
 case store T x y=>
  split at h
  .rename_i b off cs ii heq _ _;split at h
   .split at h
    .simp only[Zs]at h; subst h;refine⟨λ_ _ _ e=>(by cases e),λb' dH bM e=>⟨rfl,x,by simp[QcL],?_⟩⟩
     simp only[Res.set.injEq]at e;obtain⟨rfl,rfl,_⟩:=e;exact heq
    .cases h
   .cases h
  .cases h
 case call cc=>
  obtain⟨callee,args,argTypes⟩:=cc;unfold QnO at h;simp only at h;split at h
  .split at h
   .obtain⟨y,rfl⟩:=key _ _ h; exact⟨λ_ _ _ e=>(by cases e),λ_ _ _ e=>(by cases e)⟩
   .cases h
  .refine⟨λ_ _ _ _=>rfl,λb off cs e=>?_⟩;subst e
   exfalso
   split at h
   .split at h
    .obtain⟨cs,bP⟩:=Qjd h; cases bP
    .unfold QfV at h
     (repeat' split at h)<;>first | cases h | simp at h
   .cases h
  .split at h
   .obtain⟨y,rfl⟩:=key _ _ h; exact⟨λ_ _ _ e=>(by cases e),λ_ _ _ e=>(by cases e)⟩
   .cases h
  .split at h
   .obtain⟨y,rfl⟩:=key _ _ h; exact⟨λ_ _ _ e=>(by cases e),λ_ _ _ e=>(by cases e)⟩
   .cases h
  ·(repeat' split at h)<;>first | (cases h; done) | (simp only[Zs]at h; subst h; exact⟨λ_ _ _ e=>(by cases e),λ_ _ _ e=>(by cases e)⟩) | (rename_i kT; obtain⟨k,rows,_,rfl⟩:=Qo7 h; exact⟨λ_ _ _ _=>kT,λ_ _ _ e=>(by cases e)⟩) | (obtain⟨y,rfl⟩:=Qm9 h; exact⟨λ_ _ _ e=>(by cases e),λ_ _ _ e=>(by cases e)⟩)
  .cases h
theorem QhI:∀(l:List Oper) {j k:Nat} {o o':Oper} {d:Nat},(QP l).Nodup->l[j]?=some o->l[k]?=some o'->Qab o=some d->Qab o'=some d->j=k
 | [],j,k,o,o',d,_,h,_,_,_=>by simp at h
 | p::t,j,k,o,o',d,hn,h1,h2,h3,h4=>by
  have c7:∀(l:List Oper) (q:Nat) (x:Oper),l[q]?=some x->Qab x=some d->d∈QP l:=by
   intro l
   induction l with
   | nil=>intro q x h; simp at h
   | cons y t ih=>
    intro q x h hx;rw[Q7];cases q with
    | zero=>simp at h; subst h; rw[hx]; simp
    | succ q=>have:=ih q x (by simpa using h) hx; simp[this]
  rw[Q7]at hn;cases j with
  | zero=>
   cases k with
   | zero=>rfl
   | succ k=>
    simp at h1; subst h1;rw[h3]at hn;simp only[List.cons_append,List.nil_append,List.nodup_cons]at hn;exact absurd (c7 t k o' (by simpa using h2) h4) hn.1
  | succ j=>
   cases k with
   | zero=>
    simp at h2; subst h2;rw[h4]at hn;simp only[List.cons_append,List.nil_append,List.nodup_cons]at hn;exact absurd (c7 t j o (by simpa using h1) h3) hn.1
   | succ k=>exact congrArg (· +1) (QhI t (j:=j) (k:=k) (List.nodup_append.1 hn).2.1 (by simpa using h1) (by simpa using h2) h3 h4)
theorem Qb4:∀(l:List Oper) {q:Nat} {x:Oper} {d:Nat},l[q]?=some x->Qab x=some d->d∈QP l
 | [],q,x,d,h,_=>by simp at h
 | y::t,q,x,d,h,hx=>by
  rw[Q7];cases q with
  | zero=>simp at h; subst h; rw[hx]; simp
  | succ q=>have:=Qb4 t (q:=q) (x:=x) (by simpa using h) hx; simp[this]
theorem Qlm {S:Type} {X:Nat->Bool} {F:En->S->S} :∀(l:List En) (s:S),(∀e∈l,X e.i=true->F e s=s)->comp X F l s=s
 | [],s,_=>rfl
 | e::t,s,h=>by
  simp only[comp];by_cases hx:X e.i=true
  .rw[if_pos hx,h e (by simp) hx]; exact Qlm t s λe' he=>h e' (by simp[he])
  .rw[if_neg hx]; exact Qlm t s λe' he=>h e' (by simp[he])
theorem QBc {Γ:Tys} {eqs:List (TypeId×Nat)} {Δ:Nat->List D->Option D} {op:Op} {ev:Operand->X} {boxes:List (Nat×List X)} {toks:List Nat} {r:Res} (h:aop Γ eqs Δ op ev boxes toks=some r) (hw:Qtf op=true) {x:Operand} (hx:x∈QcL op) {b:Nat} (hl:b∈(ev x).locs):Qv boxes b≠none:=by
 intro hn;cases op<;>simp only[Qtf,isW]at hw<;>try (cases hw; done)
 case load T y=>
  simp only[QcL,List.mem_singleton]at hx; subst hx;simp only[aop,Qmq,Qip]at h;cases hT:Γ T with
  | none=>rw[hT]at h; cases h
  | some i=>
   rw[hT]at h;cases hy:ev x with
   | loc b' off=>
    rw[hy]at hl h;simp only[X.locs,List.mem_singleton]at hl;subst hl;simp only[X.soft,hn]at h; cases h
   | fx f first caps=>rw[hy]at h; cases h
   | bs b' o' n' k'=>rw[hy]at h; cases h
   | mp b'=>rw[hy]at h; cases h
   | agb bM=>rw[hy]at h; cases h
   | _=>rw[hy]at hl; simp[X.locs]at hl
 case store T y z=>
  simp only[QcL,List.mem_singleton]at hx; subst hx;simp only[aop]at h;split at h
  .rename_i heq _ _;rw[heq]at hl;simp only[X.locs,List.mem_singleton]at hl;subst hl;rw[hn]at h; cases h
  .cases h
 case call cc=>
  obtain⟨callee,args,argTypes⟩:=cc;cases callee with
  | value f=>
   have aY:∀{xs:Option (List D)},xs=QdN boxes (args.toList.map ev)->(∃ds,xs=some ds)->x∈args.toList->False:=by
    rintro xs hxs ⟨ds,rfl⟩ hxa;exact Qkg hxs.symm (ev x) (List.mem_map.2 ⟨x,hxa,rfl⟩) b hl hn
   simp only[QcL,Op.operands,Call.operands,Array.toList_append,Zp]at hx;have hx':x=f\/x∈args.toList:=by simpa using hx
   simp only[aop,QnO]at h;split at h
   .rename_i gf first caps hf
    rcases hx' with rfl | hx'
    .rw[hf]at hl; simp[X.locs]at hl
    .split at h
     .split at h
      .rename_i ds cE;have:=QkQ cE (ev x) (List.mem_map.2 ⟨x,hx',rfl⟩);rw[this]at hl; simp at hl
      .exact aY rfl (Qhu h) hx'
     .cases h
   .rename_i gf pre post hf;rcases hx' with rfl | hx'
    .rw[hf]at hl; simp[X.locs]at hl
    .exact aY rfl (Qhu h) hx'
   .rename_i gf pre caps hf;split at h
    .rename_i post cF;rcases hx' with rfl | hx'
     .rw[hf]at hl;exact Qfh cF b hl hn
     .exact aY rfl (Qhu h) hx'
    .cases h
   .cases h
  | _=>simp[isVC]at hw
theorem Qsx {Γ:Tys} {eqs:List (TypeId×Nat)} {Δ:Nat->List D->Option D} {op:Op} {ev:Operand->X} {boxes:List (Nat×List X)} {toks:List Nat} {b off:Nat} {cs:List X} (h:aop Γ eqs Δ op ev boxes toks=some (.set b off cs)):∀v,Qa0 op=some v->ev (.tmp v)= .loc b off:=by
 intro v hv;have hw:=(QbZ h).2 b off cs rfl;cases op<;>first | (cases hw.1; done) | skip
 case store T x y=>
  unfold Qa0 at hv;split at hv
  .rename_i heq; cases heq
  .rename_i u y' T' heq;cases heq;cases hv;simp only[aop]at h;split at h
   .rename_i heq _ _;split at h
    .split at h
     .simp only[Zs,Res.set.injEq]at h;obtain⟨rfl,rfl,_⟩:=h;exact heq
     .cases h
    .cases h
   .cases h
  .cases hv
theorem Qwk {Γ:Tys} {eqs:List (TypeId×Nat)} {Δ:Nat->List D->Option D} {op:Op} {ev:Operand->X} {boxes:List (Nat×List X)} {toks:List Nat} {r:Res} (h:aop Γ eqs Δ op ev boxes toks=some r) {u:Nat} (hu:Qa0 op=some u) {x:Operand} (hx:x∈QcL op) {b:Nat} (hl:b∈(ev x).locs):∃off,ev (.tmp u)= .loc b off:=by
 unfold Qa0 at hu;split at hu
 .rename_i T v;cases hu;simp only[QcL,List.mem_singleton]at hx; subst hx;simp only[aop,Qmq,Qip]at h;cases hT:Γ T with
  | none=>rw[hT]at h; cases h
  | some i=>
   rw[hT]at h;cases hy:ev (.tmp u)with
   | loc b' off=>rw[hy]at hl; simp only[X.locs,List.mem_singleton]at hl; subst hl; exact⟨off,rfl⟩
   | fx f first caps=>rw[hy]at h; cases h
   | bs b' o' n' k'=>rw[hy]at h; cases h
   | mp b'=>rw[hy]at h; cases h
   | agb bM=>rw[hy]at h; cases h
   | _=>rw[hy]at hl; simp[X.locs]at hl
 .rename_i T v y;cases hu;simp only[QcL,List.mem_singleton]at hx; subst hx;simp only[aop]at h;split at h
  .rename_i b' off cs i heq h2 _;rw[heq]at hl; simp only[X.locs,List.mem_singleton]at hl; subst hl; exact⟨off,heq⟩
  .cases h
 .cases hu
theorem QvK {Γ:Tys} {eqs:List (TypeId×Nat)} {Δ:Nat->List D->Option D} {o:Oper} {ev:Operand->X} {boxes:List (Nat×List X)} {toks:List Nat} {r:Res} (h:aop Γ eqs Δ o.op ev boxes toks=some r) {u:Nat} (ha:Qab o=some u):∃cs,r= .new cs:=by
 unfold Qab at ha;split at ha
 .rename_i T heq;rw[heq]at h;simp only[aop]at h;split at h
  .simp only[Zs]at h; exact⟨_,h.symm⟩
  .cases h
 .rename_i T x heq;rw[heq]at h;simp only[aop]at h;split at h
  .simp only[Zs]at h; exact⟨_,h.symm⟩
  .cases h
 .rename_i T l x heq;rw[heq]at h;simp only[aop,Qva]at h
  (repeat' split at h)<;>first | (cases h; done) | (simp only[Zs]at h; exact⟨_,h.symm⟩)
 .rename_i T x heq;rw[heq]at h;cases h
 .rename_i cc heq;rw[heq]at h;split at ha
  .rename_i tG;simp only[aop,QnO,QrZ tG,tG,if_true]at h;split at h
   .exact Qjd h
   .cases h
  .cases ha
 .cases ha
theorem Qnj {o:Oper} {u:Nat} (h:Qa0 o.op=some u):u∈Qen o:=by
 unfold Qa0 at h;unfold Qen;split at h
 .rename_i heq; cases h; rw[heq]; simp[Op.operands]
 .rename_i heq; cases h; rw[heq]; simp[Op.operands]
 .cases h
theorem QwR {ops:List Oper} {σ:St} {L:List En} (eG:∀(j:Nat) (e:En),L[j]?=some e->e.i=j) (cD:∀e∈L,∃o,ops[e.i]?=some o/\e.d=o.dst/\(∀u,Qab o=some u->(∃cs,e.r= .new cs)\/e.r= .skip)) (aI:L.length=ops.length)
  (rN:∀t x,Qv σ.tmps t=some x->x.plain (QP ops)=true) {i u b off:Nat} {o:Oper} (ho:ops[i]?=some o) (hu:u∈Qen o) (h:Qv (Qbb (λk=>decide (k < i)) L σ).tmps u=some (.loc b off)):
  (Qgf u ops=true->b=u/\u∈QP ops)/\(u∉Qgi ops->b∉QP ops):=by
 rw[Qdw]at h;constructor
 .intro hm;obtain⟨a,oa,k1,k2,k3,k4⟩:=Qqy hm;have hai:=k4 i o ho hu;have haL:a < L.length:=by rw[aI]; exact(Zi.1 k1).1
  have he:=Zg haL;have hi:=eG a _ he;obtain⟨o',q1,q2,q3⟩:=cD L[a] (Ze haL);rw[hi,k1]at q1;simp only[Zs]at q1;subst q1;have hd:L[a].d=some u:=by rw[q2]; exact QhK k2
  have u7:L=L.take a++L[a]::L.drop (a+1):=by rw[<-List.drop_eq_getElem_cons haL,List.take_append_drop]
  rw[u7,Qd5]at h;simp only[comp]at h;rw[hi]at h;rw[if_pos (decide_eq_true hai)]at h;rw[QeH _ _ (λe kU=> .inr λs=>by
   unfold En.tm;rw[if_neg];intro lJ;obtain⟨j,hj,rfl⟩:=List.getElem_of_mem kU;have hh:L[a+1+j]?=some ((L.drop (a+1))[j]):=by rw[<-Zg hj,List.getElem?_drop]
   have hi2:=eG _ _ hh;obtain⟨o2,r1,r2,_⟩:=cD _ (List.mem_of_getElem? hh);have:=k3 _ o2 r1 (by rw[<-r2]; exact lJ)
   omega)]at h
  unfold En.tm at h;rw[if_pos hd]at h;simp only[Zs]at h;rcases q3 u k2 with⟨cs,hr⟩ | hr
  .unfold En.x at h;rw[hr,hd]at h;simp only[Option.getD_some,NewC.x]at h;split at h
   .simp only[X.loc.injEq]at h;exact⟨h.1.symm,Qb4 ops k1 k2⟩
   .cases h
  .unfold En.x at h;rw[hr]at h;cases h
 .intro hn;rw[QeH _ _ (λe he=> .inr λs=>by
   unfold En.tm;rw[if_neg];intro lJ;obtain⟨o2,r1,r2,_⟩:=cD e he;exact hn (Qq0 r1 (by rw[<-r2]; exact lJ)))]at h
  have:=rN _ _ h;simp only[X.plain,Bool.not_eq_true',List.contains_eq_mem,decide_eq_false_iff_not]at this;exact this
theorem QpV {ops:List Oper} {σ:St} :∀{D:List (Nat×Nat)},Qg9 ops σ D=true->∀i j,(i,j)∈D->∃u v,(ops[i]?).bind (λa=>Qa0 a.op)=some u/\(ops[j]?).bind (λb=>Qa0 b.op)=some v/\u∉Qgi (ops.drop i)/\v∉Qgi (ops.drop j)/\QGO (σ.ev (.tmp u)) (σ.ev (.tmp v))=true
 | [],_,i,j,h=>by simp at h
 | (a,b)::t,hd,i,j,h=>by
  simp only[Qg9,Za]at hd;rcases List.mem_cons.1 h with h | h
  .simp only[Prod.mk.injEq]at h;obtain⟨rfl,rfl⟩:=h;have h1:=hd.1;split at h1
   .rename_i u v hu hv;simp only[Za,Bool.not_eq_true',List.contains_eq_mem,decide_eq_false_iff_not]at h1;exact⟨u,v,hu,hv,h1.1.1,h1.1.2,h1.2⟩
   .cases h1
  .exact QpV hd.2 i j h
theorem Qpg {ops:List Oper} {u v b:Nat} (fD:QkR ops u v=true) (h1:(Qgf u ops=true->b=u/\u∈QP ops)/\(u∉Qgi ops->b∉QP ops)) (h2:(Qgf v ops=true->b=v/\v∈QP ops)/\(v∉Qgi ops->b∉QP ops)):False:=by
 unfold QkR at fD;simp only[Bool.or_eq_true,Za,Bool.not_eq_true',List.contains_eq_mem,decide_eq_false_iff_not,bne_iff_ne]at fD;rcases fD with(⟨a,c⟩ | ⟨a,c⟩) | ⟨⟨a,c⟩,e⟩
 .obtain⟨rfl,m⟩:=h1.1 a; exact h2.2 c m
 .obtain⟨rfl,m⟩:=h2.1 a; exact h1.2 c m
 .obtain⟨rfl,_⟩:=h1.1 a; obtain⟨rfl,_⟩:=h2.1 c; exact e rfl
section
variable {F:Fence} {n:Nat} {P:Program} {c:Cx} {m0:Nat->Nat->Prop} {w0:Base} {g:Gh} {σ σ':St} {a:Act} {w:World}
theorem QdF (X:Nat->Bool):∀(l:List En) (σ:St),(Qbb X l σ).maps=σ.maps
 | [],σ=>rfl
 | e::t,σ=>by
  simp only[Qbb];split
  .rw[QdF X t]; rfl
  .exact QdF X t σ
set_option maxHeartbeats 1000000 in
theorem Qr6 (hF:FreeF F) (hc:CxOk P c) {D:List (Nat×Nat)} {ops:Array Oper} {σ1:St} (bV:Qan (QP ops.toList) σ=true) (mB:∀d∈QP ops.toList,w0.out d=none) (dB:c.ops ops.toList 0 ops.toList σ=some σ1) (mC:Qg9 ops.toList σ1 D=true) (hd:QhE D ops.toList=true) (I:Inv c.N m0 w0 g σ a w) {Q:Exit->Act->World->Prop} (hQ:∀g' a' w',Inv c.N m0 w0 g' σ1 a' w'->(∀j,ops.size<=j->¬g'.used (Qat j))->Q .normal a' w'):wpAnyIn F n P .any ops Q ops.size (Array.replicate ops.size false) a w:=by
   obtain⟨cB,dE⟩:=Qaz bV;have cB:=QbE _ cB;obtain⟨I1,aP,dA⟩:=I.start mB bV dE;have mD:=bV;simp only[Qan,Za]at mD;obtain⟨⟨⟨⟨_,_⟩,htx⟩,dO⟩,_⟩:=mD;have bA:∀b∈QP ops.toList,Qv σ.boxes b=none:=by
    intro b hb;cases hg:Qv σ.boxes b with
    | none=>rfl
    | some cs=>
     have h:=Zl.1 dO _ (QdY hg);simp only[Za,Bool.not_eq_true',List.contains_eq_mem,decide_eq_false_iff_not]at h;exact absurd hb h.1
   obtain⟨L,l1,l2,l3⟩:=Qi5 c ops.toList ops.toList 0 σ σ1 dB;simp only[Nat.zero_add]at l3;have cD:∀e∈L,∃o,ops[e.i]?=some o/\L[e.i]?=some e/\e.d=o.dst/\QzZ c ops.toList o (Qbb (λk=>decide (k < e.i)) L σ) e.r/\((Qbb (λk=>decide (k < e.i)) L σ).res e.i o.dst e.r).isSome=true:=by
    intro e he;obtain⟨j,hj,rfl⟩:=List.getElem_of_mem he;have hjo:j < ops.toList.length:=by omega
    obtain⟨r,h1,h2,h3,h4⟩:=l3 j ops.toList[j] (Zg hjo);have h5:=h1;rw[Zg hj]at h1;simp only[Zs]at h1;rw[h1];exact⟨ops.toList[j],by rw[<-Array.getElem?_toList]; exact Zg hjo,h5,rfl,h3,h4⟩
   have cJ:∀e∈L,∀cs,e.r= .new cs->∀d,e.d=some d->∃o,ops.toList[e.i]?=some o/\Qab o=some d:=by
    intro e he cs hr d cA;obtain⟨o,h1,h2,h3,h4,_⟩:=cD e he;refine⟨o,by simpa using h1,?_⟩
    rcases h4 with⟨_,h4⟩ | ⟨_,h4⟩
    .rw[hr]at h4; rw[Qb0 h4,<-h3]; exact cA
    .rw[hr]at h4; cases h4
   have cV:∀e∈L,∀e'∈L,∀cs bM,e.r= .new cs->e'.r= .new bM->∀d,e.d=some d->e'.d=some d->e.i=e'.i:=by
    intro e he e' kU cs bM hr bN d kX iH;obtain⟨o,h1,h2⟩:=cJ e he cs hr d kX;obtain⟨o',h3,h4⟩:=cJ e' kU bM bN d iH;exact QhI _ cB h1 h3 h2 h4
   have eG:∀(j:Nat) (e:En),L[j]?=some e->e.i=j:=by
    intro j e hj;have u9:j < ops.toList.length:=by rw[<-l1]; exact(Zi.1 hj).1
    obtain⟨r',h1,_⟩:=l3 j _ (Zg u9);rw[h1]at hj; simp only[Zs]at hj; rw[<-hj]
   have pM:∀(i:Nat) (o:Oper) (u b off:Nat),ops[i]?=some o->Qa0 o.op=some u->(Qbb (λk=>decide (k < i)) L σ).ev (.tmp u)= .loc b off->(Qgf u ops.toList=true->b=u/\u∈QP ops.toList)/\(u∉Qgi ops.toList->b∉QP ops.toList):=by
    intro i o u b off ho hu gR;refine QwR eG (λe he=>?_) l1 (λt x hx=>Zl.1 htx _ (QdY hx)) (by simpa using ho) (Qnj hu) (off:=off) ?_
    .obtain⟨o',h1,_,h3,h4,_⟩:=cD e he;refine⟨o',by simpa using h1,h3,λu' l9=>?_⟩
     rcases h4 with⟨_,hs⟩ | ⟨_,hs⟩
     .exact .inl (QvK hs l9)
     .exact .inr hs
    .simp only[St.ev]at gR;cases hg:Qv (Qbb (λk=>decide (k < i)) L σ).tmps u with
     | none=>rw[hg]at gR; cases gR
     | some y=>rw[hg]at gR; simp only[Option.getD_some]at gR; rw[gR]
   have jY:∀e∈L,∀o,ops[e.i]?=some o->∀b off cs,e.r= .set b off cs->∀v,Qa0 o.op=some v->(Qbb (λk=>decide (k < e.i)) L σ).ev (.tmp v)= .loc b off:=by
    intro e he o ho b off cs hr v hv;obtain⟨o',h1,_,_,h4,_⟩:=cD e he;rw[ho]at h1; cases h1;rcases h4 with⟨_,hs⟩ | ⟨_,hs⟩
    .rw[hr]at hs; exact Qsx hs v hv
    .rw[hr]at hs; cases hs
   have vA:∀(i u:Nat),u∉Qgi (ops.toList.drop i)->σ1.ev (.tmp u)=(Qbb (λk=>decide (k < i)) L σ).ev (.tmp u):=by
    intro i u hu;simp only[St.ev];rw[l2,Qdw,Qdw];congr 1;refine QbG L _ λe he=>?_;by_cases fS:e.i < i
    .left; simp[fS]
    .right;intro s;unfold En.tm;rw[if_neg];intro lJ;obtain⟨o2,r1,_,r2,_⟩:=cD e he;refine hu (List.mem_filterMap.2 ⟨o2,?_,by rw[<-r2]; exact lJ⟩)
     refine List.mem_of_getElem? (i:=e.i - i) ?_;rw[List.getElem?_drop,show i+(e.i - i)=e.i by omega]
     simpa using r1
   have mE:∀(i:Nat) (o:Oper) (j:Nat) (oj:Oper) (b:Nat),ops[i]?=some o->ops[j]?=some oj->(∀u,Qa0 o.op=some u->∃off,(Qbb (λk=>decide (k < i)) L σ).ev (.tmp u)= .loc b off)->(∀u,Qa0 oj.op=some u->∃off,(Qbb (λk=>decide (k < j)) L σ).ev (.tmp u)= .loc b off)->Qgc ops.toList D i j o oj=false:=by
    intro i o j oj b hi hj h1 h2;have vB:∀(i:Nat) (o:Oper) (j:Nat) (oj:Oper),ops[i]?=some o->ops[j]?=some oj->(∀u,Qa0 o.op=some u->∃off,(Qbb (λk=>decide (k < i)) L σ).ev (.tmp u)= .loc b off)->(∀u,Qa0 oj.op=some u->∃off,(Qbb (λk=>decide (k < j)) L σ).ev (.tmp u)= .loc b off)->D.contains (i,j)=false:=by
     intro i o j oj hi hj h1 h2;cases vC:D.contains (i,j)with
     | false=>rfl
     | true=>
      exfalso
      obtain⟨u,v,q1,q2,q3⟩:=QpV mC _ _ (by simpa using vC)
      have hi':ops.toList[i]?=some o:=by simpa using hi
      have cM:ops.toList[j]?=some oj:=by simpa using hj
      rw[hi']at q1; rw[cM]at q2;obtain⟨o1,e1⟩:=h1 u q1;obtain⟨o2,e2⟩:=h2 v q2;obtain⟨q3,q4,q5⟩:=q3;rw[vA i u q3,vA j v q4,e1,e2]at q5;simp[QGO]at q5
    have kX:=vB i o j oj hi hj h1 h2;have iH:=vB j oj i o hj hi h2 h1;unfold Qgc;rw[kX,iH,Bool.or_false,Bool.or_false];cases fD:QgY ops.toList o oj with
    | false=>rfl
    | true=>
     exfalso
     unfold QgY at fD;split at fD
     .rename_i u v hu hv;obtain⟨o1,e1⟩:=h1 u hu;obtain⟨o2,e2⟩:=h2 v hv;exact Qpg fD (pM i o u b o1 hi hu e1) (pM j oj v b o2 hj hv e2)
     .cases fD
   have kG:∀e∈L,∀cs,e.r= .new cs->∀b,e.d=some b->∀i,i<=e.i->Qv (Qbb (λk=>decide (k < i)) L σ).boxes b=none:=by
    intro e he cs hr b hb i hi;obtain⟨o,h1,h2⟩:=cJ e he cs hr b hb;rw[Qff,bA b (Qb4 _ h1 h2)];refine Qlm L none λe' kU hx=>?_;unfold En.bx;split
    .rename_i bM bN;split
     .rename_i cA;have:=cV e he e' kU cs bM hr bN b hb cA;simp at hx; omega
     .rfl
    .split<;>rfl
    .rfl
   refine Qm5 (λaD a w=>∃g,Inv c.N m0 w0 g (Qbb (λk=>aD.getD k false) L σ) a w/\(∀e∈L,aD.getD e.i false=false->∀cs,e.r= .new cs->∀d,e.d=some d->g.box d=none)/\
    (∀e∈L,aD.getD e.i false=true->∀b off cs,e.r= .set b off cs->g.box b≠none)/\(∀e∈L,aD.getD e.i false=false->¬g.used (Qat e.i))/\∀j,ops.size<=j->¬g.used (Qat j)) ?dep ?step ?fin ops.size (Array.replicate ops.size false) a _ (by simp) ?down (by simp) ?start
   case dep=>
    intro i o ho e he hb;have cA:=hd;simp only[QhE,Za]at cA;have:=Qca ops.toList 0 cA.1 i o (by simpa using ho) e he hb
    omega
   case down=>
    intro i o ho hl;have:i < ops.size:=(Zj.1 ho).1;simp[Array.getD_eq_getD_getElem?,this]at hl
   case start=>
    have h0:∀k,(Array.replicate ops.size false).getD k false=false:=by
     intro k;simp only[Array.getD_eq_getD_getElem?,Array.getElem?_replicate];split<;>rfl
    have hf:∀(l:List En) (σ:St),Qbb (λk=>(Array.replicate ops.size false).getD k false) l σ=σ:=by
     intro l
     induction l with
     | nil=>intro σ; rfl
     | cons e t ih=>intro σ; simp only[Qbb]; rw[if_neg (by rw[h0]; simp)]; exact ih σ
    refine⟨_,by rw[hf]; exact I1,λe he _ cs hr d cA=>?_,λe he hl=>?_,λe he _=>dA e.i,λj _=>dA j⟩
    .obtain⟨o,h1,h2⟩:=cJ e he cs hr d cA;exact(aP d (Qb4 _ h1 h2)).1
    .rw[h0]at hl; cases hl
   case fin=>
    rintro aD a' w' hs hall ⟨g',I',_,_,_,n5⟩;have hf:Qbb (λk=>aD.getD k false) L σ=σ1:=by
     rw[l2];have:∀(l:List En) (σ:St),(∀e∈l,aD.getD e.i false=true)->Qbb (λk=>aD.getD k false) l σ=Qbb (λ_=>true) l σ:=by
      intro l
      induction l with
      | nil=>intro σ _; rfl
      | cons e t ih=>
       intro σ he;simp only[Qbb,he e (by simp),if_true]
       exact ih _ λe' h'=>he e' (by simp[h'])
     refine this L σ λe he=>?_;obtain⟨o,h1,_⟩:=cD e he;have aR:e.i < ops.size:=(Zj.1 h1).1;rw[<-Qcr (by omega)]; exact hall e.i aR
    rw[hf]at I';exact hQ g' a' w' I' n5
   case step=>
    rintro aD i o a' w' hs lI ho fR eH ⟨g1,IS,nF,hJ3,hJ4,hJ5⟩ K hK;have vD:i < ops.size:=(Zj.1 ho).1;have kH:aD.getD i false=false:=by rw[<-Qcr (by omega)]; exact fR
    obtain⟨r,tH,dY,dL,bS⟩:=l3 i o (by simpa using ho)
    have rO:(⟨i,o.dst,r⟩:En)∈L:=List.mem_of_getElem? tH;have gL:∀j oj,ops[j]?=some oj->Qht ops.toList D i j o oj=true->aD.getD j false=decide (j < i):=by
     intro j oj hj vE;by_cases oE:j=i
     .rw[oE,kH]; simp
     .exact QrF hd lI ho hj kH eH vE oE
    generalize hS:Qbb (λk=>aD.getD k false) L σ=S at*;generalize hT:Qbb (λk=>decide (k < i)) L σ=T at*;have nG:∀u∈QfT ops.toList o,Qv S.tmps u=Qv T.tmps u:=by
     intro u hu;rw[<-hS,<-hT,Qdw,Qdw];refine QbG L _ λe he=>?_;obtain⟨oj,h1,_,h3,_⟩:=cD e he;by_cases lJ:e.d=some u
     .left;refine gL e.i oj h1 ?_;unfold Qht;rw[<-h3,lJ];simp[hu]
     .right; intro s; unfold En.tm; rw[if_neg lJ]
    have gR:∀x∈o.op.operands.toList,S.ev x=T.ev x:=by
     intro x hx;cases x with
     | tmp t=>
      simp only[St.ev];rw[nG t];unfold QfT Qen;simp only[Zp,List.mem_filterMap];exact .inl (.inl ⟨.tmp t,hx,rfl⟩)
     | _=>rfl
    have pN:QaL ops.toList S o=QaL ops.toList T o:=by
     unfold QaL;cases hg:o.guard with
     | none=>rfl
     | some p=>
      obtain⟨j,fH⟩:=p;simp only;cases hj:(ops.toList[j]?).bind (·.dst)with
      | none=>rfl
      | some t=>
       simp only;rw[nG t];unfold QfT Qqx;rw[hg];simp only[hj];simp
    have fT:∃A B,L=A++(⟨i,o.dst,r⟩:En)::B/\(∀e∈A++B,e.i≠i/\e∈L)/\∀e∈B,i < e.i:=by
     have yJ:i < L.length:=by rw[l1]; simpa using vD
     have hLe:L[i]=⟨i,o.dst,r⟩:=by have:=tH; rw[Zg yJ]at this; simpa using this
     refine⟨L.take i,L.drop (i+1),?_,?_,?_⟩
     .rw[<-hLe,<-List.drop_eq_getElem_cons yJ,List.take_append_drop]
     .intro e he;have eG:∀(j:Nat) (e:En),L[j]?=some e->e.i=j:=by
       intro j e hj;have u9:j < ops.toList.length:=by rw[<-l1]; exact(Zi.1 hj).1
       obtain⟨r',h1,_⟩:=l3 j _ (Zg u9);rw[h1]at hj; simp only[Zs]at hj; rw[<-hj]
      rcases Zp.1 he with he | he
      .obtain⟨j,hj,rfl⟩:=List.getElem_of_mem he;have cM:j < i:=by simp at hj; omega
       have:L[j]?=some ((L.take i)[j]):=by
        rw[<-Zg hj,List.getElem?_take,if_pos cM]
       exact⟨by rw[eG j _ this]; omega,List.mem_of_getElem? this⟩
      .obtain⟨j,hj,rfl⟩:=List.getElem_of_mem he;have:L[i+1+j]?=some ((L.drop (i+1))[j]):=by
        rw[<-Zg hj,List.getElem?_drop]
       exact⟨by rw[eG _ _ this]; omega,List.mem_of_getElem? this⟩
     .intro e he;obtain⟨j,hj,rfl⟩:=List.getElem_of_mem he;have hh:L[i+1+j]?=some ((L.drop (i+1))[j]):=by
       rw[<-Zg hj,List.getElem?_drop]
      have u9:i+1+j < ops.toList.length:=by rw[<-l1]; exact(Zi.1 hh).1
      obtain⟨r',h1,_⟩:=l3 (i+1+j) _ (Zg u9);rw[h1]at hh; simp only[Zs]at hh; rw[<-hh]; show i < i+1+j; omega
    obtain⟨A,B,hAB,aS,rP⟩:=fT;have bY:∀k,(aD.setIfInBounds i true).getD k false=if k=i then true else aD.getD k false:=λk=>QcA aD i k false (by omega)
    have dZ:∀g' a' w',Inv c.N m0 w0 g' ((⟨i,o.dst,r⟩:En).ap S) a' w'->(∀j,g1.box j=none->((∀cs,r≠ .new cs)\/o.dst≠some j)->g'.box j=none)->(∀t,g'.used t->g1.used t\/t=Qat i)->(∀j,g1.box j≠none->g'.box j≠none)->
      (∀b off cs,r= .set b off cs->g1.box b≠none)->K a' w':=by
     intro g' a' w' I' p2 p3 p4 p5;refine hK a' w' ⟨g',I'.eqv (λu=>?_) (λb=>?_) ?_ ?_,λe he hl cs hr d cA=>?_,λe he hl b off cs hr=>?_,λe he hl hu=>?_,λj hj hu=>?_⟩
     .rw[Qdw,QDl,<-hS,Qdw];by_cases lJ:o.dst=some u
      .rw[hAB];refine Qf1 A B ⟨i,o.dst,r⟩ _ kH (by rw[bY,if_pos rfl]) (λe he=>by rw[bY,if_neg (aS e he).1]) λe he=>?_
       obtain⟨oj,h1,_,h3,_⟩:=cD e (aS e (by simp[he])).2
       by_cases hdj:e.d=some u
       .left;show aD.getD e.i false=false;rw[gL e.i oj h1 (by unfold Qht; rw[lJ]; simp only; rw[show(QfT ops.toList oj).contains u=true by unfold QfT; rw[<-h3,hdj]; simp]; simp)]
        have:=rP e he;simp; omega
       .right; intro s; unfold En.tm; rw[if_neg hdj]
      .have:(⟨i,o.dst,r⟩:En).tm u=λs=>s:=by funext s; unfold En.tm; rw[if_neg lJ]
       rw[this];refine QbG L _ λe he=>?_;by_cases fS:e.i=i
       .right;have:e=⟨i,o.dst,r⟩:=by
         obtain⟨_,_,h2,_⟩:=cD e he;rw[fS,tH]at h2; simpa using h2.symm
        rw[this]; intro s; unfold En.tm; rw[if_neg lJ]
       .left; rw[bY,if_neg fS]
     .rw[Qff,QC2,<-hS,Qff];by_cases d7:(∃cs,r= .new cs/\o.dst=some b)\/∃off cs,r= .set b off cs
      .rw[hAB];refine Qf1 A B ⟨i,o.dst,r⟩ _ kH (by rw[bY,if_pos rfl]) (λe he=>by rw[bY,if_neg (aS e he).1]) λe he=>?_
       obtain⟨fS,jZ⟩:=aS e (by simp[he])
       obtain⟨oj,h1,_,h3,h4,_⟩:=cD e jZ;have hgt:=rP e he;by_cases hnew':∃cs,e.r= .new cs/\e.d=some b
       .obtain⟨bM,bN,cA⟩:=hnew';rcases d7 with⟨cs,hr,oD⟩ | ⟨off,cs,hr⟩
        .exact absurd (cV e jZ ⟨i,o.dst,r⟩ rO bM cs bN hr b cA oD) fS
        .have hu:=kG e jZ bM bN b cA i (by omega)
         rw[hT]at hu;rw[hr]at bS;simp only[St.res,hu]at bS;cases bS
       .by_cases hset':∃off cs,e.r= .set b off cs
        .obtain⟨dH,bM,bN⟩:=hset';left;show aD.getD e.i false=false;rcases d7 with⟨cs,hr,oD⟩ | ⟨off,cs,hr⟩
         .cases hl:aD.getD e.i false with
          | false=>rfl
          | true=>exact absurd (nF _ rO kH cs hr b oD) (hJ3 e jZ hl b dH bM bN)
         .have w1:isW o.op=true:=by
           rcases dL with⟨_,hs⟩ | ⟨_,hs⟩
           .exact((QbZ hs).2 b off cs hr).1
           .rw[hr]at hs; cases hs
          have w2:isW oj.op=true:=by
           rcases h4 with⟨_,hs⟩ | ⟨_,hs⟩
           .exact((QbZ hs).2 b dH bM bN).1
           .rw[bN]at hs; cases hs
          have w3:Qtf oj.op=true:=Qvc w2;have fD:Qgc ops.toList D i e.i o oj=false:=mE i o e.i oj b (by simpa using ho) h1 (λu hu=>⟨off,by have:=jY ⟨i,o.dst,r⟩ rO o (by simpa using ho) b off cs hr u hu; exact this⟩) (λu hu=>⟨dH,jY e jZ oj h1 b dH bM bN u hu⟩)
          rw[gL e.i oj h1 (by unfold Qht; rw[w1,w3,fD]; simp)]
          simp; omega
        .right;intro s;unfold En.bx;split
         .rename_i bM bN;rw[if_neg λcA=>hnew' ⟨bM,bN,cA⟩]
         .rename_i b' dH bM bN;rw[if_neg λdX=>hset' ⟨dH,bM,by rw[bN,dX]⟩]
         .rfl
      .have hid:∀s,(⟨i,o.dst,r⟩:En).bx b s=s:=by
        intro s;unfold En.bx;split
        .rename_i cs hr;rw[if_neg λcA=>d7 (.inl ⟨cs,hr,cA⟩)]
        .rename_i b' dH bM bN;rw[if_neg λdX=>d7 (.inr ⟨dH,bM,by have h:r= .set b' dH bM:=bN; rw[h,dX]⟩)]
        .rfl
       rw[hid];refine QbG L _ λe he=>?_;by_cases fS:e.i=i
       .right;have:e=⟨i,o.dst,r⟩:=by
         obtain⟨_,_,h2,_⟩:=cD e he;rw[fS,tH]at h2; simpa using h2.symm
        rw[this]; exact hid
       .left; rw[bY,if_neg fS]
     .show _=(⟨i,o.dst,r⟩:En).tk S.toks;rw[QgC,<-hS,QgC];by_cases d7:∃t k rows,r= .app t k rows
      .obtain⟨t,k,rows,hr⟩:=d7;rw[hAB];refine Qf1 A B ⟨i,o.dst,r⟩ _ kH (by rw[bY,if_pos rfl]) (λe he=>by rw[bY,if_neg (aS e he).1]) λe he=>?_
       obtain⟨fS,jZ⟩:=aS e (by simp[he])
       obtain⟨oj,h1,_,h3,h4,_⟩:=cD e jZ;have hgt:=rP e he;by_cases fD:∃t k rows,e.r= .app t k rows
       .obtain⟨t',k',aF,bN⟩:=fD;left;show aD.getD e.i false=false;have w1:Qju o.op=true:=by
         rcases dL with⟨_,hs⟩ | ⟨_,hs⟩
         .exact(QbZ hs).1 t k rows hr
         .rw[hr]at hs; cases hs
        have w2:Qju oj.op=true:=by
         rcases h4 with⟨_,hs⟩ | ⟨_,hs⟩
         .exact(QbZ hs).1 t' k' aF bN
         .rw[bN]at hs; cases hs
        rw[gL e.i oj h1 (by unfold Qht; rw[w1,w2]; simp)]
        simp; omega
       .right;intro s;unfold En.tk;split
        .rename_i t' k' aF bN; exact absurd ⟨t',k',aF,bN⟩ fD
        .rfl
      .have hid:∀s,(⟨i,o.dst,r⟩:En).tk s=s:=by
        intro s;unfold En.tk;split
        .rename_i t' k' aF bN; exact absurd ⟨t',k',aF,bN⟩ d7
        .rfl
       rw[hid];refine QbG L _ λe he=>?_;by_cases fS:e.i=i
       .right;have:e=⟨i,o.dst,r⟩:=by
         obtain⟨_,_,h2,_⟩:=cD e he;rw[fS,tH]at h2; simpa using h2.symm
        rw[this]; exact hid
       .left; rw[bY,if_neg fS]
     .show _=S.maps;rw[QdF,<-hS,QdF]
     .rw[bY]at hl;by_cases fS:e.i=i
      .rw[if_pos fS]at hl; cases hl
      .rw[if_neg fS]at hl;refine p2 d (nF e he hl cs hr d cA) ?_;by_cases hn:∃cs,r= .new cs
       .right;intro iH;obtain⟨yK,hr2⟩:=hn;exact fS (cV e he ⟨i,o.dst,r⟩ rO cs yK hr hr2 d cA iH)
       .left; exact λcs e=>hn ⟨cs,e⟩
     .rw[bY]at hl;by_cases fS:e.i=i
      .have:e=⟨i,o.dst,r⟩:=by
        obtain⟨_,_,h2,_⟩:=cD e he;rw[fS,tH]at h2; simpa using h2.symm
       rw[this]at hr;exact p4 b (p5 b off cs hr)
      .rw[if_neg fS]at hl;exact p4 b (hJ3 e he hl b off cs hr)
     .rw[bY]at hl;by_cases fS:e.i=i
      .rw[if_pos fS]at hl; cases hl
      .rw[if_neg fS]at hl;rcases p3 _ hu with h1 | h1
       .exact hJ4 e he hl h1
       .unfold Qat at h1; omega
     .rcases p3 _ hu with h1 | h1
      .exact hJ5 j hj h1
      .unfold Qat at h1; omega
    unfold wpOpIn;simp only[ho];rcases dL with⟨hw,gE⟩ | ⟨hw,rfl⟩
    ·
     rw[if_pos (Qbo IS ops o (by rw[pN]; exact hw))]
     have pO:Qtf o.op=true->∀x∈QcL o.op,∀b∈(T.ev x).locs,Qv S.boxes b=Qv T.boxes b/\g1.box b≠none:=by
      intro tI x hx b lT;have tC:g1.box b≠none:=by
       have:=Qbt IS x;rw[gR x (Qr0 hx)]at this;exact QlY this b lT
      refine⟨?_,tC⟩;have nH:=QBc gE tI hx lT;rw[<-hS,<-hT,Qff,Qff];refine QbG L _ λe he=>?_;obtain⟨oj,h1,_,h3,h4,_⟩:=cD e he;by_cases hnew':∃cs,e.r= .new cs/\e.d=some b
      .left;obtain⟨cs,bN,cA⟩:=hnew';have dU:aD.getD e.i false=true:=by
        cases hl:aD.getD e.i false with
        | true=>rfl
        | false=>exact absurd (nF e he hl cs bN b cA) tC
       rw[dU];rcases Nat.lt_or_ge e.i i with aR | hge
       .simp[aR]
       .have:=kG e he cs bN b cA i hge;rw[hT]at this; exact absurd this nH
      .by_cases hset':∃off cs,e.r= .set b off cs
       .left;obtain⟨dH,bM,bN⟩:=hset';have w2:isW oj.op=true:=by
         rcases h4 with⟨_,hs⟩ | ⟨_,hs⟩
         .exact((QbZ hs).2 b dH bM bN).1
         .rw[bN]at hs; cases hs
        have fD:Qgc ops.toList D i e.i o oj=false:=mE i o e.i oj b (by simpa using ho) h1 (λu hu=>by have:=Qwk gE hu hx lT; rw[hT]; exact this) (λu hu=>⟨dH,jY e he oj h1 b dH bM bN u hu⟩)
        exact gL e.i oj h1 (by unfold Qht; rw[tI,w2,fD]; simp)
       .right;intro s;unfold En.bx;split
        .rename_i bM bN;rw[if_neg λcA=>hnew' ⟨bM,bN,cA⟩]
        .rename_i b' dH bM bN;rw[if_neg λdX=>hset' ⟨dH,bM,by rw[bN,dX]⟩]
        .rfl
     have vF:Qju o.op=true->S.toks=T.toks:=by
      intro fD;rw[<-hS,<-hT,QgC,QgC];refine QbG L _ λe he=>?_;obtain⟨oj,h1,_,h3,h4,_⟩:=cD e he;by_cases hap':∃t k rows,e.r= .app t k rows
      .left;obtain⟨t',k',aF,bN⟩:=hap';have w2:Qju oj.op=true:=by
        rcases h4 with⟨_,hs⟩ | ⟨_,hs⟩
        .exact(QbZ hs).1 t' k' aF bN
        .rw[bN]at hs; cases hs
       exact gL e.i oj h1 (by unfold Qht; rw[fD,w2]; simp)
      .right;intro s;unfold En.tk;split
       .rename_i t' k' aF bN; exact absurd ⟨t',k',aF,bN⟩ hap'
       .rfl
     have vG:aop c.Γ c.eqs c.Δ o.op S.ev S.boxes S.toks=some r:=by
      rw[<-gE];exact Qm3 gR (λtI x hx b lT=>(pO tI x hx b lT).1) vF
     have pP:∀b off cs,r= .set b off cs->Qv S.boxes b=Qv T.boxes b/\g1.box b≠none:=by
      intro b off cs hr;obtain⟨h1,x,h2,h3⟩:=(QbZ gE).2 b off cs hr;have tI:Qtf o.op=true:=Qvc h1;exact pO tI x h2 b (by rw[h3]; simp[X.locs])
     obtain⟨S',yL⟩:∃S',S.res i o.dst r=some S':=by
      cases r with
      | set b off cs=>
       obtain⟨h1,_⟩:=pP b off cs rfl;simp only[St.res,h1];simp only[St.res]at bS;cases hb:Qv T.boxes b with
       | none=>rw[hb]at bS; cases bS
       | some old=>exact⟨_,rfl⟩
      | new cs=>
       cases fG:o.dst with
       | none=>rw[fG]at bS; cases bS
       | some d=>exact⟨_,rfl⟩
      | app t k rows=>
       cases fG:o.dst with
       | none=>rw[fG]at bS; cases bS
       | some d=>exact⟨_,rfl⟩
      | _=>exact⟨_,rfl⟩
     have fD:=Qnw yL;subst fD;refine Qd3 hc.ty hc.eq hc.del hF vG (show PutOk c.N i S o.dst r _ by unfold PutOk St.put; rw[if_pos dY]; exact yL) IS (λcs hr d cA=>⟨nF _ rO kH cs hr d cA,?_⟩) (hJ4 _ rO kH) λg' a2 w2 I' p2 p3 p4=>?_
     .obtain⟨o',q1,q2⟩:=cJ _ rO cs hr d cA;rw[<-hS,QdF];exact(aP d (Qb4 _ q1 q2)).2
     exact dZ g' a2 w2 I' p2 p3 p4 λb off cs hr=>(pP b off cs hr).2
    ·
     rw[if_neg (by rw[Qbo IS ops o (by rw[pN]; exact hw)]; simp)]
     refine⟨λf _=>hF.fn f,?_⟩;have hdo:Qio c.N o.dst:=by
      intro x hx;rw[hx]at dY;simpa[Qg3]using dY
     exact dZ g1 _ w' (IS.put hdo (x:= .d (.v (.tuple #[]))) (v:=undef) (by simp only[RelX,Rel]; rfl)) (λ_ h _=>h) (λ_ h=> .inl h) (λ_ h=>h) (λ_ _ _ h=>by cases h)
theorem Qm0 (hF:FreeF F) (hc:CxOk P c) {D:List (Nat×Nat)} {ops:Array Oper} {σ1:St} (bV:Qan (QP ops.toList) σ=true) (mB:∀d∈QP ops.toList,w0.out d=none) (dB:c.ops ops.toList 0 ops.toList σ=some σ1) (mC:Qg9 ops.toList σ1 D=true) (hd:QhE D ops.toList=true) (I:Inv c.N m0 w0 g σ a w) {Q:Exit->Act->World->Prop} (hQ:∀g' a' w',Inv c.N m0 w0 g' σ1 a' w'->(∀j,ops.size<=j->¬g'.used (Qat j))->Q .normal a' w'):wpAnyIn F n P .any ops Q ops.size (Array.replicate ops.size false) a w.drew:=Qr6 hF hc bV mB dB mC hd I.drew hQ
theorem Qo1 (hF:FreeF F) (hc:CxOk P c) {id:Nat} {ops:Array Oper} (h:c.region id ops.toList σ=some σ') (aP:∀d∈QP ops.toList,w0.out d=none) (hd:QhE (c.diff id) ops.toList=true) (I:Inv c.N m0 w0 g σ a w) {Q:Exit->Act->World->Prop} (hQ:∀g' a' w',Inv c.N m0 w0 g' σ' a' w'->Q .normal a' w'):(Code.region id ops true).wpIn F n P Q a w:=by
 unfold Cx.region at h;split at h
 .rename_i bV;split at h
  .rename_i σ1 dB;split at h
   .rename_i mC;simp only[Zs]at h; subst h;refine wpIn_region_any hc.mix (Qm0 hF hc bV aP dB mC hd I λg' a' w' I' _=>?_);obtain⟨g2,I2⟩:=I'.close id;exact hQ g2 a' w' I2
   .cases h
  .cases h
 .cases h
end
end Go.Proofs.YtnfeakhkfehkhaaGreatDoor
namespace Go.Proofs.YtnfeakhkfehkhaaGreatDoor
open Go.RowKit Go.MapKept Go.ChangeMaps
section
variable {F:Fence} {n:Nat} {P:Program} {ops opsP:Array Oper}
theorem Oper.wpIn_mono2 {o:Oper} {a:Act} {w:World} {K K':Act->World->Prop} {Q Q':Exit->Act->World->Prop} (h:∀a w,K a w->K' a w) (hQ:∀c a w,Q (.panic c) a w->Q' (.panic c) a w) (hL:LetsOut Q->LetsOut Q')
  (hh:o.wpIn F n P a w K Q):o.wpIn F n P a w K' Q':=by
 refine⟨hh.1,?_⟩;have h2:=hh.2;generalize(o.semAt F.round a.eval).run P w=r at h2|-;cases r with
 | halt x w'=>cases x<;>simp only[Oper.uponIn]at h2|- <;>first | exact hQ _ _ _ h2 | exact h2
 | ok x w'=>
  cases x<;>simp only[Oper.uponIn]at h2|-
  case enter f args=>exact⟨h2.1,CallsIn.mono h2.2 λe gF he=>by cases e<;>first | exact h _ _ he | exact hQ _ _ _ he | exact hL he⟩
  case row r args=>exact⟨h2.1,RowsIn.mono h2.2 λ_ _ he=>h _ _ he⟩
  case round=>exact⟨h2.1,RoundIn.mono h2.2 λe gF he=>by cases e<;>first | exact h _ _ he | exact hQ _ _ _ he | exact hL he⟩
  all_goals first | exact h _ _ h2 | exact h2
def Qox (F:Fence) (n:Nat) (P:Program) (ops:Array Oper) (m:Nat) (Q:Exit->Act->World->Prop):Exit->Act->World->Prop
 | .normal,a,w=>∀(Qbx:Nat) (aD:Array Bool),ops.size - m<=Qbx->aD.size=ops.size->(∀i,i < ops.size->aD.getD i false=decide (i < m))->wpAnyIn F n P .any ops Q Qbx aD a w
 | _,_,_=>False
def Qvg (ops:List Oper) (m:Nat):Bool:=(List.range (ops.length - m)).all λk=>(List.range m).all λi=>((Qoe ops).getD (m+k) 0).testBit i
theorem QtE {ops:List Oper} {m:Nat} (h:Qvg ops m=true) {j i:Nat} (h1:m<=j) (h2:j < ops.length) (h3:i < m):((Qoe ops).getD j 0).testBit i=true:=by
 have:=Zl.1 h (j - m) (Zm.2 (by omega))
 rw[show m+(j - m)=j by omega]at this
 exact Zl.1 this i (Zm.2 h3)
theorem Qtw {aD:Array Bool} (he:Qdj 0 ops.toList=true) (hs:aD.size=ops.size) (hr:Region.ready .any ops aD=[]):∀i,i < ops.size->aD.getD i true=true:=by
 intro i
 induction i using Nat.strongRecOn with
 | ind i ih=>
  intro hi;by_cases fR:aD.getD i true=true
  .exact fR
  .exfalso
   have hm:i∈Region.ready .any ops aD:=QaU.2 ⟨ops[i],by simp[hi],by simpa using fR,λe kI hb=>by
    have h1:=Qca ops.toList 0 he i ops[i] (by simp[hi]) e kI hb
    have h2:=ih e.on (by omega) (by omega)
    rw[<-Qcr (by omega)]; exact h2⟩
   rw[hr]at hm; cases hm
variable {Q:Exit->Act->World->Prop}
theorem QsD (he:Qdj 0 ops.toList=true) {m:Nat} (hP:opsP.toList=ops.toList.take m) (hm:m<=ops.size) (hl:Qvg ops.toList m=true) (hg:∀(i:Nat) (o:Oper),opsP[i]?=some o->∀(j:Nat) (fH:Bool),o.guard=some (j,fH)->j < m):
  ∀(kJ Qbx:Nat) (bD aD:Array Bool) (a:Act) (w:World),bD.size=m->aD.size=ops.size->(∀i,i < m->bD.getD i false=aD.getD i false)->(∀i,m<=i->aD.getD i false=false)->QmF ops aD->kJ+(ops.size - m)<=Qbx->
   wpAnyIn F n P .any opsP (Qox F n P ops m Q) kJ bD a w->wpAnyIn F n P .any ops Q Qbx aD a w:=by
 have bW:∀i,i < m->opsP[i]?=ops[i]?:=by
  intro i hi;have:opsP.toList[i]?=(ops.toList.take m)[i]?:=by rw[hP]
  rw[List.getElem?_take,if_pos hi]at this;simpa using this
 have cC:opsP.size=m:=by
  have:=congrArg List.length hP;simp at this; omega
 have iT:∀(Qbx:Nat) (bD aD:Array Bool) (a:Act) (w:World),bD.size=m->aD.size=ops.size->(∀i,i < m->bD.getD i false=aD.getD i false)->(∀i,m<=i->aD.getD i false=false)->QmF ops aD->(ops.size - m)<=Qbx->Region.ready .any opsP bD=[]->
   Qox F n P ops m Q .normal a w->wpAnyIn F n P .any ops Q Qbx aD a w:=by
  intro Qbx bD aD a w h1 h2 h3 h4 h5 h6 h7 h8;have heP:Qdj 0 opsP.toList=true:=by
   have key:∀(l:List Oper) (i k:Nat),Qdj i l=true->Qdj i (l.take k)=true:=by
    intro l
    induction l with
    | nil=>intro i k h; simp[Qdj]
    | cons o t ih=>
     intro i k h;cases k with
     | zero=>rfl
     | succ k=>
      simp only[Qdj,Za,List.take_succ_cons]at h|-;exact⟨h.1,ih (i+1) k h.2⟩
   rw[hP]; exact key _ _ _ he
  have hall:=Qtw heP (by rw[h1,cC]) h7
  refine h8 Qbx aD h6 h2 λi hi=>?_;by_cases kS:i < m
  .rw[<-h3 i kS,<-Qcr (by omega),hall i (by omega)]; simp[kS]
  .rw[h4 i (by omega)]; simp[kS]
 intro kJ
 induction kJ with
 | zero=>
  intro Qbx bD aD a w h1 h2 h3 h4 h5 h6 h7;exact iT Qbx bD aD a w h1 h2 h3 h4 h5 (by omega) h7.1 h7.2
 | succ fP ih=>
  intro Qbx bD aD a w h1 h2 h3 h4 h5 h6 h7;by_cases hr:Region.ready .any opsP bD=[]
  .exact iT Qbx bD aD a w h1 h2 h3 h4 h5 (by omega) hr (h7.1 hr)
  obtain⟨f,rfl⟩:∃f,Qbx=f+1:=⟨Qbx - 1,by omega⟩
  have cV:∀i,i < m->(i∈Region.ready .any opsP bD↔i∈Region.ready .any ops aD):=by
   intro i hi;rw[QaU,QaU,bW i hi];have e1:bD.getD i true=aD.getD i true:=by rw[Qcr (by omega),Qcr (by omega),h3 i hi]
   rw[e1];have e2:∀o,ops[i]?=some o->(Qj5 o bD↔Qj5 o aD):=by
    intro o ho;refine⟨λh e kI hb=>?_,λh e kI hb=>?_⟩
    .have:=Qca ops.toList 0 he i o (by simpa using ho) e kI hb
     rw[<-h3 e.on (by omega)]; exact h e kI hb
    .have:=Qca ops.toList 0 he i o (by simpa using ho) e kI hb
     rw[h3 e.on (by omega)]; exact h e kI hb
   exact⟨λ⟨o,q1,q2,q3⟩=>⟨o,q1,q2,(e2 o q1).1 q3⟩,λ⟨o,q1,q2,q3⟩=>⟨o,q1,q2,(e2 o q1).2 q3⟩⟩
  refine⟨λbN=>?_,λi hi=>?_⟩
  .exfalso
   refine hr (List.eq_nil_iff_forall_not_mem.2 λj hj=>?_);have hjm:j < m:=by
    obtain⟨o,q1,_⟩:=QaU.1 hj;have:=(Zj.1 q1).1; omega
   have:=(cV j hjm).1 hj;rw[bN]at this; cases this
  .obtain⟨o,q1,q2,q3⟩:=QaU.1 hi;have pL:=(Zj.1 q1).1;by_cases kS:i < m
   .have hw:=h7.2 i ((cV i kS).2 hi);have key:∀a' w',wpAnyIn F n P .any opsP (Qox F n P ops m Q) fP (bD.setIfInBounds i true) a' w'->wpAnyIn F n P .any ops Q f (aD.setIfInBounds i true) a' w':=by
     intro a' w' h';refine ih f _ _ a' w' (by simp[h1]) (by simp[h2]) (λj hj=>?_) (λj hj=>?_) ?_ (by omega) h'
     .rw[QcA _ _ _ _ (by omega),QcA _ _ _ _ (by omega),h3 j hj]
     .rw[QcA _ _ _ _ (by omega),if_neg (by omega)]; exact h4 j hj
     .intro j o' hj u6 e kI hb;rw[QcA _ _ _ _ (by omega)]at u6|-
      by_cases e1:e.on=i
      .rw[if_pos e1]
      .rw[if_neg e1];by_cases e2:j=i
       .subst e2; rw[q1]at hj; cases hj; exact q3 e kI hb
       .rw[if_neg e2]at u6; exact h5 j o' hj u6 e kI hb
    have hoP:opsP[i]?=some o:=by rw[bW i kS]; exact q1
    have kK:Region.wanted o (yielded opsP a.tmps)=Region.wanted o (yielded ops a.tmps):=by
     unfold Region.wanted;cases nD:o.guard with
     | none=>rfl
     | some p=>
      obtain⟨j,fH⟩:=p;simp only;unfold yielded;rw[bW j (hg i o hoP j fH nD)]
    unfold wpOpIn at hw|-;simp only[q1];simp only[hoP]at hw;rw[kK]at hw;split
    .rename_i hwn;rw[if_pos hwn]at hw;exact Oper.wpIn_mono2 key (λ_ _ _ h=>h.elim) (λ⟨_,_,h⟩=>h.elim) hw
    .rename_i hwn;rw[if_neg hwn]at hw;exact⟨hw.1,key _ _ hw.2⟩
   .exfalso
    refine hr (List.eq_nil_iff_forall_not_mem.2 λj hj=>?_);obtain⟨o',p1,p2,p3⟩:=QaU.1 hj;have hjm:j < m:=by have:=(Zj.1 p1).1; omega
    have hb:=QeV he h5 i o q1 q3 j (QtE hl (by omega) (by simpa using pL) (by omega))
    rw[Qcr (by omega),h3 j hjm,hb]at p2
    cases p2
theorem QBp {aD:Array Bool} (he:Qdj 0 ops.toList=true) {m:Nat} (h:∀i,i < ops.size->aD.getD i false=decide (i < m)):QmF ops aD:=by
 intro i o ho fU e kI hb;have hi:=(Zj.1 ho).1;have h1:=Qca ops.toList 0 he i o (by simpa using ho) e kI hb
 rw[h i hi]at fU;rw[h e.on (by omega)]
 simp at fU|-; omega
def QzC (ops:List Oper) (m:Nat):Bool:=ops.all λo=>match o.guard with | some (j,_)=>decide (j < m) | none=>true
def Qn4 (D:List (Nat×Nat)) (ops:List Oper) (m:Nat):Bool:=Qdj 0 ops&&QhE D (ops.take m)&&Qvg ops m&&QzC (ops.take m) m
end
section
variable {F:Fence} {n:Nat} {P:Program} {c:Cx} {m0:Nat->Nat->Prop} {w0:Base} {g:Gh} {σ σ':St} {a:Act} {w:World}
theorem QpD (l:List Oper) (m:Nat):∀d∈QP (l.take m),d∈QP l:=by
 induction l generalizing m with
 | nil=>intro d hd; simpa using hd
 | cons o t ih=>
  intro d hd;cases m with
  | zero=>cases hd
  | succ m=>
   rw[List.take_succ_cons,Q7]at hd;rw[Q7];simp only[Zp]at hd|-;exact hd.imp id (ih m d)
theorem Qr1 (hF:FreeF F) (hc:CxOk P c) {id m:Nat} {ops:Array Oper} {σ1:St} (bV:Qan (QP (ops.toList.take m)) σ=true) (aP:∀d∈QP ops.toList,w0.out d=none) (dB:c.ops (ops.toList.take m) 0 (ops.toList.take m) σ=some σ1) (mC:Qg9 (ops.toList.take m) σ1 (c.diff id)=true) (hd:Qn4 (c.diff id) ops.toList m=true) (hm:m<=ops.size) (I:Inv c.N m0 w0 g σ a w) {Q:Exit->Act->World->Prop}
  (hQ:∀g' a' w',Inv c.N m0 w0 g' σ1 a' w'->(∀j,m<=j->¬g'.used (Qat j))->∀(Qbx:Nat) (aD:Array Bool),ops.size - m<=Qbx->aD.size=ops.size->(∀i,i < ops.size->aD.getD i false=decide (i < m))->wpAnyIn F n P .any ops Q Qbx aD a' w'):(Code.region id ops true).wpIn F n P Q a w:=by
 simp only[Qn4,Za]at hd;obtain⟨⟨⟨he,hdp⟩,hl⟩,nD⟩:=hd;obtain⟨opsP,hP⟩:∃opsP:Array Oper,opsP.toList=ops.toList.take m:=⟨(ops.toList.take m).toArray,by simp⟩
 have cC:opsP.size=m:=by
  have:=congrArg List.length hP;simp at this; omega
 rw[<-hP]at bV dB mC hdp nD;refine wpIn_region_any hc.mix (QsD (opsP:=opsP) he hP hm hl (λi o ho j fH hgo=>?_) opsP.size ops.size (Array.replicate opsP.size false) (Array.replicate ops.size false) a _ (by simp[cC]) (by simp) (λi hi=>?_) (λi hi=>?_) (λi o ho fU=>?_) (by omega) (Qm0 hF hc bV (λd hd=>aP d (QpD _ m d (by rw[<-hP]; exact hd))) dB mC hdp I λg' a' w' I' hu=>?_))
 .have:=Zl.1 nD o (List.mem_of_getElem? (by simpa using ho))
  rw[hgo]at this;simpa using this
 .simp[Array.getD_eq_getD_getElem?,cC,hi,show i < ops.size by omega]
 .simp only[Array.getD_eq_getD_getElem?,Array.getElem?_replicate]; split<;>rfl
 .simp only[Array.getD_eq_getD_getElem?,Array.getElem?_replicate]at fU;split at fU<;>cases fU
 .rw[cC]at hu;exact hQ g' a' w' I' hu
end
section
variable {F:Fence} {n:Nat} {P:Program} {c:Cx} {m0:Nat->Nat->Prop} {w0:Base} {g:Gh} {σ σ':St} {a:Act} {w:World}
theorem QmH (hF:FreeF F) (hc:CxOk P c) {id:Nat} {ops:Array Oper} (h:c.regionL id ops.toList σ=some σ') (aP:∀d∈QP ops.toList,w0.out d=none) (hd:Qn4 (c.diff id) ops.toList (ops.toList.length - 1)=true) (I:Inv c.N m0 w0 g σ a w) {Q:Exit->Act->World->Prop} (hQ:∀g' a' w',Inv c.N m0 w0 g' σ' a' w'->Q .normal a' w'):(Code.region id ops true).wpIn F n P Q a w:=by
 unfold Cx.regionL at h;simp only at h;split at h
 case isFalse=>cases h
 rename_i bV;split at h
 case h_2=>cases h
 rename_i σ1 dB;split at h
 case isFalse=>cases h
 rename_i mC;split at h
 case h_2=>cases h
 rename_i o gM;split at h
 case h_2=>cases h
 rename_i hg hao;split at h
 case h_2=>cases h
 rename_i σ2 lX;simp only[Zs]at h; subst h;have aI:ops.toList.length=ops.size:=by simp
 rw[aI]at bV dB mC gM lX hd;have gW:0 < ops.size:=by
  have:=congrArg List.length gM;simp at this; omega
 have cA:=hd;simp only[Qn4,Za]at cA;obtain⟨⟨⟨he,_⟩,hl⟩,_⟩:=cA;have bW:ops[ops.size - 1]?=some o:=by
  have:(ops.toList.drop (ops.size - 1))[0]?=some o:=by rw[gM]; rfl
  rw[List.getElem?_drop]at this;simpa using this
 refine Qr1 hF hc bV aP dB mC hd (by omega) I λg' a' w' I' hu Qbx aD hf hs fR=>?_
 have lI:=QBp he fR;obtain⟨f,rfl⟩:∃f,Qbx=f+1:=⟨Qbx - 1,by omega⟩
 have vH:ops.size - 1∈Region.ready .any ops aD:=QaU.2 ⟨o,bW,by rw[Qcr (by omega),fR _ (by omega)]; simp,λe kI hb=>by
  have h1:=Qca ops.toList 0 he _ o (by simpa using bW) e kI hb
  rw[fR e.on (by omega)]; simp; omega⟩
 refine⟨λhr=>(by rw[hr]at vH; cases vH),λi hi=>?_⟩
 obtain⟨o',h1,h2,h3⟩:=QaU.1 hi;have pL:=(Zj.1 h1).1;have hik:i=ops.size - 1:=by
  rw[Qcr (by omega),fR i pL]at h2
  simp at h2; omega
 subst hik;rw[bW]at h1; cases h1;have kQ:Region.ready .any ops (aD.setIfInBounds (ops.size - 1) true)=[]:=by
  refine List.eq_nil_iff_forall_not_mem.2 λj hj=>?_;obtain⟨oj,q1,q2,_⟩:=QaU.1 hj;have cM:=(Zj.1 q1).1;rw[QcA _ _ _ _ (by omega)]at q2
  split at q2
  .cases q2
  .rw[Qcr (by omega),fR j cM]at q2
   simp at q2; omega
 unfold wpOpIn;simp only[bW];rw[if_pos (by simp[Region.wanted,hg])]
 refine Qjs hF hc lX I' (λd hd=>by rw[hao]at hd; cases hd) (hu _ (Zr _)) λg2 a2 w2 I2 _ _=>?_
 obtain⟨g3,I3⟩:=I2.close id;have:=hQ g3 a2 w2 I3;cases f with
 | zero=>exact⟨kQ,this⟩
 | succ f=>exact⟨λ_=>this,λi hi=>by rw[kQ]at hi; cases hi⟩
end
section
variable {F:Fence} {n:Nat} {P:Program} {ops opsS:Array Oper} {Q:Exit->Act->World->Prop}
variable {k:Nat}
end
section
variable {F:Fence} {n:Nat} {P:Program} {c:Cx} {m0:Nat->Nat->Prop} {w0:Base} {g:Gh} {σ σ':St} {a:Act} {w:World}
end
end Go.Proofs.YtnfeakhkfehkhaaGreatDoor
