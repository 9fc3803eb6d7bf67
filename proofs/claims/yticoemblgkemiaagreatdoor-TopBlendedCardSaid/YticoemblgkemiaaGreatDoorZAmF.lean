/-
  Functions that yield: what they hand to a loop, as the plain machine runs them. For any program. No program here.
-/
import Derived.Test.YticoemblgkemiaaGreatDoorZAmE
import Derived.Recover
import Derived.Laws.CopyOwn
set_option linter.unusedSectionVars false
set_option linter.unusedSimpArgs false
set_option linter.unusedVariables false
namespace Go.Proofs.YticoemblgkemiaaGreatDoor
open Go.RowKit
structure SY where
 σ:St
 ys:List (List Value)
 stop:Bool
def X.known:X→Bool
 | .d (.v _)=>true
 | .d (.datA _ _ _ _ _ _)=>true
 | _=>false
def Qrw:List (Nat×X)→List (Nat×X)
 | []=>[]
 | (t,x)::r=>if x.known then(t,x)::Qrw r else(t,.d .top)::Qrw r
def QeN (ln:Nat) (σ:St) (o:Oper):Option (List X):=
 match o.op with
 | .call cc=>(match cc.callee with
  | .value f=>(match σ.ev f with
   | .d (.v (.func (.yield l) first caps))=>if l=ln∧first.isEmpty∧caps.isEmpty then some (cc.args.toList.map σ.ev)else none
   | _=>none)
  | _=>none)
 | _=>none
def QM8:X→Option Value
 | .d (.v v)=>some v
 | .d (.agg cs)=>(match Qc8 cs with
  | some vs=>some (.agg vs.toArray)
  | none=>none)
 | _=>none
def QoW:List X→Option (List Value)
 | []=>some []
 | x::t=>(match QM8 x,QoW t with
  | some v,some vs=>some (v::vs)
  | _,_=>none)
def Qor (σ:St) (dst:Option Nat) (b:Bool):St:= { tmps:=Qlm (Qrw σ.tmps) dst (.d (.v (.bool b))),boxes:=[],toks:=[],maps:=[]}
abbrev Adr:=List (Nat×Nat×Nat×List (List D))
def Qpu (adr:Adr):List (Nat×X)→Prop
 | []=>True
 | (_,.d (.datA b o k rows _ _))::r=>(b,o,k,rows)∈adr∧Qpu adr r
 | _::r=>Qpu adr r
theorem QnO {adr:Adr} :∀{t:List (Nat×X)} {u b o k i off:Nat} {rows:List (List D)},Qpu adr t→Qt t u=some (.d (.datA b o k rows i off))→(b,o,k,rows)∈adr
 | [],u,b,o,k,i,off,rows,_,h=>by cases h
 | (v,x)::r,u,b,o,k,i,off,rows,ha,h=>by
  simp only[Qt]at h;split at h
  ·simp only[Option.some.injEq]at h; subst h; exact ha.1
  ·unfold Qpu at ha;split at ha
   ·rename_i heq; cases heq
   ·rename_i heq; cases heq; exact QnO ha.2 h
   ·rename_i heq; cases heq; exact QnO ha h
def Cx.opsY (c:Cx) (adr:Adr) (ln:Nat) (l:List (List Value)) (ops:List Oper):Nat→List Oper→(SY→Prop)→SY→Prop
 | _,[],Post,s=>Post s
 | i,o::t,Post,s=>match Qa5 ops s.σ o with
  | some true=>(match QeN ln s.σ o with
   | some xs=>(match QoW xs with
    | some vs=>s.stop=false∧(s.ys++[vs]) <+:l∧Qh0 c.N o.dst=true∧Qpu adr s.σ.tmps∧c.opsY adr ln l ops (i+1) t Post ⟨Qor s.σ o.dst true,s.ys++[vs],false⟩∧c.opsY adr ln l ops (i+1) t Post ⟨Qor s.σ o.dst false,s.ys++[vs],true⟩
    | none=>False)
   | none=>(match c.stepE ops i o s.σ with
    | some σ'=>c.opsY adr ln l ops (i+1) t Post { s with σ:=σ'}
    | none=>False))
  | _=>(match c.stepE ops i o s.σ with
    | some σ'=>c.opsY adr ln l ops (i+1) t Post { s with σ:=σ'}
    | none=>False)
def Cx.codeY (c:Cx) (adr:Adr) (ln:Nat) (l:List (List Value)):Code→(AEx→SY→Prop)→SY→Prop
 | .skip,Post,s=>Post .normal s
 | .label _,Post,s=>Post .normal s
 | .region id ops true,Post,s=>(match c.regionD id ops.toList s.σ with
  | some σ'=>Post .normal { s with σ:=σ'}
  | none=>False)
 | .region id ops false,Post,s=>if Qav (QR ops.toList) s.σ then c.opsY adr ln l ops.toList 0 ops.toList (fun s'=>Post .normal { s' with σ:=c.close id s'.σ}) s else False
 | .seq a b,Post,s=>c.codeY adr ln l a (fun e s'=>match e with | .normal=>c.codeY adr ln l b Post s' | e=>Post e s') s
 | .cond x a b,Post,s=>(match s.σ.ev x with
  | .d (.v (.bool t))=>(match t with
   | true=>c.codeY adr ln l a Post s
   | false=>c.codeY adr ln l b Post s)
  | _=>False)
 | .block id a,Post,s=>c.codeY adr ln l a (fun e s'=>match e with | .exit j=>if j=id then Post .normal s' else Post (.exit j) s' | e=>Post e s') s
 | .loop a,Post,s=>∃(I:Nat→SY→Prop),(∃n,I n s)∧∀n s',I n s'→c.codeY adr ln l a (fun e s''=>match e with | .normal=>∃m,m < n∧I m s'' | e=>Post e s'') s'
 | .exit id,Post,s=>Post (.exit id) s
 | .scope a,Post,s=>c.codeY adr ln l a Post s
 | .ret,Post,s=>Post .ret s
 | _,_,_=>False
def Qy9 (w:World):Base:=⟨w,fun _=>none,fun _=>none,[],False,[]⟩
def ghW (m:Nat→Nat→Prop):Gh:= { imm:=m,box:=fun _=>none,tok:=fun _=>none,used:=fun _=>False}
theorem QMQ (w:World) (b:Nat):¬(Qy9 w).writ b:=by
 rintro(⟨i,hi⟩ | ⟨t,ht⟩)
 ·cases hi
 ·cases ht
theorem QmP:∀{t:List (Nat×X)} {u:Nat} {x:X},Qt (Qrw t) u=some x→x= .d .top∨(x.known=true∧Qt t u=some x)
 | [],u,x,h=>by cases h
 | (i,y)::r,u,x,h=>by
  simp only[Qrw]at h;split at h
  ·rename_i hk;simp only[Qt]at h⊢;split at h
   ·rename_i e;simp only[Option.some.injEq]at h; subst h;exact .inr ⟨hk,by rw[if_pos e]⟩
   ·rename_i e;rw[if_neg e];exact QmP h
  ·simp only[Qt]at h⊢;split at h
   ·simp only[Option.some.injEq]at h; exact .inl h.symm
   ·rename_i e; rw[if_neg e]; exact QmP h
theorem QAX {g:Gh} {w:World} {base:Nat} {toks:List Nat} {x:X} {u v:Value} (h:QM8 x=some v) (r:RelX g w base toks x u):u=v:=by
 unfold QM8 at h;split at h
 ·simp only[Option.some.injEq]at h; subst h;simpa[RelX,Rel]using r
 ·rename_i cs;split at h
  ·rename_i vs hvs;simp only[Option.some.injEq]at h; subst h;simp only[RelX,Rel]at r;obtain⟨us,h1,_,h3⟩:=r;rw[h1,QcU hvs h3]
  ·cases h
 ·cases h
theorem QpS {g:Gh} {w:World} {base:Nat} {toks:List Nat} :∀{xs:List X} {vs us:List Value},QoW xs=some vs→us.length=xs.length→(∀(j:Nat) (x:X) (v:Value),xs[j]?=some x→us[j]?=some v→RelX g w base toks x v)→us=vs
 | [],vs,us,h,hl,_=>by
  simp only[QoW,Option.some.injEq]at h; subst h;exact List.length_eq_zero_iff.1 hl
 | x::t,vs,us,h,hl,hr=>by
  simp only[QoW]at h;split at h
  ·rename_i v r h1 h2;simp only[Option.some.injEq]at h; subst h;cases us with
   | nil=>simp at hl
   | cons u ut=>
    have e1:=QAX h1 (hr 0 x u rfl rfl);have e2:=QpS h2 (us:=ut) (by simpa using hl) fun j y z q1 q2=>hr (j+1) y z (by simpa using q1) (by simpa using q2)
    rw[e1,e2]
  ·cases h
structure YK (P:Program) (n:Nat) (ln:Nat) (l:List (List Value)) (m:Nat→Nat→Prop) (J:List (List Value)→World→Prop) (Jx:World→Prop):Prop where
 later:∀pre W W',J pre W→Below W.heap.size W W'→J pre W'
 laterx:∀W W',Jx W→Below W.heap.size W W'→Jx W'
 round:∀pre x W,J pre W→(pre++[x]) <+:l→YieldAt Fence.wide (n - 1) P ln x.toArray W fun e W'=>((e= .returned (.bool true)∧J (pre++[x]) W')∨(e= .returned (.bool false)∧Jx W'))∧W.heap.size≤W'.heap.size∧∀b o,m b o→W'.cell? ⟨b,o,none⟩=W.cell? ⟨b,o,none⟩
structure InvY (c:Cx) (m:Nat→Nat→Prop) (J:List (List Value)→World→Prop) (Jx:World→Prop) (ws:World) (W:World) (g:Gh) (s:SY) (a:Act) (w:World):Prop where
 inv:Inv c.N m (Qy9 W) g s.σ a w
 go:if s.stop=true then Jx W else J s.ys W
 size:ws.heap.size≤W.heap.size
 cell:∀b o,m b o→W.cell? ⟨b,o,none⟩=ws.cell? ⟨b,o,none⟩
section
variable {P:Program} {c:Cx} {adr:Adr} {m:Nat→Nat→Prop} {ln:Nat} {l:List (List Value)} {J:List (List Value)→World→Prop} {Jx:World→Prop} {ws W w:World} {n:Nat} {g:Gh} {s:SY} {a:Act}
theorem InvY.defers (I:InvY c m J Jx ws W g s a w):a.defers=[]:=by
 obtain⟨Ds,h1,_,h3⟩:=I.inv.defers;cases Ds with
 | nil=>exact h1
 | cons D t=>exact((h3 D (by simp)).1.2).elim
theorem InvY.below (I:InvY c m J Jx ws W g s a w):Below W.heap.size W w:=I.inv.below.below fun k hk=>QMQ W k hk
theorem InvY.now (I:InvY c m J Jx ws W g s a w) (K:YK P n ln l m J Jx):if s.stop=true then Jx w else J s.ys w:=by
 have h:=I.go;split
 ·rename_i hs; rw[if_pos hs]at h; exact K.laterx _ _ h I.below
 ·rename_i hs; rw[if_neg hs]at h; exact K.later _ _ _ h I.below
theorem QuY {σ:St} {o:Oper} {xs:List X} (h:QeN ln σ o=some xs) (I:Inv c.N m (Qy9 W) g σ a w):∃f args tys,o.op= .call ⟨.value f,args,tys⟩∧a.eval f= .func (.yield ln) #[] #[]∧xs=args.toList.map σ.ev:=by
 unfold QeN at h;split at h
 ·rename_i cc hop;split at h
  ·rename_i f hcal;split at h
   ·rename_i l' first caps hf
    split at h
    ·rename_i hcond;obtain⟨rfl,h1,h2⟩:=hcond;simp only[Array.isEmpty_iff]at h1 h2;subst h1; subst h2;simp only[Option.some.injEq]at h;have hr:=QbD I f;rw[hf]at hr;simp only[RelX,Rel]at hr;obtain⟨cal,args,tys⟩:=cc;simp only at hcal h;subst hcal;exact⟨f,args,tys,hop,hr,h.symm⟩
    ·cases h
   ·cases h
  ·cases h
 ·cases h
theorem Qge (hc:CxOk P c) (K:YK P n ln l m J Jx) (hm:∀b o,m b o→b < ws.heap.size) (hadr:∀p∈adr,RelRows m ws p.2.2.2 p.1 p.2.1 p.2.2.1) (ops:Array Oper) {Q:Exit→Act→World→Prop} {Post:SY→Prop} (hQ:∀s' W' g' a' w',Post s'→InvY c m J Jx ws W' g' s' a' w'→Q .normal a' w'):∀(rest:List Oper) (i:Nat) (s:SY) (W:World) (g:Gh) (a:Act) (w:World),c.opsY adr ln l ops.toList i rest Post s→InvY c m J Jx ws W g s a w→(QR rest).Nodup→(∀d∈QR rest,g.box d=none∧Qt s.σ.maps d=none)→(∀j,i≤j→¬g.used (QaN j))→
  wpListIn Fence.wide n P ops Q rest a w
 | [],i,s,W,g,a,w,h,I,_,_,_=>hQ s W g a w h I
 | o::t,i,s,W,g,a,w,h,I,hnd,hal,hus=>by
  have hndt:(QR t).Nodup:=by
   rw[Qad]at hnd;exact(List.nodup_append.1 hnd).2.1
  have hstep:(match c.stepE ops.toList i o s.σ with
    | some σ'=>c.opsY adr ln l ops.toList (i+1) t Post { s with σ:=σ'}
    | none=>False)→wpListIn Fence.wide n P ops Q (o::t) a w:=by
   intro h;split at h
   ·rename_i σ' hs;refine Qkb (.inl rfl) hc ops hs I.inv (fun d hd=>hal d (by rw[Qad,hd]; simp)) (hus i (Nat.le_refl _)) fun g' a' w' I' hb hu=>?_
    refine Qge hc K hm hadr ops hQ t (i+1) _ W g' a' w' h ⟨I',I.go,I.size,I.cell⟩ hndt (fun d hd=>hb d (hal d (by rw[Qad]; simp[hd])) fun e=>?_) (fun j hj hu'=>?_)
    ·rw[Qad,e]at hnd;simp only[List.cons_append,List.nil_append,List.nodup_cons]at hnd;exact hnd.1 hd
    ·rcases hu _ hu' with h1 | h1
     ·exact hus j (by omega) h1
     ·unfold QaN at h1; omega
   ·exact h.elim
  unfold Cx.opsY at h;split at h
  ·rename_i hw;split at h
   ·rename_i xs hx;split at h
    ·rename_i vs hv;obtain⟨h1,h2,h3,h4,h5,h6⟩:=h;have hw':=QbF I.inv ops o hw;unfold wpListIn;rw[if_pos hw'];obtain⟨f,args,tys,hop,hfe,hxs⟩:=QuY hx I.inv;have hvs:args.toList.map a.eval=vs:=QpS (base:=W.heap.size) (toks:=s.σ.toks) hv (by rw[hxs]; simp) fun j x v q1 q2=>by
      rw[hxs,List.getElem?_map]at q1;rw[List.getElem?_map]at q2;cases hj:args.toList[j]? with
      | none=>rw[hj]at q1; cases q1
      | some y=>rw[hj]at q1 q2; simp at q1 q2; subst q1; subst q2; exact QbD I.inv y
     have hnow:=I.now K;rw[h1]at hnow;simp only[Bool.false_eq_true,if_false]at hnow;obtain⟨fn,tmps,assign,body,hy,hround⟩:=K.round s.ys vs w hnow h2;have hargs:args.map a.eval=vs.toArray:=by rw[←hvs,←Array.toList_map,Array.toArray_toList]
     have hrun:(o.semAt Fence.wide.round a.eval).run P w= .ok (.round ln fn tmps assign body) w:=by
      have hnd:∀c,o.op≠ .defer c:=by rw[hop]; intro c h; cases h
      rw[Oper.semAt_eq _ _ _ hnd];obtain⟨dst,op,ty,pos,after,guard⟩:=o;simp only at hop;subst hop;simp[execOp,resolve,hfe,Deferred.ofValue,invoke,hargs,hy]
     have hd:QjT c.N o.dst:=by
      rintro x hx';rw[hx']at h3;simpa[Qh0]using h3
     refine⟨fun _ _=>trivial,?_⟩;rw[hrun];refine⟨fun hd=>absurd hd (by simp[Fence.wide]),hround.mono ?_⟩
     rintro e W' ⟨he,hsz,hcl⟩;have hwW:W.heap.size≤w.heap.size:=I.below.size;have hcells:∀b o,m b o→W'.cell? ⟨b,o,none⟩=ws.cell? ⟨b,o,none⟩:=fun b o hbo=>((hcl b o hbo).trans (I.inv.cells.1 b o hbo)).trans (I.cell b o hbo);have hsz':ws.heap.size≤W'.heap.size:=Nat.le_trans I.size (Nat.le_trans hwW hsz);have hlt:∀b o,m b o→b < W'.heap.size:=fun b o hbo=>Nat.lt_of_lt_of_le (hm b o hbo) hsz';have hback:∀b:Bool,Inv c.N m (Qy9 W') (ghW m) (Qor s.σ o.dst b) (a.put o.dst (.bool b)) W':=by
      intro b;have I0:Inv c.N m (Qy9 W') (ghW m) ⟨Qrw s.σ.tmps,[],[],[]⟩ a W':=by
       refine⟨KeepsW.refl _ _,I.inv.size,⟨[],I.defers,List.nodup_nil,fun D h=>by cases h⟩,hlt,fun _ _ h=>h,fun _ _ h=> .inl h,fun t x hx=>?_,fun i b h=>(by cases h),fun i j b h=>(by cases h),fun t b h=>(by cases h),fun s t b h=>(by cases h),fun b cs h=>(by cases h),fun i b h=>(by cases h),fun p hp=>(by cases hp),fun i mc h=>(by cases h),fun _ _ _=>rfl,I.inv.cells.2.ext ⟨fun _ _ h=>h,fun b o hbo=>(hcl b o hbo).trans (I.inv.cells.1 b o hbo)⟩⟩
       rcases QmP hx with rfl | ⟨k1,k2⟩
       ·simp[RelX,Rel]
       ·have hr:=I.inv.tmps t x k2;unfold X.known at k1;split at k1
        ·simpa[RelX,Rel]using hr
        ·rename_i b o k rows i off;simp only[RelX,Rel]at hr⊢;obtain⟨r1,r2,_⟩:=hr;have hmem:=QnO h4 k2;exact⟨r1,r2,RelRows.ext (m:=m) (w:=ws) ⟨fun _ _ h=>h,hcells⟩ rows b o k (hadr _ hmem)⟩
        ·cases k1
      exact I0.put hd (x:= .d (.v (.bool b))) (by simp[RelX,Rel])
     rcases he with⟨rfl,hj⟩ | ⟨rfl,hj⟩
     ·exact Qge hc K hm hadr ops hQ t (i+1) _ W' (ghW m) _ W' h5 ⟨hback true,by simpa using hj,hsz',hcells⟩ hndt (fun d _=>⟨rfl,rfl⟩) (fun j _ hu=>hu)
     ·exact Qge hc K hm hadr ops hQ t (i+1) _ W' (ghW m) _ W' h6 ⟨hback false,by simpa using hj,hsz',hcells⟩ hndt (fun d _=>⟨rfl,rfl⟩) (fun j _ hu=>hu)
    ·exact h.elim
   ·exact hstep h
  ·exact hstep h
theorem Qqs (hc:CxOk P c) (K:YK P n ln l m J Jx) (hm:∀b o,m b o→b < ws.heap.size) (hadr:∀p∈adr,RelRows m ws p.2.2.2 p.1 p.2.1 p.2.2.1):∀(cd:Code),QaO c.diff c.md c.pq cd=true→∀(Post:AEx→SY→Prop) (s:SY) (W:World) (g:Gh) (a:Act) (w:World),c.codeY adr ln l cd Post s→InvY c m J Jx ws W g s a w→
  ∀Q:Exit→Act→World→Prop,(∀e s' W' g' a' w',Post e s'→InvY c m J Jx ws W' g' s' a' w'→Q e.out a' w')→cd.wpIn Fence.wide n P Q a w:=by
 intro cd
 induction cd with
 | skip=>intro _ Post s W g a w h I Q hQ; exact wpIn_skip (hQ .normal s W g a w h I)
 | label l=>intro _ Post s W g a w h I Q hQ; exact wpIn_label (hQ .normal s W g a w h I)
 | region id ops draw=>
  intro hd Post s W g a w h I Q hQ;cases draw with
  | true=>
   simp only[Cx.codeY]at h;split at h
   ·rename_i σ' hr;exact Qg5 (.inl rfl) hc hr (fun _ _=>rfl) hd I.inv fun g' a' w' I'=>hQ .normal _ W g' a' w' h ⟨I',I.go,I.size,I.cell⟩
   ·exact h.elim
  | false=>
   simp only[Cx.codeY]at h;split at h
   ·rename_i hst;obtain⟨hnd,hpl⟩:=QaJ hst;obtain⟨I1,hal1,hus⟩:=I.inv.start (al:=QR ops.toList) (fun _ _=>rfl) hst hpl;refine wpIn_region_list (Qge hc K hm hadr ops (fun s' W' g' a' w' hp I'=>?_) ops.toList 0 s W _ a w h ⟨I1,I.go,I.size,I.cell⟩ (QbX _ hnd) hal1 (fun j _=>hus j));obtain⟨g2,I2⟩:=I'.inv.close id;exact hQ .normal _ W' g2 a' w' hp ⟨I2,I'.go,I'.size,I'.cell⟩
   ·exact h.elim
 | seq x y ihx ihy=>
  intro hd Post s W g a w h I Q hQ;simp only[QaO,Bool.and_eq_true]at hd;simp only[Cx.codeY]at h;refine wpIn_seq (ihx hd.1 _ s W g a w h I _ fun e s' W' g' a' w' hp I'=>?_);cases e with
  | normal=>exact ihy hd.2 Post s' W' g' a' w' hp I' Q hQ
  | exit i=>exact hQ (.exit i) s' W' g' a' w' hp I'
  | ret=>exact hQ .ret s' W' g' a' w' hp I'
  | pan v=>exact hQ (.pan v) s' W' g' a' w' hp I'
 | cond x y z ihy ihz=>
  intro hd Post s W g a w h I Q hQ;simp only[QaO,Bool.and_eq_true]at hd;simp only[Cx.codeY]at h;split at h
  ·rename_i t hx;have hr:=QbD I.inv x;rw[hx]at hr;simp only[RelX,Rel]at hr;refine wpIn_cond hr ?_;cases t with
   | true=>exact ihy hd.1 Post s W g a w h I Q hQ
   | false=>exact ihz hd.2 Post s W g a w h I Q hQ
  ·exact h.elim
 | block id x ih=>
  intro hd Post s W g a w h I Q hQ;simp only[QaO]at hd;simp only[Cx.codeY]at h;refine wpIn_block (ih hd _ s W g a w h I _ fun e s' W' g' a' w' hp I'=>?_);cases e with
  | normal=>exact hQ .normal s' W' g' a' w' hp I'
  | ret=>exact hQ .ret s' W' g' a' w' hp I'
  | pan v=>exact hQ (.pan v) s' W' g' a' w' hp I'
  | exit j=>
   simp only at hp;by_cases hj:j=id
   ·rw[if_pos hj]at hp;simp only[AEx.out,Exit.inBlock,hj,if_true];exact hQ .normal s' W' g' a' w' hp I'
   ·rw[if_neg hj]at hp;simp only[AEx.out,Exit.inBlock,hj,if_false];exact hQ (.exit j) s' W' g' a' w' hp I'
 | loop x ih=>
  intro hd Post s W g a w h I Q hQ;simp only[QaO]at hd;simp only[Cx.codeY]at h;obtain⟨In,⟨k,hk⟩,hstep⟩:=h;refine wpIn_loop_rounds (k+1) ?_;revert s W g a w
  induction k using Nat.strongRecOn with
  | ind k ihk=>
   intro s W g a w I hk;rw[roundsIn_succ];refine ih hd _ s W g a w (hstep k s hk) I _ fun e s' W' g' a' w' hp I'=>?_;cases e with
   | normal=>
    obtain⟨j,hj,hin⟩:=hp;have:=ihk j hj s' W' g' a' w' I' hin;have mono:∀(r1 r2:Nat),r1≤r2→∀a w,Code.roundsIn Fence.wide n P x Q r1 a w→Code.roundsIn Fence.wide n P x Q r2 a w:=by
     intro r1
     induction r1 with
     | zero=>intro r2 _ a w h; exact h.elim
     | succ r1 ihr=>
      intro r2 hle a w h;obtain⟨r3,rfl⟩:∃r3,r2=r3+1:=⟨r2 - 1,by omega⟩
      rw[roundsIn_succ]at h⊢;refine wpIn_mono h fun e a w hh=>?_;cases e with
      | normal=>exact ihr r3 (by omega) a w hh
      | _=>exact hh
    exact mono (j+1) k (by omega) a' w' this
   | exit i=>exact hQ (.exit i) s' W' g' a' w' hp I'
   | ret=>exact hQ .ret s' W' g' a' w' hp I'
   | pan v=>exact hQ (.pan v) s' W' g' a' w' hp I'
 | rangeFunc f p x y ihx ihy=>intro _ Post s W g a w h; exact h.elim
 | exit i=>intro _ Post s W g a w h I Q hQ; exact wpIn_exit (hQ (.exit i) s W g a w h I)
 | scope x ih=>
  intro hd Post s W g a w h I Q hQ;simp only[QaO]at hd;simp only[Cx.codeY]at h;exact Qe7 (ih hd Post s W g a w h I _ fun e s' W' g' a' w' hp I'=>⟨QlE e,hQ e s' W' g' a' w' hp I'⟩)
 | goto l=>intro _ Post s W g a w h; exact h.elim
 | ret=>intro _ Post s W g a w h I Q hQ; exact wpIn_ret (hQ .ret s W g a w h I)
 | refuse t=>intro _ Post s W g a w h; exact h.elim
def exA:List D→List (Nat×Nat)→List D
 | .dat k rows i off::t,(b,o)::r=> .datA b o k rows i off::exA t r
 | d::t,_::r=>d::exA t r
 | l,[]=>l
 | [],_=>[]
def Qqz:List D→List (Nat×Nat)→Adr
 | .dat k rows _ _::t,(b,o)::r=>(b,o,k,rows)::Qqz t r
 | _::t,_::r=>Qqz t r
 | _,_=>[]
theorem QxK:∀(ds:List D) (vs:List Value),RelL m w ds vs→∃ad:List (Nat×Nat),ad.length=ds.length∧RelL m w (exA ds ad) vs∧∀p∈Qqz ds ad,RelRows m w p.2.2.2 p.1 p.2.1 p.2.2.1
 | [],vs,h=>⟨[],rfl,h,fun p hp=>by cases hp⟩
 | d::t,vs,h=>by
  simp only[RelL]at h;obtain⟨v,vt,rfl,h1,h2⟩:=h;obtain⟨ad,a1,a2,a3⟩:=QxK t vt h2;cases d with
  | dat k rows i off=>
   simp only[Rel]at h1;obtain⟨q1,b,o,q2,q3⟩:=h1;refine⟨(b,o)::ad,by simp[a1],?_,fun p hp=>?_⟩
   ·simp only[exA,RelL];exact⟨v,vt,rfl,by simp only[Rel]; exact⟨q1,q2,q3⟩,a2⟩
   ·simp only[Qqz,List.mem_cons]at hp;rcases hp with rfl | hp
    ·exact q3
    ·exact a3 p hp
  | _=>
   refine⟨(0,0)::ad,by simp[a1],?_,fun p hp=>a3 p (by simpa only[Qqz]using hp)⟩
   simp only[exA,RelL];exact⟨v,vt,rfl,h1,a2⟩
theorem Qq4 (hc:CxOk P c) {f:Nat} {fn:Func} {cd:Code} (hf:P.funcs[f]?=some fn) (hb:fn.body=some cd) (hN:fn.ntmps=c.N) (hres:fn.results.toList=[]) {caps:List D} (hl:caps.length < c.N) (hd:QaO c.diff c.md c.pq cd=true)
  (h:∀(ln:Nat) (ad:List (Nat×Nat)),ad.length=caps.length→c.codeY (Qqz caps ad) ln l cd (fun e s=>(∀i,e≠ .exit i)∧(∀v,e≠ .pan v)∧(s.stop=true∨s.ys=l)) ⟨⟨(0,.d (.v (.func (.yield ln) #[] #[])))::Qqm 1 (exA caps ad),[],[],[]⟩,[],false⟩):QC4 P f caps l:=by
 intro n m w lb hm hG hr ln J Jx hJ hJx hround hJ0;obtain⟨ad,a1,a2,a3⟩:=QxK caps lb hr;have hlb:=hr.length;have K:YK P n ln l m J Jx:=⟨hJ,hJx,hround⟩;have hargs:(#[.func (.yield ln) #[] #[]]++lb.toArray:Array Value)=((.func (.yield ln) #[] #[]::lb:List Value)).toArray:=by simp
 rw[hargs];have hrel:RelL m w (.v (.func (.yield ln) #[] #[])::exA caps ad) (.func (.yield ln) #[] #[]::lb):=by
  simp only[RelL];exact⟨_,_,rfl,by simp[Rel],a2⟩
 refine callsIn_of_wp hf hb trivial ?_;have hlen:(exA caps ad).length=caps.length:=by have:=a2.length; omega
 have I0:InvY c m J Jx w w (ghW m) ⟨⟨(0,.d (.v (.func (.yield ln) #[] #[])))::Qqm 1 (exA caps ad),[],[],[]⟩,[],false⟩ { tmps:=(.func (.yield ln) #[] #[]::lb:List Value).toArray++Array.replicate (fn.ntmps - (.func (.yield ln) #[] #[]::lb:List Value).toArray.size) undef,defers:=[]} w:=by
  refine⟨⟨KeepsW.refl _ _,by simp; omega,⟨[],rfl,List.nodup_nil,fun D h=>by cases h⟩,hm,fun _ _ h=>h,fun _ _ h=> .inl h,fun t x hx=>?_,fun i b h=>(by cases h),fun i j b h=>(by cases h),fun t b h=>(by cases h),fun s t b h=>(by cases h),fun b cs h=>(by cases h),fun i b h=>(by cases h),fun p hp=>(by cases hp),fun i mc h=>(by cases h),fun _ _ _=>rfl,hG⟩,by simpa using hJ0,Nat.le_refl _,fun _ _ _=>rfl⟩
  obtain⟨d',v',rfl,_,h5,h6⟩:=Qjb (.v (.func (.yield ln) #[] #[])::exA caps ad) _ 0 hrel t x hx;simp only[Nat.sub_zero]at h5;have hlt:t < (.func (.yield ln) #[] #[]::lb:List Value).length:=(List.getElem?_eq_some_iff.1 h5).1;have:((.func (.yield ln) #[] #[]::lb:List Value).toArray++Array.replicate (fn.ntmps - (.func (.yield ln) #[] #[]::lb:List Value).toArray.size) undef).getD t undef=v':=by
   rw[Array.getD_eq_getD_getElem?,Array.getElem?_append,if_pos (by simpa using hlt),List.getElem?_toArray,h5]; rfl
  show RelX _ _ _ _ (.d d') _;rw[this]; exact h6
 refine Qqs hc K hm a3 cd hd _ _ w (ghW m) _ w (h ln ad a1) I0 _ fun e s W' g' a' w' hp I'=>?_;have hfin:a'.defers=[]∧∃v,(results fn a'.tmps).run P w'= .ok v w'∧((∃v',Ending.returned v= .returned v')∧(J l w'∨Jx w')):=by
  refine⟨I'.defers,?_⟩;obtain⟨v,h1,_⟩:=QkQ (m:=m) (P:=P) (fn:=fn) (tm:=a'.tmps) (w:=w') (us:=[]) (r:=[]) (by rw[hres]; rfl) (by simp[RelL])
  refine⟨v,h1,⟨v,rfl⟩,?_⟩;have hnow:=I'.now K;split at hnow
  ·exact .inr hnow
  ·rename_i hs;rcases hp.2.2 with h | h
   ·exact absurd h hs
   ·rw[h]at hnow; exact .inl hnow
 cases e with
 | normal=>exact hfin
 | exit i=>exact absurd rfl (hp.1 i)
 | ret=>exact hfin
 | pan v=>exact absurd rfl (hp.2.1 v)
end
def Cx.thenY (c:Cx) (adr:Adr) (ln:Nat) (l:List (List Value)) (b:Code) (Post:AEx→SY→Prop):AEx→SY→Prop
 | .normal,s=>c.codeY adr ln l b Post s
 | e,s=>Post e s
def QNw (id:Nat) (Post:AEx→SY→Prop):AEx→SY→Prop
 | .exit j,s=>if j=id then Post .normal s else Post (.exit j) s
 | e,s=>Post e s
def Cx.endY (c:Cx) (id:Nat) (Post:AEx→SY→Prop) (s:SY):Prop:=Post .normal ⟨c.close id s.σ,s.ys,s.stop⟩
def QoM (I:Nat→SY→Prop) (n:Nat) (Post:AEx→SY→Prop):AEx→SY→Prop
 | .normal,s=>∃m,m < n∧I m s
 | e,s=>Post e s
def Cx.loopY (c:Cx) (adr:Adr) (ln:Nat) (l:List (List Value)) (a:Code) (Post:AEx→SY→Prop) (s:SY):Prop:=c.codeY adr ln l (.loop a) Post s
def Cx.opsYV (c:Cx) (adr:Adr) (ln:Nat) (l:List (List Value)) (ops:List Oper) (i:Nat) (d:Option Nat) (t:List Oper) (Post:SY→Prop) (s:SY):Option (List Value)→Prop
 | some vs=>s.stop=false∧(s.ys++[vs]) <+:l∧Qh0 c.N d=true∧Qpu adr s.σ.tmps∧c.opsY adr ln l ops (i+1) t Post ⟨Qor s.σ d true,s.ys++[vs],false⟩∧c.opsY adr ln l ops (i+1) t Post ⟨Qor s.σ d false,s.ys++[vs],true⟩
 | none=>False
def Cx.opsYS (c:Cx) (adr:Adr) (ln:Nat) (l:List (List Value)) (ops:List Oper) (i:Nat) (t:List Oper) (Post:SY→Prop) (ys:List (List Value)) (b:Bool):Option St→Prop
 | some σ'=>c.opsY adr ln l ops (i+1) t Post ⟨σ',ys,b⟩
 | none=>False
def Cx.opsYY (c:Cx) (adr:Adr) (ln:Nat) (l:List (List Value)) (ops:List Oper) (i:Nat) (o:Oper) (t:List Oper) (Post:SY→Prop) (s:SY):Option (List X)→Prop
 | some xs=>c.opsYV adr ln l ops i o.dst t Post s (QoW xs)
 | none=>c.opsYS adr ln l ops i t Post s.ys s.stop (c.stepE ops i o s.σ)
def Cx.opsYW (c:Cx) (adr:Adr) (ln:Nat) (l:List (List Value)) (ops:List Oper) (i:Nat) (o:Oper) (t:List Oper) (Post:SY→Prop) (s:SY):Option Bool→Prop
 | some true=>c.opsYY adr ln l ops i o t Post s (QeN ln s.σ o)
 | _=>c.opsYS adr ln l ops i t Post s.ys s.stop (c.stepE ops i o s.σ)
def Cx.condY (c:Cx) (adr:Adr) (ln:Nat) (l:List (List Value)) (a b:Code) (Post:AEx→SY→Prop) (s:SY):X→Prop
 | .d (.v (.bool true))=>c.codeY adr ln l a Post s
 | .d (.v (.bool false))=>c.codeY adr ln l b Post s
 | _=>False
def QPl (Post:AEx→SY→Prop) (ys:List (List Value)) (b:Bool):Option St→Prop
 | some σ'=>Post .normal ⟨σ',ys,b⟩
 | none=>False
section
variable (c:Cx) (adr:Adr) (ln:Nat) (l:List (List Value)) (Post:AEx→SY→Prop) (s:SY)
theorem Quu:c.codeY adr ln l .skip Post s=Post .normal s:=rfl
theorem QqG (x:Nat):c.codeY adr ln l (.label x) Post s=Post .normal s:=rfl
theorem Quy (x:Nat):c.codeY adr ln l (.exit x) Post s=Post (.exit x) s:=rfl
theorem Qw5:c.codeY adr ln l .ret Post s=Post .ret s:=rfl
theorem Qrb (a:Code):c.codeY adr ln l (.scope a) Post s=c.codeY adr ln l a Post s:=rfl
theorem QxJ (a b:Code):c.codeY adr ln l (.seq a b) Post s=c.codeY adr ln l a (c.thenY adr ln l b Post) s:=by
 simp only[Cx.codeY];congr 1;funext e s';cases e<;>rfl
theorem QEa (b:Code):c.thenY adr ln l b Post .normal s=c.codeY adr ln l b Post s:=rfl
theorem QEx (b:Code) (j:Nat):c.thenY adr ln l b Post (.exit j) s=Post (.exit j) s:=rfl
theorem QGe (b:Code):c.thenY adr ln l b Post .ret s=Post .ret s:=rfl
theorem Qry (id:Nat) (a:Code):c.codeY adr ln l (.block id a) Post s=c.codeY adr ln l a (QNw id Post) s:=by
 simp only[Cx.codeY];congr 1;funext e s';cases e<;>rfl
theorem QKI (id:Nat):QNw id Post .normal s=Post .normal s:=rfl
theorem QLz (id:Nat):QNw id Post .ret s=Post .ret s:=rfl
theorem QMp (id j:Nat):QNw id Post (.exit j) s=if j=id then Post .normal s else Post (.exit j) s:=rfl
theorem Que (x:Operand) (a b:Code):c.codeY adr ln l (.cond x a b) Post s=c.condY adr ln l a b Post s (s.σ.ev x):=by
 simp only[Cx.codeY];generalize s.σ.ev x=y;unfold Cx.condY;cases y with
 | d z=>
  cases z with
  | v u=>
   cases u with
   | bool t=>cases t<;>rfl
   | _=>rfl
  | _=>rfl
 | _=>rfl
theorem QFL (a b:Code):c.condY adr ln l a b Post s (.d (.v (.bool true)))=c.codeY adr ln l a Post s:=rfl
theorem QGl (a b:Code):c.condY adr ln l a b Post s (.d (.v (.bool false)))=c.codeY adr ln l b Post s:=rfl
theorem QuE (id:Nat) (ops:Array Oper):c.codeY adr ln l (.region id ops true) Post s=QPl Post s.ys s.stop (c.regionM id ops.toList s.σ (c.md id)):=by
 have e:c.regionD id ops.toList s.σ=c.regionM id ops.toList s.σ (c.md id):=by
  unfold Cx.regionD;generalize c.md id=k
  match k with
  | 0=>rfl
  | 1=>rfl
  | 2=>rfl
  | m+3=>rfl
 simp only[Cx.codeY,QPl,e]
theorem Qud (id:Nat) (ops:Array Oper):c.codeY adr ln l (.region id ops false) Post s=if Qav (QR ops.toList) s.σ then c.opsY adr ln l ops.toList 0 ops.toList (c.endY id Post) s else False:=rfl
theorem Qy7 (ys:List (List Value)) (b:Bool) (σ:St):QPl Post ys b (some σ)=Post .normal ⟨σ,ys,b⟩:=rfl
theorem QGC (id:Nat):c.endY id Post s=Post .normal ⟨c.close id s.σ,s.ys,s.stop⟩:=rfl
theorem Qty (a:Code):c.codeY adr ln l (.loop a) Post s=c.loopY adr ln l a Post s:=rfl
theorem QsT {a:Code} {Post:AEx→SY→Prop} {s:SY} (I:Nat→SY→Prop) (n:Nat) (h0:I n s) (h:∀n s',I n s'→c.codeY adr ln l a (QoM I n Post) s'):c.loopY adr ln l a Post s:=by
 refine⟨I,⟨n,h0⟩,fun n s' hs=>?_⟩;have:=h n s' hs;have e:QoM I n Post=(fun e s''=>match e with | .normal=>∃m,m < n∧I m s'' | e=>Post e s''):=by
  funext e s''; cases e<;>rfl
 rw[e]at this; exact this
theorem QAC (I:Nat→SY→Prop) (n:Nat):QoM I n Post .normal s=∃m,m < n∧I m s:=rfl
theorem QCa (I:Nat→SY→Prop) (n j:Nat):QoM I n Post (.exit j) s=Post (.exit j) s:=rfl
theorem QAG (I:Nat→SY→Prop) (n:Nat):QoM I n Post .ret s=Post .ret s:=rfl
end
section
variable (c:Cx) (adr:Adr) (ln:Nat) (l:List (List Value)) (ops:List Oper) (i:Nat) (Post:SY→Prop) (s:SY)
theorem Qz6:c.opsY adr ln l ops i [] Post s=Post s:=rfl
theorem QzD (o:Oper) (t:List Oper):c.opsY adr ln l ops i (o::t) Post s=c.opsYW adr ln l ops i o t Post s (Qa5 ops s.σ o):=by
 simp only[Cx.opsY];unfold Cx.opsYW;rcases Qa5 ops s.σ o with _ | b
 ·simp only[Cx.opsYS]
 ·cases b with
  | false=>simp only[Cx.opsYS]
  | true=>
   simp only[Cx.opsYY];cases QeN ln s.σ o with
   | none=>simp only[Cx.opsYS]
   | some xs=>simp only[Cx.opsYV]
theorem QFa (o:Oper) (t:List Oper):c.opsYW adr ln l ops i o t Post s (some true)=c.opsYY adr ln l ops i o t Post s (QeN ln s.σ o):=rfl
theorem QE4 (o:Oper) (t:List Oper):c.opsYW adr ln l ops i o t Post s (some false)=c.opsYS adr ln l ops i t Post s.ys s.stop (c.stepE ops i o s.σ):=rfl
theorem QEI (o:Oper) (t:List Oper):c.opsYY adr ln l ops i o t Post s none=c.opsYS adr ln l ops i t Post s.ys s.stop (c.stepE ops i o s.σ):=rfl
theorem QDV (o:Oper) (t:List Oper) (xs:List X):c.opsYY adr ln l ops i o t Post s (some xs)=c.opsYV adr ln l ops i o.dst t Post s (QoW xs):=rfl
theorem QH0 (t:List Oper) (ys:List (List Value)) (b:Bool) (σ':St):c.opsYS adr ln l ops i t Post ys b (some σ')=c.opsY adr ln l ops (i+1) t Post ⟨σ',ys,b⟩:=rfl
theorem QGu (d:Option Nat) (t:List Oper) (vs:List Value):c.opsYV adr ln l ops i d t Post s (some vs)=(s.stop=false∧(s.ys++[vs]) <+:l∧Qh0 c.N d=true∧Qpu adr s.σ.tmps∧c.opsY adr ln l ops (i+1) t Post ⟨Qor s.σ d true,s.ys++[vs],false⟩∧c.opsY adr ln l ops (i+1) t Post ⟨Qor s.σ d false,s.ys++[vs],true⟩):=rfl
theorem QAH (o:Oper) (σ:St):c.stepE ops i o σ=c.stepEK ops i o σ (c.step ops i o σ):=by
 unfold Cx.stepE;cases c.step ops i o σ with
 | some σ'=>rfl
 | none=>
  simp only[QjA];cases Qa5 ops σ o with
  | none=>rfl
  | some b=>cases b<;>rfl
end
theorem QfA {c:Cx} {a b:Code} {ps al:List Nat} {t0:List (Nat×X)} {l:List (List Value)} {σ:St} {r:Option (AEx×St)} (hL:c.rounds a b ps al t0 l σ=r) (S:Nat→St) (h0:σ=S 0) (hs:∀j x,l[j]?=some x→QjD (c.code a) (c.code b) ps al t0 x (S j)=some (.normal,S (j+1))):r=some (.normal,S l.length):=by
 subst h0;rw[←hL];have:=QlT (fa:=c.code a) (fb:=c.code b) (ps:=ps) (al:=al) (t0:=t0) l S 0 (fun j x h=>by rw[Nat.zero_add]; exact hs j x h)
 rw[Nat.zero_add]at this;exact this
end Go.Proofs.YticoemblgkemiaaGreatDoor
namespace Go.Proofs.YticoemblgkemiaaGreatDoor
open Go.RowKit
section
variable {P:Program} {c:Cx} {m0:Nat→Nat→Prop} {w0:Base} {g:Gh} {σ σ':St} {a:Act} {w:World} {e:AEx}
theorem Inv.forget (I:Inv c.N m0 w0 g σ a w) (ha:a.defers=w0.df) (al:List Nat) (hal:∀d∈al,w0.out d=none):Inv c.N m0 w0 (Q5 al g) (QcH al (Qds al σ.tmps) σ) a w∧∀d∈al,(Q5 al g).box d=none:=by
 have t0no:∀t x,Qt (Qds al σ.tmps) t=some x→x.noTok:=by
  intro t x hx;obtain⟨y,_,rfl⟩:=QhS hx;exact QjS (Qkz y)
 have t0rel:∀t x,Qt (Qds al σ.tmps) t=some x→RelX (Q5 al g) w 0 [] x (a.tmps.getD t undef):=by
  intro t x hx;have hno:=t0no t x hx;obtain⟨y,hy,rfl⟩:=QhS hx;exact(Qjx (Qhb (nw:=σ.toks) rfl rfl (I.tmps t y hy))).toks hno
 refine⟨I.rest (a':=a) hal t0rel (fun t x hx toks hr=>hr.toks (t0no t x hx)) I.size ha,fun d hd=>?_⟩;simp only[Q5];rw[if_pos (by simpa using hd)]
def Qzh (m:Nat→Nat→Prop):Gh:= { imm:=m,box:=fun _=>none,tok:=fun _=>none,used:=fun _=>False}
end
end Go.Proofs.YticoemblgkemiaaGreatDoor
namespace Go.Proofs.YticoemblgkemiaaGreatDoor
open Go.RowKit
def Qed (w:World) (l:List Deferred):Base:=⟨w,fun _=>none,fun _=>none,[],False,l⟩
theorem QeT (w:World) (l:List Deferred) (b:Nat):¬(Qed w l).writ b:=by
 rintro(⟨i,hi⟩ | ⟨t,ht⟩)
 ·cases hi
 ·cases ht
theorem Qs0 {P:Program} {N:Nat} {m:Nat→Nat→Prop} {w:World} {vs:List Value} {ds:List D} {fn:Func} (hN:fn.ntmps=N) (hl:ds.length≤N) (hm:∀b o,m b o→b < w.heap.size) (hG:GlobIn m w) (hr:RelL m w ds vs):
  Inv N m (Qed w []) (Qzh m) ⟨Qqm 0 ds,[],[],[]⟩ { tmps:=vs.toArray++Array.replicate (fn.ntmps - vs.toArray.size) undef,defers:=[]} w:=by
 have hvl:=hr.length;refine⟨KeepsW.refl _ _,by simp; omega,⟨[],rfl,List.nodup_nil,fun D h=>by cases h⟩,hm,fun _ _ h=>h,fun _ _ h=> .inl h,fun t x hx=>?_,fun i b h=>(by cases h),fun i j b h=>(by cases h),fun t b h=>(by cases h),fun s t b h=>(by cases h),fun b cs h=>(by cases h),fun i b h=>(by cases h),fun p hp=>(by cases hp),fun i mc h=>(by cases h),fun _ _ _=>rfl,hG⟩
 obtain⟨d',v',rfl,_,h5,h6⟩:=Qjb ds vs 0 hr t x hx;simp only[Nat.sub_zero]at h5;have hlt:t < vs.length:=(List.getElem?_eq_some_iff.1 h5).1;have:(vs.toArray++Array.replicate (fn.ntmps - vs.toArray.size) undef).getD t undef=v':=by
  rw[Array.getD_eq_getD_getElem?,Array.getElem?_append,if_pos (by simpa using hlt)]
  simp[h5]
 show RelX _ _ _ _ (.d d') _;rw[this]; exact h6
def RetR (m:Nat→Nat→Prop) (w:World) (d:D) (e:Ending) (w':World):Prop:=
 ∃(v:Value) (m':Nat→Nat→Prop),e= .returned v∧Below w.heap.size w w'∧(∀b o,m' b o→w.heap.size≤b∧b < w'.heap.size)∧Rel (fun b o=>m b o∨m' b o) w' d v
section
variable {P:Program} {c:Cx} {m0:Nat→Nat→Prop} {w0:Base} {g:Gh} {σ σ':St} {a:Act} {w:World} {e:AEx}
theorem Inv.noMark (I:Inv c.N m0 w0 g σ a w) (h:¬w0.dOk):a.defers=w0.df:=by
 obtain⟨Ds,h1,_,h3⟩:=I.defers;cases Ds with
 | nil=>exact h1
 | cons D t=>exact(h (h3 D (by simp)).1.2).elim
theorem Inv.deferred {N:Nat} {W:World} {l:List Deferred} (I:Inv N m0 (Qed W l) g σ a w):a.defers=l:=by
 obtain⟨Ds,h1,_,h3⟩:=I.defers;cases Ds with
 | nil=>exact h1
 | cons D t=>exact((h3 D (by simp)).1.2).elim
theorem Inv.push {w:World} {W:World} {l:List Deferred} (I:Inv c.N m0 (Qed W l) g σ a w) (d:Deferred) (tm:Array Value) (ht:tm=a.tmps):Inv c.N m0 (Qed W (d::l)) g σ { tmps:=tm,defers:=d::a.defers} w:=by
 have hd:=I.noMark (fun h=>h);subst ht;exact⟨I.below,I.size,⟨[],by rw[hd]; rfl,List.nodup_nil,fun D h=>by cases h⟩,I.lt,I.old,I.new,I.tmps,I.boxb,I.boxi,I.tokb,I.toki,I.boxes,I.out,I.fz,I.maps,I.cells⟩
def QnT (w:World) (o:Nat→Option Nat) (l:List Deferred):Base:=⟨w,o,fun _=>none,[],False,l⟩
theorem Inv.pushO {N:Nat} {W:World} (I:Inv N m0 (Qed W []) g σ a w) (o:Nat→Option Nat) (ho:∀i b,o i=some b→g.box i=some b) (l:List Deferred) (a':Act) (ht:a'.tmps=a.tmps) (hl:a'.defers=l):Inv N m0 (QnT W o l) g σ a' w:=by
 have hno:=QeT W [];refine⟨⟨I.below.os,I.below.tape,I.below.output,I.below.size,fun k hk hn=>I.below.block k hk (hno k)⟩,by rw[ht]; exact I.size,⟨[],by rw[hl]; rfl,List.nodup_nil,fun D h=>by cases h⟩,I.lt,I.old,fun b o h=>?_,by rw[ht]; exact I.tmps,fun i b h=>⟨.inl ((I.boxb i b h).1.resolve_right (hno b)),(I.boxb i b h).2⟩,I.boxi,fun t b h=>⟨(I.tokb t b h).1,.inl ((I.tokb t b h).2.1.resolve_right (hno b)),(I.tokb t b h).2.2⟩,I.toki,I.boxes,ho,I.fz,I.maps,I.cells⟩
 rcases I.new b o h with h | h | h
 ·exact .inl h
 ·exact .inr (.inl h)
 ·exact absurd h (hno b)
theorem Inv.reframe {N N2:Nat} {W:World} {o:Nat→Option Nat} {l l2:List Deferred} (I:Inv N m0 (QnT W o l) g σ a w) {a2:Act} {T:List (Nat×X)} (hs:a2.tmps.size=N2) (hd:a2.defers=l2) (ht:∀t x,Qt T t=some x→RelX g w W.heap.size σ.toks x (a2.tmps.getD t undef)):Inv N2 m0 (QnT W o l2) g { σ with tmps:=T} a2 w:=
 ⟨⟨I.below.os,I.below.tape,I.below.output,I.below.size,fun k hk hn=>I.below.block k hk hn⟩,hs,⟨[],by rw[hd]; rfl,List.nodup_nil,fun D h=>by cases h⟩,I.lt,I.old,I.new,ht,I.boxb,I.boxi,I.tokb,I.toki,I.boxes,I.out,I.fz,I.maps,I.cells⟩
theorem Qr5 {α β:Type} {f:Nat×α→β} :∀{l:List (Nat×α)} {i:Nat} {y:β},Qt (l.map fun p=>(p.1,f p)) i=some y→∃p∈l,p.1=i∧y=f p
 | [],i,y,h=>by cases h
 | p::t,i,y,h=>by
  simp only[List.map_cons,Qt]at h;split at h
  ·rename_i e;simp only[Option.some.injEq]at h;exact⟨p,by simp,e.symm,h.symm⟩
  ·obtain⟨q,h1,h2⟩:=Qr5 h;exact⟨q,by simp[h1],h2⟩
theorem Inv.bare {N:Nat} (I:Inv N m0 w0 g σ a w) (bs:List (Nat×Nat)) (h:∀p∈bs,∃cs,Qt σ.boxes p.1=some cs∧cs.length=p.2):Inv N m0 w0 g ⟨[],bs.map fun p=>(p.1,List.replicate p.2 (X.d .top)),[],[]⟩ a w:=by
 refine⟨I.below,I.size,I.defers,I.lt,I.old,I.new,fun t x h=>(by cases h),I.boxb,I.boxi,I.tokb,I.toki,fun b cs hb blk hblk=>?_,I.out,I.fz,fun i mc h=>(by cases h),I.cells⟩
 obtain⟨p,hp,rfl,rfl⟩:=Qr5 hb;obtain⟨cs,h1,h2⟩:=h p hp;obtain⟨vs,ty,k1,k2,k3⟩:=I.boxes _ _ h1 blk hblk;refine⟨vs,ty,k1,by rw[List.length_replicate,←h2]; exact k2,fun j x v q1 q2=>?_⟩
 have hj:j < cs.length:=by
  have:=(List.getElem?_eq_some_iff.1 q1).1;simpa[h2]using this
 refine⟨(k3 j cs[j] v (List.getElem?_eq_getElem hj) q2).1,?_⟩;rw[List.getElem?_replicate]at q1;split at q1
 ·simp only[Option.some.injEq]at q1; subst q1;simp only[RelX,Rel]
 ·cases q1
theorem Inv.dropO {N:Nat} {W:World} {o:Nat→Option Nat} {l:List Deferred} (I:Inv N m0 (QnT W o l) g σ a w) (ho:∀i b,o i=some b→W.heap.size≤b):Inv N m0 (Qed W l) g σ a w:=by
 have hw:∀b,(QnT W o l).writ b→W.heap.size≤b:=by
  rintro b (⟨i,hi⟩ | ⟨t,ht⟩)
  ·exact ho i b hi
  ·cases ht
 have hdef:a.defers=l:=by
  obtain⟨Ds,h1,_,h3⟩:=I.defers;cases Ds with
  | nil=>exact h1
  | cons D t=>exact((h3 D (by simp)).1.2).elim
 refine⟨⟨I.below.os,I.below.tape,I.below.output,I.below.size,fun k hk hn=>I.below.block k hk fun h=>absurd hk (Nat.not_lt.2 (hw k h))⟩,I.size,⟨[],by rw[hdef]; rfl,List.nodup_nil,fun D h=>by cases h⟩,I.lt,I.old,fun b o h=>?_,I.tmps,fun i b h=>⟨.inl ((I.boxb i b h).1.elim id (hw b)),(I.boxb i b h).2⟩,I.boxi,fun t b h=>⟨(I.tokb t b h).1,.inl ((I.tokb t b h).2.1.elim id (hw b)),(I.tokb t b h).2.2⟩,I.toki,I.boxes,fun i b h=>(by cases h),I.fz,I.maps,I.cells⟩
 rcases I.new b o h with h | h | h
 ·exact .inl h
 ·exact .inr (.inl h)
 ·exact .inr (.inl (hw b h))
theorem Qw4 (hc:CxOk P c) {W:World} {l:List Deferred} (I:Inv c.N m0 (Qed W l) g σ a w) {fn:Func} {r:List D} (hres:Qgs c.Γ σ fn.results.toList=some r):∃v,(results fn a.tmps).run P w= .ok v w∧RetR m0 W (Qfd r) (.returned v) w:=by
 obtain⟨us,h1,h2⟩:=QhZ hc I fn.results.toList r hres;have hno:=QeT W l;have hx:ExtM (Qlf g) w (fun b o=>m0 b o∨(Qlf g b o∧W.heap.size≤b)) w:=⟨fun b o h=>by
  rcases h with(h | ⟨i,h⟩) | ⟨s,h⟩
  ·exact(I.new b o h).imp id fun h2=>⟨.inl (.inl h),h2.resolve_right (hno b)⟩
  ·exact .inr ⟨.inl (.inr ⟨i,h⟩),(I.boxb i b h).1.resolve_right (hno b)⟩
  ·exact .inr ⟨.inr ⟨s,h⟩,(I.tokb s b h).2.1.resolve_right (hno b)⟩,fun _ _ _=>rfl⟩
 obtain⟨v,h3,h4⟩:=QkQ h1 (RelL.ext hx _ _ h2);exact⟨v,h3,v,(fun b o=>Qlf g b o∧W.heap.size≤b),rfl,I.below.below (fun k hk=>hno k hk),fun b o h=>⟨h.2,by
  rcases h.1 with(h | ⟨i,h⟩) | ⟨s,h⟩
  ·exact I.lt b o h
  ·exact(I.boxb i b h).2.1
  ·exact(I.tokb s b h).1⟩,h4⟩
theorem Qdq (hc:CxOk P c) {W:World} (I:Inv c.N m0 (Qed W []) g σ a w) {fn:Func} {r:List D} {d:D} (hres:Qgs c.Γ σ fn.results.toList=some r) (hd:Qfd r=d):bodyPostD P fn (RetR m0 W d) .ret a w:=by
 subst hd;show Leaves P fn a.tmps (RetR m0 W (Qfd r)) a.defers .returning w;rw[I.noMark (fun h=>h)];exact Qw4 hc I hres
theorem RetR.imp {m:Nat→Nat→Prop} {W:World} {d d':D} {e:Ending} {w:World} (h:DImp d d') (hr:RetR m W d e w):RetR m W d' e w:=by
 obtain⟨v,m',h1,h2,h3,h4⟩:=hr;exact⟨v,m',h1,h2,h3,h _ _ _ h4⟩
theorem QgM {α:Type} (R:Cod α) (r:α) (hc:CxOk P c) {W:World} {l:List Deferred} (I:Inv c.N m0 (Qed W l) g σ a w) {fn:Func} {rs:List D} (hres:Qgs c.Γ σ fn.results.toList=some rs) (hd:R.dec (Qfd rs)=some r):∃v,(results fn a.tmps).run P w= .ok v w∧RetR m0 W (R.enc r) (.returned v) w:=by
 obtain⟨v,h1,h2⟩:=Qw4 hc I hres;exact⟨v,h1,h2.imp (R.ed _ _ hd)⟩
theorem Qo8 {α:Type} (R:Cod α) (r:α) (hc:CxOk P c) {W:World} (I:Inv c.N m0 (Qed W []) g σ a w) {fn:Func} {rs:List D} (hres:Qgs c.Γ σ fn.results.toList=some rs) (hd:R.dec (Qfd rs)=some r):bodyPostD P fn (RetR m0 W (R.enc r)) .ret a w:=by
 show Leaves P fn a.tmps (RetR m0 W (R.enc r)) a.defers .returning w;rw[I.noMark (fun h=>h)];exact QgM R r hc I hres hd
theorem QcR {f:Nat} {fn:Func} {cd:Code} (hf:P.funcs[f]?=some fn) (hb:fn.body=some cd) {N:Nat} (hN:fn.ntmps=N) {ds:List D} {d:D} (hl:ds.length≤N)
  (h:∀(m:Nat→Nat→Prop) (w:World) (a:Act),Inv N m (Qed w []) (Qzh m) ⟨Qqm 0 ds,[],[],[]⟩ a w→a.defers=[]→cd.wpIn Fence.wide 0 P (bodyPostD P fn (RetR m w d)) a w):PureC P f ds d:=by
 intro m w vs hm hG hr;exact calls_of_wp_defers hf hb (wpIn_wide.1 (h m w _ (Qs0 (P:=P) hN hl hm hG hr) rfl))
def QHy (c:Cx) (m0:Nat→Nat→Prop) (w0:Base) (Q:Exit→Act→World→Prop):Option (AEx×St)→Prop
 | some (e,σ')=>∀g' a' w',Inv c.N m0 w0 g' σ' a' w'→Q e.out a' w'
 | none=>False
theorem QG (Q:Exit→Act→World→Prop):QHy c m0 w0 Q (some (e,σ'))=∀g' a' w',Inv c.N m0 w0 g' σ' a' w'→Q e.out a' w':=rfl
theorem QcQ {b:Code} {σ0:St} {R:Option (AEx×St)} (hL:c.loop b σ0=R) (S:Nat→St) (n:Nat) (h0:σ0=S 0) (K:Option (AEx×St)→Prop) (hs:∀j,j < n→c.code b (S j)=some (.normal,S (j+1))) (hF:n < c.F) (hK:K none→False) (h:K (QuZ (c.code b (S n)))):K R:=by
 subst h0;cases hc:c.code b (S n)with
 | none=>rw[hc]at h; exact(hK h).elim
 | some p=>
  obtain⟨e,σ'⟩:=p;rw[hc]at h;cases e with
  | normal=>exact(hK h).elim
  | _=>rw[←hL,Qec S _ σ' n (by simp) hs hc hF]; exact h
theorem QIS {cd:Code} {o:Nat→Option Nat} (h:(QF cd).all (fun d=>(o d).isNone)=true):∀d∈QF cd,o d=none:=fun d hd=>by
 have:=List.all_eq_true.1 h d hd;simpa using this
theorem Qdk (hc:CxOk P c) {cd:Code} (hd:QaO c.diff c.md c.pq cd=true) (hno:QkX cd=true) (I:Inv c.N m0 w0 g σ a w) (hal:∀d∈QF cd,w0.out d=none) {Q:Exit→Act→World→Prop} (hQ:QHy c m0 w0 Q (c.code cd σ)):cd.wpIn Fence.wide 0 P Q a w:=by
 cases h:c.code cd σ with
 | none=>rw[h]at hQ; exact hQ.elim
 | some r=>
  obtain⟨e,σ'⟩:=r;rw[h]at hQ;exact QiD hc cd hd Fence.wide 0 (.inl rfl) m0 w0 (.inl hno) σ e σ' h hal g a w I Q hQ
def Qeh:Nat→Code→Code
 | 0,.seq a _=>a
 | k+1,.seq a b=> .seq a (Qeh k b)
 | _,c=>c
def QiP:Nat→Code→Code
 | 0,.seq _ b=>b
 | k+1,.seq _ b=>QiP k b
 | _,_=> .skip
def Qs1:Nat→Code→Bool
 | 0,.seq _ _=>true
 | k+1,.seq _ b=>Qs1 k b
 | _,_=>false
theorem Qdm (hc:CxOk P c) {Q:Exit→Act→World→Prop} :∀(k:Nat) (cd:Code),Qs1 k cd=true→QaO c.diff c.md c.pq (Qeh k cd)=true→QkX (Qeh k cd)=true→(∀d∈QF (Qeh k cd),w0.out d=none)→∀(σ:St) (g:Gh) (a:Act) (w:World),Inv c.N m0 w0 g σ a w→
  QHy c m0 w0 (fun e a' w'=>match e with | .normal=>(QiP k cd).wpIn Fence.wide 0 P Q a' w' | e=>Q e a' w') (c.code (Qeh k cd) σ)→cd.wpIn Fence.wide 0 P Q a w
 | 0,.seq x y,_,hd,hno,hal,σ,g,a,w,I,hQ=>by
  refine wpIn_seq (Qdk (cd:=x) hc hd hno I hal ?_);simp only[Qeh]at hQ;cases h:c.code x σ with
  | none=>rw[h]at hQ; exact hQ.elim
  | some r=>
   obtain⟨e,σ'⟩:=r;rw[h,QG]at hQ;rw[QG];intro g' a' w' I';have:=hQ g' a' w' I';cases e<;>exact this
 | k+1,.seq x y,hcc,hd,hno,hal,σ,g,a,w,I,hQ=>by
  simp only[Qeh,QaO,QkX,QF,Qs1,Bool.and_eq_true,List.mem_append]at hcc hd hno hal hQ;refine wpIn_seq (Qdk (cd:=x) hc hd.1 hno.1 I (fun d h=>hal d (.inl h)) ?_);simp only[Cx.code]at hQ;cases h:c.code x σ with
  | none=>rw[h]at hQ; exact hQ.elim
  | some r=>
   obtain⟨e,σ'⟩:=r;rw[h]at hQ;rw[QG];intro g' a' w' I';cases e with
   | normal=>exact Qdm hc k y hcc hd.2 hno.2 (fun d h=>hal d (.inr h)) σ' g' a' w' I' hQ
   | exit i=>exact hQ g' a' w' I'
   | ret=>exact hQ g' a' w' I'
   | pan v=>exact hQ g' a' w' I'
 | 0,.skip,h,_,_,_,_,_,_,_,_,_=>by cases h
 | 0,.label _,h,_,_,_,_,_,_,_,_,_=>by cases h
 | 0,.region _ _ _,h,_,_,_,_,_,_,_,_,_=>by cases h
 | 0,.cond _ _ _,h,_,_,_,_,_,_,_,_,_=>by cases h
 | 0,.block _ _,h,_,_,_,_,_,_,_,_,_=>by cases h
 | 0,.loop _,h,_,_,_,_,_,_,_,_,_=>by cases h
 | 0,.rangeFunc _ _ _ _,h,_,_,_,_,_,_,_,_,_=>by cases h
 | 0,.exit _,h,_,_,_,_,_,_,_,_,_=>by cases h
 | 0,.scope _,h,_,_,_,_,_,_,_,_,_=>by cases h
 | 0,.goto _,h,_,_,_,_,_,_,_,_,_=>by cases h
 | 0,.ret,h,_,_,_,_,_,_,_,_,_=>by cases h
 | 0,.refuse _,h,_,_,_,_,_,_,_,_,_=>by cases h
 | _+1,.skip,h,_,_,_,_,_,_,_,_,_=>by cases h
 | _+1,.label _,h,_,_,_,_,_,_,_,_,_=>by cases h
 | _+1,.region _ _ _,h,_,_,_,_,_,_,_,_,_=>by cases h
 | _+1,.cond _ _ _,h,_,_,_,_,_,_,_,_,_=>by cases h
 | _+1,.block _ _,h,_,_,_,_,_,_,_,_,_=>by cases h
 | _+1,.loop _,h,_,_,_,_,_,_,_,_,_=>by cases h
 | _+1,.rangeFunc _ _ _ _,h,_,_,_,_,_,_,_,_,_=>by cases h
 | _+1,.exit _,h,_,_,_,_,_,_,_,_,_=>by cases h
 | _+1,.scope _,h,_,_,_,_,_,_,_,_,_=>by cases h
 | _+1,.goto _,h,_,_,_,_,_,_,_,_,_=>by cases h
 | _+1,.ret,h,_,_,_,_,_,_,_,_,_=>by cases h
 | _+1,.refuse _,h,_,_,_,_,_,_,_,_,_=>by cases h
theorem QA3 {o:Oper} {next:Act→World→Prop} {Q:Exit→Act→World→Prop} {d:Deferred} (hr:(execOp a.eval o).run P w= .ok (.defer d) w) (hn:next ({ a with defers:=d::a.defers}.put o.dst undef) w):o.wpIn Fence.wide 0 P a w next Q:=by
 refine⟨fun f _=>trivial,?_⟩;show o.uponIn Fence.wide 0 P a next Q ((Oper.semAt none a.eval o).run P w)
 rw[Oper.semAt_none,hr];exact hn
theorem Qqj {fn:Func} {tm:Array Value} {R:Ending→World→Prop} {d:Deferred} {G:Nat} {caps:Array Value} (hd:d= { target:= .fn (.func G) caps,args:= #[]}) (hen:∀xs w,(callFunc G xs).run P w= .ok (.enter G xs) w)
  (h:CallsD P G caps .returning w fun e u w''=>e= .returned (.tuple #[])∧u= .returning∧w''=w) (hr:∃v,(results fn tm).run P w= .ok v w∧R (.returned v) w):Leaves P fn tm R [d] .returning w:=by
 subst hd;refine⟨by simp,.func G,caps,G,caps,rfl,by simp[invoke,hen],?_⟩
 intro cf cs hcf;obtain⟨e,u',w',fr,⟨rfl,rfl,rfl⟩,hs⟩:=h cf cs hcf;exact⟨_,_,_,fr,hr,hs⟩
theorem Qpw {fn:Func} {tm:Array Value} {R:Ending→World→Prop} {d:Deferred} {G:Nat} {caps:Array Value} {v:Value} {K:World→Prop} (hd:d= { target:= .fn (.func G) caps,args:= #[]}) (hen:∀xs w,(callFunc G xs).run P w= .ok (.enter G xs) w)
  (h:CallsD P G caps (.panicking [{ v,recovered:=false}]) w fun e u w''=>e= .returned (.tuple #[])∧u= .panicking [{ v,recovered:=true}]∧K w'') (hr:∀w'',K w''→∃v,(results fn tm).run P w''= .ok v w''∧R (.returned v) w''):Leaves P fn tm R [d] (.panicking [{ v,recovered:=false}]) w:=by
 subst hd;refine⟨by simp,.func G,caps,G,caps,rfl,by simp[invoke,hen],?_⟩
 intro cf cs hcf;obtain⟨e,u',w',fr,⟨rfl,rfl,hk⟩,hs⟩:=h cf cs hcf;exact⟨_,_,_,fr,hr w' hk,hs⟩
end
end Go.Proofs.YticoemblgkemiaaGreatDoor
namespace Go.Proofs.YticoemblgkemiaaGreatDoor
open Go.RowKit
section
variable {P:Program} {c:Cx} {N:Nat} {m0:Nat→Nat→Prop} {w0:Base} {g:Gh} {σ σ':St} {a:Act} {w w':World} {e:AEx}
theorem Inv.awayNew (I:Inv N m0 w0 g σ a w) {b:Nat} (h:w.heap.size≤b):Away g b:=
 ⟨fun o ho=>by have:=I.lt b o ho; omega,fun i hi=>by have:=(I.boxb i b hi).2.1; omega,fun t ht=>by have:=(I.tokb t b ht).1; omega⟩
def QPb (F:Fence) (n:Nat) (P:Program) (ops:Array Oper) (post:List Oper) (Q:Exit→Act→World→Prop):Exit→Act→World→Prop
 | .normal,a,w=>wpListIn F n P ops Q post a w
 | e,a,w=>Q e a w
theorem Qdz {F:Fence} {n:Nat} {ops:Array Oper} {Q:Exit→Act→World→Prop} {post:List Oper} :∀(pre:List Oper) (a:Act) (w:World),wpListIn F n P ops (QPb F n P ops post Q) pre a w→wpListIn F n P ops Q (pre++post) a w
 | [],a,w,h=>h
 | o::t,a,w,h=>by
  simp only[List.cons_append];unfold wpListIn at h⊢;split at h
  ·rename_i hw;rw[if_pos hw];exact Oper.wpIn_mono2 (fun a w h=>Qdz t a w h) (fun _ _ _ h=>h) (fun h=>h) h
  ·rename_i hw;rw[if_neg hw];exact⟨h.1,Qdz t _ _ h.2⟩
def lastK (c:Cx) (m0:Nat→Nat→Prop) (w0:Base) (g:Gh) (w:World) (R:Act→World→Prop):Option St→Prop
 | some σ'=>∀g' a' w',Inv c.N m0 w0 g' σ' a' w'→a'.defers=[]→w.heap.size≤w'.heap.size→(∀b,b < w.heap.size→Away g b→Away g' b∧w'.heap[b]?=w.heap[b]?)→R a' w'
 | none=>False
theorem Qpd {b:Code} {Q:Exit→Act→World→Prop} (J:Nat→Act→World→Prop) (N:Nat) (hs:∀k,k < N→∀a w,J k a w→b.wpIn Fence.wide 0 P (Exit.then (J (k+1)) Q) a w) (he:∀a w,J N a w→b.wpIn Fence.wide 0 P (Exit.then (fun _ _=>False) Q) a w) (h:J 0 a w):(Code.loop b).wpIn Fence.wide 0 P Q a w:=by
 refine wpIn_loop_rounds (N+1) ?_;have key:∀(j k:Nat),k+j=N→∀a w,J k a w→Code.roundsIn Fence.wide 0 P b Q (j+1) a w:=by
  intro j
  induction j with
  | zero=>
   intro k hk a w hJ;rw[roundsIn_succ];have hkN:k=N:=by omega
   subst hkN;refine wpIn_mono (he a w hJ) fun e a w h=>?_;cases e<;>first | exact h | exact h.elim
  | succ j ih=>
   intro k hk a w hJ;rw[roundsIn_succ];refine wpIn_mono (hs k (by omega) a w hJ) fun e a w h=>?_
   cases e<;>first | exact h | exact ih (k+1) (by omega) a w h
 exact key N 0 (by omega) a w h
end
end Go.Proofs.YticoemblgkemiaaGreatDoor
namespace Go.Proofs.YticoemblgkemiaaGreatDoor
open Go.RowKit
section
variable {P:Program} {c:Cx} {m0:Nat→Nat→Prop} {w0:Base} {g:Gh} {σ:St} {a:Act} {w:World}
theorem Inv.freeze (I:Inv c.N m0 w0 g σ a w) (ha:a.defers=w0.df) {b t:Nat} {cs:List X} {ds:List D} (hb:Qt σ.boxes b=some cs) (hd:Qbp cs=some ds) (ht:Qt σ.tmps t=some (.loc b 0)) (hal:w0.out b=none):
  ∃g',Inv c.N m0 w0 g' (QcH [b] ((t,.d (.dat ds.length [ds] 0 0))::Qds [b] σ.tmps) σ) a w:=by
 obtain⟨blk,hblk,hv⟩:=I.tmps t _ ht;obtain⟨I1,hnone⟩:=I.forget ha [b] (fun d hd=>by rw[List.mem_singleton.1 hd]; exact hal)
 obtain⟨cv,ty,hh,hs,hc⟩:=I.boxes b cs hb blk hblk;have hl:=Qc3 hd;have hs2:cs.length≤cv.size:=hs;have hrel:RelL g.imm w ds (cv.toList.take cs.length):=Qc4 (base:=w0.heap.size) (toks:=σ.toks) hd (by rw[List.length_take,Array.length_toList]; exact Nat.min_eq_left hs2) fun j x v k1 k2=>by
  rw[List.getElem?_take]at k2;split at k2
  ·exact(hc j x v k1 (by simpa using k2)).2
  ·cases k2
 have hbb:=I.boxb b blk hblk;have hbox:∀i b',(Q5 [b] g).box i=some b'→i≠b∧g.box i=some b':=fun i b' h=>by
  simp only[Q5]at h;split at h
  ·cases h
  ·rename_i hn;exact⟨fun e=>hn (by subst e; simp),h⟩
 have e:Tr (Q5 [b] g) w σ.toks { Q5 [b] g with imm:=fun k o=>g.imm k o∨k=blk} w σ.toks:=
  ⟨⟨fun _ _ h=> .inl h,fun _ _ _=>rfl⟩,fun _ _ h=>h,fun _ h=>h,fun t _ h=>⟨h,fun b' hb'=>⟨hb',fun x hx=>hx.resolve_right fun e=>(I.tokb t b' hb').2.2 b (by rw[hblk,e]),rfl⟩⟩⟩
 refine⟨{ Q5 [b] g with imm:=fun k o=>g.imm k o∨k=blk},?_⟩
 refine⟨I1.below,I1.size,I1.defers,fun k o h=>h.elim (I1.lt k o) (fun e=>by subst e; exact hbb.2.1),fun k o h=> .inl (I1.old k o h),fun k o h=>h.elim (I1.new k o) (fun e=>by subst e; exact .inr hbb.1),fun t' x hx=>?_,fun i b' h=>?_,I1.boxi,I1.tokb,I1.toki,fun b' cs' h blk' hblk'=>BoxAt.tr e (I1.boxes b' cs' h blk' hblk') rfl,I1.out,I1.fz,I1.maps,I1.cells⟩
 ·simp only[QcH,Qt]at hx;split at hx
  ·rename_i ht';subst ht';simp only[Option.some.injEq]at hx;subst hx;rw[hv];simp only[RelX,Rel];refine⟨by simp,blk,0,by simp,RelRows.of fun i r hr=>?_⟩
   cases i with
   | succ i=>simp at hr
   | zero=>
    simp only[List.getElem?_cons_zero,Option.some.injEq]at hr;subst hr;refine⟨rfl,RelCells.of fun j d hj=>?_⟩;obtain⟨v,hv',hr⟩:=hrel.get _ _ hj;have hjl:j < cs.length:=by rw[←hl]; exact(List.getElem?_eq_some_iff.1 hj).1
    rw[List.getElem?_take,if_pos hjl]at hv';have hv2:cv[j]?=some v:=by simpa using hv'
    refine⟨v,.inr rfl,?_,(hc j cs[j] v (List.getElem?_eq_getElem hjl) hv2).1,QcD (fun _ _ h=> .inl h) hr⟩;have:=QdN blk (0+0*ds.length+j) 0 cv ty hh;simpa[hv2]using this
  ·exact RelX.tr e (I1.tmps t' x hx)
 ·obtain⟨h1,h2⟩:=hbox i b' h;have:=I.boxb i b' h2;exact⟨this.1,this.2.1,fun o ho=>ho.elim (this.2.2 o) fun e=>h1 (I.boxi i b b' h2 (by rw[hblk,e]))⟩
end
end Go.Proofs.YticoemblgkemiaaGreatDoor
namespace Go.Proofs.YticoemblgkemiaaGreatDoor
open Go.RowKit
section
variable {P:Program} {c:Cx} {m0:Nat→Nat→Prop} {w0:Base} {g:Gh} {σ σ':St} {a:Act} {w:World}
def regQ (c:Cx) (m0:Nat→Nat→Prop) (w0:Base) (R:Act→World→Prop):Option St→Prop
 | some σ'=>∀g' a' w',Inv c.N m0 w0 g' σ' a' w'→R a' w'
 | none=>False
theorem Qxl (hc:CxOk P c) {b t:Nat} {cs:List X} {ds:List D} (hb:Qt σ.boxes b=some cs) (hd:Qbp cs=some ds) (ht:Qt σ.tmps t=some (.loc b 0)) (hal:w0.out b=none) (I:Inv c.N m0 w0 g σ a w) (ha:a.defers=w0.df):
  ∃g',Inv c.N m0 w0 g' (QcH [b] ((t,.d (.dat ds.length [ds] 0 0))::Qds [b] σ.tmps) σ) a w:=I.freeze ha hb hd ht hal
end
end Go.Proofs.YticoemblgkemiaaGreatDoor
namespace Go.Proofs.YticoemblgkemiaaGreatDoor
open Go.RowKit
section
variable {P:Program} {c:Cx} {m0:Nat→Nat→Prop} {w0:Base} {g:Gh} {σ σ':St} {a:Act} {w:World}
end
end Go.Proofs.YticoemblgkemiaaGreatDoor
namespace Go.Proofs.YticoemblgkemiaaGreatDoor
open Go.RowKit
section
variable {P:Program} {c:Cx} {m0:Nat→Nat→Prop} {w0:Base} {g:Gh} {σ σ':St} {a:Act} {w:World}
end
end Go.Proofs.YticoemblgkemiaaGreatDoor
namespace Go.Proofs.YticoemblgkemiaaGreatDoor
open Go.RowKit
def frG (m:Nat→Nat→Prop) (bx:Nat→Option Nat):Gh:=⟨m,bx,fun _=>none,fun _=>False⟩
def QDM (m:Nat→Nat→Prop) (W:World) (rx:X) (bl:List (Nat×List D)) (v:Value) (w':World):Prop:=
 ∃(m':Nat→Nat→Prop) (bx:Nat→Option Nat),Below W.heap.size W w'∧(∀b o,m' b o→W.heap.size≤b∧b < w'.heap.size)∧
  (∀i b,bx i=some b→(W.heap.size≤b∧b < w'.heap.size∧∀o,¬m' b o)∧Qt bl i≠none)∧(∀i j b,bx i=some b→bx j=some b→i=j)∧
  (∀i ds,Qt bl i=some ds→∀b,bx i=some b→BoxAt (frG (fun b o=>m b o∨m' b o) bx) w' 0 [] b (ds.map X.d))∧RelX (frG (fun b o=>m b o∨m' b o) bx) w' 0 [] rx v
def Qta (m:Nat→Nat→Prop) (W:World) (rx:X) (bl:List (Nat×List D)):Ending→World→Prop:=fun e w'=>∃v,e= .returned v∧QDM m W rx bl v w'
def QlR (P:Program) (f:Nat) (ds:List D) (rx:X) (bl:List (Nat×List D)):Prop:=
 ∀(m:Nat→Nat→Prop) (w:World) (vs:List Value),(∀b o,m b o→b < w.heap.size)→GlobIn m w→RelL m w ds vs→Calls P f vs.toArray w (Qta m w rx bl)
def Qs8:X→Bool
 | .bs _ _ _ _=>true
 | .agb _=>true
 | .d _=>true
 | _=>false
theorem QrH {g g':Gh} {w:World} {base base':Nat} {toks toks':List Nat} (hi:∀b o,g.imm b o→g'.imm b o) {x:X} {v:Value} (hb:∀i∈x.locs,∀b,g.box i=some b→g'.box i=some b) (hx:Qs8 x=true) (h:RelX g w base toks x v):RelX g' w base' toks' x v:=by
 cases x with
 | d y=>exact Rel.ext ⟨hi,fun _ _ _=>rfl⟩ _ _ h
 | bs b off n k=>
  obtain⟨blk,c,h1,h2,h3⟩:=h;exact⟨blk,c,hb b (by simp[X.locs]) blk h1,h2,h3⟩
 | agb cs=>
  obtain⟨vs,h1,h2⟩:=h;exact⟨vs,h1,RelB.map (fun x v h=>Rel.ext ⟨hi,fun _ _ _=>rfl⟩ x v h) (fun i hi b h=>hb i hi b h) h2⟩
 | _=>cases hx
theorem Qqd {g g':Gh} {w:World} {base base':Nat} {toks toks':List Nat} (hi:∀b o,g.imm b o→g'.imm b o) {b:Nat} {ds:List D} (h:BoxAt g w base toks b (ds.map X.d)):BoxAt g' w base' toks' b (ds.map X.d):=by
 obtain⟨vs,ty,h1,h2,h3⟩:=h;refine⟨vs,ty,h1,h2,fun j x v k1 k2=>?_⟩;obtain⟨k3,k4⟩:=h3 j x v k1 k2;rw[List.getElem?_map]at k1;obtain⟨y,_,rfl⟩:=Option.map_eq_some_iff.1 k1;exact⟨k3,Rel.ext (m:=g.imm) (m':=g'.imm) (w:=w) (w':=w) ⟨hi,fun _ _ _=>rfl⟩ _ _ k4⟩
theorem QEv {α:Type} {l r:List (Nat×α)} {i:Nat} {x:α} (h:Qt (l++r) i=some x):Qt l i=some x∨(Qt l i=none∧Qt r i=some x):=by
 rw[Qhg]at h;cases hA:Qt l i with
 | none=>rw[hA]at h; exact .inr ⟨rfl,h⟩
 | some y=>rw[hA]at h; exact .inl h
theorem QhC {α β:Type} {f:α→β} :∀{l:List (Nat×α)} {i:Nat},Qt (l.map fun p=>(p.1,f p.2)) i=(Qt l i).map f
 | [],i=>rfl
 | (j,y)::t,i=>by
  simp only[List.map_cons,Qt];split
  ·rfl
  ·exact QhC
def Qoz (bl:List (Nat×List D)) (boxes:List (Nat×List X)):List (Nat×List X):=bl.map (fun p=>(p.1,p.2.map X.d))++boxes
section
variable {P:Program} {c:Cx} {m0:Nat→Nat→Prop} {w0:Base} {g:Gh} {σ σ':St} {a:Act} {w w':World}
theorem Inv.adopt {N:Nat} (I:Inv N m0 w0 g σ a w) (bx:Nat→Option Nat) (bl:List (Nat×List D)) (hdom:∀i b,bx i=some b→Qt bl i≠none) (hfree:∀i,Qt bl i≠none→g.box i=none∧Qt σ.maps i=none)
  (hb:∀i b,bx i=some b→w0.heap.size≤b∧b < w.heap.size∧Away g b) (hinj:∀i j b,bx i=some b→bx j=some b→i=j) (hat:∀i ds,Qt bl i=some ds→∀b,bx i=some b→BoxAt g w w0.heap.size σ.toks b (ds.map X.d)):
  Inv N m0 w0 { g with box:=fun i=>if(Qt bl i).isSome then bx i else g.box i} { σ with boxes:=Qoz bl σ.boxes} a w:=by
 obtain⟨g',hg⟩:∃g':Gh,g'= { g with box:=fun i=>if(Qt bl i).isSome then bx i else g.box i} :=⟨_,rfl⟩
 rw[←hg];have himm:g'.imm=g.imm:=by rw[hg]
 have htok:g'.tok=g.tok:=by rw[hg]
 have hold:∀i b,g.box i=some b→g'.box i=some b:=fun i b h=>by
  rw[hg];simp only;rw[if_neg (fun hs=>by
   have hn:Qt bl i≠none:=fun h0=>by rw[h0]at hs; cases hs
   rw[(hfree i hn).1]at h; cases h)]
  exact h
 have hbox:∀i b,g'.box i=some b→(Qt bl i≠none∧bx i=some b)∨(Qt bl i=none∧g.box i=some b):=fun i b h=>by
  rw[hg]at h;simp only at h;cases hA:Qt bl i with
  | none=>rw[hA]at h; exact .inr ⟨rfl,by simpa using h⟩
  | some x=>rw[hA]at h; exact .inl ⟨by simp,by simpa using h⟩
 have e:Tr g w σ.toks g' w σ.toks:=⟨⟨fun _ _ h=>by rw[himm]; exact h,fun _ _ _=>rfl⟩,hold,fun _ h=>by rw[hg]; exact h,fun t _ h=>⟨h,fun b hb=>⟨by rw[htok]; exact hb,fun _ hx=>by rw[himm]at hx; exact hx,rfl⟩⟩⟩
 refine⟨I.below,I.size,I.defers,fun b o h=>I.lt b o (by rw[himm]at h; exact h),fun b o h=>by rw[himm]; exact I.old b o h,fun b o h=>I.new b o (by rw[himm]at h; exact h),fun t x hx=>RelX.tr e (I.tmps t x hx),fun i b h=>?_,fun i j b h1 h2=>?_,fun t b h=>?_,fun s t b h1 h2=>I.toki s t b (by rw[htok]at h1; exact h1) (by rw[htok]at h2; exact h2),fun i cs hi blk hblk=>?_,fun i b h=>hold i b (I.out i b h),I.fz,fun i mc hi blk hblk=>?_,I.cells⟩
 ·rcases hbox i b h with⟨_,h'⟩ | ⟨_,h'⟩
  ·obtain⟨h1,h2,h3⟩:=hb i b h';exact⟨.inl h1,h2,fun o ho=>h3.imm o (by rw[himm]at ho; exact ho)⟩
  ·have:=I.boxb i b h';exact⟨this.1,this.2.1,fun o ho=>this.2.2 o (by rw[himm]at ho; exact ho)⟩
 ·rcases hbox i b h1 with⟨_,h1'⟩ | ⟨_,h1'⟩
  ·rcases hbox j b h2 with⟨_,h2'⟩ | ⟨_,h2'⟩
   ·exact hinj i j b h1' h2'
   ·exact absurd h2' ((hb i b h1').2.2.box j)
  ·rcases hbox j b h2 with⟨_,h2'⟩ | ⟨_,h2'⟩
   ·exact absurd h1' ((hb j b h2').2.2.box i)
   ·exact I.boxi i j b h1' h2'
 ·rw[htok]at h;obtain⟨q1,q2,q3⟩:=I.tokb t b h;refine⟨q1,q2,fun i hi=>?_⟩;rcases hbox i b hi with⟨_,h'⟩ | ⟨_,h'⟩
  ·exact(hb i b h').2.2.tok t h
  ·exact q3 i h'
 ·have hi':Qt (bl.map (fun p=>(p.1,p.2.map X.d))++σ.boxes) i=some cs:=hi;rcases QEv hi' with h1 | ⟨h0,h1⟩
  ·rw[QhC]at h1;obtain⟨ds,hds,rfl⟩:=Option.map_eq_some_iff.1 h1;rcases hbox i blk hblk with⟨_,h'⟩ | ⟨hn,_⟩
   ·exact Qqd (fun _ _ h=>by rw[himm]; exact h) (hat i ds hds blk h')
   ·rw[hn]at hds; cases hds
  ·rw[QhC]at h0;have hn:Qt bl i=none:=by
    cases hA:Qt bl i with
    | none=>rfl
    | some x=>rw[hA]at h0; cases h0
   rcases hbox i blk hblk with⟨hs,_⟩ | ⟨_,h'⟩
   ·exact absurd hn hs
   ·exact BoxAt.tr e (I.boxes i cs h1 blk h') rfl
 ·rcases hbox i blk hblk with⟨hs,_⟩ | ⟨_,h'⟩
  ·have h0:Qt σ.maps i=some mc:=hi;rw[(hfree i hs).2]at h0; cases h0
  ·exact I.maps i mc hi blk h'
theorem Inv.fresh {N:Nat} (I:Inv N m0 w0 g σ a w) {rx:X} {bl:List (Nat×List D)} {v:Value} (h:QDM g.imm w rx bl v w') (hx:Qs8 rx=true) (hfree:∀i,Qt bl i≠none→g.box i=none∧Qt σ.maps i=none):
  ∃g',Inv N m0 w0 g' { σ with boxes:=Qoz bl σ.boxes} a w'∧RelX g' w' w0.heap.size σ.toks rx v∧(∀t,g'.used t→g.used t)∧∀i,Qt bl i=none→g'.box i=g.box i:=by
 obtain⟨m',bx,h1,h2,h3,h4,h5,h6⟩:=h;obtain⟨I',_⟩:=I.grow h1 m' h2;have hle:=I.below.size;have haw:∀i b,bx i=some b→Away { g with imm:=fun b o=>g.imm b o∨m' b o} b:=fun i b hb=>by
  have q:=(h3 i b hb).1;have qa:=I.awayNew q.1;exact⟨fun o ho=>ho.elim (qa.imm o) (q.2.2 o),qa.box,qa.tok⟩
 have I2:=I'.adopt bx bl (fun i b hb=>(h3 i b hb).2) hfree (fun i b hb=>⟨Nat.le_trans hle (h3 i b hb).1.1,(h3 i b hb).1.2.1,haw i b hb⟩) h4 (fun i ds hi b hb=>Qqd (g:=frG (fun b o=>g.imm b o∨m' b o) bx) (g':= { g with imm:=fun b o=>g.imm b o∨m' b o}) (fun _ _ h=>h) (h5 i ds hi b hb))
 refine⟨_,I2,QrH (g:=frG (fun b o=>g.imm b o∨m' b o) bx) (g':= { g with imm:=fun b o=>g.imm b o∨m' b o,box:=fun i=>if(Qt bl i).isSome then bx i else g.box i}) (fun _ _ h=>h) (fun i hi b hb=>?_) hx h6,fun _ h=>h,fun i hi=>by simp only[hi]; rfl⟩
 show(if(Qt bl i).isSome then bx i else g.box i)=some b;have hn:=(h3 i b hb).2;cases hA:Qt bl i with
 | none=>exact absurd hA hn
 | some x=>exact hb
theorem QlZ {f:Nat} {fn:Func} {cd:Code} (hf:P.funcs[f]?=some fn) (hb:fn.body=some cd) {N:Nat} (hN:fn.ntmps=N) {ds:List D} {rx:X} {bl:List (Nat×List D)} (hl:ds.length≤N)
  (h:∀(m:Nat→Nat→Prop) (w:World) (a:Act),Inv N m (Qed w []) (Qzh m) ⟨Qqm 0 ds,[],[],[]⟩ a w→a.defers=[]→cd.wpIn Fence.wide 0 P (bodyPostD P fn (Qta m w rx bl)) a w):QlR P f ds rx bl:=by
 intro m w vs hm hG hr;exact calls_of_wp_defers hf hb (wpIn_wide.1 (h m w _ (Qs0 (P:=P) hN hl hm hG hr) rfl))
def QMX (Γ:Tys) (σ:St):ResultVar→Option X
 | .tmp t=>some (σ.ev (.tmp t))
 | .cell x T=>Qm8 Γ T (σ.ev (.tmp x)) σ.boxes
theorem QAq (hc:CxOk P c) (I:Inv c.N m0 w0 g σ a w) {r:ResultVar} {x:X} (h:QMX c.Γ σ r=some x):∃v,(Qc6 a.tmps r).run P w= .ok v w∧RelX g w w0.heap.size σ.toks x v:=by
 cases r with
 | tmp t=>
  simp only[QMX,Option.some.injEq]at h;subst h;exact⟨_,rfl,QbD I (.tmp t)⟩
 | cell x T=>
  obtain⟨v,h3,h4⟩:=Qjr hc.ty h (QbD I (.tmp x)) I.boxes;refine⟨v,?_,h4⟩;unfold Instr.loadAt at h3;rw[Sem.run_bind]at h3;show(asAddr (a.tmps.getD x undef) >>=loadVar T).run P w=_;rw[Sem.run_bind];have h7:a.eval (.tmp x)=a.tmps.getD x undef:=rfl;rw[h7]at h3;generalize a.tmps.getD x undef=vx at*;cases vx with
  | pointer p=>
   cases p with
   | none=>simp[Instr.sureAddr,stuck]at h3
   | some ad=>simpa[Instr.sureAddr,asAddr]using h3
  | _=>simp[Instr.sureAddr,stuck]at h3
theorem Qoh (hc:CxOk P c) {W:World} (I:Inv c.N m0 (Qed W []) g σ a w) {fn:Func} {r:ResultVar} (hfn:fn.results.toList=[r]) {rx:X} {bl:List (Nat×List D)} (hres:QMX c.Γ σ r=some rx) (hx:Qs8 rx=true) (hbl:∀i ds,Qt bl i=some ds→Qt σ.boxes i=some (ds.map X.d)) (hloc:∀i∈rx.locs,Qt bl i≠none):bodyPostD P fn (Qta m0 W rx bl) .ret a w:=by
 show Leaves P fn a.tmps (Qta m0 W rx bl) a.defers .returning w;rw[I.noMark (fun h=>h)];have hno:=QeT W [];obtain⟨v,h1,h2⟩:=QAq hc I hres;have hrun:(results fn a.tmps).run P w= .ok v w:=by
  have hR:results fn a.tmps=(fn.results.mapM (Qc6 a.tmps) >>=fun vs=>pure (if h:vs.size=1 then vs[0]else .tuple vs)):=rfl;have hmap:(fn.results.mapM (Qc6 a.tmps)).run P w= .ok [v].toArray w:=by
   rw[Array.mapM_eq_mapM_toList,Sem.run_map,hfn];simp only[List.mapM_cons,List.mapM_nil,Sem.run_bind,Sem.run_pure,Result.andThen_ok,h1]
  rw[hR,Sem.run_bind,hmap]; rfl
 have himm:∀b o,g.imm b o→m0 b o∨(g.imm b o∧W.heap.size≤b):=fun b o h=>(I.new b o h).imp id fun h2=>⟨h,h2.resolve_right (hno b)⟩;refine⟨v,hrun,v,rfl,fun b o=>g.imm b o∧W.heap.size≤b,fun i=>if(Qt bl i).isSome then g.box i else none,I.below.below (fun k hk=>hno k hk),fun b o h=>⟨h.2,I.lt b o h.1⟩,fun i b h=>?_,fun i j b h1 h2=>?_,fun i ds hi b hb=>?_,?_⟩
 ·cases hA:Qt bl i with
  | none=>simp only[hA]at h; cases h
  | some x=>
   simp only[hA,Option.isSome_some,if_true]at h;have q:=I.boxb i b h;exact⟨⟨q.1.resolve_right (hno b),q.2.1,fun o ho=>q.2.2 o ho.1⟩,by simp⟩
 ·cases hA:Qt bl i with
  | none=>simp only[hA]at h1; cases h1
  | some x=>
   cases hB:Qt bl j with
   | none=>simp only[hB]at h2; cases h2
   | some y=>
    simp only[hA,Option.isSome_some,if_true]at h1;simp only[hB,Option.isSome_some,if_true]at h2;exact I.boxi i j b h1 h2
 ·simp only[hi,Option.isSome_some,if_true]at hb;exact Qqd himm (I.boxes i _ (hbl i ds hi) b hb)
 ·refine QrH (g:=g) himm (fun i hi b hb=>?_) hx h2;show(if(Qt bl i).isSome then g.box i else none)=some b;have:=hloc i hi;cases hA:Qt bl i with
  | none=>exact absurd hA this
  | some x=>exact hb
def QvY (c:Cx) (ops:List Oper) (k:Nat) (args:List Operand) (σ:St):Option (St×List D):=
 match c.opsE ops 0 (ops.take k) σ with
 | some σ1=>(match Qbp (args.map σ1.ev)with | some ds=>some (σ1,ds) | none=>none)
 | none=>none
def QMA (σ1:St) (d:Nat) (rx:X) (bl:List (Nat×List D)):St:= { σ1 with tmps:=(d,rx)::σ1.tmps,boxes:=Qoz bl σ1.boxes}
theorem Qm0 {α:Type} :∀{l:List (Nat×α)} {i:Nat},Qt l i≠none→i∈l.map (·.1)
 | [],i,h=>absurd rfl h
 | (j,x)::t,i,h=>by
  simp only[Qt]at h;split at h
  ·rename_i e; simp[e]
  ·have:=Qm0 h;simp only[List.map_cons,List.mem_cons];exact .inr this
end
end Go.Proofs.YticoemblgkemiaaGreatDoor
namespace Go.Proofs.YticoemblgkemiaaGreatDoor
open Go.RowKit
section
variable {P:Program} {c:Cx} {m0:Nat→Nat→Prop} {w0:Base} {g:Gh} {σ σ':St} {a:Act} {w:World}
end
end Go.Proofs.YticoemblgkemiaaGreatDoor
namespace Go.Proofs.YticoemblgkemiaaGreatDoor
open Go.RowKit
section
variable {P:Program} {N k:Nat} {F:Fence} {m0:Nat→Nat→Prop} {w0:Base} {g:Gh} {σ:St} {a:Act} {w:World}
end
end Go.Proofs.YticoemblgkemiaaGreatDoor
namespace Go.Proofs.YticoemblgkemiaaGreatDoor
open Go.RowKit
section
variable {P:Program} {c:Cx} {m0:Nat→Nat→Prop} {w0:Base} {g:Gh} {σ σ':St} {a:Act} {w:World}
end
end Go.Proofs.YticoemblgkemiaaGreatDoor
namespace Go.Proofs.YticoemblgkemiaaGreatDoor
open Go.RowKit
def SeqD (P:Program) (gf:Nat) (caps:List D) (l:List (List D)):Prop:=
 ∀(n:Nat) (m:Nat→Nat→Prop) (w:World) (lb:List Value),(∀b o,m b o→b < w.heap.size)→GlobIn m w→RelL m w caps lb→∀(ln:Nat) (J:List (List D)→(Nat→Prop)→World→Prop),
  (∀pre B B' W W',J pre B W→KeepsW W B W'→(∀b,B' b→B b∨(W.heap.size≤b∧b < W'.heap.size))→J pre B' W')→
  (∀pre x B W xs (mb:Nat→Nat→Prop),J pre B W→(pre++[x]) <+:l→(∀b o,mb b o→B b)→RelL (fun b o=>m b o∨mb b o) W x xs→YieldAt Fence.wide (n - 1) P ln xs.toArray W fun e W'=>e= .returned (.bool true)∧J (pre++[x]) B W'∧W.heap.size≤W'.heap.size∧(∀b o,m b o→W'.cell? ⟨b,o,none⟩=W.cell? ⟨b,o,none⟩)∧∀b,B b→W'.heap[b]?=W.heap[b]?)→
  J [] (fun _=>False) w→CallsIn Fence.wide n P gf (#[.func (.yield ln) #[] #[]]++lb.toArray) w fun e W'=>(∃v,e= .returned v)∧∃B,J l B W'
def X.keepD (al:List Nat):X→X
 | .d (.v u)=> .d (.v u)
 | .bs b off n k=>if al.contains b then .d .top else .bs b off n k
 | _=> .d .top
def keepD (al:List Nat):List (Nat×List X)→List (Nat×List X)
 | []=>[]
 | (b,cs)::t=>if al.contains b then keepD al t else(b,cs.map (X.keepD al))::keepD al t
def restD (al:List Nat) (t0:List (Nat×X)) (σ:St):St:= { tmps:=t0,boxes:=keepD al σ.boxes,toks:=[],maps:=[]}
def Q3q:List Nat→List D→List (Nat×X)
 | p::t,d::u=>(p,.d d)::Q3q t u
 | _,_=>[]
theorem Q3k {al:List Nat} :∀{l:List (Nat×List X)} {b:Nat} {cs:List X},Qt (keepD al l) b=some cs→al.contains b=false∧∃cs0,Qt l b=some cs0∧cs=cs0.map (X.keepD al)
 | [],b,cs,h=>by cases h
 | (i,x)::t,b,cs,h=>by
  simp only[keepD]at h;split at h
  ·rename_i hc;obtain⟨h1,cs0,h2,h3⟩:=Q3k h;refine⟨h1,cs0,?_,h3⟩;simp only[Qt]; rw[if_neg (fun e=>by rw[e,hc]at h1; cases h1)]; exact h2
  ·rename_i hc;simp only[Qt]at h⊢;split at h
   ·rename_i e; subst e;simp only[Option.some.injEq]at h;exact⟨by simpa using hc,x,by rw[if_pos rfl],h.symm⟩
   ·rename_i e;obtain⟨h1,cs0,h2,h3⟩:=Q3k h;exact⟨h1,cs0,by rw[if_neg e]; exact h2,h3⟩
theorem Q4o:∀{ps:List Nat} {xs:List D} {t0:List (Nat×X)} {t:Nat} {x:X},Qt (Q3q ps xs++t0) t=some x→(∃(j:Nat) (d:D),ps[j]?=some t∧xs[j]?=some d∧x= .d d∧∀i < j,ps[i]?≠some t)∨((∀(j:Nat) (d:D),ps[j]?=some t→xs[j]?≠some d)∧Qt t0 t=some x)
 | [],xs,t0,t,x,h=> .inr ⟨fun j v h=>by simp at h,by simpa[Q3q]using h⟩
 | p::ps,[],t0,t,x,h=> .inr ⟨fun j v _ h=>by simp at h,by simpa[Q3q]using h⟩
 | p::ps,v::xs,t0,t,x,h=>by
  simp only[Q3q,List.cons_append,Qt]at h;split at h
  ·rename_i e;simp only[Option.some.injEq]at h;exact .inl ⟨0,v,by simp[e],rfl,h.symm,fun i hi=>by omega⟩
  ·rename_i e;rcases Q4o h with⟨j,u,h1,h2,h3,h4⟩ | ⟨h1,h2⟩
   ·refine .inl ⟨j+1,u,by simpa using h1,by simpa using h2,h3,fun i hi=>?_⟩
    cases i with
    | zero=>simp; exact fun e'=>e e'.symm
    | succ i=>simpa using h4 i (by omega)
   ·refine .inr ⟨fun j u hj hu=>?_,h2⟩;cases j with
    | zero=>simp at hj; exact e hj.symm
    | succ j=>exact h1 j u (by simpa using hj) (by simpa using hu)
theorem Q3A {g:Gh} {w:World} {toks:List Nat} {ps:Array Tmp} {ds:List D} {xs:List Value} {tm:Array Value} {t0:List (Nat×X)} (hr:RelL g.imm w ds xs) (hnd:ps.toList.Nodup) (hps:∀p∈ps.toList,p < tm.size) (hl:xs.length=ps.toList.length)
  (ht:∀t x,Qt t0 t=some x→RelX g w 0 toks x (tm.getD t undef)):∀t x,Qt (Q3q ps.toList ds++t0) t=some x→RelX g w 0 toks x (((ps.zip xs.toArray).foldl (fun t (p:Tmp×Value)=>t.setIfInBounds p.1 p.2) tm).getD t undef):=by
 intro t x h;have hdl:=hr.length;have e:(ps.zip xs.toArray).foldl (fun t (p:Tmp×Value)=>t.setIfInBounds p.1 p.2) tm=(ps.toList.zip xs).foldl (fun t (p:Tmp×Value)=>t.setIfInBounds p.1 p.2) tm:=by
  rw[←Array.foldl_toList,Array.toList_zip]
 rw[e,Qpf ps.toList xs tm t hnd hl hps];rcases Q4o h with⟨j,d,h1,h2,rfl,h4⟩ | ⟨h1,h2⟩
 ·obtain⟨v,hv,hrel⟩:=hr.get j d h2;have hf:(ps.toList.zip xs).find? (fun p=>p.1==t)=some (t,v):=by
   have hj:(ps.toList.zip xs)[j]?=some (t,v):=by rw[List.getElem?_zip_eq_some]; exact⟨h1,hv⟩
   cases hff:(ps.toList.zip xs).find? (fun p=>p.1==t)with
   | none=>
    rw[List.find?_eq_none]at hff;exact absurd (hff _ (List.mem_of_getElem? hj)) (by simp)
   | some q=>
    have hq:=List.find?_some hff;simp only[beq_iff_eq]at hq;obtain⟨i,hi,hiq⟩:=List.getElem_of_mem (List.mem_of_find?_eq_some hff);have hi':(ps.toList.zip xs)[i]?=some q:=by rw[List.getElem?_eq_getElem hi,hiq]
    obtain⟨q1,q2⟩:=List.getElem?_zip_eq_some.1 hi';rw[hq]at q1;have hij:i=j:=by
     have hil:=(List.getElem?_eq_some_iff.1 q1).1;exact(List.getElem?_inj hil hnd).1 (q1.trans h1.symm)
    subst hij;rw[hv]at q2;simp only[Option.some.injEq]at q2;rw[←hq,q2]
  rw[hf];exact hrel
 ·have hf:(ps.toList.zip xs).find? (fun p=>p.1==t)=none:=by
   rw[List.find?_eq_none];intro q hq hqt;simp only[beq_iff_eq]at hqt;obtain⟨i,hi,hiq⟩:=List.getElem_of_mem hq;have hi':(ps.toList.zip xs)[i]?=some q:=by rw[List.getElem?_eq_getElem hi,hiq]
   obtain⟨q1,q2⟩:=List.getElem?_zip_eq_some.1 hi';have hi2:i < ds.length:=by rw[←hdl]; exact(List.getElem?_eq_some_iff.1 q2).1
   exact h1 i ds[i] (by rw[q1,hqt]) (List.getElem?_eq_getElem hi2)
  rw[hf];exact ht t x h2
def SndN (P:Program) (c:Cx) (fl:List Nat) (cd:Code) (σ σ':St):Prop:=∀(F:Fence) (n:Nat),FreeF F→∀(m0:Nat→Nat→Prop) (w0:Base),(∀d∈fl,w0.out d=none)→∀(g:Gh) (a:Act) (w:World),Inv c.N m0 w0 g σ a w→∀Q:Exit→Act→World→Prop,(∀g' a' w',Inv c.N m0 w0 g' σ' a' w'→Q .normal a' w')→cd.wpIn F n P Q a w
section
variable {P:Program} {c:Cx} {fl:List Nat} {σ σ1 σ':St}
theorem SndN.of (hc:CxOk P c) {cd:Code} (hd:QaO c.diff c.md c.pq cd=true) (hno:QkX cd=true) (hfl:(QF cd).all (fun d=>fl.contains d)=true) (h:c.code cd σ=some (.normal,σ')):SndN P c fl cd σ σ':=fun F n hF m0 w0 hout g a w I Q hQ=>
 QiD hc cd hd F n hF m0 w0 (.inl hno) σ .normal σ' h (fun d hdm=>hout d (by simpa using List.all_eq_true.1 hfl d hdm)) g a w I Q hQ
theorem SndN.seq {x y:Code} (h1:SndN P c fl x σ σ1) (h2:SndN P c fl y σ1 σ'):SndN P c fl (.seq x y) σ σ':=fun F n hF m0 w0 hout g a w I Q hQ=>
 wpIn_seq (h1 F n hF m0 w0 hout g a w I _ fun g' a' w' I'=>h2 F n hF m0 w0 hout g' a' w' I' Q hQ)
theorem SndN.block {id:Nat} {x:Code} (h:SndN P c fl x σ σ'):SndN P c fl (.block id x) σ σ':=fun F n hF m0 w0 hout g a w I Q hQ=>
 wpIn_block (h F n hF m0 w0 hout g a w I _ fun g' a' w' I'=>hQ g' a' w' I')
theorem SndN.condT {t:Operand} {x y:Code} (ht:σ.ev t= .d (.v (.bool true))) (h:SndN P c fl x σ σ'):SndN P c fl (.cond t x y) σ σ':=fun F n hF m0 w0 hout g a w I Q hQ=>by
 have hv:=QbD I t;rw[ht]at hv;simp only[RelX,Rel]at hv;exact wpIn_cond_true hv (h F n hF m0 w0 hout g a w I Q hQ)
def HandOp (P:Program) (c:Cx) (dl:List Nat) (o:Oper) (σ σ':St):Prop:=∀(F:Fence) (n:Nat),FreeF F→∀(m0:Nat→Nat→Prop) (w0:Base) (g:Gh) (a:Act) (w:World),Inv c.N m0 w0 g σ a w→(∀d∈dl,g.box d=none∧Qt σ.maps d=none)→∀(next:Act→World→Prop) (Q:Exit→Act→World→Prop),(∀g' a' w',Inv c.N m0 w0 g' σ' a' w'→next a' w')→o.wpIn F n P a w next Q
theorem SndN.op {σ0 σ2:St} (hc:CxOk P c) (k:Nat) {dl:List Nat} {id:Nat} {ops:Array Oper} {o:Oper} (hat:ops.toList[k]?=some o) (hg:o.guard=none) (hs0:Qav (QR (ops.toList.take k)) σ0=true) (hpre:c.opsE ops.toList 0 (ops.toList.take k) σ0=some σ1) (hs1:Qav dl σ1=true) (hop:HandOp P c dl o σ1 σ2)
  (hs2:Qav (QR (ops.toList.drop (k+1))) σ2=true) (hpost:(c.opsE ops.toList (k+1) (ops.toList.drop (k+1)) σ2).map (c.close id)=some σ') (hfl:(QR (ops.toList.take k)++dl++QR (ops.toList.drop (k+1))).all (fun d=>fl.contains d)=true):SndN P c fl (.region id ops false) σ0 σ':=by
 intro F n hFF m0 w0 hout g a w I Q hQ;have hal:∀i∈QR (ops.toList.take k)++dl++QR (ops.toList.drop (k+1)),w0.out i=none:=fun i hi=>hout i (by simpa using List.all_eq_true.1 hfl i hi)
 have hsplit:ops.toList=ops.toList.take k++(o::ops.toList.drop (k+1)):=by
  have hk:k < ops.toList.length:=(List.getElem?_eq_some_iff.1 hat).1;have he:ops.toList[k]=o:=(List.getElem?_eq_some_iff.1 hat).2;rw[←he,←List.drop_eq_getElem_cons hk,List.take_append_drop]
 refine wpIn_region_list ?_;generalize ops.toList.take k=pre at*;generalize ops.toList.drop (k+1)=post at*;rw[hsplit];obtain⟨hnd0,hpl⟩:=QaJ hs0;obtain⟨I1,hal1,hus⟩:=I.start (al:=QR pre) (fun x hx=>hal x (by simp[hx])) hs0 hpl
 refine Qdz pre a w (Qbt hFF hc ops pre 0 σ0 σ1 _ a w hpre I1 (QbX _ hnd0) (fun d hd=>hal1 d hd) (fun j _=>hus j) fun g' a' w' I'=>?_);show wpListIn F n P ops Q (o::post) a' w';obtain⟨hnd1,hpl1⟩:=QaJ hs1;obtain⟨I2,hal2,_⟩:=I'.start (al:=dl) (fun x hx=>hal x (by simp[hx])) hs1 hpl1
 unfold wpListIn;rw[if_pos (by simp[Region.wanted,hg])]
 refine hop F n hFF m0 w0 _ a' w' I2 (fun d hd=>hal2 d hd) _ _ fun g3 a3 w3 I3=>?_;obtain⟨hnd2,hpl2⟩:=QaJ hs2;obtain⟨I4,hal4,hus4⟩:=I3.start (al:=QR post) (fun x hx=>hal x (by simp[hx])) hs2 hpl2
 cases hpo:c.opsE ops.toList (k+1) post σ2 with
 | none=>rw[hpo]at hpost; cases hpost
 | some σ5=>
  rw[hpo]at hpost;simp only[Option.map_some,Option.some.injEq]at hpost;subst hpost;refine Qbt hFF hc ops post (k+1) σ2 σ5 _ _ w3 hpo I4 (QbX _ hnd2) (fun d hd=>hal4 d hd) (fun j _=>hus4 j) fun g5 a5 w5 I5=>?_;obtain⟨g6,I6⟩:=I5.close id;exact hQ g6 a5 w5 I6
theorem HandOp.nilVar (hc:CxOk P c) {d T:Nat} {i:TyI} {ty:TypeId} {pos:String} {af:Array Edge} (hT:c.Γ T=some i) (hz:i.zero= .slice none 0 0) (hd:d < c.N):HandOp P c [d] ⟨some d,.alloc T,ty,pos,af,none⟩ σ { σ with tmps:=(d,.loc d 0)::σ.tmps,boxes:=(d,[.d (.v (.slice none 0 0))])::σ.boxes} :=by
 intro F n hFF m0 w0 g a w I hfr next Q hQ
 have hok:=hc.ty T i hT;obtain⟨h1,h2⟩:=hfr d (by simp)
 have hcs:=I.alloc hd h1 h2 (.loc d 0) (.pointer (some ⟨w.heap.size,0,none⟩)) (fun g' w' tk hb=>⟨_,hb,rfl⟩) [.d (.v (.slice none 0 0))] [.slice none 0 0] T (by simp) (by simp; rfl) (fun j x v h1 h2=>by
  cases j with
  | zero=>simp at h1 h2; subst h1 h2; simp[RelX,Rel]
  | succ j=>simp at h1)
 refine Qck hFF (v:= .pointer (some ⟨w.heap.size,0,none⟩)) (w':=w.alloc (.cells i.zero.cells T)) ?_ (hQ _ _ _ (by rw[hz]; exact hcs))
 simp only[execOp,Instr.alloc,Sem.run_bind,Qjf hok,Result.andThen_ok,newVar,newRow]; rfl
def Q4I:X→Option Bool
 | .d (.v (.slice none 0 0))=>some true
 | .d (.sl _ (_::_))=>some false
 | .bs _ _ _ _=>some false
 | _=>none
theorem HandOp.eqNil {d t T:Nat} {ty:TypeId} {pos:String} {af:Array Edge} (he1:∀(ad:Addr) (n k:Nat) (w:World),(do eqGuard .eql T (.tmp t) (.const (.slice none 0 0)) (.slice (some ad) n k) (.slice none 0 0); binOp .eql T (.slice (some ad) n k) (.slice none 0 0)).run P w= .ok (.bool false) w) (he0:∀(n k:Nat) (w:World),(do eqGuard .eql T (.tmp t) (.const (.slice none 0 0)) (.slice none n k) (.slice none 0 0); binOp .eql T (.slice none n k) (.slice none 0 0)).run P w= .ok (.bool true) w) (hd:d < c.N) {b:Bool} (hx:Q4I (σ.ev (.tmp t))=some b):
  HandOp P c [] ⟨some d,.binOp .eql T (.tmp t) (.const (.slice none 0 0)) T,ty,pos,af,none⟩ σ { σ with tmps:=(d,.d (.v (.bool b)))::σ.tmps} :=by
 intro F n hFF m0 w0 g a w I hfr next Q hQ
 have hr:=QbD I (.tmp t);have hv:(do eqGuard .eql T (.tmp t) (.const (.slice none 0 0)) (a.eval (.tmp t)) (.slice none 0 0); binOp .eql T (a.eval (.tmp t)) (.slice none 0 0)).run P w= .ok (.bool b) w:=by
  unfold Q4I at hx;split at hx
  ·rename_i heq;rw[heq]at hr;simp only[RelX,Rel]at hr;cases hx;rw[hr]; exact he0 _ _ _
  ·rename_i heq;rw[heq]at hr;simp only[RelX,Rel]at hr;cases hx;obtain⟨_,ad,cp,h1,_,h2⟩:=hr;rcases h2 with h2 | ⟨b',o',h2,_⟩
   ·cases h2
   ·rw[h1,h2]; exact he1 _ _ _ _
  ·rename_i heq;rw[heq]at hr;obtain⟨blk,cp,_,h1,_⟩:=hr;cases hx;rw[h1]; exact he1 _ _ _ _
  ·cases hx
 refine Qck hFF (v:= .bool b) (w':=w) ?_ (hQ _ _ _ (I.put (d:=some d) (x:= .d (.v (.bool b))) (fun x h=>by cases h; exact hd) (by simp[RelX,Rel])))
 simp only[execOp,Sem.run_bind]at hv⊢;have hc:a.eval (.const (.slice none 0 0))= .slice none 0 0:=rfl;rw[hc,hv]; rfl
theorem SndN.condF {t:Operand} {x y:Code} (ht:σ.ev t= .d (.v (.bool false))) (h:SndN P c fl y σ σ'):SndN P c fl (.cond t x y) σ σ':=fun F n hF m0 w0 hout g a w I Q hQ=>by
 have hv:=QbD I t;rw[ht]at hv;simp only[RelX,Rel]at hv;exact wpIn_cond_false hv (h F n hF m0 w0 hout g a w I Q hQ)
theorem SndN.skip:SndN P c fl .skip σ σ:=fun F n hF m0 w0 hout g a w I Q hQ=>wpIn_skip (hQ g a w I)
theorem SndN.callF {σ0:St} (hc:CxOk P c) (k d f:Nat) (rx:X) (bl:List (Nat×List D)) {id:Nat} {ops:Array Oper} {o:Oper} {cc:Call} (hat:ops.toList[k]?=some o) (hop:o.op= .call cc) (hcal:cc.callee= .value (.func f)) (hdst:o.dst=some d) (hg:o.guard=none) (hdN:d < c.N)
  (hx:Qs8 rx=true) (hno:QR (ops.toList.take k)=[]) (hs0:Qav [] σ0=true) (hfl:(bl.map (·.1)++QR (ops.toList.drop (k+1))).all (fun d=>fl.contains d)=true) (hen:∀xs w,(callFunc f xs).run P w= .ok (.enter f xs) w) {ds:List D} (hpre:QvY c ops.toList k cc.args.toList σ0=some (σ1,ds)) (hF:QlR P f ds rx bl) (hs1:Qav (bl.map (·.1)++QR (ops.toList.drop (k+1))) σ1=true)
  (hpost:(c.opsE ops.toList (k+1) (ops.toList.drop (k+1)) (QMA σ1 d rx bl)).map (c.close id)=some σ'):SndN P c fl (.region id ops false) σ0 σ':=by
 intro F n hFF m0 w0 hout g a w I Q hQ;have hal:∀i∈bl.map (·.1)++QR (ops.toList.drop (k+1)),w0.out i=none:=fun i hi=>hout i (by simpa using List.all_eq_true.1 hfl i hi)
 have hsplit:ops.toList=ops.toList.take k++(o::ops.toList.drop (k+1)):=by
  have hk:k < ops.toList.length:=(List.getElem?_eq_some_iff.1 hat).1;have he:ops.toList[k]=o:=(List.getElem?_eq_some_iff.1 hat).2;rw[←he,←List.drop_eq_getElem_cons hk,List.take_append_drop]
 unfold QvY at hpre;split at hpre
 ·rename_i σ1' hpr;split at hpre
  ·rename_i ds' hds;simp only[Option.some.injEq,Prod.mk.injEq]at hpre;obtain⟨rfl,rfl⟩:=hpre;obtain⟨_,hpl⟩:=QaJ hs0;obtain⟨I1,_,hus⟩:=I.start (al:=[]) (fun x hx=>by cases hx) hs0 hpl
   refine wpIn_region_list ?_;generalize ops.toList.take k=pre at*;generalize ops.toList.drop (k+1)=post at*;rw[hsplit];refine Qdz pre a w (Qbt hFF hc ops pre 0 σ0 σ1' _ a w hpr I1 (by rw[hno]; exact List.nodup_nil) (by rw[hno]; intro d h; cases h) (fun j _=>hus j) fun g' a' w' I'=>?_)
   show wpListIn F n P ops Q (o::post) a' w';obtain⟨hnd1,hpl1⟩:=QaJ hs1;obtain⟨I2,hal2,hus2⟩:=I'.start (al:=bl.map (·.1)++QR post) hal hs1 hpl1;have hfree:∀i,Qt bl i≠none→(Q5 (bl.map (·.1)++QR post) g').box i=none∧Qt σ1'.maps i=none:=fun i hi=>hal2 i (List.mem_append.2 (.inl (Qm0 hi)));unfold wpListIn;rw[if_pos (by simp[Region.wanted,hg])]
   obtain⟨dst,op,ty,pos,after,guard⟩:=o;obtain⟨callee,args,argTypes⟩:=cc;simp only at hop hcal hdst hg hds;subst hop hcal hdst;have hargs:(args.map a'.eval)=(args.toList.map a'.eval).toArray:=by rw[←Array.toList_map,Array.toArray_toList]
   have hfr:a'.eval (.func f)= .func (.func f) #[] #[]:=rfl;have hrun:(execOp a'.eval ⟨some d,.call ⟨.value (.func f),args,argTypes⟩,ty,pos,after,guard⟩).run P w'= .ok (.enter f (args.map a'.eval)) w':=by
    simp[execOp,resolve,hfr,Deferred.ofValue,invoke,hen]
   rw[hargs]at hrun;refine Qhl hFF hrun (hF _ w' (args.toList.map a'.eval) I2.lt I2.globIn (Qjd I2 _ hds)) ?_;rintro e w2 ⟨v,rfl,hfr2⟩;obtain⟨g3,I3,hrx,hus3,hbx3⟩:=I2.fresh hfr2 hx hfree;refine⟨v,rfl,?_⟩;have I4:=I3.put (d:=some d) (fun x h=>by cases h; exact hdN) hrx
   cases hpo:c.opsE ops.toList (k+1) post (QMA σ1' d rx bl)with
   | none=>rw[hpo]at hpost; cases hpost
   | some σ2=>
    rw[hpo]at hpost;simp only[Option.map_some,Option.some.injEq]at hpost;subst hpost;refine Qbt hFF hc ops post (k+1) _ σ2 _ _ w2 hpo I4 ?_ ?_ (fun j _ h=>hus2 j (hus3 _ h)) fun g5 a5 w5 I5=>?_
    ·exact(List.nodup_append.1 (QbX _ hnd1)).2.1
    ·intro x hxm;have hn:Qt bl x=none:=by
      cases hA:Qt bl x with
      | none=>rfl
      | some y=>exact absurd rfl ((List.nodup_append.1 (QbX _ hnd1)).2.2 x (Qm0 (by rw[hA]; simp)) x hxm)
     have:=hal2 x (List.mem_append.2 (.inr hxm));exact⟨(hbx3 x hn).trans this.1,this.2⟩
    ·obtain⟨g6,I6⟩:=I5.close id;exact hQ g6 a5 w5 I6
  ·cases hpre
 ·cases hpre
end
section
variable {P:Program} {c:Cx} {N:Nat} {m0:Nat→Nat→Prop} {w0:Base} {g:Gh} {σ:St} {a:Act} {w w':World}
theorem Inv.laterB (I:Inv N m0 w0 g σ a w) {B:Nat→Prop} (ha:a.defers=w0.df) (hB:∀b,B b→Away g b∧w0.heap.size≤b) (hfz:∀p∈w0.fz,¬B p.1) (hk:KeepsW w B w'):Inv N m0 w0 g σ a w':=by
 have hoth:∀k,k < w.heap.size→¬B k→w'.heap[k]?=w.heap[k]?:=hk.block;have hcell:∀b o,g.imm b o→w'.cell? ⟨b,o,none⟩=w.cell? ⟨b,o,none⟩:=fun b o h=>World.cell?_of_block (w:=w) (hoth b (I.lt b o h) fun hb=>(hB b hb).1.imm o h);have e:Tr g w σ.toks g w' σ.toks:=⟨⟨fun _ _ h=>h,hcell⟩,fun _ _ h=>h,fun _ h=>h,fun t _ h=>⟨h,fun b hb=>⟨hb,fun _ hx=>hx,hoth b (I.tokb t b hb).1 fun h=>(hB b h).1.tok t hb⟩⟩⟩;have hbx:∀i b,g.box i=some b→w'.heap[b]?=w.heap[b]?:=fun i b hb=>hoth b (I.boxb i b hb).2.1 fun h=>(hB b h).1.box i hb;refine⟨I.below.but hk fun b hb h=>absurd hb (Nat.not_lt.2 (hB b h).2),I.size,⟨[],ha,List.nodup_nil,fun D hD=>by cases hD⟩,fun b o h=>Nat.lt_of_lt_of_le (I.lt b o h) hk.size,I.old,I.new,fun t x h=>RelX.tr e (I.tmps t x h),fun i b h=>⟨(I.boxb i b h).1,Nat.lt_of_lt_of_le (I.boxb i b h).2.1 hk.size,(I.boxb i b h).2.2⟩,I.boxi,fun t b h=>⟨Nat.lt_of_lt_of_le (I.tokb t b h).1 hk.size,(I.tokb t b h).2⟩,I.toki,fun b cs h blk hb=>BoxAt.tr e (I.boxes b cs h blk hb) (hbx b blk hb),I.out,fun p hp=>⟨(hoth _ (Array.getElem?_eq_some_iff.1 (I.fz p hp).1).1 (hfz p hp)).trans (I.fz p hp).1,(I.fz p hp).2⟩,fun i mc hi blk hb=>(I.maps i mc hi blk hb).keep (hbx i blk hb),QbG I.cells I.old hcell⟩
theorem Inv.addM (I:Inv N m0 w0 g σ a w) {mb:Nat→Nat→Prop} (h:∀b o,mb b o→Away g b∧w0.heap.size≤b∧b < w.heap.size):Inv N m0 w0 { g with imm:=fun b o=>g.imm b o∨mb b o} σ a w:=by
 refine I.tr (g':= { g with imm:=fun b o=>g.imm b o∨mb b o}) ⟨⟨fun _ _ h=> .inl h,fun _ _ _=>rfl⟩,fun _ _ h=>h,fun _ h=>h,fun t _ ht=>⟨ht,fun b hb=>⟨hb,fun x hx=>hx.resolve_right fun hm=>(h b x hm).1.tok t hb,rfl⟩⟩⟩ (Below.refl _ _) (KeepN.refl _) (fun b o hb=>hb.elim (I.lt b o) fun hm=>(h b o hm).2.2) (fun b o hb=>hb.elim (I.new b o) fun hm=> .inr (.inl (h b o hm).2.1)) rfl rfl fun i b hb=>⟨fun o ho=>ho.elim ((I.boxb i b hb).2.2 o) fun hm=>(h b o hm).1.box i hb,rfl⟩
theorem Inv.restD (I:Inv N m0 w0 g σ a w) {al:List Nat} (hal:∀d∈al,w0.out d=none) {mN:Nat→Nat→Prop} (hsub:∀b o,mN b o→g.imm b o) (hold:∀b o,m0 b o→mN b o) {t0:List (Nat×X)} {tm:Array Value}
  (ht:∀t x,Qt t0 t=some x→RelX ⟨mN,(Q5 al g).box,fun _=>none,fun _=>False⟩ w w0.heap.size [] x (tm.getD t undef)) (hs:tm.size=N) (hd:w0.df=[]):
  Inv N m0 w0 ⟨mN,(Q5 al g).box,fun _=>none,fun _=>False⟩ (restD al t0 σ) ⟨tm,[]⟩ w:=by
 have hb:∀i b,(Q5 al g).box i=some b→al.contains i=false∧g.box i=some b:=by
  intro i b hi;simp only[Q5]at hi;split at hi
  ·cases hi
  ·rename_i hc; exact⟨by simpa using hc,hi⟩
 refine⟨I.below,hs,⟨[],hd.symm,List.nodup_nil,fun D hD=>by cases hD⟩,fun b o h=>I.lt b o (hsub b o h),hold,fun b o h=>I.new b o (hsub b o h),ht,fun i b h=>?_,fun i j b h h'=>I.boxi i j b (hb i b h).2 (hb j b h').2,fun t b h=>(by cases h),fun s t b h=>(by cases h),fun b cs h blk hblk=>?_,fun i b hi=>?_,I.fz,fun i mc hi=>(by cases hi),I.cells⟩
 ·obtain⟨h1,h2,h3⟩:=I.boxb i b (hb i b h).2;exact⟨h1,h2,fun o ho=>h3 o (hsub b o ho)⟩
 ·obtain⟨_,cs0,h2,rfl⟩:=Q3k h;obtain⟨vs,ty,k1,k2,k3⟩:=I.boxes b cs0 h2 blk (hb b blk hblk).2;refine⟨vs,ty,k1,by simpa using k2,fun j x v p1 p2=>?_⟩
  rw[List.getElem?_map]at p1;cases hj:cs0[j]? with
  | none=>rw[hj]at p1; cases p1
  | some y=>
   rw[hj]at p1; simp at p1; subst p1;obtain⟨q1,q2⟩:=k3 j y v hj p2;refine⟨q1,?_⟩;unfold X.keepD;split
   ·simpa[RelX,Rel]using q2
   ·split
    ·simp[RelX,Rel]
    ·rename_i b' off n k hc;obtain⟨blk',cc,r1,r2,r3⟩:=q2;refine⟨blk',cc,?_,r2,r3⟩;simp only[Q5];rw[if_neg (by simpa using hc)]
     exact r1
   ·simp[RelX,Rel]
 ·have h1:=I.out i b hi;simp only[Q5];rw[if_neg]
  ·exact h1
  ·intro hc;rw[hal i (by simpa using hc)]at hi; cases hi
set_option maxHeartbeats 2000000 in
theorem Q3a {σ':St} (hc:CxOk P c) {gop:Operand} {ps:Array Tmp} {ca cb:Code} {gf:Nat} {caps:List D} {l:List (List D)} (hgop:σ.ev gop= .d (.fn gf [] caps)) (hen:∀xs w,(callFunc gf xs).run P w= .ok (.enter gf xs) w) (hseq:SeqD P gf caps l) (hpsB:(Qcz ps.toList&&ps.toList.all fun p=>decide (p < c.N))=true)
  (al0 al:List Nat) {t0:List (Nat×X)} (ht0:t0=Qds al0 σ.tmps) (S:Nat→St) (hS0:restD al0 t0 σ=S 0) (hlast:S l.length=σ')
  (hS:∀j x,l[j]?=some x→x.length=ps.toList.length∧∃σ1 σ2,SndN P c (if j=0 then al0 else al) ca { S j with tmps:=Q3q ps.toList x++t0} σ1∧SndN P c (if j=0 then al0 else al) cb σ1 σ2∧restD al t0 σ2=S (j+1))
  (hsub:∀d∈al,d∈al0) (hal0:∀d∈al0,w0.out d=none) (hal:∀d∈al,w0.out d=none) (hdok:w0.dOk∧w0.df=[]) (I:Inv c.N m0 w0 g σ a w) {n:Nat} {Q:Exit→Act→World→Prop} (hQ:∀g' a' w',Inv c.N m0 w0 g' σ' a' w'→Q .normal a' w'):
  (Code.rangeFunc gop ps ca cb).wpIn Fence.wide n P Q a w:=by
 obtain⟨hdok,hdf⟩:=hdok;simp only[Bool.and_eq_true,List.all_eq_true,decide_eq_true_eq]at hpsB;obtain⟨hpnd,hplt⟩:=hpsB;have hpnd:=QbX _ hpnd;have hfv:=QbD I gop;rw[hgop]at hfv;simp only[RelX,Rel,RelL]at hfv;obtain⟨fs,lb,hfe,hfs,hcaps⟩:=hfv;subst hfs;obtain⟨Ds,hDs,hDnd,hD⟩:=I.defers;rw[hdf,List.append_nil]at hDs;have t0no:∀t x,Qt t0 t=some x→x.noTok:=by
  intro t x hx;rw[ht0]at hx;obtain⟨y,_,rfl⟩:=QhS hx;exact QjS (Qkz y)
 have t0rel:∀t x,Qt t0 t=some x→RelX (Q5 al0 g) w 0 [] x (a.tmps.getD t undef):=by
  intro t x hx;have hno:=t0no t x hx;rw[ht0]at hx;obtain⟨y,hy,rfl⟩:=QhS hx;exact(Qjx (Qhb (nw:=σ.toks) rfl rfl (I.tmps t y hy))).toks hno
 have fzlt:∀p∈w0.fz,p.1 < w.heap.size:=fun p hp=>(Array.getElem?_eq_some_iff.1 (I.fz p hp).1).1;have hDlt:∀D∈Ds,D < w.heap.size:=fun D hDm=>(Array.getElem?_eq_some_iff.1 (hD D hDm).2).1;have hsz0:=I.below.size;refine wpIn_rangeFunc ?_;intro fn hfn;obtain⟨rec,hrec⟩:∃rec:LoopState→Option Code→Loop,rec=fun st pe=> { state:=st,pending:=pe,fn,tmps:=a.tmps,params:=ps,assign:=ca,body:=cb,defers:=w.heap.size} :=⟨_,rfl⟩;obtain⟨W1,hW1⟩:∃W1,(w.alloc (.deferred (some []))).alloc (.loop (rec .ready none))=W1:=⟨_,rfl⟩;obtain⟨ln,hln⟩:∃ln,ln=w.heap.size+1:=⟨_,rfl⟩;have hln0:w0.heap.size≤ln:=by rw[hln]; exact Nat.le_trans hsz0 (Nat.le_succ _)
 have putc:∀(V:World) (b o:Nat) (r':Loop),b≠ln→(V.putObj ln (.loop r')).cell? ⟨b,o,none⟩=V.cell? ⟨b,o,none⟩:=fun V b o r' hne=>World.cell?_of_block (w:=V) (World.putObj_heap_other hne);have hL1:W1.heap[ln]?=some (.loop (rec .ready none)):=by
  rw[←hW1,hln];have:=Qbi (w.alloc (.deferred (some []))) (.loop (rec .ready none))
  rwa [World.size_alloc]at this
 have hb1:Below w.heap.size w W1:=by
  rw[←hW1]; exact((Below.refl _ w).alloc (Nat.le_refl _) _).alloc (by simp) _
 have hK1:W1.heap[w.heap.size]?=some (.deferred (some [])):=by
  rw[←hW1];exact((((Below.refl _ (w.alloc (.deferred (some [])))).alloc (Nat.le_refl _) _)).block w.heap.size (by simp)).trans (Qbi w _)
 have hW1s:W1.heap.size=w.heap.size+2:=by rw[←hW1]; simp
 obtain⟨RI,hRI⟩:∃RI:List (List D)→(Nat→Prop)→World→Prop,RI=fun pre B W=>∃(gp:Gh),Inv c.N m0 w0 gp (S pre.length) ⟨a.tmps,[]⟩ W∧Away gp ln∧(∀b,B b→Away gp b∧w.heap.size+2≤b∧b < W.heap.size)∧(∀i∈(if pre.length=0 then al0 else al),gp.box i=none)∧(∀D∈Ds,W.heap[D]?=some (.deferred (some [])))∧(∀b o,g.imm b o→gp.imm b o)∧(∀t x,Qt t0 t=some x→RelX gp W 0 [] x (a.tmps.getD t undef)):=⟨_,rfl⟩;have hRIlater:∀pre B B' W W',W1.heap.size≤W.heap.size→RI pre B W→KeepsW W B W'→(∀b,B' b→B b∨(W.heap.size≤b∧b < W'.heap.size))→RI pre B' W':=by
  intro pre B B' W W' hWs hr hk hB';rw[hRI]at hr⊢;obtain⟨gp,r3,r4,r8,r5,r6,r7,r9⟩:=hr;have hBw:∀b,B b→Away gp b∧w0.heap.size≤b:=fun b hb=>⟨(r8 b hb).1,by have:=(r8 b hb).2.1; omega⟩
  have hcell:∀b o,gp.imm b o→W'.cell? ⟨b,o,none⟩=W.cell? ⟨b,o,none⟩:=fun b o h=>World.cell?_of_block (w:=W) (hk.block b (r3.lt b o h) fun hb=>(hBw b hb).1.imm o h);refine⟨gp,r3.laterB hdf.symm hBw (fun p hp hb=>?_) hk,r4,fun b hb=>?_,r5,fun D hDm=>?_,r7,fun t x hx=>RelX.tr0 (t0no t x hx) ⟨fun _ _ h=>h,hcell⟩ (fun _ _ h=>h) (r9 t x hx)⟩
  ·have:=(r8 _ hb).2.1; have:=fzlt p hp; omega
  ·rcases hB' b hb with h | ⟨h1,h2⟩
   ·exact⟨(r8 b h).1,(r8 b h).2.1,Nat.lt_of_lt_of_le (r8 b h).2.2 hk.size⟩
   ·exact⟨r3.awayNew h1,by omega,h2⟩
  ·exact(hk.block D (Array.getElem?_eq_some_iff.1 (r6 D hDm)).1 fun hb=>by have:=(r8 _ hb).2.1; have:=hDlt D hDm; omega).trans (r6 D hDm)
 have hputDs:∀(W:World) (r:Loop),(∀D∈Ds,W.heap[D]?=some (.deferred (some [])))→∀D∈Ds,(W.putObj ln (.loop r)).heap[D]?=some (.deferred (some [])):=fun W r hh D hDm=>(World.putObj_heap_other (by have:=hDlt D hDm; omega)).trans (hh D hDm)
 have hRI0:RI [] (fun _=>False) W1:=by
  rw[hRI];have Ir:=I.restD hal0 (mN:=g.imm) (fun _ _ h=>h) I.old (t0:=t0) (tm:=a.tmps) (fun t x hx=>RelX.tr0 (t0no t x hx) (g:=Q5 al0 g) (g':=⟨g.imm,(Q5 al0 g).box,fun _=>none,fun _=>False⟩) ⟨fun _ _ h=>h,fun _ _ _=>rfl⟩ (fun _ _ h=>h) (t0rel t x hx)) I.size hdf;rw[hS0]at Ir;refine⟨_,Ir.later hb1,⟨fun o ho=>?_,fun i hi=>?_,fun t ht=>by cases ht⟩,fun b h=>h.elim,fun i hi=>?_,fun D hDm=>(hb1.block D (hDlt D hDm)).trans (hD D hDm).2,fun _ _ h=>h,fun t x hx=>RelX.tr0 (t0no t x hx) (g:=Q5 al0 g) (g':=⟨g.imm,(Q5 al0 g).box,fun _=>none,fun _=>False⟩) ⟨fun _ _ h=>h,fun b o h=>hb1.cell (p:=⟨b,o,none⟩) (I.lt b o h)⟩ (fun _ _ h=>h) (t0rel t x hx)⟩
  ·have:=I.lt ln o ho; omega
  ·have:=(Ir.boxb i ln hi).2.1; omega
  ·simp only[Q5]; rw[if_pos (by simpa using hi)]
 have hm1:RelL g.imm W1 caps lb:=RelL.ext ⟨fun _ _ h=>h,fun b o h=>hb1.cell (p:=⟨b,o,none⟩) (I.lt b o h)⟩ _ _ hcaps;refine⟨ln,[{ target:= .collected w.heap.size,args:= #[]}],W1,{ target:= .fn (.func gf) lb.toArray,args:= #[.func (.yield ln) #[] #[]]},W1,gf,#[.func (.yield ln) #[] #[]]++lb.toArray,W1,?_,?_,?_,?_,fun hd=>absurd hd (by simp[Fence.wide]),?_⟩
 ·rw[←hW1,hln,hrec]; exact run_enterLoop_outer _ _ _ _ _
 ·simp only[resolve,hfe];simp[go_sem]
 ·intro f' _; trivial
 ·simp[invoke,go_sem,hen]
 ·refine(hseq (n - 1) g.imm W1 lb (fun b o hbo=>Nat.lt_of_lt_of_le (I.lt b o hbo) hb1.size) (I.globIn.ext ⟨fun _ _ h=>h,fun b o h=>hb1.cell (p:=⟨b,o,none⟩) (I.lt b o h)⟩) hm1 ln
   (fun pre B W=>RI pre B W∧W1.heap.size≤W.heap.size∧W.heap[ln]?=some (.loop (rec .ready none))∧W.heap[w.heap.size]?=some (.deferred (some [])))
   (fun pre B B' W W' hj hk hB'=>by
    have hr:=hj.1;rw[hRI]at hr;obtain⟨gp,_,_,r8,_⟩:=hr;refine⟨hRIlater pre B B' W W' hj.2.1 hj.1 hk hB',Nat.le_trans hj.2.1 hk.size,(hk.block ln (Array.getElem?_eq_some_iff.1 hj.2.2.1).1 fun hb=>?_).trans hj.2.2.1,(hk.block _ (Array.getElem?_eq_some_iff.1 hj.2.2.2).1 fun hb=>?_).trans hj.2.2.2⟩
    ·have:=(r8 _ hb).2.1; omega
    ·have:=(r8 _ hb).2.1; omega)
   ?_ ⟨hRI0,Nat.le_refl _,hL1,hK1⟩).mono ?_
  ·
   rintro pre x B W xs mb ⟨hri,hWs,hlW,hkW⟩ hpre hmb hxs;have hri':=hri;rw[hRI]at hri;obtain⟨gp0,r3o,r4o,r8,r5,r6,r7,r9⟩:=hri;obtain⟨post,hpost⟩:=hpre;have hat:l[pre.length]?=some x:=by
    rw[←hpost]; simp
   obtain⟨hxl,σ1,σ2,hca,hcb2,hS2⟩:=hS pre.length x hat;have hxl':xs.length=ps.toList.length:=by rw[hxs.length]; exact hxl
   have hlt:ln < W.heap.size:=(Array.getElem?_eq_some_iff.1 hlW).1;have hy:=run_yield (P:=P) (args:=xs.toArray) hlW (by rw[hrec]; simpa using hxl')
   rw[hrec]at hy;refine⟨fn,_,ca,cb,hy,?_⟩;refine roundIn_of_wpIn hfn ?_;have hmbB:∀b o,mb b o→Away gp0 b∧w0.heap.size≤b∧b < W.heap.size:=fun b o h=>⟨(r8 b (hmb b o h)).1,by have:=(r8 b (hmb b o h)).2.1; omega,(r8 b (hmb b o h)).2.2⟩
   have r3:=r3o.addM hmbB;obtain⟨gp,hgp⟩:∃gp:Gh,gp= { gp0 with imm:=fun b o=>gp0.imm b o∨mb b o} :=⟨_,rfl⟩
   rw[←hgp]at r3;have himm:∀b o,gp0.imm b o→gp.imm b o:=fun b o h=>by rw[hgp]; exact .inl h
   have hgbox:gp.box=gp0.box:=by rw[hgp]
   have hgtok:gp.tok=gp0.tok:=by rw[hgp]
   have r4:Away gp ln:=⟨fun o ho=>by
    rw[hgp]at ho;exact ho.elim (r4o.imm o) fun hm=>by have:=(r8 _ (hmb _ _ hm)).2.1; omega,fun i=>by rw[hgbox]; exact r4o.box i,fun t=>by rw[hgtok]; exact r4o.tok t⟩
   have hxs':RelL gp.imm W x xs:=RelL.ext ⟨fun b o h=>by rw[hgp]; exact h.imp (r7 b o) id,fun _ _ _=>rfl⟩ _ _ hxs
   rw[←hgbox]at r5;obtain⟨fz,hfz⟩:∃fz:List (Nat×Obj),fz=w0.fz++((w.heap.size,.deferred (some []))::Ds.map fun D=>(D,.deferred (some []))):=⟨_,rfl⟩;have fzok:∀p∈fz,W.heap[p.1]?=some p.2∧p.2.isCells=false∧∀l c,p.2≠ .map l c:=by
    intro p hp;rw[hfz]at hp;rcases List.mem_append.1 hp with hp | hp
    ·exact r3.fz p hp
    ·rcases List.mem_cons.1 hp with rfl | hp
     ·exact⟨hkW,rfl,fun _ _ e=>by cases e⟩
     ·obtain⟨D,hDm,rfl⟩:=List.mem_map.1 hp;exact⟨r6 D hDm,rfl,fun _ _ e=>by cases e⟩
   have fzne:∀p∈fz,p.1≠ln:=by
    intro p hp;rw[hfz]at hp;rcases List.mem_append.1 hp with hp | hp
    ·have:=fzlt p hp; omega
    ·rcases List.mem_cons.1 hp with rfl | hp
     ·show w.heap.size≠ln;omega
     ·obtain⟨D,hDm,rfl⟩:=List.mem_map.1 hp;have:=hDlt D hDm;show D≠ln;omega
   have t0W:∀t y,Qt t0 t=some y→RelX gp W 0 (S pre.length).toks y (a.tmps.getD t undef):=fun t y hy=>RelX.tr0 (t0no t y hy) ⟨himm,fun _ _ _=>rfl⟩ (fun i b h=>by rw[hgbox]; exact h) (r9 t y hy)
   have IA:=r3.rebase fz fzok (a':=⟨(ps.zip xs.toArray).foldl (fun t (p:Tmp×Value)=>t.setIfInBounds p.1 p.2) a.tmps,[]⟩) (tmps:=Q3q ps.toList x++t0)
    (Q3A (tm:=a.tmps) hxs' hpnd (fun p hp=>by rw[I.size]; exact hplt p hp) (by simpa using hxl') t0W)
    (by
     have e1:(ps.zip xs.toArray).foldl (fun t (p:Tmp×Value)=>t.setIfInBounds p.1 p.2) a.tmps=(ps.toList.zip xs).foldl (fun t (p:Tmp×Value)=>t.setIfInBounds p.1 p.2) a.tmps:=by rw[←Array.foldl_toList,Array.toList_zip]
     show((ps.zip xs.toArray).foldl (fun t (p:Tmp×Value)=>t.setIfInBounds p.1 p.2) a.tmps).size=c.N;rw[e1,QlO]; exact I.size) rfl
   have awr:∀b,(∀i,gp.box i≠some b)→(∀t,gp.tok t≠some b)→¬(Qfb W gp fz).writ b:=by
    rintro b h1 h2 (⟨i,hi⟩ | ⟨t,ht⟩)
    ·exact h1 i hi
    ·exact h2 t ht
   refine hca (Fence.wide.inRound ln) (n - 1 - 1) (.inr ⟨ln,rfl⟩) _ _ (fun d hd=>r5 d hd) _ _ W IA _ ?_;intro gA aA WA IA2;have awA:=QdT r4 hlt IA2;have hlA:WA.heap[ln]?=some (.loop (rec .ready none)):=(IA2.below.block ln hlt (awr ln r4.box r4.tok)).trans hlW;have hltA:ln < WA.heap.size:=(Array.getElem?_eq_some_iff.1 hlA).1;refine⟨_,run_beginRound hlA (by rw[hrec]),?_⟩
   have hrb:({ rec .ready none with state:= .busy} :Loop)=rec .busy none:=by rw[hrec]
   rw[hrb];have IB:=IA2.putBoth awA fzne hlt (rec .busy none);have r3b:=r3.putRec r4 hln0 (fun p hp=>by have:=fzlt p hp; omega) hlW (rec .busy none)
   have hlb:(W.putObj ln (.loop (rec .busy none))).heap[ln]?=some (.loop (rec .busy none)):=World.putObj_heap_same hlt;have hcb:∀b o,gp.imm b o→(W.putObj ln (.loop (rec .busy none))).cell? ⟨b,o,none⟩=W.cell? ⟨b,o,none⟩:=fun b o hbo=>putc W b o _ (fun e=>r4.imm o (e ▸ hbo));have hltb:ln < (W.putObj ln (.loop (rec .busy none))).heap.size:=(Array.getElem?_eq_some_iff.1 hlb).1;have hoth:∀k,k≠ln→(W.putObj ln (.loop (rec .busy none))).heap[k]?=W.heap[k]?:=fun k hk=>World.putObj_heap_other hk;generalize WA.putObj ln (.loop (rec .busy none))=WB at IB;generalize hWb:W.putObj ln (.loop (rec .busy none))=Wb at IB r3b hlb hcb hltb hoth;have hszb:Wb.heap.size=W.heap.size:=by rw[←hWb]; exact World.putObj_size
   have awr2:∀b,(∀i,gp.box i≠some b)→(∀t,gp.tok t≠some b)→¬(Qfb Wb gp fz).writ b:=by
    rintro b h1 h2 (⟨i,hi⟩ | ⟨t,ht⟩)
    ·exact h1 i hi
    ·exact h2 t ht
   have hend:∀(W3:World) (jump:Option Code),W3.heap[ln]?=some (.loop (rec .busy none))→(Instr.endRound ln jump).run P W3= .ok (.bool jump.isNone) (W3.putObj ln (.loop (rec (if jump.isNone then .ready else .done) jump))):=by
    intro W3 jump hl3;have:=run_endRound (P:=P) jump hl3;rw[hrec]at this⊢;exact this
   refine hcb2 (Fence.wide.inRound ln) (n - 1 - 1) (.inr ⟨ln,rfl⟩) _ _ (fun d hd=>r5 d hd) _ _ WB IB _ ?_;intro gB aB W3 I3;have awB:=QdT r4 hltb I3;have h3l:W3.heap[ln]?=some (.loop (rec .busy none)):=(I3.below.block ln hltb (awr2 ln r4.box r4.tok)).trans hlb;have h3k:W3.heap[w.heap.size]?=some (.deferred (some [])):=(I3.fz (w.heap.size,.deferred (some [])) (by show _∈fz; rw[hfz]; simp)).1
   have h3D:∀D∈Ds,W3.heap[D]?=some (.deferred (some [])):=fun D hDm=>(I3.fz (D,.deferred (some [])) (by show _∈fz; rw[hfz]; simp[hDm])).1
   have h3s:W.heap.size≤W3.heap.size:=by rw[←hszb]; exact I3.below.size
   have h3c:∀b o,gp.imm b o→W3.cell? ⟨b,o,none⟩=W.cell? ⟨b,o,none⟩:=fun b o hbo=>(I3.cells.1 b o hbo).trans (hcb b o hbo);have hlt3:ln < W3.heap.size:=Nat.lt_of_lt_of_le hlt h3s;have I4:=r3b.unbase hdf (fz:=fz) (fun p hp=>by rw[hfz]; exact List.mem_append_left _ hp) I3
   have I5:=I4.putRec awB hln0 (fun p hp=>by have:=fzlt p hp; omega) h3l (rec .ready none)
   have hc5:∀b o,gp0.imm b o→(W3.putObj ln (.loop (rec .ready none))).cell? ⟨b,o,none⟩=W.cell? ⟨b,o,none⟩:=fun b o hbo=>(putc W3 b o _ (fun e=>r4o.imm o (e ▸ hbo))).trans (h3c b o (himm b o hbo));have hbox5:∀i b,gp0.box i=some b→(Q5 al gB).box i=some b:=fun i b hib=>by
    have h1:gB.box i=some b:=I3.out i b (by show gp.box i=some b; rw[hgbox]; exact hib)
    simp only[Q5];rw[if_neg]
    ·exact h1
    ·intro hci;have hi:i∈al:=by simpa using hci
     have:=r5 i (by split; exact hsub i hi; exact hi)
     rw[hgbox,hib]at this; cases this
   have hbox6:∀i b,(Q5 al gB).box i=some b→gB.box i=some b:=fun i b hi=>by
    simp only[Q5]at hi;split at hi
    ·cases hi
    ·exact hi
   have ht5:∀t y,Qt t0 t=some y→RelX ⟨gp0.imm,(Q5 al gB).box,fun _=>none,fun _=>False⟩ (W3.putObj ln (.loop (rec .ready none))) 0 [] y (a.tmps.getD t undef):=fun t y hy=>RelX.tr0 (t0no t y hy) (g:=gp0) (g':=⟨gp0.imm,(Q5 al gB).box,fun _=>none,fun _=>False⟩) ⟨fun _ _ h=>h,hc5⟩ hbox5 (r9 t y hy);have I6:=I5.restD hal (mN:=gp0.imm) (fun b o h=>I3.old b o (himm b o h)) r3o.old (t0:=t0) (tm:=a.tmps) (fun t y hy=>(ht5 t y hy).base) I.size hdf;rw[hS2]at I6;have hBb:∀b,B b→(∀i,gp.box i≠some b)∧∀t,gp.tok t≠some b:=fun b hb=>⟨fun i=>by rw[hgbox]; exact(r8 b hb).1.box i,fun t=>by rw[hgtok]; exact(r8 b hb).1.tok t⟩
   have hBn:∀b,B b→∀i,gB.box i≠some b:=fun b hb i hi=>by
    rcases(I3.boxb i b hi).1 with h | h
    ·have:=(r8 b hb).2.2;have h':Wb.heap.size≤b:=h;omega
    ·exact awr2 b (hBb b hb).1 (hBb b hb).2 h
   have hlen:(pre++[x]).length=pre.length+1:=by simp
   refine⟨_,_,hend W3 none h3l,rfl,⟨?_,?_,World.putObj_heap_same hlt3,(World.putObj_heap_other (by omega)).trans h3k⟩,?_,fun b o hbo=>hc5 b o (r7 b o hbo),fun b hb=>?_⟩
   ·rw[hRI];refine⟨⟨gp0.imm,(Q5 al gB).box,fun _=>none,fun _=>False⟩,by rw[hlen]; exact I6,⟨fun o ho=>r4o.imm o ho,fun i hi=>awB.box i (hbox6 i ln hi),fun t ht=>by cases ht⟩,fun b hb=>⟨⟨fun o ho=>(r8 b hb).1.imm o ho,fun i hi=>hBn b hb i (hbox6 i b hi),fun t ht=>by cases ht⟩,(r8 b hb).2.1,?_⟩,fun i hi=>?_,hputDs _ _ h3D,r7,ht5⟩
    ·show b < (W3.putObj ln (.loop (rec .ready none))).heap.size;rw[World.putObj_size]; exact Nat.lt_of_lt_of_le (r8 b hb).2.2 h3s
    ·rw[if_neg (by rw[hlen]; omega)]at hi
     simp only[Q5]; rw[if_pos (by simpa using hi)]
   ·show W1.heap.size≤(W3.putObj ln (.loop (rec .ready none))).heap.size;rw[World.putObj_size]; exact Nat.le_trans hWs h3s
   ·show W.heap.size≤(W3.putObj ln (.loop (rec .ready none))).heap.size;rw[World.putObj_size]; exact h3s
   ·have hne:b≠ln:=by have:=(r8 b hb).2.1; omega
    show(W3.putObj ln (.loop (rec .ready none))).heap[b]?=W.heap[b]?;rw[World.putObj_heap_other hne,←hoth b hne];exact I3.below.block b (by show b < Wb.heap.size; rw[hszb]; exact(r8 b hb).2.2) (awr2 b (hBb b hb).1 (hBb b hb).2)
  ·rintro e2 W2 ⟨⟨v,rfl⟩,B,hri,hWs,hlW,hkW⟩;rw[hRI]at hri;obtain⟨gp,r3,r4,r8,r5,r6,r7,r9⟩:=hri;have hE:=run_endLoop (P:=P) hlW (by rw[hrec]; simp)
   refine⟨_,_,hE,?_⟩;rw[hrec];have I5:=r3.putRec r4 hln0 (fun p hp=>by have:=fzlt p hp; omega) hlW { rec .ready none with state:= .exhausted}
   rw[hrec,hlast]at I5;have h1:=(World.putObj_heap_other (w:=W2) (o:= .loop { rec .ready none with state:= .exhausted}) (show w.heap.size≠ln by omega)).trans hkW
   have h2:=hputDs W2 { rec .ready none with state:= .exhausted} r6
   rw[hrec]at h1 h2;refine hQ gp _ _ ⟨I5.below,I5.size,⟨w.heap.size::Ds,by rw[hDs,hdf,List.append_nil]; rfl,List.nodup_cons.2 ⟨fun hm=>by have:=hDlt _ hm; omega,hDnd⟩,fun D hDm=>?_⟩,I5.lt,I5.old,I5.new,I5.tmps,I5.boxb,I5.boxi,I5.tokb,I5.toki,I5.boxes,I5.out,I5.fz,I5.maps,I5.cells⟩
   rcases List.mem_cons.1 hDm with rfl | hDm
   ·exact⟨⟨hsz0,hdok⟩,h1⟩
   ·exact⟨(hD D hDm).1,h2 D hDm⟩
def Q3z (w:World):Base:=⟨w,fun _=>none,fun _=>none,[],True,[]⟩
theorem Inv.toY {W:World} (I:Inv N m0 (Qed W []) g σ a w):Inv N m0 (Q3z W) g σ a w:=by
 have hd:a.defers=[]:=by
  obtain⟨Ds,h1,_,h3⟩:=I.defers;cases Ds with
  | nil=>exact h1
  | cons D t=>exact((h3 D (by simp)).1.2).elim
 exact⟨⟨I.below.os,I.below.tape,I.below.output,I.below.size,I.below.block⟩,I.size,⟨[],hd,List.nodup_nil,fun D h=>by cases h⟩,I.lt,I.old,I.new,I.tmps,I.boxb,I.boxi,I.tokb,I.toki,I.boxes,I.out,I.fz,I.maps,I.cells⟩
theorem Q3h {f:Nat} {fn:Func} {cd:Code} (hf:P.funcs[f]?=some fn) (hb:fn.body=some cd) (hN:fn.ntmps=N) {ds:List D} {d:D} (hl:ds.length≤N)
  (h:∀(m:Nat→Nat→Prop) (w:World) (a:Act),Inv N m (Qed w []) (Qzh m) ⟨Qqm 0 ds,[],[],[]⟩ a w→a.defers=[]→cd.wpIn Fence.wide 0 P (bodyPostM Fence.wide 0 P fn (RetR m w d)) a w):PureC P f ds d:=by
 intro m w vs hm hG hr;exact(callsIn_wide (n:=0)).1 (callsIn_of_wp_marks hf hb trivial (h m w _ (Qs0 (P:=P) hN hl hm hG hr) rfl))
theorem Q3u (hc:CxOk P c) {W:World} {σ':St} (I:Inv c.N m0 (Q3z W) g σ' a w) {fn:Func} {r:List D} {d:D} (hres:Qgs c.Γ σ' fn.results.toList=some r) (hd:Qfd r=d):bodyPostM Fence.wide 0 P fn (RetR m0 W d) .ret a w:=by
 subst hd;show LeavesInM Fence.wide 0 P fn a.tmps (RetR m0 W (Qfd r)) a.defers .returning w;obtain⟨Ds,h1,h2,h3⟩:=I.defers;have h1:a.defers=Ds.map Qgr:=by
  have:=h1;simpa[Q3z]using this
 have I2:Inv c.N m0 (Q3z W) g σ' ⟨a.tmps,Ds.map Qgr⟩ w:=by rw[←h1]; exact I
 rw[h1];refine QiF rfl rfl (fun g' w' I'=>?_) Ds g w I2;obtain⟨us,h1,h2⟩:=QhZ hc I' fn.results.toList r hres;have hno:∀b,¬(Q3z W).writ b:=by
  rintro b (⟨i,hi⟩ | ⟨t,ht⟩)
  ·cases hi
  ·cases ht
 have hx:ExtM (Qlf g') w' (fun b o=>m0 b o∨(Qlf g' b o∧W.heap.size≤b)) w':=⟨fun b o h=>by
  rcases h with(h | ⟨i,h⟩) | ⟨s,h⟩
  ·exact(I'.new b o h).imp id fun h2=>⟨.inl (.inl h),h2.resolve_right (hno b)⟩
  ·exact .inr ⟨.inl (.inr ⟨i,h⟩),(I'.boxb i b h).1.resolve_right (hno b)⟩
  ·exact .inr ⟨.inr ⟨s,h⟩,(I'.tokb s b h).2.1.resolve_right (hno b)⟩,fun _ _ _=>rfl⟩
 obtain⟨v,h3,h4⟩:=QkQ h1 (RelL.ext hx _ _ h2);exact⟨v,h3,v,(fun b o=>Qlf g' b o∧W.heap.size≤b),rfl,I'.below.below (fun k hk=>hno k hk),fun b o h=>⟨h.2,by
  rcases h.1 with(h | ⟨i,h⟩) | ⟨s,h⟩
  ·exact I'.lt b o h
  ·exact(I'.boxb i b h).2.1
  ·exact(I'.tokb s b h).1⟩,h4⟩
theorem Q22 (hc:CxOk P c) {cd:Code} {σ':St} {e:AEx} (hd:QaO c.diff c.md c.pq cd=true) (hno:QkX cd=true) (I:Inv c.N m0 w0 g σ a w) (hal:∀d∈QF cd,w0.out d=none) (h:c.code cd σ=some (e,σ')) {Q:Exit→Act→World→Prop} (hQ:∀g' a' w',Inv c.N m0 w0 g' σ' a' w'→Q e.out a' w'):cd.wpIn Fence.wide 0 P Q a w:=
 QiD hc cd hd Fence.wide 0 (.inl rfl) m0 w0 (.inl hno) σ e σ' h hal g a w I Q hQ
end
end Go.Proofs.YticoemblgkemiaaGreatDoor
