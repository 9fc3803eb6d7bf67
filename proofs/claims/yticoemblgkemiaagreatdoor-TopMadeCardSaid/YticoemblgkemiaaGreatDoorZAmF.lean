/-
  Functions that yield: what they hand to a loop, as the plain machine runs them. For any program. No program here.
-/
import Derived.Test.YticoemblgkemiaaGreatDoorZAmE
import Derived.Laws.CopyOwn
set_option linter.unusedSectionVars false
set_option linter.unusedSimpArgs false
set_option linter.unusedVariables false
namespace Go.Proofs.YticoemblgkemiaaGreatDoor
open Go.RowKit
structure SY where
 σ:St
 ys:List (List Value)
 stop:Bool
def X.known:X->Bool
 | .d (.v _)=>true
 | .d (.datA _ _ _ _ _ _)=>true
 | _=>false
def Qrw:List (Nat×X)->List (Nat×X)
 | []=>[]
 | (t,x)::r=>if x.known then(t,x)::Qrw r else(t,.d .top)::Qrw r
def QeN (ln:Nat) (σ:St) (o:Oper):Option (List X):=
 match o.op with
 | .call cc=>(match cc.callee with
  | .value f=>(match σ.ev f with
   | .d (.v (.func (.yield l) first caps))=>if l=ln/\first.isEmpty/\caps.isEmpty then some (cc.args.toList.map σ.ev)else none
   | _=>none)
  | _=>none)
 | _=>none
def QM8:X->Option Value
 | .d (.v v)=>some v
 | .d (.agg cs)=>(match Qc8 cs with
  | some vs=>some (.agg vs.toArray)
  | none=>none)
 | _=>none
def QoW:List X->Option (List Value)
 | []=>some []
 | x::t=>(match QM8 x,QoW t with
  | some v,some vs=>some (v::vs)
  | _,_=>none)
def Qor (σ:St) (dst:Option Nat) (b:Bool):St:= { tmps:=Qlm (Qrw σ.tmps) dst (.d (.v (.bool b))),boxes:=[],toks:=[],maps:=[]}
abbrev Adr:=List (Nat×Nat×Nat×List (List D))
def Qpu (aY:Adr):List (Nat×X)->Prop
 | []=>True
 | (_,.d (.datA b o k rows _ _))::r=>(b,o,k,rows)∈aY/\Qpu aY r
 | _::r=>Qpu aY r
theorem QnO {aY:Adr} :∀{t:List (Nat×X)} {u b o k i off:Nat} {rows:List (List D)},Qpu aY t->Qt t u=some (.d (.datA b o k rows i off))->(b,o,k,rows)∈aY
 | [],u,b,o,k,i,off,rows,_,h=>by cases h
 | (v,x)::r,u,b,o,k,i,off,rows,ha,h=>by
  simp only[Qt]at h;split at h
  .simp only[Zs]at h; subst h; exact ha.1
  .unfold Qpu at ha;split at ha
   .rename_i heq; cases heq
   .rename_i heq; cases heq; exact QnO ha.2 h
   .rename_i heq; cases heq; exact QnO ha h
def Cx.opsY (c:Cx) (aY:Adr) (ln:Nat) (l:List (List Value)) (ops:List Oper):Nat->List Oper->(SY->Prop)->SY->Prop
 | _,[],Post,s=>Post s
 | i,o::t,Post,s=>match Qa5 ops s.σ o with
  | some true=>(match QeN ln s.σ o with
   | some xs=>(match QoW xs with
    | some vs=>s.stop=false/\(s.ys++[vs]) <+:l/\Qh0 c.N o.dst=true/\Qpu aY s.σ.tmps/\c.opsY aY ln l ops (i+1) t Post ⟨Qor s.σ o.dst true,s.ys++[vs],false⟩/\c.opsY aY ln l ops (i+1) t Post ⟨Qor s.σ o.dst false,s.ys++[vs],true⟩
    | none=>False)
   | none=>(match c.stepE ops i o s.σ with
    | some σ'=>c.opsY aY ln l ops (i+1) t Post { s with σ:=σ'}
    | none=>False))
  | _=>(match c.stepE ops i o s.σ with
    | some σ'=>c.opsY aY ln l ops (i+1) t Post { s with σ:=σ'}
    | none=>False)
def Cx.codeY (c:Cx) (aY:Adr) (ln:Nat) (l:List (List Value)):Code->(AEx->SY->Prop)->SY->Prop
 | .skip,Post,s=>Post .normal s
 | .label _,Post,s=>Post .normal s
 | .region id ops true,Post,s=>(match c.regionD id ops.toList s.σ with
  | some σ'=>Post .normal { s with σ:=σ'}
  | none=>False)
 | .region id ops false,Post,s=>if Qav (QR ops.toList) s.σ then c.opsY aY ln l ops.toList 0 ops.toList (λs'=>Post .normal { s' with σ:=c.close id s'.σ}) s else False
 | .seq a b,Post,s=>c.codeY aY ln l a (λe s'=>match e with | .normal=>c.codeY aY ln l b Post s' | e=>Post e s') s
 | .cond x a b,Post,s=>(match s.σ.ev x with
  | .d (.v (.bool t))=>(match t with
   | true=>c.codeY aY ln l a Post s
   | false=>c.codeY aY ln l b Post s)
  | _=>False)
 | .block id a,Post,s=>c.codeY aY ln l a (λe s'=>match e with | .exit j=>if j=id then Post .normal s' else Post (.exit j) s' | e=>Post e s') s
 | .loop a,Post,s=>∃(I:Nat->SY->Prop),(∃n,I n s)/\∀n s',I n s'->c.codeY aY ln l a (λe uF=>match e with | .normal=>∃m,m < n/\I m uF | e=>Post e uF) s'
 | .exit id,Post,s=>Post (.exit id) s
 | .scope a,Post,s=>c.codeY aY ln l a Post s
 | .ret,Post,s=>Post .ret s
 | _,_,_=>False
def Qy9 (w:World):Base:=⟨w,λ_=>none,λ_=>none,[],False,[]⟩
def ghW (m:Nat->Nat->Prop):Gh:= { imm:=m,box:=λ_=>none,tok:=λ_=>none,used:=λ_=>False}
theorem QMQ (w:World) (b:Nat):¬(Qy9 w).writ b:=by
 rintro(⟨i,hi⟩ | ⟨t,ht⟩)
 .cases hi
 .cases ht
theorem QmP:∀{t:List (Nat×X)} {u:Nat} {x:X},Qt (Qrw t) u=some x->x= .d .top\/(x.known=true/\Qt t u=some x)
 | [],u,x,h=>by cases h
 | (i,y)::r,u,x,h=>by
  simp only[Qrw]at h;split at h
  .rename_i hk;simp only[Qt]at h|-;split at h
   .rename_i e;simp only[Zs]at h; subst h;exact .inr ⟨hk,by rw[if_pos e]⟩
   .rename_i e;rw[if_neg e];exact QmP h
  .simp only[Qt]at h|-;split at h
   .simp only[Zs]at h; exact .inl h.symm
   .rename_i e; rw[if_neg e]; exact QmP h
theorem QAX {g:Gh} {w:World} {base:Nat} {toks:List Nat} {x:X} {u v:Value} (h:QM8 x=some v) (r:RelX g w base toks x u):u=v:=by
 unfold QM8 at h;split at h
 .simp only[Zs]at h; subst h;simpa[RelX,Rel]using r
 .rename_i cs;split at h
  .rename_i vs oO;simp only[Zs]at h; subst h;simp only[RelX,Rel]at r;obtain⟨us,h1,_,h3⟩:=r;rw[h1,QcU oO h3]
  .cases h
 .cases h
theorem QpS {g:Gh} {w:World} {base:Nat} {toks:List Nat} :∀{xs:List X} {vs us:List Value},QoW xs=some vs->us.length=xs.length->(∀(j:Nat) (x:X) (v:Value),xs[j]?=some x->us[j]?=some v->RelX g w base toks x v)->us=vs
 | [],vs,us,h,hl,_=>by
  simp only[QoW,Zs]at h; subst h;exact List.length_eq_zero_iff.1 hl
 | x::t,vs,us,h,hl,hr=>by
  simp only[QoW]at h;split at h
  .rename_i v r h1 h2;simp only[Zs]at h; subst h;cases us with
   | nil=>simp at hl
   | cons u ut=>
    have e1:=QAX h1 (hr 0 x u rfl rfl);have e2:=QpS h2 (us:=ut) (by simpa using hl) λj y z q1 q2=>hr (j+1) y z (by simpa using q1) (by simpa using q2)
    rw[e1,e2]
  .cases h
structure YK (P:Program) (n:Nat) (ln:Nat) (l:List (List Value)) (m:Nat->Nat->Prop) (J:List (List Value)->World->Prop) (Jx:World->Prop):Prop where
 later:∀pre W W',J pre W->Below W.heap.size W W'->J pre W'
 laterx:∀W W',Jx W->Below W.heap.size W W'->Jx W'
 round:∀pre x W,J pre W->(pre++[x]) <+:l->YieldAt Fence.wide (n - 1) P ln x.toArray W λe W'=>((e= .returned (.bool true)/\J (pre++[x]) W')\/(e= .returned (.bool false)/\Jx W'))/\W.heap.size<=W'.heap.size/\∀b o,m b o->W'.cell? ⟨b,o,none⟩=W.cell? ⟨b,o,none⟩
structure InvY (c:Cx) (m:Nat->Nat->Prop) (J:List (List Value)->World->Prop) (Jx:World->Prop) (ws:World) (W:World) (g:Gh) (s:SY) (a:Act) (w:World):Prop where
 inv:Inv c.N m (Qy9 W) g s.σ a w
 go:if s.stop=true then Jx W else J s.ys W
 size:ws.heap.size<=W.heap.size
 cell:∀b o,m b o->W.cell? ⟨b,o,none⟩=ws.cell? ⟨b,o,none⟩
section
variable {P:Program} {c:Cx} {aY:Adr} {m:Nat->Nat->Prop} {ln:Nat} {l:List (List Value)} {J:List (List Value)->World->Prop} {Jx:World->Prop} {ws W w:World} {n:Nat} {g:Gh} {s:SY} {a:Act}
theorem InvY.defers (I:InvY c m J Jx ws W g s a w):a.defers=[]:=by
 obtain⟨Ds,h1,_,h3⟩:=I.inv.defers;cases Ds with
 | nil=>exact h1
 | cons D t=>exact((h3 D (by simp)).1.2).elim
theorem InvY.below (I:InvY c m J Jx ws W g s a w):Below W.heap.size W w:=I.inv.below.below λk hk=>QMQ W k hk
theorem InvY.now (I:InvY c m J Jx ws W g s a w) (K:YK P n ln l m J Jx):if s.stop=true then Jx w else J s.ys w:=by
 have h:=I.go;split
 .rename_i hs; rw[if_pos hs]at h; exact K.laterx _ _ h I.below
 .rename_i hs; rw[if_neg hs]at h; exact K.later _ _ _ h I.below
theorem QuY {σ:St} {o:Oper} {xs:List X} (h:QeN ln σ o=some xs) (I:Inv c.N m (Qy9 W) g σ a w):∃f args tys,o.op= .call ⟨.value f,args,tys⟩/\a.eval f= .func (.yield ln) #[] #[]/\xs=args.toList.map σ.ev:=by
 unfold QeN at h;split at h
 .rename_i cc jB;split at h
  .rename_i f jJ;split at h
   .rename_i l' first caps hf
    split at h
    .rename_i aR;obtain⟨rfl,h1,h2⟩:=aR;simp only[Array.isEmpty_iff]at h1 h2;subst h1; subst h2;simp only[Zs]at h;have hr:=QbD I f;rw[hf]at hr;simp only[RelX,Rel]at hr;obtain⟨cal,args,tys⟩:=cc;simp only at jJ h;subst jJ;exact⟨f,args,tys,jB,hr,h.symm⟩
    .cases h
   .cases h
  .cases h
 .cases h
theorem Qge (hc:CxOk P c) (K:YK P n ln l m J Jx) (hm:∀b o,m b o->b < ws.heap.size) (lJ:∀p∈aY,RelRows m ws p.2.2.2 p.1 p.2.1 p.2.2.1) (ops:Array Oper) {Q:Exit->Act->World->Prop} {Post:SY->Prop} (hQ:∀s' W' g' a' w',Post s'->InvY c m J Jx ws W' g' s' a' w'->Q .normal a' w'):∀(rest:List Oper) (i:Nat) (s:SY) (W:World) (g:Gh) (a:Act) (w:World),c.opsY aY ln l ops.toList i rest Post s->InvY c m J Jx ws W g s a w->(QR rest).Nodup->(∀d∈QR rest,g.box d=none/\Qt s.σ.maps d=none)->(∀j,i<=j->¬g.used (QaN j))->
  wpListIn Fence.wide n P ops Q rest a w
 | [],i,s,W,g,a,w,h,I,_,_,_=>hQ s W g a w h I
 | o::t,i,s,W,g,a,w,h,I,bZ,aN,cR=>by
  have iB:(QR t).Nodup:=by
   rw[Qad]at bZ;exact(List.nodup_append.1 bZ).2.1
  have dK:(match c.stepE ops.toList i o s.σ with
    | some σ'=>c.opsY aY ln l ops.toList (i+1) t Post { s with σ:=σ'}
    | none=>False)->wpListIn Fence.wide n P ops Q (o::t) a w:=by
   intro h;split at h
   .rename_i σ' hs;refine Qkb (.inl rfl) hc ops hs I.inv (λd hd=>aN d (by rw[Qad,hd]; simp)) (cR i (Zr _)) λg' a' w' I' hb hu=>?_
    refine Qge hc K hm lJ ops hQ t (i+1) _ W g' a' w' h ⟨I',I.go,I.size,I.cell⟩ iB (λd hd=>hb d (aN d (by rw[Qad]; simp[hd])) λe=>?_) (λj hj mG=>?_)
    .rw[Qad,e]at bZ;simp only[List.cons_append,List.nil_append,List.nodup_cons]at bZ;exact bZ.1 hd
    .rcases hu _ mG with h1 | h1
     .exact cR j (by omega) h1
     .unfold QaN at h1; omega
   .exact h.elim
  unfold Cx.opsY at h;split at h
  .rename_i hw;split at h
   .rename_i xs hx;split at h
    .rename_i vs hv;obtain⟨h1,h2,h3,h4,h5,h6⟩:=h;have j4:=QbF I.inv ops o hw;unfold wpListIn;rw[if_pos j4];obtain⟨f,args,tys,jB,vA,f7⟩:=QuY hx I.inv;have oO:args.toList.map a.eval=vs:=QpS (base:=W.heap.size) (toks:=s.σ.toks) hv (by rw[f7]; simp) λj x v q1 q2=>by
      rw[f7,List.getElem?_map]at q1;rw[List.getElem?_map]at q2;cases hj:args.toList[j]? with
      | none=>rw[hj]at q1; cases q1
      | some y=>rw[hj]at q1 q2; simp at q1 q2; subst q1; subst q2; exact QbD I.inv y
     have jK:=I.now K;rw[h1]at jK;simp only[Bool.false_eq_true,if_false]at jK;obtain⟨fn,tmps,assign,body,hy,eL⟩:=K.round s.ys vs w jK h2;have aW:args.map a.eval=vs.toArray:=by rw[<-oO,<-Array.toList_map,Array.toArray_toList]
     have aH:(o.semAt Fence.wide.round a.eval).run P w= .ok (.round ln fn tmps assign body) w:=by
      have bZ:∀c,o.op≠ .defer c:=by rw[jB]; intro c h; cases h
      rw[Oper.semAt_eq _ _ _ bZ];obtain⟨dst,op,ty,pos,after,guard⟩:=o;simp only at jB;subst jB;simp[execOp,resolve,vA,Deferred.ofValue,invoke,aW,hy]
     have hd:QjT c.N o.dst:=by
      rintro x hx';rw[hx']at h3;simpa[Qh0]using h3
     refine⟨λ_ _=>trivial,?_⟩;rw[aH];refine⟨λhd=>absurd hd (by simp[Fence.wide]),eL.mono ?_⟩
     rintro e W' ⟨he,bJ,fH⟩;have hwW:W.heap.size<=w.heap.size:=I.below.size;have bQ:∀b o,m b o->W'.cell? ⟨b,o,none⟩=ws.cell? ⟨b,o,none⟩:=λb o eC=>((fH b o eC).trans (I.inv.cells.1 b o eC)).trans (I.cell b o eC);have oT:ws.heap.size<=W'.heap.size:=Nat.le_trans I.size (Nat.le_trans hwW bJ);have aQ:∀b o,m b o->b < W'.heap.size:=λb o eC=>Nat.lt_of_lt_of_le (hm b o eC) oT;have qU:∀b:Bool,Inv c.N m (Qy9 W') (ghW m) (Qor s.σ o.dst b) (a.put o.dst (.bool b)) W':=by
      intro b;have I0:Inv c.N m (Qy9 W') (ghW m) ⟨Qrw s.σ.tmps,[],[],[]⟩ a W':=by
       refine⟨KeepsW.refl _ _,I.inv.size,⟨[],I.defers,List.nodup_nil,λD h=>by cases h⟩,aQ,λ_ _ h=>h,λ_ _ h=> .inl h,λt x hx=>?_,λi b h=>(by cases h),λi j b h=>(by cases h),λt b h=>(by cases h),λs t b h=>(by cases h),λb cs h=>(by cases h),λi b h=>(by cases h),λp hp=>(by cases hp),λi mc h=>(by cases h),λ_ _ _=>rfl,I.inv.cells.2.ext ⟨λ_ _ h=>h,λb o eC=>(fH b o eC).trans (I.inv.cells.1 b o eC)⟩⟩
       rcases QmP hx with rfl | ⟨k1,k2⟩
       .simp[RelX,Rel]
       .have hr:=I.inv.tmps t x k2;unfold X.known at k1;split at k1
        .simpa[RelX,Rel]using hr
        .rename_i b o k rows i off;simp only[RelX,Rel]at hr|-;obtain⟨r1,r2,_⟩:=hr;have c8:=QnO h4 k2;exact⟨r1,r2,RelRows.ext (m:=m) (w:=ws) ⟨λ_ _ h=>h,bQ⟩ rows b o k (lJ _ c8)⟩
        .cases k1
      exact I0.put hd (x:= .d (.v (.bool b))) (by simp[RelX,Rel])
     rcases he with⟨rfl,hj⟩ | ⟨rfl,hj⟩
     .exact Qge hc K hm lJ ops hQ t (i+1) _ W' (ghW m) _ W' h5 ⟨qU true,by simpa using hj,oT,bQ⟩ iB (λd _=>⟨rfl,rfl⟩) (λj _ hu=>hu)
     .exact Qge hc K hm lJ ops hQ t (i+1) _ W' (ghW m) _ W' h6 ⟨qU false,by simpa using hj,oT,bQ⟩ iB (λd _=>⟨rfl,rfl⟩) (λj _ hu=>hu)
    .exact h.elim
   .exact dK h
  .exact dK h
theorem Qqs (hc:CxOk P c) (K:YK P n ln l m J Jx) (hm:∀b o,m b o->b < ws.heap.size) (lJ:∀p∈aY,RelRows m ws p.2.2.2 p.1 p.2.1 p.2.2.1):∀(cd:Code),QaO c.diff c.md c.pq cd=true->∀(Post:AEx->SY->Prop) (s:SY) (W:World) (g:Gh) (a:Act) (w:World),c.codeY aY ln l cd Post s->InvY c m J Jx ws W g s a w->
  ∀Q:Exit->Act->World->Prop,(∀e s' W' g' a' w',Post e s'->InvY c m J Jx ws W' g' s' a' w'->Q e.out a' w')->cd.wpIn Fence.wide n P Q a w:=by
 intro cd
 induction cd with
 | skip=>intro _ Post s W g a w h I Q hQ; exact wpIn_skip (hQ .normal s W g a w h I)
 | label l=>intro _ Post s W g a w h I Q hQ; exact wpIn_label (hQ .normal s W g a w h I)
 | region id ops draw=>
  intro hd Post s W g a w h I Q hQ;cases draw with
  | true=>
   simp only[Cx.codeY]at h;split at h
   .rename_i σ' hr;exact Qg5 (.inl rfl) hc hr (λ_ _=>rfl) hd I.inv λg' a' w' I'=>hQ .normal _ W g' a' w' h ⟨I',I.go,I.size,I.cell⟩
   .exact h.elim
  | false=>
   simp only[Cx.codeY]at h;split at h
   .rename_i bT;obtain⟨bZ,c7⟩:=QaJ bT;obtain⟨I1,mH,cR⟩:=I.inv.start (al:=QR ops.toList) (λ_ _=>rfl) bT c7;refine wpIn_region_list (Qge hc K hm lJ ops (λs' W' g' a' w' hp I'=>?_) ops.toList 0 s W _ a w h ⟨I1,I.go,I.size,I.cell⟩ (QbX _ bZ) mH (λj _=>cR j));obtain⟨g2,I2⟩:=I'.inv.close id;exact hQ .normal _ W' g2 a' w' hp ⟨I2,I'.go,I'.size,I'.cell⟩
   .exact h.elim
 | seq x y ihx ihy=>
  intro hd Post s W g a w h I Q hQ;simp only[QaO,Za]at hd;simp only[Cx.codeY]at h;refine wpIn_seq (ihx hd.1 _ s W g a w h I _ λe s' W' g' a' w' hp I'=>?_);cases e with
  | normal=>exact ihy hd.2 Post s' W' g' a' w' hp I' Q hQ
  | exit i=>exact hQ (.exit i) s' W' g' a' w' hp I'
  | ret=>exact hQ .ret s' W' g' a' w' hp I'
  | pan v=>exact hQ (.pan v) s' W' g' a' w' hp I'
 | cond x y z ihy ihz=>
  intro hd Post s W g a w h I Q hQ;simp only[QaO,Za]at hd;simp only[Cx.codeY]at h;split at h
  .rename_i t hx;have hr:=QbD I.inv x;rw[hx]at hr;simp only[RelX,Rel]at hr;refine wpIn_cond hr ?_;cases t with
   | true=>exact ihy hd.1 Post s W g a w h I Q hQ
   | false=>exact ihz hd.2 Post s W g a w h I Q hQ
  .exact h.elim
 | block id x ih=>
  intro hd Post s W g a w h I Q hQ;simp only[QaO]at hd;simp only[Cx.codeY]at h;refine wpIn_block (ih hd _ s W g a w h I _ λe s' W' g' a' w' hp I'=>?_);cases e with
  | normal=>exact hQ .normal s' W' g' a' w' hp I'
  | ret=>exact hQ .ret s' W' g' a' w' hp I'
  | pan v=>exact hQ (.pan v) s' W' g' a' w' hp I'
  | exit j=>
   simp only at hp;by_cases hj:j=id
   .rw[if_pos hj]at hp;simp only[AEx.out,Exit.inBlock,hj,if_true];exact hQ .normal s' W' g' a' w' hp I'
   .rw[if_neg hj]at hp;simp only[AEx.out,Exit.inBlock,hj,if_false];exact hQ (.exit j) s' W' g' a' w' hp I'
 | loop x ih=>
  intro hd Post s W g a w h I Q hQ;simp only[QaO]at hd;simp only[Cx.codeY]at h;obtain⟨In,⟨k,hk⟩,dK⟩:=h;refine wpIn_loop_rounds (k+1) ?_;revert s W g a w
  induction k using Nat.strongRecOn with
  | ind k ihk=>
   intro s W g a w I hk;rw[roundsIn_succ];refine ih hd _ s W g a w (dK k s hk) I _ λe s' W' g' a' w' hp I'=>?_;cases e with
   | normal=>
    obtain⟨j,hj,pE⟩:=hp;have:=ihk j hj s' W' g' a' w' I' pE;have mono:∀(r1 r2:Nat),r1<=r2->∀a w,Code.roundsIn Fence.wide n P x Q r1 a w->Code.roundsIn Fence.wide n P x Q r2 a w:=by
     intro r1
     induction r1 with
     | zero=>intro r2 _ a w h; exact h.elim
     | succ r1 ihr=>
      intro r2 bE a w h;obtain⟨r3,rfl⟩:∃r3,r2=r3+1:=⟨r2 - 1,by omega⟩
      rw[roundsIn_succ]at h|-;refine wpIn_mono h λe a w hh=>?_;cases e with
      | normal=>exact ihr r3 (by omega) a w hh
      | _=>exact hh
    exact mono (j+1) k (by omega) a' w' this
   | exit i=>exact hQ (.exit i) s' W' g' a' w' hp I'
   | ret=>exact hQ .ret s' W' g' a' w' hp I'
   | pan v=>exact hQ (.pan v) s' W' g' a' w' hp I'
 | rangeFunc f p x y ihx ihy=>intro _ Post s W g a w h; exact h.elim
 | exit i=>intro _ Post s W g a w h I Q hQ; exact wpIn_exit (hQ (.exit i) s W g a w h I)
 | scope x ih=>
  intro hd Post s W g a w h I Q hQ;simp only[QaO]at hd;simp only[Cx.codeY]at h;exact Qe7 (ih hd Post s W g a w h I _ λe s' W' g' a' w' hp I'=>⟨QlE e,hQ e s' W' g' a' w' hp I'⟩)
 | goto l=>intro _ Post s W g a w h; exact h.elim
 | ret=>intro _ Post s W g a w h I Q hQ; exact wpIn_ret (hQ .ret s W g a w h I)
 | refuse t=>intro _ Post s W g a w h; exact h.elim
def exA:List D->List (Nat×Nat)->List D
 | .dat k rows i off::t,(b,o)::r=> .datA b o k rows i off::exA t r
 | d::t,_::r=>d::exA t r
 | l,[]=>l
 | [],_=>[]
def Qqz:List D->List (Nat×Nat)->Adr
 | .dat k rows _ _::t,(b,o)::r=>(b,o,k,rows)::Qqz t r
 | _::t,_::r=>Qqz t r
 | _,_=>[]
theorem QxK:∀(ds:List D) (vs:List Value),RelL m w ds vs->∃ad:List (Nat×Nat),ad.length=ds.length/\RelL m w (exA ds ad) vs/\∀p∈Qqz ds ad,RelRows m w p.2.2.2 p.1 p.2.1 p.2.2.1
 | [],vs,h=>⟨[],rfl,h,λp hp=>by cases hp⟩
 | d::t,vs,h=>by
  simp only[RelL]at h;obtain⟨v,vt,rfl,h1,h2⟩:=h;obtain⟨ad,a1,a2,a3⟩:=QxK t vt h2;cases d with
  | dat k rows i off=>
   simp only[Rel]at h1;obtain⟨q1,b,o,q2,q3⟩:=h1;refine⟨(b,o)::ad,by simp[a1],?_,λp hp=>?_⟩
   .simp only[exA,RelL];exact⟨v,vt,rfl,by simp only[Rel]; exact⟨q1,q2,q3⟩,a2⟩
   .simp only[Qqz,List.mem_cons]at hp;rcases hp with rfl | hp
    .exact q3
    .exact a3 p hp
  | _=>
   refine⟨(0,0)::ad,by simp[a1],?_,λp hp=>a3 p (by simpa only[Qqz]using hp)⟩
   simp only[exA,RelL];exact⟨v,vt,rfl,h1,a2⟩
theorem Qq4 (hc:CxOk P c) {f:Nat} {fn:Func} {cd:Code} (hf:P.funcs[f]?=some fn) (hb:fn.body=some cd) (hN:fn.ntmps=c.N) (bP:fn.results.toList=[]) {caps:List D} (hl:caps.length < c.N) (hd:QaO c.diff c.md c.pq cd=true)
  (h:∀(ln:Nat) (ad:List (Nat×Nat)),ad.length=caps.length->c.codeY (Qqz caps ad) ln l cd (λe s=>(∀i,e≠ .exit i)/\(∀v,e≠ .pan v)/\(s.stop=true\/s.ys=l)) ⟨⟨(0,.d (.v (.func (.yield ln) #[] #[])))::Qqm 1 (exA caps ad),[],[],[]⟩,[],false⟩):QC4 P f caps l:=by
 intro n m w lb hm hG hr ln J Jx hJ o6 eL hJ0;obtain⟨ad,a1,a2,a3⟩:=QxK caps lb hr;have qM:=hr.length;have K:YK P n ln l m J Jx:=⟨hJ,o6,eL⟩;have aW:(#[.func (.yield ln) #[] #[]]++lb.toArray:Array Value)=((.func (.yield ln) #[] #[]::lb:List Value)).toArray:=by simp
 rw[aW];have hrel:RelL m w (.v (.func (.yield ln) #[] #[])::exA caps ad) (.func (.yield ln) #[] #[]::lb):=by
  simp only[RelL];exact⟨_,_,rfl,by simp[Rel],a2⟩
 refine callsIn_of_wp hf hb trivial ?_;have aI:(exA caps ad).length=caps.length:=by have:=a2.length; omega
 have I0:InvY c m J Jx w w (ghW m) ⟨⟨(0,.d (.v (.func (.yield ln) #[] #[])))::Qqm 1 (exA caps ad),[],[],[]⟩,[],false⟩ { tmps:=(.func (.yield ln) #[] #[]::lb:List Value).toArray++Array.replicate (fn.ntmps - (.func (.yield ln) #[] #[]::lb:List Value).toArray.size) undef,defers:=[]} w:=by
  refine⟨⟨KeepsW.refl _ _,by simp; omega,⟨[],rfl,List.nodup_nil,λD h=>by cases h⟩,hm,λ_ _ h=>h,λ_ _ h=> .inl h,λt x hx=>?_,λi b h=>(by cases h),λi j b h=>(by cases h),λt b h=>(by cases h),λs t b h=>(by cases h),λb cs h=>(by cases h),λi b h=>(by cases h),λp hp=>(by cases hp),λi mc h=>(by cases h),λ_ _ _=>rfl,hG⟩,by simpa using hJ0,Zr _,λ_ _ _=>rfl⟩
  obtain⟨d',v',rfl,_,h5,h6⟩:=Qjb (.v (.func (.yield ln) #[] #[])::exA caps ad) _ 0 hrel t x hx;simp only[Nat.sub_zero]at h5;have aQ:t < (.func (.yield ln) #[] #[]::lb:List Value).length:=(Zi.1 h5).1;have:((.func (.yield ln) #[] #[]::lb:List Value).toArray++Array.replicate (fn.ntmps - (.func (.yield ln) #[] #[]::lb:List Value).toArray.size) undef).getD t undef=v':=by
   rw[Array.getD_eq_getD_getElem?,Array.getElem?_append,if_pos (by simpa using aQ),List.getElem?_toArray,h5]; rfl
  show RelX _ _ _ _ (.d d') _;rw[this]; exact h6
 refine Qqs hc K hm a3 cd hd _ _ w (ghW m) _ w (h ln ad a1) I0 _ λe s W' g' a' w' hp I'=>?_;have d5:a'.defers=[]/\∃v,(results fn a'.tmps).run P w'= .ok v w'/\((∃v',Ending.returned v= .returned v')/\(J l w'\/Jx w')):=by
  refine⟨I'.defers,?_⟩;obtain⟨v,h1,_⟩:=QkQ (m:=m) (P:=P) (fn:=fn) (tm:=a'.tmps) (w:=w') (us:=[]) (r:=[]) (by rw[bP]; rfl) (by simp[RelL])
  refine⟨v,h1,⟨v,rfl⟩,?_⟩;have jK:=I'.now K;split at jK
  .exact .inr jK
  .rename_i hs;rcases hp.2.2 with h | h
   .exact absurd h hs
   .rw[h]at jK; exact .inl jK
 cases e with
 | normal=>exact d5
 | exit i=>exact absurd rfl (hp.1 i)
 | ret=>exact d5
 | pan v=>exact absurd rfl (hp.2.1 v)
end
def Cx.thenY (c:Cx) (aY:Adr) (ln:Nat) (l:List (List Value)) (b:Code) (Post:AEx->SY->Prop):AEx->SY->Prop
 | .normal,s=>c.codeY aY ln l b Post s
 | e,s=>Post e s
def QNw (id:Nat) (Post:AEx->SY->Prop):AEx->SY->Prop
 | .exit j,s=>if j=id then Post .normal s else Post (.exit j) s
 | e,s=>Post e s
def Cx.endY (c:Cx) (id:Nat) (Post:AEx->SY->Prop) (s:SY):Prop:=Post .normal ⟨c.close id s.σ,s.ys,s.stop⟩
def QoM (I:Nat->SY->Prop) (n:Nat) (Post:AEx->SY->Prop):AEx->SY->Prop
 | .normal,s=>∃m,m < n/\I m s
 | e,s=>Post e s
def Cx.loopY (c:Cx) (aY:Adr) (ln:Nat) (l:List (List Value)) (a:Code) (Post:AEx->SY->Prop) (s:SY):Prop:=c.codeY aY ln l (.loop a) Post s
def Cx.opsYV (c:Cx) (aY:Adr) (ln:Nat) (l:List (List Value)) (ops:List Oper) (i:Nat) (d:Option Nat) (t:List Oper) (Post:SY->Prop) (s:SY):Option (List Value)->Prop
 | some vs=>s.stop=false/\(s.ys++[vs]) <+:l/\Qh0 c.N d=true/\Qpu aY s.σ.tmps/\c.opsY aY ln l ops (i+1) t Post ⟨Qor s.σ d true,s.ys++[vs],false⟩/\c.opsY aY ln l ops (i+1) t Post ⟨Qor s.σ d false,s.ys++[vs],true⟩
 | none=>False
def Cx.opsYS (c:Cx) (aY:Adr) (ln:Nat) (l:List (List Value)) (ops:List Oper) (i:Nat) (t:List Oper) (Post:SY->Prop) (ys:List (List Value)) (b:Bool):Option St->Prop
 | some σ'=>c.opsY aY ln l ops (i+1) t Post ⟨σ',ys,b⟩
 | none=>False
def Cx.opsYY (c:Cx) (aY:Adr) (ln:Nat) (l:List (List Value)) (ops:List Oper) (i:Nat) (o:Oper) (t:List Oper) (Post:SY->Prop) (s:SY):Option (List X)->Prop
 | some xs=>c.opsYV aY ln l ops i o.dst t Post s (QoW xs)
 | none=>c.opsYS aY ln l ops i t Post s.ys s.stop (c.stepE ops i o s.σ)
def Cx.opsYW (c:Cx) (aY:Adr) (ln:Nat) (l:List (List Value)) (ops:List Oper) (i:Nat) (o:Oper) (t:List Oper) (Post:SY->Prop) (s:SY):Option Bool->Prop
 | some true=>c.opsYY aY ln l ops i o t Post s (QeN ln s.σ o)
 | _=>c.opsYS aY ln l ops i t Post s.ys s.stop (c.stepE ops i o s.σ)
def Cx.condY (c:Cx) (aY:Adr) (ln:Nat) (l:List (List Value)) (a b:Code) (Post:AEx->SY->Prop) (s:SY):X->Prop
 | .d (.v (.bool true))=>c.codeY aY ln l a Post s
 | .d (.v (.bool false))=>c.codeY aY ln l b Post s
 | _=>False
def QPl (Post:AEx->SY->Prop) (ys:List (List Value)) (b:Bool):Option St->Prop
 | some σ'=>Post .normal ⟨σ',ys,b⟩
 | none=>False
section
variable (c:Cx) (aY:Adr) (ln:Nat) (l:List (List Value)) (Post:AEx->SY->Prop) (s:SY)
theorem Quu:c.codeY aY ln l .skip Post s=Post .normal s:=rfl
theorem QqG (x:Nat):c.codeY aY ln l (.label x) Post s=Post .normal s:=rfl
theorem Quy (x:Nat):c.codeY aY ln l (.exit x) Post s=Post (.exit x) s:=rfl
theorem Qw5:c.codeY aY ln l .ret Post s=Post .ret s:=rfl
theorem Qrb (a:Code):c.codeY aY ln l (.scope a) Post s=c.codeY aY ln l a Post s:=rfl
theorem QxJ (a b:Code):c.codeY aY ln l (.seq a b) Post s=c.codeY aY ln l a (c.thenY aY ln l b Post) s:=by
 simp only[Cx.codeY];congr 1;funext e s';cases e<;>rfl
theorem QEa (b:Code):c.thenY aY ln l b Post .normal s=c.codeY aY ln l b Post s:=rfl
theorem QEx (b:Code) (j:Nat):c.thenY aY ln l b Post (.exit j) s=Post (.exit j) s:=rfl
theorem QGe (b:Code):c.thenY aY ln l b Post .ret s=Post .ret s:=rfl
theorem Qry (id:Nat) (a:Code):c.codeY aY ln l (.block id a) Post s=c.codeY aY ln l a (QNw id Post) s:=by
 simp only[Cx.codeY];congr 1;funext e s';cases e<;>rfl
theorem QKI (id:Nat):QNw id Post .normal s=Post .normal s:=rfl
theorem QLz (id:Nat):QNw id Post .ret s=Post .ret s:=rfl
theorem QMp (id j:Nat):QNw id Post (.exit j) s=if j=id then Post .normal s else Post (.exit j) s:=rfl
theorem Que (x:Operand) (a b:Code):c.codeY aY ln l (.cond x a b) Post s=c.condY aY ln l a b Post s (s.σ.ev x):=by
 simp only[Cx.codeY];generalize s.σ.ev x=y;unfold Cx.condY;cases y with
 | d z=>
  cases z with
  | v u=>
   cases u with
   | bool t=>cases t<;>rfl
   | _=>rfl
  | _=>rfl
 | _=>rfl
theorem QFL (a b:Code):c.condY aY ln l a b Post s (.d (.v (.bool true)))=c.codeY aY ln l a Post s:=rfl
theorem QGl (a b:Code):c.condY aY ln l a b Post s (.d (.v (.bool false)))=c.codeY aY ln l b Post s:=rfl
theorem QuE (id:Nat) (ops:Array Oper):c.codeY aY ln l (.region id ops true) Post s=QPl Post s.ys s.stop (c.regionM id ops.toList s.σ (c.md id)):=by
 have e:c.regionD id ops.toList s.σ=c.regionM id ops.toList s.σ (c.md id):=by
  unfold Cx.regionD;generalize c.md id=k
  match k with
  | 0=>rfl
  | 1=>rfl
  | 2=>rfl
  | m+3=>rfl
 simp only[Cx.codeY,QPl,e]
theorem Qud (id:Nat) (ops:Array Oper):c.codeY aY ln l (.region id ops false) Post s=if Qav (QR ops.toList) s.σ then c.opsY aY ln l ops.toList 0 ops.toList (c.endY id Post) s else False:=rfl
theorem Qy7 (ys:List (List Value)) (b:Bool) (σ:St):QPl Post ys b (some σ)=Post .normal ⟨σ,ys,b⟩:=rfl
theorem QGC (id:Nat):c.endY id Post s=Post .normal ⟨c.close id s.σ,s.ys,s.stop⟩:=rfl
theorem Qty (a:Code):c.codeY aY ln l (.loop a) Post s=c.loopY aY ln l a Post s:=rfl
theorem QsT {a:Code} {Post:AEx->SY->Prop} {s:SY} (I:Nat->SY->Prop) (n:Nat) (h0:I n s) (h:∀n s',I n s'->c.codeY aY ln l a (QoM I n Post) s'):c.loopY aY ln l a Post s:=by
 refine⟨I,⟨n,h0⟩,λn s' hs=>?_⟩;have:=h n s' hs;have e:QoM I n Post=(λe uF=>match e with | .normal=>∃m,m < n/\I m uF | e=>Post e uF):=by
  funext e uF; cases e<;>rfl
 rw[e]at this; exact this
theorem QAC (I:Nat->SY->Prop) (n:Nat):QoM I n Post .normal s=∃m,m < n/\I m s:=rfl
theorem QCa (I:Nat->SY->Prop) (n j:Nat):QoM I n Post (.exit j) s=Post (.exit j) s:=rfl
theorem QAG (I:Nat->SY->Prop) (n:Nat):QoM I n Post .ret s=Post .ret s:=rfl
end
section
variable (c:Cx) (aY:Adr) (ln:Nat) (l:List (List Value)) (ops:List Oper) (i:Nat) (Post:SY->Prop) (s:SY)
theorem Qz6:c.opsY aY ln l ops i [] Post s=Post s:=rfl
theorem QzD (o:Oper) (t:List Oper):c.opsY aY ln l ops i (o::t) Post s=c.opsYW aY ln l ops i o t Post s (Qa5 ops s.σ o):=by
 simp only[Cx.opsY];unfold Cx.opsYW;rcases Qa5 ops s.σ o with _ | b
 .simp only[Cx.opsYS]
 .cases b with
  | false=>simp only[Cx.opsYS]
  | true=>
   simp only[Cx.opsYY];cases QeN ln s.σ o with
   | none=>simp only[Cx.opsYS]
   | some xs=>simp only[Cx.opsYV]
theorem QFa (o:Oper) (t:List Oper):c.opsYW aY ln l ops i o t Post s (some true)=c.opsYY aY ln l ops i o t Post s (QeN ln s.σ o):=rfl
theorem QE4 (o:Oper) (t:List Oper):c.opsYW aY ln l ops i o t Post s (some false)=c.opsYS aY ln l ops i t Post s.ys s.stop (c.stepE ops i o s.σ):=rfl
theorem QEI (o:Oper) (t:List Oper):c.opsYY aY ln l ops i o t Post s none=c.opsYS aY ln l ops i t Post s.ys s.stop (c.stepE ops i o s.σ):=rfl
theorem QDV (o:Oper) (t:List Oper) (xs:List X):c.opsYY aY ln l ops i o t Post s (some xs)=c.opsYV aY ln l ops i o.dst t Post s (QoW xs):=rfl
theorem QH0 (t:List Oper) (ys:List (List Value)) (b:Bool) (σ':St):c.opsYS aY ln l ops i t Post ys b (some σ')=c.opsY aY ln l ops (i+1) t Post ⟨σ',ys,b⟩:=rfl
theorem QGu (d:Option Nat) (t:List Oper) (vs:List Value):c.opsYV aY ln l ops i d t Post s (some vs)=(s.stop=false/\(s.ys++[vs]) <+:l/\Qh0 c.N d=true/\Qpu aY s.σ.tmps/\c.opsY aY ln l ops (i+1) t Post ⟨Qor s.σ d true,s.ys++[vs],false⟩/\c.opsY aY ln l ops (i+1) t Post ⟨Qor s.σ d false,s.ys++[vs],true⟩):=rfl
theorem QAH (o:Oper) (σ:St):c.stepE ops i o σ=c.stepEK ops i o σ (c.step ops i o σ):=by
 unfold Cx.stepE;cases c.step ops i o σ with
 | some σ'=>rfl
 | none=>
  simp only[QjA];cases Qa5 ops σ o with
  | none=>rfl
  | some b=>cases b<;>rfl
end
theorem QfA {c:Cx} {a b:Code} {ps al:List Nat} {t0:List (Nat×X)} {l:List (List Value)} {σ:St} {r:Option (AEx×St)} (hL:c.rounds a b ps al t0 l σ=r) (S:Nat->St) (h0:σ=S 0) (hs:∀j x,l[j]?=some x->QjD (c.code a) (c.code b) ps al t0 x (S j)=some (.normal,S (j+1))):r=some (.normal,S l.length):=by
 subst h0;rw[<-hL];have:=QlT (fa:=c.code a) (fb:=c.code b) (ps:=ps) (al:=al) (t0:=t0) l S 0 (λj x h=>by rw[Nat.zero_add]; exact hs j x h)
 rw[Nat.zero_add]at this;exact this
section
variable {P:Program} {c:Cx} {m0:Nat->Nat->Prop} {w0:Base} {g:Gh} {σ σ':St} {a:Act} {w:World} {e:AEx}
theorem Inv.forget (I:Inv c.N m0 w0 g σ a w) (ha:a.defers=w0.df) (al:List Nat) (aN:∀d∈al,w0.out d=none):Inv c.N m0 w0 (Q5 al g) (QcH al (Qds al σ.tmps) σ) a w/\∀d∈al,(Q5 al g).box d=none:=by
 have j9:∀t x,Qt (Qds al σ.tmps) t=some x->x.noTok:=by
  intro t x hx;obtain⟨y,_,rfl⟩:=QhS hx;exact QjS (Qkz y)
 have mR:∀t x,Qt (Qds al σ.tmps) t=some x->RelX (Q5 al g) w 0 [] x (a.tmps.getD t undef):=by
  intro t x hx;have bC:=j9 t x hx;obtain⟨y,hy,rfl⟩:=QhS hx;exact(Qjx (Qhb (nw:=σ.toks) rfl rfl (I.tmps t y hy))).toks bC
 refine⟨I.rest (a':=a) aN mR (λt x hx toks hr=>hr.toks (j9 t x hx)) I.size ha,λd hd=>?_⟩;simp only[Q5];rw[if_pos (by simpa using hd)]
def Qzh (m:Nat->Nat->Prop):Gh:= { imm:=m,box:=λ_=>none,tok:=λ_=>none,used:=λ_=>False}
end
def Qed (w:World) (l:List Deferred):Base:=⟨w,λ_=>none,λ_=>none,[],False,l⟩
theorem QeT (w:World) (l:List Deferred) (b:Nat):¬(Qed w l).writ b:=by
 rintro(⟨i,hi⟩ | ⟨t,ht⟩)
 .cases hi
 .cases ht
theorem Qs0 {P:Program} {N:Nat} {m:Nat->Nat->Prop} {w:World} {vs:List Value} {ds:List D} {fn:Func} (hN:fn.ntmps=N) (hl:ds.length<=N) (hm:∀b o,m b o->b < w.heap.size) (hG:GlobIn m w) (hr:RelL m w ds vs):
  Inv N m (Qed w []) (Qzh m) ⟨Qqm 0 ds,[],[],[]⟩ { tmps:=vs.toArray++Array.replicate (fn.ntmps - vs.toArray.size) undef,defers:=[]} w:=by
 have kL:=hr.length;refine⟨KeepsW.refl _ _,by simp; omega,⟨[],rfl,List.nodup_nil,λD h=>by cases h⟩,hm,λ_ _ h=>h,λ_ _ h=> .inl h,λt x hx=>?_,λi b h=>(by cases h),λi j b h=>(by cases h),λt b h=>(by cases h),λs t b h=>(by cases h),λb cs h=>(by cases h),λi b h=>(by cases h),λp hp=>(by cases hp),λi mc h=>(by cases h),λ_ _ _=>rfl,hG⟩
 obtain⟨d',v',rfl,_,h5,h6⟩:=Qjb ds vs 0 hr t x hx;simp only[Nat.sub_zero]at h5;have aQ:t < vs.length:=(Zi.1 h5).1;have:(vs.toArray++Array.replicate (fn.ntmps - vs.toArray.size) undef).getD t undef=v':=by
  rw[Array.getD_eq_getD_getElem?,Array.getElem?_append,if_pos (by simpa using aQ)]
  simp[h5]
 show RelX _ _ _ _ (.d d') _;rw[this]; exact h6
def RetR (m:Nat->Nat->Prop) (w:World) (d:D) (e:Ending) (w':World):Prop:=
 ∃(v:Value) (m':Nat->Nat->Prop),e= .returned v/\Below w.heap.size w w'/\(∀b o,m' b o->w.heap.size<=b/\b < w'.heap.size)/\Rel (λb o=>m b o\/m' b o) w' d v
section
variable {P:Program} {c:Cx} {m0:Nat->Nat->Prop} {w0:Base} {g:Gh} {σ σ':St} {a:Act} {w:World} {e:AEx}
theorem Inv.noMark (I:Inv c.N m0 w0 g σ a w) (h:¬w0.dOk):a.defers=w0.df:=by
 obtain⟨Ds,h1,_,h3⟩:=I.defers;cases Ds with
 | nil=>exact h1
 | cons D t=>exact(h (h3 D (by simp)).1.2).elim
theorem Inv.deferred {N:Nat} {W:World} {l:List Deferred} (I:Inv N m0 (Qed W l) g σ a w):a.defers=l:=by
 obtain⟨Ds,h1,_,h3⟩:=I.defers;cases Ds with
 | nil=>exact h1
 | cons D t=>exact((h3 D (by simp)).1.2).elim
theorem Inv.push {w:World} {W:World} {l:List Deferred} (I:Inv c.N m0 (Qed W l) g σ a w) (d:Deferred) (tm:Array Value) (ht:tm=a.tmps):Inv c.N m0 (Qed W (d::l)) g σ { tmps:=tm,defers:=d::a.defers} w:=by
 have hd:=I.noMark (λh=>h);subst ht;exact⟨I.below,I.size,⟨[],by rw[hd]; rfl,List.nodup_nil,λD h=>by cases h⟩,I.lt,I.old,I.new,I.tmps,I.boxb,I.boxi,I.tokb,I.toki,I.boxes,I.out,I.fz,I.maps,I.cells⟩
def QnT (w:World) (o:Nat->Option Nat) (l:List Deferred):Base:=⟨w,o,λ_=>none,[],False,l⟩
theorem Inv.pushO {N:Nat} {W:World} (I:Inv N m0 (Qed W []) g σ a w) (o:Nat->Option Nat) (ho:∀i b,o i=some b->g.box i=some b) (l:List Deferred) (a':Act) (ht:a'.tmps=a.tmps) (hl:a'.defers=l):Inv N m0 (QnT W o l) g σ a' w:=by
 have bC:=QeT W [];refine⟨⟨I.below.os,I.below.tape,I.below.output,I.below.size,λk hk hn=>I.below.block k hk (bC k)⟩,by rw[ht]; exact I.size,⟨[],by rw[hl]; rfl,List.nodup_nil,λD h=>by cases h⟩,I.lt,I.old,λb o h=>?_,by rw[ht]; exact I.tmps,λi b h=>⟨.inl ((I.boxb i b h).1.resolve_right (bC b)),(I.boxb i b h).2⟩,I.boxi,λt b h=>⟨(I.tokb t b h).1,.inl ((I.tokb t b h).2.1.resolve_right (bC b)),(I.tokb t b h).2.2⟩,I.toki,I.boxes,ho,I.fz,I.maps,I.cells⟩
 rcases I.new b o h with h | h | h
 .exact .inl h
 .exact .inr (.inl h)
 .exact absurd h (bC b)
theorem Inv.reframe {N N2:Nat} {W:World} {o:Nat->Option Nat} {l l2:List Deferred} (I:Inv N m0 (QnT W o l) g σ a w) {a2:Act} {T:List (Nat×X)} (hs:a2.tmps.size=N2) (hd:a2.defers=l2) (ht:∀t x,Qt T t=some x->RelX g w W.heap.size σ.toks x (a2.tmps.getD t undef)):Inv N2 m0 (QnT W o l2) g { σ with tmps:=T} a2 w:=
 ⟨⟨I.below.os,I.below.tape,I.below.output,I.below.size,λk hk hn=>I.below.block k hk hn⟩,hs,⟨[],by rw[hd]; rfl,List.nodup_nil,λD h=>by cases h⟩,I.lt,I.old,I.new,ht,I.boxb,I.boxi,I.tokb,I.toki,I.boxes,I.out,I.fz,I.maps,I.cells⟩
theorem Qr5 {α β:Type} {f:Nat×α->β} :∀{l:List (Nat×α)} {i:Nat} {y:β},Qt (l.map λp=>(p.1,f p)) i=some y->∃p∈l,p.1=i/\y=f p
 | [],i,y,h=>by cases h
 | p::t,i,y,h=>by
  simp only[List.map_cons,Qt]at h;split at h
  .rename_i e;simp only[Zs]at h;exact⟨p,by simp,e.symm,h.symm⟩
  .obtain⟨q,h1,h2⟩:=Qr5 h;exact⟨q,by simp[h1],h2⟩
theorem Inv.bare {N:Nat} (I:Inv N m0 w0 g σ a w) (bs:List (Nat×Nat)) (h:∀p∈bs,∃cs,Qt σ.boxes p.1=some cs/\cs.length=p.2):Inv N m0 w0 g ⟨[],bs.map λp=>(p.1,List.replicate p.2 (X.d .top)),[],[]⟩ a w:=by
 refine⟨I.below,I.size,I.defers,I.lt,I.old,I.new,λt x h=>(by cases h),I.boxb,I.boxi,I.tokb,I.toki,λb cs hb blk aG=>?_,I.out,I.fz,λi mc h=>(by cases h),I.cells⟩
 obtain⟨p,hp,rfl,rfl⟩:=Qr5 hb;obtain⟨cs,h1,h2⟩:=h p hp;obtain⟨vs,ty,k1,k2,k3⟩:=I.boxes _ _ h1 blk aG;refine⟨vs,ty,k1,by rw[List.length_replicate,<-h2]; exact k2,λj x v q1 q2=>?_⟩
 have hj:j < cs.length:=by
  have:=(Zi.1 q1).1;simpa[h2]using this
 refine⟨(k3 j cs[j] v (Zg hj) q2).1,?_⟩;rw[List.getElem?_replicate]at q1;split at q1
 .simp only[Zs]at q1; subst q1;simp only[RelX,Rel]
 .cases q1
theorem Inv.dropO {N:Nat} {W:World} {o:Nat->Option Nat} {l:List Deferred} (I:Inv N m0 (QnT W o l) g σ a w) (ho:∀i b,o i=some b->W.heap.size<=b):Inv N m0 (Qed W l) g σ a w:=by
 have hw:∀b,(QnT W o l).writ b->W.heap.size<=b:=by
  rintro b (⟨i,hi⟩ | ⟨t,ht⟩)
  .exact ho i b hi
  .cases ht
 have sN:a.defers=l:=by
  obtain⟨Ds,h1,_,h3⟩:=I.defers;cases Ds with
  | nil=>exact h1
  | cons D t=>exact((h3 D (by simp)).1.2).elim
 refine⟨⟨I.below.os,I.below.tape,I.below.output,I.below.size,λk hk hn=>I.below.block k hk λh=>absurd hk (Nat.not_lt.2 (hw k h))⟩,I.size,⟨[],by rw[sN]; rfl,List.nodup_nil,λD h=>by cases h⟩,I.lt,I.old,λb o h=>?_,I.tmps,λi b h=>⟨.inl ((I.boxb i b h).1.elim id (hw b)),(I.boxb i b h).2⟩,I.boxi,λt b h=>⟨(I.tokb t b h).1,.inl ((I.tokb t b h).2.1.elim id (hw b)),(I.tokb t b h).2.2⟩,I.toki,I.boxes,λi b h=>(by cases h),I.fz,I.maps,I.cells⟩
 rcases I.new b o h with h | h | h
 .exact .inl h
 .exact .inr (.inl h)
 .exact .inr (.inl (hw b h))
theorem Qw4 (hc:CxOk P c) {W:World} {l:List Deferred} (I:Inv c.N m0 (Qed W l) g σ a w) {fn:Func} {r:List D} (bP:Qgs c.Γ σ fn.results.toList=some r):∃v,(results fn a.tmps).run P w= .ok v w/\RetR m0 W (Qfd r) (.returned v) w:=by
 obtain⟨us,h1,h2⟩:=QhZ hc I fn.results.toList r bP;have bC:=QeT W l;have hx:ExtM (Qlf g) w (λb o=>m0 b o\/(Qlf g b o/\W.heap.size<=b)) w:=⟨λb o h=>by
  rcases h with(h | ⟨i,h⟩) | ⟨s,h⟩
  .exact(I.new b o h).imp id λh2=>⟨.inl (.inl h),h2.resolve_right (bC b)⟩
  .exact .inr ⟨.inl (.inr ⟨i,h⟩),(I.boxb i b h).1.resolve_right (bC b)⟩
  .exact .inr ⟨.inr ⟨s,h⟩,(I.tokb s b h).2.1.resolve_right (bC b)⟩,λ_ _ _=>rfl⟩
 obtain⟨v,h3,h4⟩:=QkQ h1 (RelL.ext hx _ _ h2);exact⟨v,h3,v,(λb o=>Qlf g b o/\W.heap.size<=b),rfl,I.below.below (λk hk=>bC k hk),λb o h=>⟨h.2,by
  rcases h.1 with(h | ⟨i,h⟩) | ⟨s,h⟩
  .exact I.lt b o h
  .exact(I.boxb i b h).2.1
  .exact(I.tokb s b h).1⟩,h4⟩
theorem Qdq (hc:CxOk P c) {W:World} (I:Inv c.N m0 (Qed W []) g σ a w) {fn:Func} {r:List D} {d:D} (bP:Qgs c.Γ σ fn.results.toList=some r) (hd:Qfd r=d):bodyPostD P fn (RetR m0 W d) .ret a w:=by
 subst hd;show Leaves P fn a.tmps (RetR m0 W (Qfd r)) a.defers .returning w;rw[I.noMark (λh=>h)];exact Qw4 hc I bP
theorem RetR.imp {m:Nat->Nat->Prop} {W:World} {d d':D} {e:Ending} {w:World} (h:DImp d d') (hr:RetR m W d e w):RetR m W d' e w:=by
 obtain⟨v,m',h1,h2,h3,h4⟩:=hr;exact⟨v,m',h1,h2,h3,h _ _ _ h4⟩
theorem QgM {α:Type} (R:Cod α) (r:α) (hc:CxOk P c) {W:World} {l:List Deferred} (I:Inv c.N m0 (Qed W l) g σ a w) {fn:Func} {rs:List D} (bP:Qgs c.Γ σ fn.results.toList=some rs) (hd:R.dec (Qfd rs)=some r):∃v,(results fn a.tmps).run P w= .ok v w/\RetR m0 W (R.enc r) (.returned v) w:=by
 obtain⟨v,h1,h2⟩:=Qw4 hc I bP;exact⟨v,h1,h2.imp (R.ed _ _ hd)⟩
theorem Qo8 {α:Type} (R:Cod α) (r:α) (hc:CxOk P c) {W:World} (I:Inv c.N m0 (Qed W []) g σ a w) {fn:Func} {rs:List D} (bP:Qgs c.Γ σ fn.results.toList=some rs) (hd:R.dec (Qfd rs)=some r):bodyPostD P fn (RetR m0 W (R.enc r)) .ret a w:=by
 show Leaves P fn a.tmps (RetR m0 W (R.enc r)) a.defers .returning w;rw[I.noMark (λh=>h)];exact QgM R r hc I bP hd
theorem QcR {f:Nat} {fn:Func} {cd:Code} (hf:P.funcs[f]?=some fn) (hb:fn.body=some cd) {N:Nat} (hN:fn.ntmps=N) {ds:List D} {d:D} (hl:ds.length<=N)
  (h:∀(m:Nat->Nat->Prop) (w:World) (a:Act),Inv N m (Qed w []) (Qzh m) ⟨Qqm 0 ds,[],[],[]⟩ a w->a.defers=[]->cd.wpIn Fence.wide 0 P (bodyPostD P fn (RetR m w d)) a w):PureC P f ds d:=by
 intro m w vs hm hG hr;exact calls_of_wp_defers hf hb (wpIn_wide.1 (h m w _ (Qs0 (P:=P) hN hl hm hG hr) rfl))
def QHy (c:Cx) (m0:Nat->Nat->Prop) (w0:Base) (Q:Exit->Act->World->Prop):Option (AEx×St)->Prop
 | some (e,σ')=>∀g' a' w',Inv c.N m0 w0 g' σ' a' w'->Q e.out a' w'
 | none=>False
theorem QG (Q:Exit->Act->World->Prop):QHy c m0 w0 Q (some (e,σ'))=∀g' a' w',Inv c.N m0 w0 g' σ' a' w'->Q e.out a' w':=rfl
theorem QcQ {b:Code} {σ0:St} {R:Option (AEx×St)} (hL:c.loop b σ0=R) (S:Nat->St) (n:Nat) (h0:σ0=S 0) (K:Option (AEx×St)->Prop) (hs:∀j,j < n->c.code b (S j)=some (.normal,S (j+1))) (hF:n < c.F) (hK:K none->False) (h:K (QuZ (c.code b (S n)))):K R:=by
 subst h0;cases hc:c.code b (S n)with
 | none=>rw[hc]at h; exact(hK h).elim
 | some p=>
  obtain⟨e,σ'⟩:=p;rw[hc]at h;cases e with
  | normal=>exact(hK h).elim
  | _=>rw[<-hL,Qec S _ σ' n (by simp) hs hc hF]; exact h
theorem QIS {cd:Code} {o:Nat->Option Nat} (h:(QF cd).all (λd=>(o d).isNone)=true):∀d∈QF cd,o d=none:=λd hd=>by
 have:=Zl.1 h d hd;simpa using this
theorem Qdk (hc:CxOk P c) {cd:Code} (hd:QaO c.diff c.md c.pq cd=true) (bC:QkX cd=true) (I:Inv c.N m0 w0 g σ a w) (aN:∀d∈QF cd,w0.out d=none) {Q:Exit->Act->World->Prop} (hQ:QHy c m0 w0 Q (c.code cd σ)):cd.wpIn Fence.wide 0 P Q a w:=by
 cases h:c.code cd σ with
 | none=>rw[h]at hQ; exact hQ.elim
 | some r=>
  obtain⟨e,σ'⟩:=r;rw[h]at hQ;exact QiD hc cd hd Fence.wide 0 (.inl rfl) m0 w0 (.inl bC) σ e σ' h aN g a w I Q hQ
def Qeh:Nat->Code->Code
 | 0,.seq a _=>a
 | k+1,.seq a b=> .seq a (Qeh k b)
 | _,c=>c
def QiP:Nat->Code->Code
 | 0,.seq _ b=>b
 | k+1,.seq _ b=>QiP k b
 | _,_=> .skip
def Qs1:Nat->Code->Bool
 | 0,.seq _ _=>true
 | k+1,.seq _ b=>Qs1 k b
 | _,_=>false
theorem Qdm (hc:CxOk P c) {Q:Exit->Act->World->Prop} :∀(k:Nat) (cd:Code),Qs1 k cd=true->QaO c.diff c.md c.pq (Qeh k cd)=true->QkX (Qeh k cd)=true->(∀d∈QF (Qeh k cd),w0.out d=none)->∀(σ:St) (g:Gh) (a:Act) (w:World),Inv c.N m0 w0 g σ a w->
  QHy c m0 w0 (λe a' w'=>match e with | .normal=>(QiP k cd).wpIn Fence.wide 0 P Q a' w' | e=>Q e a' w') (c.code (Qeh k cd) σ)->cd.wpIn Fence.wide 0 P Q a w
 | 0,.seq x y,_,hd,bC,aN,σ,g,a,w,I,hQ=>by
  refine wpIn_seq (Qdk (cd:=x) hc hd bC I aN ?_);simp only[Qeh]at hQ;cases h:c.code x σ with
  | none=>rw[h]at hQ; exact hQ.elim
  | some r=>
   obtain⟨e,σ'⟩:=r;rw[h,QG]at hQ;rw[QG];intro g' a' w' I';have:=hQ g' a' w' I';cases e<;>exact this
 | k+1,.seq x y,tP,hd,bC,aN,σ,g,a,w,I,hQ=>by
  simp only[Qeh,QaO,QkX,QF,Qs1,Za,Zp]at tP hd bC aN hQ;refine wpIn_seq (Qdk (cd:=x) hc hd.1 bC.1 I (λd h=>aN d (.inl h)) ?_);simp only[Cx.code]at hQ;cases h:c.code x σ with
  | none=>rw[h]at hQ; exact hQ.elim
  | some r=>
   obtain⟨e,σ'⟩:=r;rw[h]at hQ;rw[QG];intro g' a' w' I';cases e with
   | normal=>exact Qdm hc k y tP hd.2 bC.2 (λd h=>aN d (.inr h)) σ' g' a' w' I' hQ
   | exit i=>exact hQ g' a' w' I'
   | ret=>exact hQ g' a' w' I'
   | pan v=>exact hQ g' a' w' I'
 | 0,.skip,h,_,_,_,_,_,_,_,_,_=>by cases h
 | 0,.label _,h,_,_,_,_,_,_,_,_,_=>by cases h
 | 0,.region _ _ _,h,_,_,_,_,_,_,_,_,_=>by cases h
 | 0,.cond _ _ _,h,_,_,_,_,_,_,_,_,_=>by cases h
 | 0,.block _ _,h,_,_,_,_,_,_,_,_,_=>by cases h
 | 0,.loop _,h,_,_,_,_,_,_,_,_,_=>by cases h
 | 0,.rangeFunc _ _ _ _,h,_,_,_,_,_,_,_,_,_=>by cases h
 | 0,.exit _,h,_,_,_,_,_,_,_,_,_=>by cases h
 | 0,.scope _,h,_,_,_,_,_,_,_,_,_=>by cases h
 | 0,.goto _,h,_,_,_,_,_,_,_,_,_=>by cases h
 | 0,.ret,h,_,_,_,_,_,_,_,_,_=>by cases h
 | 0,.refuse _,h,_,_,_,_,_,_,_,_,_=>by cases h
 | _+1,.skip,h,_,_,_,_,_,_,_,_,_=>by cases h
 | _+1,.label _,h,_,_,_,_,_,_,_,_,_=>by cases h
 | _+1,.region _ _ _,h,_,_,_,_,_,_,_,_,_=>by cases h
 | _+1,.cond _ _ _,h,_,_,_,_,_,_,_,_,_=>by cases h
 | _+1,.block _ _,h,_,_,_,_,_,_,_,_,_=>by cases h
 | _+1,.loop _,h,_,_,_,_,_,_,_,_,_=>by cases h
 | _+1,.rangeFunc _ _ _ _,h,_,_,_,_,_,_,_,_,_=>by cases h
 | _+1,.exit _,h,_,_,_,_,_,_,_,_,_=>by cases h
 | _+1,.scope _,h,_,_,_,_,_,_,_,_,_=>by cases h
 | _+1,.goto _,h,_,_,_,_,_,_,_,_,_=>by cases h
 | _+1,.ret,h,_,_,_,_,_,_,_,_,_=>by cases h
 | _+1,.refuse _,h,_,_,_,_,_,_,_,_,_=>by cases h
theorem QA3 {o:Oper} {next:Act->World->Prop} {Q:Exit->Act->World->Prop} {d:Deferred} (hr:(execOp a.eval o).run P w= .ok (.defer d) w) (hn:next ({ a with defers:=d::a.defers}.put o.dst undef) w):o.wpIn Fence.wide 0 P a w next Q:=by
 refine⟨λf _=>trivial,?_⟩;show o.uponIn Fence.wide 0 P a next Q ((Oper.semAt none a.eval o).run P w)
 rw[Oper.semAt_none,hr];exact hn
theorem Qqj {fn:Func} {tm:Array Value} {R:Ending->World->Prop} {d:Deferred} {G:Nat} {caps:Array Value} (hd:d= { target:= .fn (.func G) caps,args:= #[]}) (iW:∀xs w,(callFunc G xs).run P w= .ok (.enter G xs) w)
  (h:CallsD P G caps .returning w λe u gP=>e= .returned (.tuple #[])/\u= .returning/\gP=w) (hr:∃v,(results fn tm).run P w= .ok v w/\R (.returned v) w):Leaves P fn tm R [d] .returning w:=by
 subst hd;refine⟨by simp,.func G,caps,G,caps,rfl,by simp[invoke,iW],?_⟩
 intro cf cs vK;obtain⟨e,u',w',fr,⟨rfl,rfl,rfl⟩,hs⟩:=h cf cs vK;exact⟨_,_,_,fr,hr,hs⟩
theorem Qpw {fn:Func} {tm:Array Value} {R:Ending->World->Prop} {d:Deferred} {G:Nat} {caps:Array Value} {v:Value} {K:World->Prop} (hd:d= { target:= .fn (.func G) caps,args:= #[]}) (iW:∀xs w,(callFunc G xs).run P w= .ok (.enter G xs) w)
  (h:CallsD P G caps (.panicking [{ v,recovered:=false}]) w λe u gP=>e= .returned (.tuple #[])/\u= .panicking [{ v,recovered:=true}]/\K gP) (hr:∀gP,K gP->∃v,(results fn tm).run P gP= .ok v gP/\R (.returned v) gP):Leaves P fn tm R [d] (.panicking [{ v,recovered:=false}]) w:=by
 subst hd;refine⟨by simp,.func G,caps,G,caps,rfl,by simp[invoke,iW],?_⟩
 intro cf cs vK;obtain⟨e,u',w',fr,⟨rfl,rfl,hk⟩,hs⟩:=h cf cs vK;exact⟨_,_,_,fr,hr w' hk,hs⟩
end
section
variable {P:Program} {c:Cx} {N:Nat} {m0:Nat->Nat->Prop} {w0:Base} {g:Gh} {σ σ':St} {a:Act} {w w':World} {e:AEx}
theorem Inv.laterA (I:Inv N m0 w0 g σ a w) {q:Nat->Prop} (k:KeepsW w q w') (kn:KeepN w w') (hq:∀b,q b->w0.heap.size<=b/\Away g b):Inv N m0 w0 g σ a w':=by
 have hi:∀b o,g.imm b o->w'.heap[b]?=w.heap[b]?:=λb o h=>k.block b (I.lt b o h) λsI=>(hq b sI).2.imm o h;have hb:∀i b,g.box i=some b->w'.heap[b]?=w.heap[b]?:=λi b h=>k.block b (I.boxb i b h).2.1 λsI=>(hq b sI).2.box i h;have ht:∀t b,g.tok t=some b->w'.heap[b]?=w.heap[b]?:=λt b h=>k.block b (I.tokb t b h).1 λsI=>(hq b sI).2.tok t h;have aK:∀b o,g.imm b o->w'.cell? ⟨b,o,none⟩=w.cell? ⟨b,o,none⟩:=λb o h=>World.cell?_of_block (w:=w) (hi b o h);have e:Tr g w σ.toks g w' σ.toks:=⟨⟨λ_ _ h=>h,aK⟩,λ_ _ h=>h,λ_ h=>h,λt _ h=>⟨h,λb cL=>⟨cL,λ_ hx=>hx,ht t b cL⟩⟩⟩;exact⟨I.below.but k (λb h1 h2=>absurd h1 (Nat.not_lt.2 (hq b h2).1)),I.size,Qdx I.defers kn,λb o h=>Nat.lt_of_lt_of_le (I.lt b o h) k.size,I.old,I.new,λt x h=>RelX.tr e (I.tmps t x h),λi b h=>⟨(I.boxb i b h).1,Nat.lt_of_lt_of_le (I.boxb i b h).2.1 k.size,(I.boxb i b h).2.2⟩,I.boxi,λt b h=>⟨Nat.lt_of_lt_of_le (I.tokb t b h).1 k.size,(I.tokb t b h).2⟩,I.toki,λb cs h blk aG=>BoxAt.tr e (I.boxes b cs h blk aG) (hb b blk aG),I.out,Qio I.fz kn,λi mc h blk aG=>(I.maps i mc h blk aG).keep (hb i blk aG),QbG I.cells I.old aK⟩
theorem Inv.awayNew (I:Inv N m0 w0 g σ a w) {b:Nat} (h:w.heap.size<=b):Away g b:=
 ⟨λo ho=>by have:=I.lt b o ho; omega,λi hi=>by have:=(I.boxb i b hi).2.1; omega,λt ht=>by have:=(I.tokb t b ht).1; omega⟩
def QAN (c:Cx) (m0:Nat->Nat->Prop) (w0:Base) (g:Gh) (w:World) (Q:Exit->Act->World->Prop):Option (AEx×St)->Prop
 | some (e,σ')=>∀g' a' w',Inv c.N m0 w0 g' σ' a' w'->a'.defers=[]->w.heap.size<=w'.heap.size->(∀b,b < w.heap.size->Away g b->Away g' b/\w'.heap[b]?=w.heap[b]?)->Q e.out a' w'
 | none=>False
theorem Qbs (Q:Exit->Act->World->Prop):QAN c m0 w0 g w Q (some (e,σ'))=∀g' a' w',Inv c.N m0 w0 g' σ' a' w'->a'.defers=[]->w.heap.size<=w'.heap.size->(∀b,b < w.heap.size->Away g b->Away g' b/\w'.heap[b]?=w.heap[b]?)->Q e.out a' w':=rfl
theorem QsS {Q:Exit->Act->World->Prop} {r:Option (AEx×St)} (h:r=some (e,σ')) (hQ:∀g' a' w',Inv c.N m0 w0 g' σ' a' w'->a'.defers=[]->w.heap.size<=w'.heap.size->(∀b,b < w.heap.size->Away g b->Away g' b/\w'.heap[b]?=w.heap[b]?)->Q e.out a' w'):QAN c m0 w0 g w Q r:=by subst h; exact hQ
theorem Qiy (hc:CxOk P c) {cd:Code} (hd:QaO c.diff c.md c.pq cd=true) (bC:QkX cd=true) (I:Inv c.N m0 w0 g σ a w) (ha:a.defers=[]) (dV:w0.fz=[]) (dL:w0.df=[]) (aN:∀d∈QF cd,w0.out d=none) {Q:Exit->Act->World->Prop}
  (hQ:QAN c m0 w0 g w Q (c.code cd (QcH (QF cd) (Qds (QF cd) σ.tmps) σ))):cd.wpIn Fence.wide 0 P Q a w:=by
 obtain⟨I1,hb⟩:=I.forget (ha.trans dL.symm) (QF cd) aN;have pF:∀b,Away g b->Away (Q5 (QF cd) g) b:=λb h=>⟨h.imm,λi hi=>by
  simp only[Q5]at hi;split at hi
  .cases hi
  .exact h.box i hi,h.tok⟩
 cases h:c.code cd (QcH (QF cd) (Qds (QF cd) σ.tmps) σ)with
 | none=>rw[h]at hQ; exact hQ.elim
 | some r=>
  obtain⟨e,σ'⟩:=r;rw[h,Qbs]at hQ;have IB:=I1.rebase (a':=a) [] (λp hp=>by cases hp) (tmps:=(QcH (QF cd) (Qds (QF cd) σ.tmps) σ).tmps) (λt x h=>(I1.tmps t x h).base) I1.size ha
  refine QiD hc cd hd Fence.wide 0 (.inl rfl) (Q5 (QF cd) g).imm (Qfb w (Q5 (QF cd) g) []) (.inl bC) _ e σ' h hb _ a w IB Q λg' a' w' I'=>?_;refine hQ g' a' w' (Inv.unbase dL I1 (λp hp=>by rw[dV]at hp; cases hp) I') (I'.noMark (c:=c) (λh=>h)) I'.below.size λb hb hw=>⟨QdT (pF b hw) hb I',I'.below.block b hb ?_⟩
  rintro(⟨i,hi⟩ | ⟨s,hs⟩)
  .exact(pF b hw).box i hi
  .exact hw.tok s hs
theorem QhV (hc:CxOk P c) (k:Nat) {cd:Code} (tP:Qs1 k cd=true) (hd:QaO c.diff c.md c.pq (Qeh k cd)=true) (bC:QkX (Qeh k cd)=true) (I:Inv c.N m0 w0 g σ a w) (ha:a.defers=[]) (dV:w0.fz=[]) (dL:w0.df=[]) (aN:∀d∈QF (Qeh k cd),w0.out d=none) {Q:Exit->Act->World->Prop}
  (hQ:QAN c m0 w0 g w (λe a' w'=>match e with | .normal=>(QiP k cd).wpIn Fence.wide 0 P Q a' w' | e=>Q e a' w') (c.code (Qeh k cd) (QcH (QF (Qeh k cd)) (Qds (QF (Qeh k cd)) σ.tmps) σ))):cd.wpIn Fence.wide 0 P Q a w:=by
 obtain⟨I1,hb⟩:=I.forget (ha.trans dL.symm) (QF (Qeh k cd)) aN;have pF:∀b,Away g b->Away (Q5 (QF (Qeh k cd)) g) b:=λb h=>⟨h.imm,λi hi=>by
  simp only[Q5]at hi;split at hi
  .cases hi
  .exact h.box i hi,h.tok⟩
 have IB:=I1.rebase (a':=a) [] (λp hp=>by cases hp) (tmps:=(QcH (QF (Qeh k cd)) (Qds (QF (Qeh k cd)) σ.tmps) σ).tmps) (λt x h=>(I1.tmps t x h).base) I1.size ha
 refine Qdm hc k cd tP hd bC hb _ _ a w IB ?_;cases h:c.code (Qeh k cd) (QcH (QF (Qeh k cd)) (Qds (QF (Qeh k cd)) σ.tmps) σ)with
 | none=>rw[h]at hQ; exact hQ.elim
 | some r=>
  obtain⟨e,σ'⟩:=r;rw[h,Qbs]at hQ;rw[QG];intro g' a' w' I';refine hQ g' a' w' (Inv.unbase dL I1 (λp hp=>by rw[dV]at hp; cases hp) I') (I'.noMark (c:=c) (λh=>h)) I'.below.size λb hb hw=>⟨QdT (pF b hw) hb I',I'.below.block b hb ?_⟩
  rintro(⟨i,hi⟩ | ⟨s,hs⟩)
  .exact(pF b hw).box i hi
  .exact hw.tok s hs
def QPb (F:Fence) (n:Nat) (P:Program) (ops:Array Oper) (post:List Oper) (Q:Exit->Act->World->Prop):Exit->Act->World->Prop
 | .normal,a,w=>wpListIn F n P ops Q post a w
 | e,a,w=>Q e a w
theorem Qdz {F:Fence} {n:Nat} {ops:Array Oper} {Q:Exit->Act->World->Prop} {post:List Oper} :∀(pre:List Oper) (a:Act) (w:World),wpListIn F n P ops (QPb F n P ops post Q) pre a w->wpListIn F n P ops Q (pre++post) a w
 | [],a,w,h=>h
 | o::t,a,w,h=>by
  simp only[List.cons_append];unfold wpListIn at h|-;split at h
  .rename_i hw;rw[if_pos hw];exact Oper.wpIn_mono2 (λa w h=>Qdz t a w h) (λ_ _ _ h=>h) (λh=>h) h
  .rename_i hw;rw[if_neg hw];exact⟨h.1,Qdz t _ _ h.2⟩
def lastK (c:Cx) (m0:Nat->Nat->Prop) (w0:Base) (g:Gh) (w:World) (R:Act->World->Prop):Option St->Prop
 | some σ'=>∀g' a' w',Inv c.N m0 w0 g' σ' a' w'->a'.defers=[]->w.heap.size<=w'.heap.size->(∀b,b < w.heap.size->Away g b->Away g' b/\w'.heap[b]?=w.heap[b]?)->R a' w'
 | none=>False
theorem Qho (R:Act->World->Prop):lastK c m0 w0 g w R (some σ')=∀g' a' w',Inv c.N m0 w0 g' σ' a' w'->a'.defers=[]->w.heap.size<=w'.heap.size->(∀b,b < w.heap.size->Away g b->Away g' b/\w'.heap[b]?=w.heap[b]?)->R a' w':=rfl
theorem Qyp (hc:CxOk P c) (k:Nat) {id:Nat} {ops:Array Oper} {o:Oper} (uG:ops.toList.drop k=[o]) (hg:o.guard=none) (bC:QR (ops.toList.take k)=[]) (dE:Qav [] σ=true) (I:Inv c.N m0 w0 g σ a w) (ha:a.defers=[]) (dV:w0.fz=[]) (dL:w0.df=[]) {Q:Exit->Act->World->Prop}
  (hQ:lastK c m0 w0 g w (λa' w'=>o.wpIn Fence.wide 0 P a' w' (λa2 w2=>Q .normal a2 w2) Q) (c.opsE ops.toList 0 (ops.toList.take k) σ)):(Code.region id ops false).wpIn Fence.wide 0 P Q a w:=by
 have dB:ops.toList=ops.toList.take k++[o]:=by rw[<-uG,List.take_append_drop]
 cases h:c.opsE ops.toList 0 (ops.toList.take k) σ with
 | none=>rw[h]at hQ; exact hQ.elim
 | some σ'=>
  rw[h,Qho]at hQ;have IB:=I.rebase (a':=a) [] (λp hp=>by cases hp) (tmps:=σ.tmps) (λt x h=>(I.tmps t x h).base) I.size ha
  obtain⟨_,c7⟩:=QaJ dE;obtain⟨I1,_,cR⟩:=IB.start (al:=[]) (λd h=>by cases h) dE c7
  refine wpIn_region_list ?_;generalize ops.toList.take k=pre at*;rw[dB];refine Qdz pre a w (Qbt (.inl rfl) hc ops pre 0 σ σ' _ a w h I1 (by rw[bC]; exact List.nodup_nil) (by rw[bC]; intro d h; cases h) (λj _=>cR j) λg' a' w' I'=>?_)
  have tR:(Q5 [] g).box=g.box:=by funext i; simp[Q5]
  show wpListIn Fence.wide 0 P ops Q [o] a' w';unfold wpListIn;rw[if_pos (by simp[Region.wanted,hg])]
  refine hQ g' a' w' (Inv.unbase dL I (λp hp=>by rw[dV]at hp; cases hp) I') (I'.noMark (c:=c) (λh=>h)) I'.below.size λb hb hw=>⟨?_,I'.below.block b hb ?_⟩
  .exact QdT hw hb I'
  .rintro(⟨i,hi⟩ | ⟨s,hs⟩)
   .exact hw.box i hi
   .exact hw.tok s hs
theorem Qpd {b:Code} {Q:Exit->Act->World->Prop} (J:Nat->Act->World->Prop) (N:Nat) (hs:∀k,k < N->∀a w,J k a w->b.wpIn Fence.wide 0 P (Exit.then (J (k+1)) Q) a w) (he:∀a w,J N a w->b.wpIn Fence.wide 0 P (Exit.then (λ_ _=>False) Q) a w) (h:J 0 a w):(Code.loop b).wpIn Fence.wide 0 P Q a w:=by
 refine wpIn_loop_rounds (N+1) ?_;have key:∀(j k:Nat),k+j=N->∀a w,J k a w->Code.roundsIn Fence.wide 0 P b Q (j+1) a w:=by
  intro j
  induction j with
  | zero=>
   intro k hk a w hJ;rw[roundsIn_succ];have s5:k=N:=by omega
   subst s5;refine wpIn_mono (he a w hJ) λe a w h=>?_;cases e<;>first | exact h | exact h.elim
  | succ j ih=>
   intro k hk a w hJ;rw[roundsIn_succ];refine wpIn_mono (hs k (by omega) a w hJ) λe a w h=>?_
   cases e<;>first | exact h | exact ih (k+1) (by omega) a w h
 exact key N 0 (by omega) a w h
theorem QKE (hc:CxOk P c) {id T d:Nat} {ty:TypeId} {pos:String} {i:TyI} (hT:c.Γ T=some i) (hd:d < c.N) (I:Inv c.N m0 w0 g σ a w) {Q:Exit->Act->World->Prop}
  (hQ:∀a',a'.defers=a.defers->Inv c.N m0 w0 g { σ with tmps:=(d,.d (.v (.pointer (some ⟨w.heap.size,0,none⟩))))::σ.tmps} a' (w.alloc (.cells i.zero.cells T))->Q .normal a' (w.alloc (.cells i.zero.cells T))):(Code.region id #[⟨some d,.alloc T,ty,pos,#[],none⟩] false).wpIn Fence.wide 0 P Q a w:=by
 have aP:=hc.ty T i hT;refine wpIn_region_list ?_;unfold wpListIn;rw[if_pos (by simp[Region.wanted])]
 refine Qck (.inl rfl) (v:= .pointer (some ⟨w.heap.size,0,none⟩)) (w':=w.alloc (.cells i.zero.cells T)) ?_ ?_
 .simp only[execOp,Instr.alloc,Sem.run_bind,Qjf aP,Zo,newVar,newRow]; rfl
 .refine hQ _ (Qa0 _ _ _) ?_;exact(I.later ((Below.refl _ w).alloc (Zr _) _)).put (d:=some d) (λx h=>by cases h; exact hd) (x:= .d (.v (.pointer (some ⟨w.heap.size,0,none⟩)))) (by simp[RelX,Rel])
end
section
variable {P:Program} {c:Cx} {m0:Nat->Nat->Prop} {w0:Base} {g:Gh} {σ:St} {a:Act} {w:World}
theorem Inv.freeze (I:Inv c.N m0 w0 g σ a w) (ha:a.defers=w0.df) {b t:Nat} {cs:List X} {ds:List D} (hb:Qt σ.boxes b=some cs) (hd:Qbp cs=some ds) (ht:Qt σ.tmps t=some (.loc b 0)) (aN:w0.out b=none):
  ∃g',Inv c.N m0 w0 g' (QcH [b] ((t,.d (.dat ds.length [ds] 0 0))::Qds [b] σ.tmps) σ) a w:=by
 obtain⟨blk,aG,hv⟩:=I.tmps t _ ht;obtain⟨I1,jI⟩:=I.forget ha [b] (λd hd=>by rw[List.mem_singleton.1 hd]; exact aN)
 obtain⟨cv,ty,hh,hs,hc⟩:=I.boxes b cs hb blk aG;have hl:=Qc3 hd;have kJ:cs.length<=cv.size:=hs;have hrel:RelL g.imm w ds (cv.toList.take cs.length):=Qc4 (base:=w0.heap.size) (toks:=σ.toks) hd (by rw[List.length_take,Array.length_toList]; exact Nat.min_eq_left kJ) λj x v k1 k2=>by
  rw[List.getElem?_take]at k2;split at k2
  .exact(hc j x v k1 (by simpa using k2)).2
  .cases k2
 have fG:=I.boxb b blk aG;have bA:∀i b',(Q5 [b] g).box i=some b'->i≠b/\g.box i=some b':=λi b' h=>by
  simp only[Q5]at h;split at h
  .cases h
  .rename_i hn;exact⟨λe=>hn (by subst e; simp),h⟩
 have e:Tr (Q5 [b] g) w σ.toks { Q5 [b] g with imm:=λk o=>g.imm k o\/k=blk} w σ.toks:=
  ⟨⟨λ_ _ h=> .inl h,λ_ _ _=>rfl⟩,λ_ _ h=>h,λ_ h=>h,λt _ h=>⟨h,λb' dO=>⟨dO,λx hx=>hx.resolve_right λe=>(I.tokb t b' dO).2.2 b (by rw[aG,e]),rfl⟩⟩⟩
 refine⟨{ Q5 [b] g with imm:=λk o=>g.imm k o\/k=blk},?_⟩
 refine⟨I1.below,I1.size,I1.defers,λk o h=>h.elim (I1.lt k o) (λe=>by subst e; exact fG.2.1),λk o h=> .inl (I1.old k o h),λk o h=>h.elim (I1.new k o) (λe=>by subst e; exact .inr fG.1),λt' x hx=>?_,λi b' h=>?_,I1.boxi,I1.tokb,I1.toki,λb' bK h cF aU=>BoxAt.tr e (I1.boxes b' bK h cF aU) rfl,I1.out,I1.fz,I1.maps,I1.cells⟩
 .simp only[QcH,Qt]at hx;split at hx
  .rename_i iU;subst iU;simp only[Zs]at hx;subst hx;rw[hv];simp only[RelX,Rel];refine⟨by simp,blk,0,by simp,RelRows.of λi r hr=>?_⟩
   cases i with
   | succ i=>simp at hr
   | zero=>
    simp only[List.getElem?_cons_zero,Zs]at hr;subst hr;refine⟨rfl,RelCells.of λj d hj=>?_⟩;obtain⟨v,gR,hr⟩:=hrel.get _ _ hj;have aO:j < cs.length:=by rw[<-hl]; exact(Zi.1 hj).1
    rw[List.getElem?_take,if_pos aO]at gR;have qV:cv[j]?=some v:=by simpa using gR
    refine⟨v,.inr rfl,?_,(hc j cs[j] v (Zg aO) qV).1,QcD (λ_ _ h=> .inl h) hr⟩;have:=QdN blk (0+0*ds.length+j) 0 cv ty hh;simpa[qV]using this
  .exact RelX.tr e (I1.tmps t' x hx)
 .obtain⟨h1,h2⟩:=bA i b' h;have:=I.boxb i b' h2;exact⟨this.1,this.2.1,λo ho=>ho.elim (this.2.2 o) λe=>h1 (I.boxi i b b' h2 (by rw[aG,e]))⟩
end
section
variable {P:Program} {c:Cx} {m0:Nat->Nat->Prop} {w0:Base} {g:Gh} {σ σ':St} {a:Act} {w:World}
theorem Qk6 (hc:CxOk P c) {T ty e:TypeId} {ti j:TyI} {k:Nat} {aF:List (List D)} {vs vx:Value} (hT:c.Γ T=some ti) (he:ti.elem=some e) (hj:c.Γ e=some j) (aS:aF≠[]) (c4:aF.length<=140737488355328) (c5:aF.length*j.bytes<=140737488355328)
  (I:Inv c.N m0 w0 g σ a w) (rs:RelX g w w0.heap.size σ.toks (.sl k [] .ex) vs) (rx:Rel g.imm w (.sl j.size aF) vx) {d:Nat} (hd:d < c.N) (hg:g.box d=none) (rR:Qt σ.maps d=none):
  ∃m v w',(Builtin.append_ #[T,T] ty #[vs,vx]).run P w= .ok v w'/\Inv c.N m0 w0 { g with box:=λi=>if i=d then some w.heap.size else g.box i} { σ with tmps:=(d,.bs d 0 aF.length j.size)::σ.tmps,boxes:=(d,aF.flatten.map X.d++List.replicate m (.d .top))::σ.boxes} (a.put (some d) v) w':=by
 have hu:=(hc.ty T ti hT).und;have gS:P.underlying T=some (.slice e):=by
  unfold TyI.elem at he;split at he
  .rename_i e' hd; simp only[Zs]at he; subst he; rw[hu,hd]
  .cases he
 have bN:=hc.ty _ _ hj;obtain⟨fj,f1,f2,f3,f4⟩:=bN.inf;obtain⟨_,ad,rfl⟩:=rs;simp only[Rel]at rx;obtain⟨l1,xa,xc,rfl,yX,dP⟩:=rx;obtain⟨xb,xo,rfl,gI⟩:=dP.resolve_left aS;obtain⟨aJ,n1,n2,n3,n4⟩:=Qcr gI;have rU:0 < aF.length:=List.length_pos_iff.2 aS;have cP:∀q u,aJ[q]?=some u->w.cell? ((⟨xb,xo,none⟩:Addr).add q)=some u:=λq u hq=>by rw[QaS]; exact(n2 q u hq).2.1
 have bG:∀u∈aJ,u.oneCell'=true:=λu hu=>by
  obtain⟨q,hq,rfl⟩:=List.getElem_of_mem hu;exact(n2 q _ (Zg hq)).2.2
 have o5:(Builtin.firstCells fj.size 0 (.slice ad 0 0)).run P w.drew= .ok ([]:List Value).toArray w.drew:=by
  cases ad<;>simp[Builtin.firstCells,loadCells,loadCellsFrom]
 have aH:=Qcg (P:=P) (w:=w) T ty e fj j.zero gS f1 f4 ad 0 0 [] o5 ⟨xb,xo,none⟩ aF.length xc aJ (by rw[n1,f2]) cP (by omega) (by omega)
  (by rw[f3]; exact growslice_fits (by omega) (by simpa using c5))
 have hge:=grownCap_ge w (0+aF.length) 0 e;generalize grownCap w (0+aF.length) 0 e=bO at aH hge;generalize hZ:Builtin.zeroCells j.zero.cells (bO - (0+aF.length))=Z at aH;have hZ1:∀v∈Z.toList,v.oneCell'=true:=by rw[<-hZ]; exact Qhy bN.zone _
 have e1:(([]:List Value).toArray++aJ.toArray++Z)=(aJ++Z.toList).toArray:=by
  apply Array.ext'; simp
 rw[e1]at aH;have aI:aF.flatten.length=aJ.length:=n3.length.symm;refine⟨Z.toList.length,_,_,aH,?_⟩;have I1:=I.drew;refine I1.alloc hd hg rR (.bs d 0 aF.length j.size) _ (λg' w' toks hb=>?_) _ _ e (by rw[List.length_append,List.length_append,List.length_map,List.length_replicate,aI]; omega) (λv hv=>?_) (λq x v h1 h2=>?_)
 .exact⟨w.heap.size,bO,hb,by simp,by omega⟩
 .rcases Zp.1 hv with h | h
  .exact bG v h
  .exact hZ1 v h
 .rw[List.getElem?_append]at h1 h2;rw[List.length_map,aI]at h1;split at h1
  .rename_i aQ;rw[if_pos aQ]at h2;rw[List.getElem?_map]at h1;obtain⟨y,hy,rfl⟩:=Option.map_eq_some_iff.1 h1;obtain⟨v',q1,q2⟩:=n3.get _ _ hy;rw[q1]at h2; cases h2;exact Rel.ext (m:=g.imm) (m':=g.imm) (w:=w) (w':=w.drew) ⟨λ_ _ h=>h,λ_ _ _=>rfl⟩ y v q2
  .rw[List.getElem?_replicate]at h1;split at h1
   .cases h1; trivial
   .cases h1
def regQ (c:Cx) (m0:Nat->Nat->Prop) (w0:Base) (R:Act->World->Prop):Option St->Prop
 | some σ'=>∀g' a' w',Inv c.N m0 w0 g' σ' a' w'->R a' w'
 | none=>False
theorem Qw9 (R:Act->World->Prop):regQ c m0 w0 R (some σ')=∀g' a' w',Inv c.N m0 w0 g' σ' a' w'->R a' w':=rfl
def QrC (c:Cx) (ops:List Oper) (k d:Nat) (xs xx:Operand) (T:TypeId) (σ:St):Option (St×Nat×List (List D)×Nat):=
 match c.opsE ops 0 (ops.take k) σ with
 | some σ1=>match σ1.ev xs,σ1.ev xx,c.Γ T with
  | .sl _ [] .ex,.d (.sl k' rows),some ti=>match ti.elem with
   | some e=>match c.Γ e with
    | some j=>if k'=j.size/\rows≠[]/\rows.length<=140737488355328/\rows.length*j.bytes<=140737488355328/\d < c.N/\Qav [d] σ1=true then some (σ1,k',rows,j.size)else none
    | none=>none
   | none=>none
  | _,_,_=>none
 | none=>none
def QxQ (σ1:St) (d k:Nat) (rows:List (List D)) (m:Nat):St:= { σ1 with tmps:=(d,.bs d 0 rows.length k)::σ1.tmps,boxes:=(d,rows.flatten.map X.d++List.replicate m (.d .top))::σ1.boxes}
def appK (c:Cx) (id:Nat) (ops:List Oper) (k d:Nat) (m0:Nat->Nat->Prop) (w0:Base) (R:Act->World->Prop):Option (St×Nat×List (List D)×Nat)->Prop
 | some (σ1,_,rows,j)=>∀m,regQ c m0 w0 R ((c.opsE ops (k+1) (ops.drop (k+1)) (QxQ σ1 d j rows m)).map (c.close id))
 | none=>False
theorem QKX (R:Act->World->Prop) {id:Nat} {ops:List Oper} {k d k' j:Nat} {σ1:St} {rows:List (List D)} :appK c id ops k d m0 w0 R (some (σ1,k',rows,j))=∀m,regQ c m0 w0 R ((c.opsE ops (k+1) (ops.drop (k+1)) (QxQ σ1 d j rows m)).map (c.close id)):=rfl
theorem QHG (hc:CxOk P c) (k d:Nat) {id:Nat} {ops:Array Oper} {xs xx:Operand} {T:TypeId} {o:Oper} {cc:Call} (bV:ops.toList[k]?=some o) (jB:o.op= .call cc) (jJ:cc.callee= .builtin .append) (aW:cc.args= #[xs,xx]) (xD:cc.argTypes= #[T,T]) (dZ:o.dst=some d) (hg:o.guard=none)
  (bC:QR (ops.toList.take k)=[]) (xE:QR (ops.toList.drop (k+1))=[]) (dE:Qav [] σ=true) (aN:w0.out d=none) (I:Inv c.N m0 w0 g σ a w) {Q:Exit->Act->World->Prop}
  (hQ:appK c id ops.toList k d m0 w0 (λa' w'=>Q .normal a' w') (QrC c ops.toList k d xs xx T σ)):(Code.region id ops false).wpIn Fence.wide 0 P Q a w:=by
 have fX:ops.toList=ops.toList.take k++(o::ops.toList.drop (k+1)):=by
  have hk:k < ops.toList.length:=(Zi.1 bV).1;have he:ops.toList[k]=o:=(Zi.1 bV).2;rw[<-he,<-List.drop_eq_getElem_cons hk,List.take_append_drop]
 cases h:QrC c ops.toList k d xs xx T σ with
 | none=>rw[h]at hQ; exact hQ.elim
 | some r=>
  obtain⟨σ1,k',rows,js⟩:=r;rw[h,QKX]at hQ;unfold QrC at h;split at h
  .rename_i σ1' iG;split at h
   .rename_i k0 kx xF ti f7 hxx hT;split at h
    .rename_i e he;split at h
     .rename_i j hj;split at h
      .rename_i aR;obtain⟨rfl,c1,c2,c3,c4,nA⟩:=aR;simp only[Zs,Prod.mk.injEq]at h;obtain⟨rfl,_,rfl,rfl⟩:=h;obtain⟨bZ,c7⟩:=QaJ dE;obtain⟨I1,_,cR⟩:=I.start (al:=[]) (λx hx=>by cases hx) dE c7
       refine wpIn_region_list ?_;have xG:=iG;generalize ops.toList.take k=pre at*;generalize ops.toList.drop (k+1)=post at*;rw[fX];refine Qdz pre a w (Qbt (.inl rfl) hc ops pre 0 σ σ1' _ a w iG I1 (by rw[bC]; exact List.nodup_nil) (by rw[bC]; intro d h; cases h) (λj _=>cR j) λg' a' w' I'=>?_)
       show wpListIn Fence.wide 0 P ops Q (o::post) a' w';obtain⟨_,s6⟩:=QaJ nA;obtain⟨I2,pG,s7⟩:=I'.start (al:=[d]) (λx hx=>by rw[List.mem_singleton.1 hx]; exact aN) nA s6
       obtain⟨hb0,qC⟩:=pG d (by simp)
       have hE:=QbD I2;have rs:=hE xs;have rx:=hE xx;rw[f7]at rs;rw[hxx]at rx;obtain⟨m,v,w2,aH,I3⟩:=Qk6 hc (ty:=o.type) hT he hj c1 c2 c3 I2 rs rx c4 hb0 qC;unfold wpListIn;rw[if_pos (by simp[Region.wanted,hg])]
       obtain⟨dst,op,ty,pos,after,guard⟩:=o;obtain⟨callee,args,argTypes⟩:=cc;simp only at jB jJ aW xD dZ hg aH;subst jB jJ aW xD dZ;refine Qck (.inl rfl) (v:=v) (w':=w2) (by simp[execOp,resolve,invoke,builtin,aH]) ?_
       have xH:=hQ m;cases cC:c.opsE ops.toList (k+1) post (QxQ σ1' d j.size xF m)with
       | none=>rw[cC]at xH; exact xH.elim
       | some σ2=>
        rw[cC]at xH;simp only[Option.map_some,Qw9]at xH;refine Qbt (.inl rfl) hc ops post (k+1) _ σ2 _ _ w2 cC I3 (by rw[xE]; exact List.nodup_nil) (by rw[xE]; intro d h; cases h) (λj _=>s7 j) λg5 a5 w5 I5=>?_
        obtain⟨g6,I6⟩:=I5.close id;exact xH g6 a5 w5 I6
      .cases h
     .cases h
    .cases h
   .cases h
  .cases h
theorem Qxl (hc:CxOk P c) {b t:Nat} {cs:List X} {ds:List D} (hb:Qt σ.boxes b=some cs) (hd:Qbp cs=some ds) (ht:Qt σ.tmps t=some (.loc b 0)) (aN:w0.out b=none) (I:Inv c.N m0 w0 g σ a w) (ha:a.defers=w0.df):
  ∃g',Inv c.N m0 w0 g' (QcH [b] ((t,.d (.dat ds.length [ds] 0 0))::Qds [b] σ.tmps) σ) a w:=I.freeze ha hb hd ht aN
end
section
variable {P:Program} {c:Cx} {m0:Nat->Nat->Prop} {w0:Base} {g:Gh} {σ σ':St} {a:Act} {w:World}
theorem Inv.freezeT (I:Inv c.N m0 w0 g σ a w) (ha:a.defers=w0.df) {b n k t:Nat} {tail:List X} {rows:List (List D)}
  (hb:Qt σ.boxes b=some (rows.flatten.map X.d++tail)) (ht:Qt σ.tmps t=some (.bs b 0 n k)) (hall:∀r∈rows,r.length=k) (hn:rows.length=n) (iI:n<=140737488355328) (aN:w0.out b=none):
  ∃g',Inv c.N m0 w0 g' (QcH [b] ((t,.d (.sl k rows))::Qds [b] σ.tmps) σ) a w:=by
 obtain⟨blk,bO,aG,hv,s8⟩:=I.tmps t _ ht;obtain⟨I1,jI⟩:=I.forget ha [b] (λd hd=>by rw[List.mem_singleton.1 hd]; exact aN)
 obtain⟨cv,ty,hh,hs,hc⟩:=I.boxes b _ hb blk aG;have fG:=I.boxb b blk aG;have bA:∀i b',(Q5 [b] g).box i=some b'->i≠b/\g.box i=some b':=λi b' h=>by
  simp only[Q5]at h;split at h
  .cases h
  .rename_i hn;exact⟨λe=>hn (by subst e; simp),h⟩
 have e:Tr (Q5 [b] g) w σ.toks { Q5 [b] g with imm:=λk o=>g.imm k o\/k=blk} w σ.toks:=
  ⟨⟨λ_ _ h=> .inl h,λ_ _ _=>rfl⟩,λ_ _ h=>h,λ_ h=>h,λt _ h=>⟨h,λb' dO=>⟨dO,λx hx=>hx.resolve_right λe=>(I.tokb t b' dO).2.2 b (by rw[aG,e]),rfl⟩⟩⟩
 have bJ:rows.flatten.length<=cv.size:=by
  have:(rows.flatten.map X.d++tail).length<=cv.size:=hs;rw[List.length_append,List.length_map]at this; omega
 have pH:∀(j:Nat) (d:D) (u:Value),rows.flatten[j]?=some d->cv[j]?=some u->u.oneCell'=true/\Rel (λk o=>g.imm k o\/k=blk) w d u:=λj d u h1 h2=>by
  have hj:j < rows.flatten.length:=(Zi.1 h1).1;obtain⟨p1,p2⟩:=hc j (.d d) u (by rw[List.getElem?_append,List.length_map,if_pos hj,List.getElem?_map,h1]; rfl) h2
  exact⟨p1,Rel.ext ⟨λ_ _ h=> .inl h,λ_ _ _=>rfl⟩ _ _ p2⟩
 have aZ:RelRows (λk o=>g.imm k o\/k=blk) w rows blk 0 k:=by
  refine Qno (xs:=cv.toList.take rows.flatten.length) hall (RelL.of (by rw[List.length_take,Array.length_toList]; exact Nat.min_eq_left bJ) λj d u h1 h2=>?_) λj u h=>?_
  .rw[List.getElem?_take]at h2;split at h2
   .exact(pH j d u h1 (by simpa using h2)).2
   .cases h2
  .rw[List.getElem?_take]at h;split at h
   .rename_i hj;have h':cv[j]?=some u:=by simpa using h
    refine⟨.inr rfl,?_,(pH j _ u (Zg hj) h').1⟩;have:=QdN blk (0+j) 0 cv ty hh;simpa[h']using this
   .cases h
 refine⟨{ Q5 [b] g with imm:=λk o=>g.imm k o\/k=blk},?_⟩
 refine⟨I1.below,I1.size,I1.defers,λk o h=>h.elim (I1.lt k o) (λe=>by subst e; exact fG.2.1),λk o h=> .inl (I1.old k o h),λk o h=>h.elim (I1.new k o) (λe=>by subst e; exact .inr fG.1),λt' x hx=>?_,λi b' h=>?_,I1.boxi,I1.tokb,I1.toki,λb' bK h cF aU=>BoxAt.tr e (I1.boxes b' bK h cF aU) rfl,I1.out,I1.fz,I1.maps,I1.cells⟩
 .simp only[QcH,Qt]at hx;split at hx
  .rename_i iU;subst iU;simp only[Zs]at hx;subst hx;rw[hv];simp only[RelX,Rel];exact⟨by rw[hn]; exact iI,_,bO,by rw[hn],by rw[hn]; exact s8,.inr ⟨blk,0,rfl,aZ⟩⟩
  .exact RelX.tr e (I1.tmps t' x hx)
 .obtain⟨h1,h2⟩:=bA i b' h;have:=I.boxb i b' h2;exact⟨this.1,this.2.1,λo ho=>ho.elim (this.2.2 o) λe=>h1 (I.boxi i b b' h2 (by rw[aG,e]))⟩
theorem QeC (hc:CxOk P c) {b n k t:Nat} {tail:List X} {rows:List (List D)}
  (hb:Qt σ.boxes b=some (rows.flatten.map X.d++tail)) (ht:Qt σ.tmps t=some (.bs b 0 n k)) (hall:∀r∈rows,r.length=k) (hn:rows.length=n) (iI:n<=140737488355328) (aN:w0.out b=none) (I:Inv c.N m0 w0 g σ a w) (ha:a.defers=w0.df):
  ∃g',Inv c.N m0 w0 g' (QcH [b] ((t,.d (.sl k rows))::Qds [b] σ.tmps) σ) a w:=I.freezeT ha hb ht hall hn iI aN
end
section
variable {P:Program} {c:Cx} {m0:Nat->Nat->Prop} {w0:Base} {g:Gh} {σ σ':St} {a:Act} {w:World}
theorem Inv.thawT (I:Inv c.N m0 w0 g σ a w) {t d k tk:Nat} {rows:List (List D)} (ht:Qt σ.tmps t=some (.sl k rows (.own tk))) (gN:tk∈σ.toks) (aS:rows≠[]) (hs:Qav [d] σ=true) (aN:w0.out d=none):
  ∃g',Inv c.N m0 w0 g' { σ with tmps:=(t,.bs d 0 rows.length k)::σ.tmps,boxes:=(d,rows.flatten.map X.d)::σ.boxes,toks:=σ.toks.filter (λz=>z != tk)} a w:=by
 obtain⟨_,c7⟩:=QaJ hs;obtain⟨I1,k9,_⟩:=I.start (al:=[d]) (λx hx=>by rw[List.mem_singleton.1 hx]; exact aN) hs c7
 generalize Q5 [d] g=g1 at I1 k9;obtain⟨oS,hdm⟩:=k9 d (by simp)
 obtain⟨_,_,dS⟩:=I1.tmps t _ ht;obtain⟨ad,cc,hv,dX,l0,halt⟩:=dS gN;obtain⟨b,o,p1,rfl,⟨p3,rfl⟩,cs,dD,p4,p5,p6,xs,p7,p8,p9⟩:=halt.resolve_left (λh=>aS h.1);obtain⟨b1,b2,b3⟩:=I1.tokb tk b p1;obtain⟨g',hg⟩:∃g':Gh,g'= { g1 with box:=λi=>if i=d then some b else g1.box i,tok:=λs=>if s=tk then none else g1.tok s} :=⟨_,rfl⟩
 have bS:g'.imm=g1.imm:=by rw[hg]
 have bA:∀i b',g'.box i=some b'->(i=d/\b'=b)\/g1.box i=some b':=λi b' h=>by
  rw[hg]at h;simp only at h;split at h
  .rename_i e; cases h; exact .inl ⟨e,rfl⟩
  .exact .inr h
 have jL:g'.box d=some b:=by rw[hg]; simp
 have jM:∀i b',g1.box i=some b'->g'.box i=some b':=λi b' h=>by
  rw[hg];simp only;rw[if_neg (λe=>by subst e; rw[oS]at h; cases h)]
  exact h
 have d6:∀s b',g'.tok s=some b'->s≠tk/\g1.tok s=some b':=λs b' h=>by
  rw[hg]at h;simp only at h;split at h
  .cases h
  .rename_i hn; exact⟨hn,h⟩
 have e:Tr g1 w σ.toks g' w (σ.toks.filter (λz=>z != tk)):=by
  refine⟨⟨λb o h=>by rw[bS]; exact h,λ_ _ _=>rfl⟩,jM,λs h=>by rw[hg]; exact h,λs _ hs=>?_⟩
  simp only[List.mem_filter,bne_iff_ne]at hs;refine⟨hs.1,λb' hb=>⟨?_,λx hx=>by rw[bS]at hx; exact hx,rfl⟩⟩
  rw[hg]; simp only; rw[if_neg hs.2]; exact hb
 have l8:=p9.length;refine⟨g',I1.below,I1.size,I1.defers,λk o h=>I1.lt k o (by rw[bS]at h; exact h),λk o h=>by rw[bS]; exact I1.old k o h,λk o h=>I1.new k o (by rw[bS]at h; exact h),λt' x hx=>?_,λi b' h=>?_,λi j b' h1 h2=>?_,λs b' h=>?_,λs s' b' h1 h2=>I1.toki s s' b' (d6 s b' h1).2 (d6 s' b' h2).2,λb' bK h blk aG=>?_,λi b' h=>jM i b' (I1.out i b' h),I1.fz,λi mc h blk aG=>?_,I1.cells⟩
 .simp only[Qt]at hx;split at hx
  .rename_i e';subst e';simp only[Zs]at hx;subst hx;rw[hv];exact⟨b,cc,jL,rfl,dX⟩
  .exact RelX.tr e (I1.tmps t' x hx)
 .rcases bA i b' h with⟨rfl,rfl⟩ | h'
  .exact⟨b2,b1,λo ho=>p3 o (by rw[bS]at ho; exact ho)⟩
  .have:=I1.boxb i b' h';exact⟨this.1,this.2.1,λo ho=>this.2.2 o (by rw[bS]at ho; exact ho)⟩
 .rcases bA i b' h1 with⟨rfl,rfl⟩ | h1'
  .rcases bA j b' h2 with⟨rfl,_⟩ | h2'
   .rfl
   .exact absurd h2' (b3 j)
  .rcases bA j b' h2 with⟨rfl,rfl⟩ | h2'
   .exact absurd h1' (b3 i)
   .exact I1.boxi i j b' h1' h2'
 .obtain⟨hn,h'⟩:=d6 s b' h;obtain⟨q1,q2,q3⟩:=I1.tokb s b' h';refine⟨q1,q2,λi hi=>?_⟩;rcases bA i b' hi with⟨_,rfl⟩ | hi'
  .exact hn (I1.toki s tk b' h' p1)
  .exact q3 i hi'
 .simp only[Qt]at h;split at h
  .rename_i e';simp only[Zs]at h;subst h; subst e';rw[jL]at aG; cases aG;refine⟨cs,dD,p4,?_,λj x v h1 h2=>?_⟩
   .rw[List.length_map,<-l8,p7];have:=Nat.mul_le_mul_right k dX;omega
   .rw[List.getElem?_map]at h1;obtain⟨y,hy,rfl⟩:=Option.map_eq_some_iff.1 h1;obtain⟨v',r1,r2⟩:=p9.get _ _ hy;obtain⟨s1,s2⟩:=p8 j v' r1;rw[Nat.zero_add,h2]at s1;cases s1;exact⟨s2,by simp only[RelX]; rw[bS]; exact r2⟩
  .rename_i hn;rcases bA b' blk aG with⟨e',_⟩ | h'
   .exact absurd e' hn
   .exact BoxAt.tr e (I1.boxes b' bK h blk h') rfl
 .rcases bA i blk aG with⟨rfl,_⟩ | h'
  .have h0:Qt σ.maps i=some mc:=h;rw[hdm]at h0; cases h0
  .exact I1.maps i mc h blk h'
theorem QCF (hc:CxOk P c) {t d k tk:Nat} {rows:List (List D)} (ht:Qt σ.tmps t=some (.sl k rows (.own tk))) (gN:tk∈σ.toks) (aS:rows≠[]) (hs:Qav [d] σ=true) (aN:w0.out d=none) (I:Inv c.N m0 w0 g σ a w):
  ∃g',Inv c.N m0 w0 g' { σ with tmps:=(t,.bs d 0 rows.length k)::σ.tmps,boxes:=(d,rows.flatten.map X.d)::σ.boxes,toks:=σ.toks.filter (λz=>z != tk)} a w:=I.thawT ht gN aS hs aN
end
def frG (m:Nat->Nat->Prop) (bx:Nat->Option Nat):Gh:=⟨m,bx,λ_=>none,λ_=>False⟩
def QDM (m:Nat->Nat->Prop) (W:World) (rx:X) (bl:List (Nat×List D)) (v:Value) (w':World):Prop:=
 ∃(m':Nat->Nat->Prop) (bx:Nat->Option Nat),Below W.heap.size W w'/\(∀b o,m' b o->W.heap.size<=b/\b < w'.heap.size)/\
  (∀i b,bx i=some b->(W.heap.size<=b/\b < w'.heap.size/\∀o,¬m' b o)/\Qt bl i≠none)/\(∀i j b,bx i=some b->bx j=some b->i=j)/\
  (∀i ds,Qt bl i=some ds->∀b,bx i=some b->BoxAt (frG (λb o=>m b o\/m' b o) bx) w' 0 [] b (ds.map X.d))/\RelX (frG (λb o=>m b o\/m' b o) bx) w' 0 [] rx v
def Qta (m:Nat->Nat->Prop) (W:World) (rx:X) (bl:List (Nat×List D)):Ending->World->Prop:=λe w'=>∃v,e= .returned v/\QDM m W rx bl v w'
def QlR (P:Program) (f:Nat) (ds:List D) (rx:X) (bl:List (Nat×List D)):Prop:=
 ∀(m:Nat->Nat->Prop) (w:World) (vs:List Value),(∀b o,m b o->b < w.heap.size)->GlobIn m w->RelL m w ds vs->Calls P f vs.toArray w (Qta m w rx bl)
def Qs8:X->Bool
 | .bs _ _ _ _=>true
 | .agb _=>true
 | .d _=>true
 | _=>false
theorem QrH {g g':Gh} {w:World} {base fT:Nat} {toks toks':List Nat} (hi:∀b o,g.imm b o->g'.imm b o) {x:X} {v:Value} (hb:∀i∈x.locs,∀b,g.box i=some b->g'.box i=some b) (hx:Qs8 x=true) (h:RelX g w base toks x v):RelX g' w fT toks' x v:=by
 cases x with
 | d y=>exact Rel.ext ⟨hi,λ_ _ _=>rfl⟩ _ _ h
 | bs b off n k=>
  obtain⟨blk,c,h1,h2,h3⟩:=h;exact⟨blk,c,hb b (by simp[X.locs]) blk h1,h2,h3⟩
 | agb cs=>
  obtain⟨vs,h1,h2⟩:=h;exact⟨vs,h1,RelB.map (λx v h=>Rel.ext ⟨hi,λ_ _ _=>rfl⟩ x v h) (λi hi b h=>hb i hi b h) h2⟩
 | _=>cases hx
theorem Qqd {g g':Gh} {w:World} {base fT:Nat} {toks toks':List Nat} (hi:∀b o,g.imm b o->g'.imm b o) {b:Nat} {ds:List D} (h:BoxAt g w base toks b (ds.map X.d)):BoxAt g' w fT toks' b (ds.map X.d):=by
 obtain⟨vs,ty,h1,h2,h3⟩:=h;refine⟨vs,ty,h1,h2,λj x v k1 k2=>?_⟩;obtain⟨k3,k4⟩:=h3 j x v k1 k2;rw[List.getElem?_map]at k1;obtain⟨y,_,rfl⟩:=Option.map_eq_some_iff.1 k1;exact⟨k3,Rel.ext (m:=g.imm) (m':=g'.imm) (w:=w) (w':=w) ⟨hi,λ_ _ _=>rfl⟩ _ _ k4⟩
theorem QEv {α:Type} {l r:List (Nat×α)} {i:Nat} {x:α} (h:Qt (l++r) i=some x):Qt l i=some x\/(Qt l i=none/\Qt r i=some x):=by
 rw[Qhg]at h;cases hA:Qt l i with
 | none=>rw[hA]at h; exact .inr ⟨rfl,h⟩
 | some y=>rw[hA]at h; exact .inl h
theorem QhC {α β:Type} {f:α->β} :∀{l:List (Nat×α)} {i:Nat},Qt (l.map λp=>(p.1,f p.2)) i=(Qt l i).map f
 | [],i=>rfl
 | (j,y)::t,i=>by
  simp only[List.map_cons,Qt];split
  .rfl
  .exact QhC
def Qoz (bl:List (Nat×List D)) (boxes:List (Nat×List X)):List (Nat×List X):=bl.map (λp=>(p.1,p.2.map X.d))++boxes
section
variable {P:Program} {c:Cx} {m0:Nat->Nat->Prop} {w0:Base} {g:Gh} {σ σ':St} {a:Act} {w w':World}
theorem Inv.adopt {N:Nat} (I:Inv N m0 w0 g σ a w) (bx:Nat->Option Nat) (bl:List (Nat×List D)) (hdom:∀i b,bx i=some b->Qt bl i≠none) (gW:∀i,Qt bl i≠none->g.box i=none/\Qt σ.maps i=none)
  (hb:∀i b,bx i=some b->w0.heap.size<=b/\b < w.heap.size/\Away g b) (bW:∀i j b,bx i=some b->bx j=some b->i=j) (bV:∀i ds,Qt bl i=some ds->∀b,bx i=some b->BoxAt g w w0.heap.size σ.toks b (ds.map X.d)):
  Inv N m0 w0 { g with box:=λi=>if(Qt bl i).isSome then bx i else g.box i} { σ with boxes:=Qoz bl σ.boxes} a w:=by
 obtain⟨g',hg⟩:∃g':Gh,g'= { g with box:=λi=>if(Qt bl i).isSome then bx i else g.box i} :=⟨_,rfl⟩
 rw[<-hg];have bS:g'.imm=g.imm:=by rw[hg]
 have d6:g'.tok=g.tok:=by rw[hg]
 have fR:∀i b,g.box i=some b->g'.box i=some b:=λi b h=>by
  rw[hg];simp only;rw[if_neg (λhs=>by
   have hn:Qt bl i≠none:=λh0=>by rw[h0]at hs; cases hs
   rw[(gW i hn).1]at h; cases h)]
  exact h
 have bA:∀i b,g'.box i=some b->(Qt bl i≠none/\bx i=some b)\/(Qt bl i=none/\g.box i=some b):=λi b h=>by
  rw[hg]at h;simp only at h;cases hA:Qt bl i with
  | none=>rw[hA]at h; exact .inr ⟨rfl,by simpa using h⟩
  | some x=>rw[hA]at h; exact .inl ⟨by simp,by simpa using h⟩
 have e:Tr g w σ.toks g' w σ.toks:=⟨⟨λ_ _ h=>by rw[bS]; exact h,λ_ _ _=>rfl⟩,fR,λ_ h=>by rw[hg]; exact h,λt _ h=>⟨h,λb hb=>⟨by rw[d6]; exact hb,λ_ hx=>by rw[bS]at hx; exact hx,rfl⟩⟩⟩
 refine⟨I.below,I.size,I.defers,λb o h=>I.lt b o (by rw[bS]at h; exact h),λb o h=>by rw[bS]; exact I.old b o h,λb o h=>I.new b o (by rw[bS]at h; exact h),λt x hx=>RelX.tr e (I.tmps t x hx),λi b h=>?_,λi j b h1 h2=>?_,λt b h=>?_,λs t b h1 h2=>I.toki s t b (by rw[d6]at h1; exact h1) (by rw[d6]at h2; exact h2),λi cs hi blk aG=>?_,λi b h=>fR i b (I.out i b h),I.fz,λi mc hi blk aG=>?_,I.cells⟩
 .rcases bA i b h with⟨_,h'⟩ | ⟨_,h'⟩
  .obtain⟨h1,h2,h3⟩:=hb i b h';exact⟨.inl h1,h2,λo ho=>h3.imm o (by rw[bS]at ho; exact ho)⟩
  .have:=I.boxb i b h';exact⟨this.1,this.2.1,λo ho=>this.2.2 o (by rw[bS]at ho; exact ho)⟩
 .rcases bA i b h1 with⟨_,h1'⟩ | ⟨_,h1'⟩
  .rcases bA j b h2 with⟨_,h2'⟩ | ⟨_,h2'⟩
   .exact bW i j b h1' h2'
   .exact absurd h2' ((hb i b h1').2.2.box j)
  .rcases bA j b h2 with⟨_,h2'⟩ | ⟨_,h2'⟩
   .exact absurd h1' ((hb j b h2').2.2.box i)
   .exact I.boxi i j b h1' h2'
 .rw[d6]at h;obtain⟨q1,q2,q3⟩:=I.tokb t b h;refine⟨q1,q2,λi hi=>?_⟩;rcases bA i b hi with⟨_,h'⟩ | ⟨_,h'⟩
  .exact(hb i b h').2.2.tok t h
  .exact q3 i h'
 .have hi':Qt (bl.map (λp=>(p.1,p.2.map X.d))++σ.boxes) i=some cs:=hi;rcases QEv hi' with h1 | ⟨h0,h1⟩
  .rw[QhC]at h1;obtain⟨ds,cB,rfl⟩:=Option.map_eq_some_iff.1 h1;rcases bA i blk aG with⟨_,h'⟩ | ⟨hn,_⟩
   .exact Qqd (λ_ _ h=>by rw[bS]; exact h) (bV i ds cB blk h')
   .rw[hn]at cB; cases cB
  .rw[QhC]at h0;have hn:Qt bl i=none:=by
    cases hA:Qt bl i with
    | none=>rfl
    | some x=>rw[hA]at h0; cases h0
   rcases bA i blk aG with⟨hs,_⟩ | ⟨_,h'⟩
   .exact absurd hn hs
   .exact BoxAt.tr e (I.boxes i cs h1 blk h') rfl
 .rcases bA i blk aG with⟨hs,_⟩ | ⟨_,h'⟩
  .have h0:Qt σ.maps i=some mc:=hi;rw[(gW i hs).2]at h0; cases h0
  .exact I.maps i mc hi blk h'
theorem Inv.fresh {N:Nat} (I:Inv N m0 w0 g σ a w) {rx:X} {bl:List (Nat×List D)} {v:Value} (h:QDM g.imm w rx bl v w') (hx:Qs8 rx=true) (gW:∀i,Qt bl i≠none->g.box i=none/\Qt σ.maps i=none):
  ∃g',Inv N m0 w0 g' { σ with boxes:=Qoz bl σ.boxes} a w'/\RelX g' w' w0.heap.size σ.toks rx v/\(∀t,g'.used t->g.used t)/\∀i,Qt bl i=none->g'.box i=g.box i:=by
 obtain⟨m',bx,h1,h2,h3,h4,h5,h6⟩:=h;obtain⟨I',_⟩:=I.grow h1 m' h2;have bE:=I.below.size;have wW:∀i b,bx i=some b->Away { g with imm:=λb o=>g.imm b o\/m' b o} b:=λi b hb=>by
  have q:=(h3 i b hb).1;have qa:=I.awayNew q.1;exact⟨λo ho=>ho.elim (qa.imm o) (q.2.2 o),qa.box,qa.tok⟩
 have I2:=I'.adopt bx bl (λi b hb=>(h3 i b hb).2) gW (λi b hb=>⟨Nat.le_trans bE (h3 i b hb).1.1,(h3 i b hb).1.2.1,wW i b hb⟩) h4 (λi ds hi b hb=>Qqd (g:=frG (λb o=>g.imm b o\/m' b o) bx) (g':= { g with imm:=λb o=>g.imm b o\/m' b o}) (λ_ _ h=>h) (h5 i ds hi b hb))
 refine⟨_,I2,QrH (g:=frG (λb o=>g.imm b o\/m' b o) bx) (g':= { g with imm:=λb o=>g.imm b o\/m' b o,box:=λi=>if(Qt bl i).isSome then bx i else g.box i}) (λ_ _ h=>h) (λi hi b hb=>?_) hx h6,λ_ h=>h,λi hi=>by simp only[hi]; rfl⟩
 show(if(Qt bl i).isSome then bx i else g.box i)=some b;have hn:=(h3 i b hb).2;cases hA:Qt bl i with
 | none=>exact absurd hA hn
 | some x=>exact hb
theorem QlZ {f:Nat} {fn:Func} {cd:Code} (hf:P.funcs[f]?=some fn) (hb:fn.body=some cd) {N:Nat} (hN:fn.ntmps=N) {ds:List D} {rx:X} {bl:List (Nat×List D)} (hl:ds.length<=N)
  (h:∀(m:Nat->Nat->Prop) (w:World) (a:Act),Inv N m (Qed w []) (Qzh m) ⟨Qqm 0 ds,[],[],[]⟩ a w->a.defers=[]->cd.wpIn Fence.wide 0 P (bodyPostD P fn (Qta m w rx bl)) a w):QlR P f ds rx bl:=by
 intro m w vs hm hG hr;exact calls_of_wp_defers hf hb (wpIn_wide.1 (h m w _ (Qs0 (P:=P) hN hl hm hG hr) rfl))
def QMX (Γ:Tys) (σ:St):ResultVar->Option X
 | .tmp t=>some (σ.ev (.tmp t))
 | .cell x T=>Qm8 Γ T (σ.ev (.tmp x)) σ.boxes
theorem QAq (hc:CxOk P c) (I:Inv c.N m0 w0 g σ a w) {r:ResultVar} {x:X} (h:QMX c.Γ σ r=some x):∃v,(Qc6 a.tmps r).run P w= .ok v w/\RelX g w w0.heap.size σ.toks x v:=by
 cases r with
 | tmp t=>
  simp only[QMX,Zs]at h;subst h;exact⟨_,rfl,QbD I (.tmp t)⟩
 | cell x T=>
  obtain⟨v,h3,h4⟩:=Qjr hc.ty h (QbD I (.tmp x)) I.boxes;refine⟨v,?_,h4⟩;unfold Instr.loadAt at h3;rw[Sem.run_bind]at h3;show(asAddr (a.tmps.getD x undef) >>=loadVar T).run P w=_;rw[Sem.run_bind];have h7:a.eval (.tmp x)=a.tmps.getD x undef:=rfl;rw[h7]at h3;generalize a.tmps.getD x undef=vx at*;cases vx with
  | pointer p=>
   cases p with
   | none=>simp[Instr.sureAddr,stuck]at h3
   | some ad=>simpa[Instr.sureAddr,asAddr]using h3
  | _=>simp[Instr.sureAddr,stuck]at h3
theorem Qoh (hc:CxOk P c) {W:World} (I:Inv c.N m0 (Qed W []) g σ a w) {fn:Func} {r:ResultVar} (fL:fn.results.toList=[r]) {rx:X} {bl:List (Nat×List D)} (bP:QMX c.Γ σ r=some rx) (hx:Qs8 rx=true) (fK:∀i ds,Qt bl i=some ds->Qt σ.boxes i=some (ds.map X.d)) (hloc:∀i∈rx.locs,Qt bl i≠none):bodyPostD P fn (Qta m0 W rx bl) .ret a w:=by
 show Leaves P fn a.tmps (Qta m0 W rx bl) a.defers .returning w;rw[I.noMark (λh=>h)];have bC:=QeT W [];obtain⟨v,h1,h2⟩:=QAq hc I bP;have aH:(results fn a.tmps).run P w= .ok v w:=by
  have hR:results fn a.tmps=(fn.results.mapM (Qc6 a.tmps) >>=λvs=>pure (if h:vs.size=1 then vs[0]else .tuple vs)):=rfl;have iA:(fn.results.mapM (Qc6 a.tmps)).run P w= .ok [v].toArray w:=by
   rw[Array.mapM_eq_mapM_toList,Sem.run_map,fL];simp only[List.mapM_cons,List.mapM_nil,Sem.run_bind,Sem.run_pure,Zo,h1]
  rw[hR,Sem.run_bind,iA]; rfl
 have bS:∀b o,g.imm b o->m0 b o\/(g.imm b o/\W.heap.size<=b):=λb o h=>(I.new b o h).imp id λh2=>⟨h,h2.resolve_right (bC b)⟩;refine⟨v,aH,v,rfl,λb o=>g.imm b o/\W.heap.size<=b,λi=>if(Qt bl i).isSome then g.box i else none,I.below.below (λk hk=>bC k hk),λb o h=>⟨h.2,I.lt b o h.1⟩,λi b h=>?_,λi j b h1 h2=>?_,λi ds hi b hb=>?_,?_⟩
 .cases hA:Qt bl i with
  | none=>simp only[hA]at h; cases h
  | some x=>
   simp only[hA,Option.isSome_some,if_true]at h;have q:=I.boxb i b h;exact⟨⟨q.1.resolve_right (bC b),q.2.1,λo ho=>q.2.2 o ho.1⟩,by simp⟩
 .cases hA:Qt bl i with
  | none=>simp only[hA]at h1; cases h1
  | some x=>
   cases hB:Qt bl j with
   | none=>simp only[hB]at h2; cases h2
   | some y=>
    simp only[hA,Option.isSome_some,if_true]at h1;simp only[hB,Option.isSome_some,if_true]at h2;exact I.boxi i j b h1 h2
 .simp only[hi,Option.isSome_some,if_true]at hb;exact Qqd bS (I.boxes i _ (fK i ds hi) b hb)
 .refine QrH (g:=g) bS (λi hi b hb=>?_) hx h2;show(if(Qt bl i).isSome then g.box i else none)=some b;have:=hloc i hi;cases hA:Qt bl i with
  | none=>exact absurd hA this
  | some x=>exact hb
theorem Qnq {f:Nat} {ds:List D} {rx:X} {bl:List (Nat×List D)} (h:QlR P f ds rx bl) {d:D} (hs:rx.snap (bl.map λp=>(p.1,p.2.map X.d))=some d):PureC P f ds d:=λm w vs hm hG hr=>(h m w vs hm hG hr).mono λe w' ⟨v,he,m',bx,h1,h2,h3,h4,h5,h6⟩=>by
 subst he;refine⟨v,λb o=>m' b o\/∃i,bx i=some b,rfl,h1,λb o hb=>hb.elim (h2 b o) (λ⟨i,hi⟩=>⟨(h3 i b hi).1.1,(h3 i b hi).1.2.1⟩),?_⟩;have hB:QcC (frG (λb o=>m b o\/m' b o) bx) w' 0 [] (bl.map λp=>(p.1,p.2.map X.d)):=λi cs hi blk hb=>by
  rw[QhC]at hi;obtain⟨cS,cB,rfl⟩:=Option.map_eq_some_iff.1 hi;exact h5 i cS cB blk hb
 have hL:=QjU (xs:=[rx]) (ds:=[d]) (vs:=[v]) hB (by simp[QeD,hs]) rfl (λj x v' k1 k2=>by
  cases j with
  | zero=>
   simp only[List.getElem?_cons_zero,Zs]at k1 k2;subst k1 k2; exact h6
  | succ j=>simp at k1)
 simp only[RelL]at hL;obtain⟨v',t,h7,h8,h9⟩:=hL;simp only[List.cons.injEq]at h7;obtain⟨rfl,_⟩:=h7;refine Rel.ext ⟨λb o hb=>?_,λ_ _ _=>rfl⟩ _ _ h8;rcases hb with(hb | hb) | ⟨i,hb⟩
 .exact .inl hb
 .exact .inr (.inl hb)
 .exact .inr (.inr ⟨i,hb⟩)
theorem Inv.thawS {N:Nat} (I:Inv N m0 w0 g σ a w) {t bx off d k tk:Nat} {pI:List X} {rows:List (List D)} (hx:Qt σ.boxes bx=some pI) (ht:Qt σ.tmps t=some (.loc bx 0)) (aK:pI[off]?=some (.sl k rows (.own tk))) (gN:tk∈σ.toks) (aS:rows≠[]) (nT:g.box d=none) (rR:Qt σ.maps d=none) (jU:bx≠d) (tR:Qt σ.boxes d=none):
  ∃g',Inv N m0 w0 g' { σ with boxes:=(d,rows.flatten.map X.d)::(bx,pI.set off (.bs d 0 rows.length k))::σ.boxes,toks:=σ.toks.filter (λz=>z != tk)} a w:=by
 obtain⟨blkx,qW,_⟩:=I.tmps t _ ht;obtain⟨vs,ty,q1,q2,q3⟩:=I.boxes bx pI hx blkx qW;have hoff:off < pI.length:=(Zi.1 aK).1;obtain⟨v,hv⟩:∃v,vs[off]?=some v:=⟨_,Array.getElem?_eq_getElem (Nat.lt_of_lt_of_le hoff q2)⟩;obtain⟨bG,_,_,dS⟩:=q3 off _ v aK hv;obtain⟨ad,cc,rfl,dX,l0,halt⟩:=dS gN;obtain⟨b,o,p1,rfl,⟨p3,rfl⟩,cs,dD,p4,p5,p6,xs,p7,p8,p9⟩:=halt.resolve_left (λh=>aS h.1);obtain⟨b1,b2,b3⟩:=I.tokb tk b p1;obtain⟨g',hg⟩:∃g':Gh,g'= { g with box:=λi=>if i=d then some b else g.box i,tok:=λs=>if s=tk then none else g.tok s} :=⟨_,rfl⟩
 have bS:g'.imm=g.imm:=by rw[hg]
 have bA:∀i b',g'.box i=some b'->(i=d/\b'=b)\/(i≠d/\g.box i=some b'):=λi b' h=>by
  rw[hg]at h;simp only at h;split at h
  .rename_i e; cases h; exact .inl ⟨e,rfl⟩
  .rename_i e; exact .inr ⟨e,h⟩
 have jL:g'.box d=some b:=by rw[hg]; simp
 have jM:∀i b',g.box i=some b'->g'.box i=some b':=λi b' h=>by
  rw[hg];simp only;rw[if_neg (λe=>by subst e; rw[nT]at h; cases h)]
  exact h
 have d6:∀s b',g'.tok s=some b'->s≠tk/\g.tok s=some b':=λs b' h=>by
  rw[hg]at h;simp only at h;split at h
  .cases h
  .rename_i hn; exact⟨hn,h⟩
 have e:Tr g w σ.toks g' w (σ.toks.filter (λz=>z != tk)):=by
  refine⟨⟨λb o h=>by rw[bS]; exact h,λ_ _ _=>rfl⟩,jM,λs h=>by rw[hg]; exact h,λs _ hs=>?_⟩
  simp only[List.mem_filter,bne_iff_ne]at hs;refine⟨hs.1,λb' hb=>⟨?_,λx hx=>by rw[bS]at hx; exact hx,rfl⟩⟩
  rw[hg]; simp only; rw[if_neg hs.2]; exact hb
 have l8:=p9.length;refine⟨g',I.below,I.size,I.defers,λk o h=>I.lt k o (by rw[bS]at h; exact h),λk o h=>by rw[bS]; exact I.old k o h,λk o h=>I.new k o (by rw[bS]at h; exact h),λt' x hx=>RelX.tr e (I.tmps t' x hx),λi b' h=>?_,λi j b' h1 h2=>?_,λs b' h=>?_,λs s' b' h1 h2=>I.toki s s' b' (d6 s b' h1).2 (d6 s' b' h2).2,λb' bK h blk aG=>?_,λi b' h=>jM i b' (I.out i b' h),I.fz,λi mc h blk aG=>?_,I.cells⟩
 .rcases bA i b' h with⟨rfl,rfl⟩ | ⟨_,h'⟩
  .exact⟨b2,b1,λo ho=>p3 o (by rw[bS]at ho; exact ho)⟩
  .have:=I.boxb i b' h';exact⟨this.1,this.2.1,λo ho=>this.2.2 o (by rw[bS]at ho; exact ho)⟩
 .rcases bA i b' h1 with⟨rfl,rfl⟩ | ⟨_,h1'⟩
  .rcases bA j b' h2 with⟨rfl,_⟩ | ⟨_,h2'⟩
   .rfl
   .exact absurd h2' (b3 j)
  .rcases bA j b' h2 with⟨rfl,rfl⟩ | ⟨_,h2'⟩
   .exact absurd h1' (b3 i)
   .exact I.boxi i j b' h1' h2'
 .obtain⟨hn,h'⟩:=d6 s b' h;obtain⟨r1,r2,r3⟩:=I.tokb s b' h';refine⟨r1,r2,λi hi=>?_⟩;rcases bA i b' hi with⟨_,rfl⟩ | ⟨_,hi'⟩
  .exact hn (I.toki s tk b' h' p1)
  .exact r3 i hi'
 .simp only[Qt]at h;split at h
  .rename_i e';simp only[Zs]at h;subst h; subst e';rw[jL]at aG; cases aG;refine⟨cs,dD,p4,?_,λj x v h1 h2=>?_⟩
   .rw[List.length_map,<-l8,p7];have:=Nat.mul_le_mul_right k dX;omega
   .rw[List.getElem?_map]at h1;obtain⟨y,hy,rfl⟩:=Option.map_eq_some_iff.1 h1;obtain⟨v',r1,r2⟩:=p9.get _ _ hy;obtain⟨s1,s2⟩:=p8 j v' r1;rw[Nat.zero_add,h2]at s1;cases s1;exact⟨s2,by simp only[RelX]; rw[bS]; exact r2⟩
  .rename_i hn;rcases bA b' blk aG with⟨e',_⟩ | ⟨_,h'⟩
   .exact absurd e' hn
   .split at h
    .rename_i e';simp only[Zs]at h;subst h; subst e';rw[qW]at h'; cases h';refine⟨vs,ty,q1,by rw[List.length_set]; exact q2,λj x u h1 h2=>?_⟩
     rw[List.getElem?_set]at h1;split at h1
     .rename_i hoj;subst hoj;simp only[Zs]at h1;subst h1;rw[hv]at h2; cases h2;exact⟨bG,b,cc,jL,rfl,dX⟩
     .obtain⟨r1,r2⟩:=q3 j x u h1 h2;exact⟨r1,RelX.tr e r2⟩
    .exact BoxAt.tr e (I.boxes b' bK h blk h') rfl
 .rcases bA i blk aG with⟨rfl,_⟩ | ⟨_,h'⟩
  .have h0:Qt σ.maps i=some mc:=h;rw[rR]at h0; cases h0
  .exact I.maps i mc h blk h'
theorem QBr (hc:CxOk P c) {t bx off d k tk:Nat} {pI:List X} {rows:List (List D)} (hx:Qt σ.boxes bx=some pI) (ht:Qt σ.tmps t=some (.loc bx 0)) (aK:pI[off]?=some (.sl k rows (.own tk))) (gN:tk∈σ.toks) (aS:rows≠[]) (hs:Qav [d] σ=true) (aN:w0.out d=none) (I:Inv c.N m0 w0 g σ a w):
  ∃g',Inv c.N m0 w0 g' { σ with boxes:=(d,rows.flatten.map X.d)::(bx,pI.set off (.bs d 0 rows.length k))::σ.boxes,toks:=σ.toks.filter (λz=>z != tk)} a w:=by
 obtain⟨_,c7⟩:=QaJ hs;obtain⟨I1,k9,_⟩:=I.start (al:=[d]) (λx hx=>by rw[List.mem_singleton.1 hx]; exact aN) hs c7
 obtain⟨oS,hdm⟩:=k9 d (by simp)
 have hbn:Qt σ.boxes d=none:=by
  simp only[Qav,Za]at hs;cases hA:Qt σ.boxes d with
  | none=>rfl
  | some cs=>
   have:=Zl.1 hs.1.2 _ (QeZ hA);simp at this
 exact I1.thawS hx ht aK gN aS oS hdm (λe=>by subst e; rw[hx]at hbn; cases hbn) hbn
def QvY (c:Cx) (ops:List Oper) (k:Nat) (args:List Operand) (σ:St):Option (St×List D):=
 match c.opsE ops 0 (ops.take k) σ with
 | some σ1=>(match Qbp (args.map σ1.ev)with | some ds=>some (σ1,ds) | none=>none)
 | none=>none
def QMA (σ1:St) (d:Nat) (rx:X) (bl:List (Nat×List D)):St:= { σ1 with tmps:=(d,rx)::σ1.tmps,boxes:=Qoz bl σ1.boxes}
def frK (c:Cx) (id:Nat) (ops:List Oper) (k d f:Nat) (rx:X) (bl:List (Nat×List D)) (m0:Nat->Nat->Prop) (w0:Base) (P:Program) (R:Act->World->Prop):Option (St×List D)->Prop
 | some (σ1,ds)=>QlR P f ds rx bl/\Qav (bl.map (·.1)++QR (ops.drop (k+1))) σ1=true/\regQ c m0 w0 R ((c.opsE ops (k+1) (ops.drop (k+1)) (QMA σ1 d rx bl)).map (c.close id))
 | none=>False
theorem QN3 {id k d f:Nat} {ops:List Oper} {rx:X} {bl:List (Nat×List D)} {R:Act->World->Prop} {σ1:St} {ds:List D} :frK c id ops k d f rx bl m0 w0 P R (some (σ1,ds))=(QlR P f ds rx bl/\Qav (bl.map (·.1)++QR (ops.drop (k+1))) σ1=true/\regQ c m0 w0 R ((c.opsE ops (k+1) (ops.drop (k+1)) (QMA σ1 d rx bl)).map (c.close id))):=rfl
theorem Qm0 {α:Type} :∀{l:List (Nat×α)} {i:Nat},Qt l i≠none->i∈l.map (·.1)
 | [],i,h=>absurd rfl h
 | (j,x)::t,i,h=>by
  simp only[Qt]at h;split at h
  .rename_i e; simp[e]
  .have:=Qm0 h;simp only[List.map_cons,List.mem_cons];exact .inr this
theorem Qs3 (hc:CxOk P c) (k d f:Nat) (rx:X) (bl:List (Nat×List D)) {id:Nat} {ops:Array Oper} {o:Oper} {cc:Call} (bV:ops.toList[k]?=some o) (jB:o.op= .call cc) (jJ:cc.callee= .value (.func f)) (dZ:o.dst=some d) (hg:o.guard=none) (vQ:d < c.N)
  (hx:Qs8 rx=true) (bC:QR (ops.toList.take k)=[]) (dE:Qav [] σ=true) (aN:∀i∈bl.map (·.1)++QR (ops.toList.drop (k+1)),w0.out i=none) (iW:∀xs w,(callFunc f xs).run P w= .ok (.enter f xs) w) (I:Inv c.N m0 w0 g σ a w) {Q:Exit->Act->World->Prop}
  (hQ:frK c id ops.toList k d f rx bl m0 w0 P (λa' w'=>Q .normal a' w') (QvY c ops.toList k cc.args.toList σ)):(Code.region id ops false).wpIn Fence.wide 0 P Q a w:=by
 have fX:ops.toList=ops.toList.take k++(o::ops.toList.drop (k+1)):=by
  have hk:k < ops.toList.length:=(Zi.1 bV).1;have he:ops.toList[k]=o:=(Zi.1 bV).2;rw[<-he,<-List.drop_eq_getElem_cons hk,List.take_append_drop]
 cases h:QvY c ops.toList k cc.args.toList σ with
 | none=>rw[h]at hQ; exact hQ.elim
 | some r=>
  obtain⟨σ1,ds⟩:=r;rw[h,QN3]at hQ;obtain⟨hF,nA,hQ⟩:=hQ;unfold QvY at h;split at h
  .rename_i σ1' iG;split at h
   .rename_i cS cB;simp only[Zs,Prod.mk.injEq]at h;obtain⟨rfl,rfl⟩:=h;obtain⟨_,c7⟩:=QaJ dE;obtain⟨I1,_,cR⟩:=I.start (al:=[]) (λx hx=>by cases hx) dE c7
    refine wpIn_region_list ?_;have xG:=iG;generalize ops.toList.take k=pre at*;generalize ops.toList.drop (k+1)=post at*;rw[fX];refine Qdz pre a w (Qbt (.inl rfl) hc ops pre 0 σ σ1' _ a w iG I1 (by rw[bC]; exact List.nodup_nil) (by rw[bC]; intro d h; cases h) (λj _=>cR j) λg' a' w' I'=>?_)
    show wpListIn Fence.wide 0 P ops Q (o::post) a' w';obtain⟨xI,s6⟩:=QaJ nA;obtain⟨I2,pG,s7⟩:=I'.start (al:=bl.map (·.1)++QR post) aN nA s6;have gW:∀i,Qt bl i≠none->(Q5 (bl.map (·.1)++QR post) g').box i=none/\Qt σ1'.maps i=none:=λi hi=>pG i (Zp.2 (.inl (Qm0 hi)));unfold wpListIn;rw[if_pos (by simp[Region.wanted,hg])]
    obtain⟨dst,op,ty,pos,after,guard⟩:=o;obtain⟨callee,args,argTypes⟩:=cc;simp only at jB jJ dZ hg cB;subst jB jJ dZ;have aW:(args.map a'.eval)=(args.toList.map a'.eval).toArray:=by rw[<-Array.toList_map,Array.toArray_toList]
    have cE:a'.eval (.func f)= .func (.func f) #[] #[]:=rfl;have aH:(execOp a'.eval ⟨some d,.call ⟨.value (.func f),args,argTypes⟩,ty,pos,after,guard⟩).run P w'= .ok (.enter f (args.map a'.eval)) w':=by
     simp[execOp,resolve,cE,Deferred.ofValue,invoke,iW]
    rw[aW]at aH;refine Qhl (.inl rfl) aH (hF _ w' (args.toList.map a'.eval) I2.lt I2.globIn (Qjd I2 _ cB)) ?_;rintro e w2 ⟨v,rfl,hfr2⟩;obtain⟨g3,I3,hrx,hus3,hbx3⟩:=I2.fresh hfr2 hx gW;refine⟨v,rfl,?_⟩;have I4:=I3.put (d:=some d) (λx h=>by cases h; exact vQ) hrx
    cases cC:c.opsE ops.toList (k+1) post (QMA σ1' d rx bl)with
    | none=>rw[cC]at hQ; exact hQ.elim
    | some σ2=>
     rw[cC]at hQ;simp only[Option.map_some,Qw9]at hQ;refine Qbt (.inl rfl) hc ops post (k+1) _ σ2 _ _ w2 cC I4 ?_ ?_ (λj _ h=>s7 j (hus3 _ h)) λg5 a5 w5 I5=>?_
     .exact(List.nodup_append.1 (QbX _ xI)).2.1
     .intro x tT;have hn:Qt bl x=none:=by
       cases hA:Qt bl x with
       | none=>rfl
       | some y=>exact absurd rfl ((List.nodup_append.1 (QbX _ xI)).2.2 x (Qm0 (by rw[hA]; simp)) x tT)
      have:=pG x (Zp.2 (.inr tT));exact⟨(hbx3 x hn).trans this.1,this.2⟩
     .obtain⟨g6,I6⟩:=I5.close id;exact hQ g6 a5 w5 I6
   .cases h
  .cases h
end
section
variable {P:Program} {c:Cx} {m0:Nat->Nat->Prop} {w0:Base} {g:Gh} {σ σ':St} {a:Act} {w:World}
theorem Qwx (hc:CxOk P c) (k:Nat) {id:Nat} {ops:Array Oper} {o:Oper} (bV:ops.toList[k]?=some o) (hg:o.guard=none) (bC:QR (ops.toList.take k)=[]) (dE:Qav [] σ=true) (I:Inv c.N m0 w0 g σ a w) (ha:a.defers=[]) (dV:w0.fz=[]) (dL:w0.df=[]) {Q:Exit->Act->World->Prop}
  (hQ:lastK c m0 w0 g w (λa' w'=>o.wpIn Fence.wide 0 P a' w' (λa2 w2=>wpListIn Fence.wide 0 P ops Q (ops.toList.drop (k+1)) a2 w2) Q) (c.opsE ops.toList 0 (ops.toList.take k) σ)):(Code.region id ops false).wpIn Fence.wide 0 P Q a w:=by
 have dB:ops.toList=ops.toList.take k++(o::ops.toList.drop (k+1)):=by
  have hk:k < ops.toList.length:=(Zi.1 bV).1;have he:ops.toList[k]=o:=(Zi.1 bV).2;rw[<-he,<-List.drop_eq_getElem_cons hk,List.take_append_drop]
 cases h:c.opsE ops.toList 0 (ops.toList.take k) σ with
 | none=>rw[h]at hQ; exact hQ.elim
 | some σ'=>
  rw[h,Qho]at hQ;have IB:=I.rebase (a':=a) [] (λp hp=>by cases hp) (tmps:=σ.tmps) (λt x h=>(I.tmps t x h).base) I.size ha
  obtain⟨_,c7⟩:=QaJ dE;obtain⟨I1,_,cR⟩:=IB.start (al:=[]) (λd h=>by cases h) dE c7
  refine wpIn_region_list ?_;generalize ops.toList.take k=pre at*;generalize ops.toList.drop (k+1)=post at*;rw[dB];refine Qdz pre a w (Qbt (.inl rfl) hc ops pre 0 σ σ' _ a w h I1 (by rw[bC]; exact List.nodup_nil) (by rw[bC]; intro d h; cases h) (λj _=>cR j) λg' a' w' I'=>?_)
  show wpListIn Fence.wide 0 P ops Q (o::post) a' w';unfold wpListIn;rw[if_pos (by simp[Region.wanted,hg])]
  refine hQ g' a' w' (Inv.unbase dL I (λp hp=>by rw[dV]at hp; cases hp) I') (I'.noMark (c:=c) (λh=>h)) I'.below.size λb hb hw=>⟨?_,I'.below.block b hb ?_⟩
  .exact QdT hw hb I'
  .rintro(⟨i,hi⟩ | ⟨s,hs⟩)
   .exact hw.box i hi
   .exact hw.tok s hs
theorem Qss (hc:CxOk P c) {id:Nat} {ops:Array Oper} {post:List Oper} (i:Nat) (bC:QR post=[]) (dE:Qav [] σ=true) (I:Inv c.N m0 w0 g σ a w) (ha:a.defers=[]) (dV:w0.fz=[]) (dL:w0.df=[]) {Q:Exit->Act->World->Prop}
  (hQ:lastK c m0 w0 g w (λa' w'=>Q .normal a' w') ((c.opsE ops.toList i post σ).map (c.close id))):wpListIn Fence.wide 0 P ops Q post a w:=by
 cases h:c.opsE ops.toList i post σ with
 | none=>rw[h]at hQ; exact hQ.elim
 | some σ'=>
  rw[h]at hQ;simp only[Option.map_some,Qho]at hQ;have IB:=I.rebase (a':=a) [] (λp hp=>by cases hp) (tmps:=σ.tmps) (λt x h=>(I.tmps t x h).base) I.size ha
  obtain⟨_,c7⟩:=QaJ dE;obtain⟨I1,_,cR⟩:=IB.start (al:=[]) (λd h=>by cases h) dE c7
  refine Qbt (.inl rfl) hc ops post i σ σ' _ a w h I1 (by rw[bC]; exact List.nodup_nil) (by rw[bC]; intro d h; cases h) (λj _=>cR j) λg' a' w' I'=>?_
  obtain⟨g2,I2⟩:=I'.close id;refine hQ g2 a' w' (Inv.unbase dL I (λp hp=>by rw[dV]at hp; cases hp) I2) (I'.noMark (c:=c) (λh=>h)) I'.below.size λb hb hw=>⟨?_,I'.below.block b hb ?_⟩
  .exact QdT hw hb I2
  .rintro(⟨i,hi⟩ | ⟨s,hs⟩)
   .exact hw.box i hi
   .exact hw.tok s hs
end
section
variable {P:Program} {N k:Nat} {F:Fence} {m0:Nat->Nat->Prop} {w0:Base} {g:Gh} {σ:St} {a:Act} {w:World}
theorem QGJ (hF:FreeF F) (I:Inv N m0 w0 g σ a w) {o:Oper} {d td ts b n:Nat} {dT sT elem:TypeId} {old:List X} {rows:List (List D)}
  (ho:o.op= .call { callee:= .builtin .copy,args:= #[.tmp td,.tmp ts],argTypes:= #[dT,sT]}) (hd:o.dst=some d) (vQ:d < N)
  (hu:P.underlying dT=some (.slice elem)) (bJ:(P.info? elem).map (·.size)=some 1)
  (lX:Qt σ.tmps td=some (.bs b 0 n 1)) (sC:Qt σ.tmps ts=some (.d (.sl 1 rows))) (hb:Qt σ.boxes b=some old) (hn:rows.length=n) (qA:0 < n) (aI:n<=old.length)
  {K:Act->World->Prop} {Q:Exit->Act->World->Prop}
  (hK:∀a' w',Inv N m0 w0 g { σ with tmps:=(d,.d (DI n))::σ.tmps,boxes:=(b,QCj old 0 (rows.flatten.map X.d))::σ.boxes} a' w'->K a' w'):o.wpIn F k P a w K Q:=by
 obtain⟨blk,cp,aG,s9,hc⟩:=I.tmps td _ lX;have h2:=I.tmps ts _ sC;simp only[RelX,Rel]at h2;obtain⟨hl,ad,cc,qV,dX,halt⟩:=h2;obtain⟨b2,o2,rfl,aZ⟩:=halt.resolve_left (λe=>by rw[e]at hn; simp at hn; omega)
 obtain⟨vs,ty,hh,hs,bQ⟩:=I.boxes b old hb blk aG;have cV:∀j (hj:j < rows.length),∃x v,rows[j]=[x]/\w.cell? ⟨b2,o2+j,none⟩=some v/\v.oneCell'=true/\Rel g.imm w x v:=λj hj=>by
  obtain⟨q1,q2⟩:=aZ.get j rows[j] (Zg hj);obtain⟨x,hx⟩:∃x,rows[j]=[x]:=List.length_eq_one_iff.1 q1;rw[hx]at q2;obtain⟨⟨v,_,h1,h2,h3⟩,_⟩:=q2;rw[Nat.mul_one]at h1;exact⟨x,v,hx,h1,h2,h3⟩
 have qX:∀(l:List (List D)),(∀r∈l,∃x,r=[x])->l.flatten=l.map λr=>r.headD .top:=by
  intro l
  induction l with
  | nil=>intro _; rfl
  | cons r l ih=>
   intro h;obtain⟨x,rfl⟩:=h r (List.mem_cons_self ..);rw[List.flatten_cons,ih λr hr=>h r (List.mem_cons_of_mem _ hr)]; rfl
 have bG:∀r∈rows,∃x,r=[x]:=λr hr=>by
  obtain⟨j,hj,rfl⟩:=List.mem_iff_getElem.1 hr;obtain⟨x,v,h1,_⟩:=cV j hj;exact⟨x,h1⟩
 have kK:rows.flatten.length=n:=by rw[qX rows bG,List.length_map,hn]
 have pH:∀j x,rows.flatten[j]?=some x->∃(hj:j < rows.length),rows[j]=[x]:=λj x h=>by
  rw[qX rows bG,List.getElem?_map]at h;have hj:j < rows.length:=by
   by_cases hj:j < rows.length
   .exact hj
   .rw[List.getElem?_eq_none (by omega)]at h; cases h
  rw[Zg hj]at h;obtain⟨y,v,h1,_⟩:=cV j hj;rw[h1]at h;simp only[Option.map_some,List.headD_cons,Zs]at h;exact⟨hj,by rw[h1,h]⟩
 let us:List Value:=(List.range n).map λj=>(w.cell? ⟨b2,o2+j,none⟩).getD undef
 have xL:us.length=n:=by simp[us]
 have cR:∀j v,us[j]?=some v->j < rows.length/\w.cell? ⟨b2,o2+j,none⟩=some v/\v.oneCell'=true/\∀x,rows.flatten[j]?=some x->Rel g.imm w x v:=λj v h=>by
  have hj:j < n:=by rw[<-xL]; exact(Zi.1 h).1
  have cM:j < rows.length:=by omega
  obtain⟨x,u,h1,h2,h3,h4⟩:=cV j cM;have:us[j]?=some u:=by simp[us,hj,h2]
  rw[this]at h;cases h;refine⟨cM,h2,h3,λy hy=>?_⟩;obtain⟨_,h5⟩:=pH j y hy;rw[h1]at h5;cases h5;exact h4
 have aH:=run_copy_row (P:=P) w dT sT o.type elem blk 0 n cp ⟨b2,o2,none⟩ rows.length cc vs ty us hu bJ hh (by rw[xL,hn]; simp) (λj v h=>by
  have e:(⟨b2,o2,none⟩:Addr).add j=⟨b2,o2+j,none⟩:=by
   cases j<;>rfl
  rw[e]; exact(cR j v h).2.1) (by rw[xL]; have:old.length<=vs.size:=hs; omega) (λv hv=>by
  obtain⟨j,hj,rfl⟩:=List.mem_iff_getElem.1 hv;exact(cR j _ (Zg hj)).2.2.1)
 have I2:=I.store (off:=0) (cs:=rows.flatten.map X.d) aG hb hh (by rw[List.length_map,kK]; omega) us (by rw[xL,List.length_map,kK]) (λu hu=>by
  obtain⟨j,hj,rfl⟩:=List.mem_iff_getElem.1 hu;exact(cR j _ (Zg hj)).2.2.1) (λj x v h1 h2=>by
  rw[List.getElem?_map]at h1;cases hx:rows.flatten[j]? with
  | none=>rw[hx]at h1; cases h1
  | some y=>
   rw[hx]at h1;cases h1;exact(cR j v h2).2.2.2 y hx)
 refine Qck hF (v:=goInt us.length) (w':=w.setRow blk (vs.toList.take 0++us++vs.toList.drop (0+us.length)).toArray) ?_ ?_ (by rw[ho]; intro c h; cases h)
 .have e1:a.eval (.tmp td)= .slice (some ⟨blk,0,none⟩) n cp:=s9;have e2:a.eval (.tmp ts)= .slice (some ⟨b2,o2,none⟩) rows.length cc:=qV;simp[execOp,ho,resolve,invoke,builtin,e1,e2,aH,Result.andThen]
 .rw[hd];refine hK _ _ (I2.put (d:=some d) (x:= .d (DI n)) (λ_ h=>by cases h; exact vQ) ?_)
  rw[xL];simp[RelX,Rel,goInt]
end
end Go.Proofs.YticoemblgkemiaaGreatDoor
