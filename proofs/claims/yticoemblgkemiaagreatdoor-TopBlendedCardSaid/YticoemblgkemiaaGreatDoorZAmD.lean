/-
  A loop over a function: its rounds, as the plain machine runs them. For any program. No program here.
-/
import Derived.Test.YticoemblgkemiaaGreatDoorZAmC
set_option linter.unusedSectionVars false
set_option linter.unusedSimpArgs false
set_option linter.unusedVariables false
namespace Go.Proofs.YticoemblgkemiaaGreatDoor
open Go.RowKit
def AEx.out:AEx→Exit
 | .normal=> .normal
 | .exit i=> .exit i
 | .ret=> .ret
 | .pan v=> .panic [{ v,recovered:=false}]
def AEx.jump:AEx→Code
 | .normal=> .skip
 | .exit i=> .exit i
 | .ret=> .ret
 | .pan _=> .skip
section
variable {P:Program} {c:Cx} {N:Nat} {m0:Nat→Nat→Prop} {w0:Base} {g g':Gh} {σ σ':St} {a a':Act} {w w':World}
theorem RelX.base {b1 b2:Nat} {toks:List Nat} {x:X} {v:Value} (h:RelX g w b1 toks x v):RelX g w b2 toks x v:=by
 cases x with
 | sl k rows own=>
  cases own with
  | ex=>exact h
  | tok t=>exact h
  | own t=>exact h
 | _=>exact h
theorem BoxAt.base {b1 b2:Nat} {toks:List Nat} {blk:Nat} {cs:List X} (h:BoxAt g w b1 toks blk cs):BoxAt g w b2 toks blk cs:=by
 obtain⟨vs,ty,h1,h2,h3⟩:=h;exact⟨vs,ty,h1,h2,fun j x v k1 k2=>⟨(h3 j x v k1 k2).1,(h3 j x v k1 k2).2.base⟩⟩
def Qfb (w:World) (g:Gh) (fz:List (Nat×Obj)):Base:=⟨w,g.box,g.tok,fz,False,[]⟩
theorem Inv.rebase (I:Inv N m0 w0 g σ a w) (fz:List (Nat×Obj)) (hfz:∀p∈fz,w.heap[p.1]?=some p.2∧p.2.isCells=false∧∀l c,p.2≠ .map l c) {tmps:List (Nat×X)} (ht:∀t x,Qt tmps t=some x→RelX g w 0 σ.toks x (a'.tmps.getD t undef)) (hs:a'.tmps.size=N) (hd:a'.defers=[]):
  Inv N g.imm (Qfb w g fz) g { σ with tmps:=tmps} a' w where
 below:=KeepsW.refl _ _
 size:=hs
 defers:=⟨[],hd,List.nodup_nil,fun D hD=>by cases hD⟩
 lt:=I.lt
 old:=fun _ _ h=>h
 new:=fun _ _ h=> .inl h
 tmps:=fun t x h=>(ht t x h).base
 boxb:=fun i b h=>⟨.inr (.inl ⟨i,h⟩),(I.boxb i b h).2⟩
 boxi:=I.boxi
 tokb:=fun t b h=>⟨(I.tokb t b h).1,.inr (.inr ⟨t,h⟩),(I.tokb t b h).2.2⟩
 toki:=I.toki
 boxes:=fun b cs h blk hb=>(I.boxes b cs h blk hb).base
 out:=fun i b h=>h
 fz:=hfz
 maps:=I.maps
 cells:=⟨fun _ _ _=>rfl,I.globIn⟩
theorem Inv.unbase (hdf:w0.df=[]) (I:Inv N m0 w0 g σ a w) {fz:List (Nat×Obj)} (hsub:∀p∈w0.fz,p∈fz) (I':Inv N g.imm (Qfb w g fz) g' σ' a' w'):Inv N m0 w0 g' σ' a' w':=by
 have hsz:=I.below.size;have hsz':w.heap.size≤w'.heap.size:=I'.below.size;have hwr:∀b,(Qfb w g fz).writ b→w0.heap.size≤b∨w0.writ b:=by
  rintro b (⟨i,hi⟩ | ⟨t,ht⟩)
  ·exact(I.boxb i b hi).1
  ·exact(I.tokb t b ht).2.1
 have hb:∀b,((Qfb w g fz).heap.size≤b∨(Qfb w g fz).writ b)→w0.heap.size≤b∨w0.writ b:=by
  rintro b (h | h)
  ·exact .inl (Nat.le_trans hsz h)
  ·exact hwr b h
 exact⟨I.below.but I'.below (fun b h1 h2=>(hwr b h2).resolve_left (Nat.not_le.2 h1)),I'.size,by
   obtain⟨Ds,h1,h2,h3⟩:=I'.defers;exact⟨Ds,by rw[hdf]; exact h1,h2,fun D hD=>(h3 D hD).1.2.elim⟩,I'.lt,fun b o h=>I'.old b o (I.old b o h),fun b o h=>by
   rcases I'.new b o h with h | h
   ·exact I.new b o h
   ·exact .inr (hb b h),fun t x h=>(I'.tmps t x h).base,fun i b h=>⟨hb b (I'.boxb i b h).1,(I'.boxb i b h).2⟩,I'.boxi,fun t b h=>⟨(I'.tokb t b h).1,hb b (I'.tokb t b h).2.1,(I'.tokb t b h).2.2⟩,I'.toki,fun b cs h blk hb=>(I'.boxes b cs h blk hb).base,fun i b h=>I'.out i b (I.out i b h),fun p hp=>I'.fz p (hsub p hp),I'.maps,QbG I.cells I.old (fun b o h=>I'.cells.1 b o h)⟩
theorem Inv.later (I:Inv N m0 w0 g σ a w) (hb:Below w.heap.size w w'):Inv N m0 w0 g σ a w':=
 I.tr (g':=g) ⟨⟨fun _ _ h=>h,fun b o h=>hb.cell (p:=⟨b,o,none⟩) (I.lt b o h)⟩,fun _ _ h=>h,fun _ h=>h,fun t _ h=>⟨h,fun b hbk=>⟨hbk,fun _ hx=>hx,hb.block b (I.tokb t b hbk).1⟩⟩⟩ (hb.mono I.below.size) (KeepN.of_below hb) (fun b o h=>Nat.lt_of_lt_of_le (I.lt b o h) hb.size) I.new rfl rfl fun i b h=>⟨(I.boxb i b h).2.2,hb.block b (I.boxb i b h).2.1⟩
structure Away (g:Gh) (ln:Nat):Prop where
 imm:∀o,¬g.imm ln o
 box:∀i,g.box i≠some ln
 tok:∀t,g.tok t≠some ln
theorem Inv.putRec (I:Inv N m0 w0 g σ a w) {ln:Nat} (hw:Away g ln) (hln:w0.heap.size≤ln) (hfz:∀p∈w0.fz,p.1≠ln) {r:Loop} (hr:w.heap[ln]?=some (.loop r)) (r':Loop):Inv N m0 w0 g σ a (w.putObj ln (.loop r')):=by
 have hoth:∀k,k≠ln→(w.putObj ln (.loop r')).heap[k]?=w.heap[k]?:=fun k hk=>World.putObj_heap_other hk;have hs:(w.putObj ln (.loop r')).heap.size=w.heap.size:=World.putObj_size;have hcell:∀b o,g.imm b o→(w.putObj ln (.loop r')).cell? ⟨b,o,none⟩=w.cell? ⟨b,o,none⟩:=fun b o h=>World.cell?_of_block (w:=w) (hoth b (fun e=>hw.imm o (e ▸ h)));have e:Tr g w σ.toks g (w.putObj ln (.loop r')) σ.toks:=⟨⟨fun _ _ h=>h,hcell⟩,fun _ _ h=>h,fun _ h=>h,fun t _ h=>⟨h,fun b hb=>⟨hb,fun _ hx=>hx,hoth b (fun e=>hw.tok t (e ▸ hb))⟩⟩⟩;refine⟨⟨I.below.os,I.below.tape,I.below.output,by rw[hs]; exact I.below.size,fun k hk hn=>(hoth k (fun e=>by subst e; exact absurd hk (Nat.not_lt.2 hln))).trans (I.below.block k hk hn)⟩,I.size,?_,fun b o h=>by rw[hs]; exact I.lt b o h,I.old,I.new,fun t x h=>RelX.tr e (I.tmps t x h),fun i b h=>by rw[hs]; exact I.boxb i b h,I.boxi,fun t b h=>by rw[hs]; exact I.tokb t b h,I.toki,fun b cs h blk hb=>BoxAt.tr e (I.boxes b cs h blk hb) (hoth blk (fun e=>hw.box b (e ▸ hb))),I.out,fun p hp=>⟨(hoth _ (hfz p hp)).trans (I.fz p hp).1,(I.fz p hp).2⟩,fun i mc hi blk hb=>(I.maps i mc hi blk hb).keep (hoth blk (fun e=>hw.box i (e ▸ hb))),QbG I.cells I.old hcell⟩
 obtain⟨Ds,h1,h2,h3⟩:=I.defers;refine⟨Ds,h1,h2,fun D hD=>⟨(h3 D hD).1,(hoth D (fun e=>?_)).trans (h3 D hD).2⟩⟩;subst e;have:=(h3 _ hD).2;rw[hr]at this; cases this
theorem Inv.putBoth {W:World} {gp:Gh} {fz:List (Nat×Obj)} (I:Inv N m0 (Qfb W gp fz) g σ a w) {ln:Nat} (hw:Away g ln) (hfz:∀p∈fz,p.1≠ln) (hlt:ln < W.heap.size) (r':Loop):Inv N m0 (Qfb (W.putObj ln (.loop r')) gp fz) g σ a (w.putObj ln (.loop r')):=by
 have hoth:∀(w:World) k,k≠ln→(w.putObj ln (.loop r')).heap[k]?=w.heap[k]?:=fun w k hk=>World.putObj_heap_other hk;have hs:∀w:World,(w.putObj ln (.loop r')).heap.size=w.heap.size:=fun w=>World.putObj_size;have hcell:∀(w:World) b o,b≠ln→(w.putObj ln (.loop r')).cell? ⟨b,o,none⟩=w.cell? ⟨b,o,none⟩:=fun w b o h=>World.cell?_of_block (w:=w) (hoth w b h);have him:∀b o,g.imm b o→b≠ln:=fun b o h e=>hw.imm o (e ▸ h);have hsz:W.heap.size≤w.heap.size:=I.below.size;have e:Tr g w σ.toks g (w.putObj ln (.loop r')) σ.toks:=⟨⟨fun _ _ h=>h,fun b o h=>hcell w b o (him b o h)⟩,fun _ _ h=>h,fun _ h=>h,fun t _ h=>⟨h,fun b hb=>⟨hb,fun _ hx=>hx,hoth w b (fun e=>hw.tok t (e ▸ hb))⟩⟩⟩;refine⟨⟨I.below.os,I.below.tape,I.below.output,?_,fun k hk hn=>?_⟩,I.size,?_,fun b o h=>by rw[hs]; exact I.lt b o h,I.old,fun b o h=>?_,fun t x h=>(RelX.tr e (I.tmps t x h)).base,fun i b h=>?_,I.boxi,fun t b h=>?_,I.toki,fun b cs h blk hb=>(BoxAt.tr e (I.boxes b cs h blk hb) (hoth w blk (fun e=>hw.box b (e ▸ hb)))).base,I.out,fun p hp=>⟨(hoth w _ (hfz p hp)).trans (I.fz p hp).1,(I.fz p hp).2⟩,fun i mc hi blk hb=>(I.maps i mc hi blk hb).keep (hoth w blk (fun e=>hw.box i (e ▸ hb))),fun b o h=>?_,I.cells.2.ext ⟨fun _ _ h=>h,fun b o h=>hcell W b o (him b o (I.old b o h))⟩⟩
 ·show(W.putObj ln (.loop r')).heap.size≤_;rw[hs,hs]; exact hsz
 ·have hk':k < W.heap.size:=by
   have:k < (W.putObj ln (.loop r')).heap.size:=hk
   rwa [hs]at this
  show _=(W.putObj ln (.loop r')).heap[k]?;by_cases e:k=ln
  ·subst e;rw[World.putObj_heap_same hk',World.putObj_heap_same (Nat.lt_of_lt_of_le hk' hsz)]
  ·rw[hoth w k e,hoth W k e];exact I.below.block k hk' hn
 ·obtain⟨Ds,h1,h2,h3⟩:=I.defers;refine⟨Ds,h1,h2,fun D hD=>⟨?_,(hoth w D (fun e=>?_)).trans (h3 D hD).2⟩⟩
  ·exact(h3 D hD).1.2.elim
  ·exact(h3 D hD).1.2.elim
 ·rcases I.new b o h with h | h | h
  ·exact .inl h
  ·refine .inr (.inl ?_);show(W.putObj ln (.loop r')).heap.size≤b;rw[hs]; exact h
  ·exact .inr (.inr h)
 ·obtain⟨h1,h2,h3⟩:=I.boxb i b h;refine⟨h1.imp (fun h=>?_) (fun h=>h),by rw[hs]; exact h2,h3⟩
  show(W.putObj ln (.loop r')).heap.size≤b;rw[hs]; exact h
 ·obtain⟨h1,h2,h3⟩:=I.tokb t b h;refine⟨by rw[hs]; exact h1,h2.imp (fun h=>?_) (fun h=>h),h3⟩
  show(W.putObj ln (.loop r')).heap.size≤b;rw[hs]; exact h
 ·have hne:=him b o (I.old b o h);rw[hcell w b o hne];show _=(W.putObj ln (.loop r')).cell? ⟨b,o,none⟩;rw[hcell W b o hne];exact I.cells.1 b o h
theorem QdT {ln:Nat} {fz:List (Nat×Obj)} (hw:Away g ln) (hlt:ln < w.heap.size) (I':Inv N g.imm (Qfb w g fz) g' σ' a' w'):Away g' ln:=by
 have hwr:¬(Qfb w g fz).writ ln:=by
  rintro(⟨i,hi⟩ | ⟨t,ht⟩)
  ·exact hw.box i hi
  ·exact hw.tok t ht
 refine⟨fun o ho=>?_,fun i hi=>?_,fun t ht=>?_⟩
 ·rcases I'.new ln o ho with h | h | h
  ·exact hw.imm o h
  ·exact absurd hlt (Nat.not_lt.2 h)
  ·exact hwr h
 ·rcases(I'.boxb i ln hi).1 with h | h
  ·exact absurd hlt (Nat.not_lt.2 h)
  ·exact hwr h
 ·rcases(I'.tokb t ln ht).2.1 with h | h
  ·exact absurd hlt (Nat.not_lt.2 h)
  ·exact hwr h
theorem Qm3 {al:List Nat} :∀{l:List (Nat×List X)} {b:Nat} {cs:List X},Qt (Qut al l) b=some cs→al.contains b=false∧∃cs0,Qt l b=some cs0∧cs=cs0.map (X.keepP al)
 | [],b,cs,h=>by cases h
 | (i,x)::t,b,cs,h=>by
  simp only[Qut]at h;split at h
  ·rename_i hc;obtain⟨h1,cs0,h2,h3⟩:=Qm3 h;refine⟨h1,cs0,?_,h3⟩;simp only[Qt]; rw[if_neg (fun e=>by rw[e,hc]at h1; cases h1)]; exact h2
  ·rename_i hc;simp only[Qt]at h⊢;split at h
   ·rename_i e; subst e;simp only[Option.some.injEq]at h;exact⟨by simpa using hc,x,by rw[if_pos rfl],h.symm⟩
   ·rename_i e;obtain⟨h1,cs0,h2,h3⟩:=Qm3 h;exact⟨h1,cs0,by rw[if_neg e]; exact h2,h3⟩
theorem QmY {al:List Nat} :∀{l:List (Nat×(Nat×List (Value×Value)))} {b:Nat} {mc:Nat×List (Value×Value)},Qt (QtQ al l) b=some mc→al.contains b=false∧Qt l b=some mc
 | [],b,mc,h=>by cases h
 | (i,x)::t,b,mc,h=>by
  simp only[QtQ]at h;split at h
  ·rename_i hc;obtain⟨h1,h2⟩:=QmY h;refine⟨h1,?_⟩;simp only[Qt]; rw[if_neg (fun e=>by rw[e,hc]at h1; cases h1)]; exact h2
  ·rename_i hc;simp only[Qt]at h⊢;split at h
   ·rename_i e; subst e;exact⟨by simpa using hc,by rw[if_pos rfl]; exact h⟩
   ·rename_i e;obtain⟨h1,h2⟩:=QmY h;exact⟨h1,by rw[if_neg e]; exact h2⟩
theorem Qjx {al:List Nat} {base:Nat} {toks:List Nat} {x:X} {v:Value} (h:RelX g w base toks x v):RelX (Q5 al g) w base toks (x.keepP al) v:=by
 unfold X.keepP;split
 ·rename_i hp; exact Qke hp h
 ·simp[RelX,Rel]
theorem Inv.rest (I:Inv N m0 w0 g σ a w) {al:List Nat} (hal:∀d∈al,w0.out d=none) {t0:List (Nat×X)} (ht:∀t x,Qt t0 t=some x→RelX (Q5 al g) w 0 [] x (a'.tmps.getD t undef)) (ht2:∀t x,Qt t0 t=some x→∀toks,RelX (Q5 al g) w 0 [] x (a'.tmps.getD t undef)→RelX (Q5 al g) w 0 toks x (a'.tmps.getD t undef)) (hs:a'.tmps.size=N) (hd:a'.defers=w0.df):
  Inv N m0 w0 (Q5 al g) (QcH al t0 σ) a' w:=by
 have hb:∀i b,(Q5 al g).box i=some b→al.contains i=false∧g.box i=some b:=by
  intro i b hi;simp only[Q5]at hi;split at hi
  ·cases hi
  ·rename_i hc; exact⟨by simpa using hc,hi⟩
 refine⟨I.below,hs,⟨[],hd,List.nodup_nil,fun D hD=>by cases hD⟩,I.lt,I.old,I.new,fun t x h=>(ht2 t x h _ (ht t x h)).base,fun i b h=>I.boxb i b (hb i b h).2,fun i j b h h'=>I.boxi i j b (hb i b h).2 (hb j b h').2,fun t b h=>⟨(I.tokb t b h).1,(I.tokb t b h).2.1,fun i hi=>(I.tokb t b h).2.2 i (hb i b hi).2⟩,I.toki,fun b cs h blk hblk=>?_,fun i b hi=>?_,I.fz,fun i mc hi blk hblk=>?_,I.cells⟩
 ·obtain⟨_,cs0,h2,rfl⟩:=Qm3 h;obtain⟨vs,ty,k1,k2,k3⟩:=I.boxes b cs0 h2 blk (hb b blk hblk).2;refine⟨vs,ty,k1,by simpa using k2,fun j x v p1 p2=>?_⟩
  rw[List.getElem?_map]at p1;cases hj:cs0[j]? with
  | none=>rw[hj]at p1; cases p1
  | some y=>
   rw[hj]at p1; simp at p1; subst p1;exact⟨(k3 j y v hj p2).1,Qjx (k3 j y v hj p2).2⟩
 ·have h1:=I.out i b hi;simp only[Q5];rw[if_neg]
  ·exact h1
  ·intro hc;rw[hal i (by simpa using hc)]at hi; cases hi
 ·exact I.maps i mc (QmY hi).2 blk (hb i blk hblk).2
def X.noTok:X→Prop
 | .sl _ _ _=>False
 | _=>True
theorem Qkz (x:X):x.strip.noTok:=by
 cases x with
 | sl k rows own=>cases own<;>trivial
 | _=>trivial
theorem QjS {al:List Nat} {x:X} (h:x.noTok):(x.keepP al).noTok:=by
 unfold X.keepP;split
 ·exact h
 ·trivial
theorem RelX.toks {x:X} (hx:x.noTok) {b1 b2:Nat} {t1 t2:List Nat} {v:Value} (h:RelX g w b1 t1 x v):RelX g w b2 t2 x v:=by
 cases x with
 | sl k rows own=>exact hx.elim
 | _=>exact h
theorem RelX.tr0 {x:X} (hx:x.noTok) {b1 b2:Nat} {t1 t2:List Nat} (e:ExtM g.imm w g'.imm w') (hb:∀i b,g.box i=some b→g'.box i=some b) {v:Value} (h:RelX g w b1 t1 x v):RelX g' w' b2 t2 x v:=by
 have key:∀{caps:List (Sum Nat D)} {vs:List Value},CapsR g w caps vs→CapsR g' w' caps vs:=by
  intro caps
  induction caps with
  | nil=>intro vs h; exact h
  | cons c t ih=>
   intro vs h;cases c with
   | inl b=>
    simp only[CapsR]at h⊢;obtain⟨v,vt,h1,⟨blk,h2,h3⟩,h4⟩:=h;exact⟨v,vt,h1,⟨blk,hb _ _ h2,h3⟩,ih h4⟩
   | inr d=>
    simp only[CapsR]at h⊢;obtain⟨v,vt,h1,h2,h4⟩:=h;exact⟨v,vt,h1,Rel.ext e _ _ h2,ih h4⟩
 cases x with
 | sl k rows own=>exact hx.elim
 | d y=>exact Rel.ext e _ _ h
 | agz cs=>exact Rel.ext e _ _ h
 | fx f first caps=>
  obtain⟨fs,cs,h1,h2,h3⟩:=h;exact⟨fs,cs,h1,RelL.ext e _ _ h2,key h3⟩
 | loc b off=>obtain⟨blk,h1,h2⟩:=h; exact⟨blk,hb _ _ h1,h2⟩
 | bs b off n k=>obtain⟨blk,c,h1,h2⟩:=h; exact⟨blk,c,hb _ _ h1,h2⟩
 | mp b=>obtain⟨blk,h1,h2⟩:=h; exact⟨blk,hb _ _ h1,h2⟩
 | agb cs=>obtain⟨vs,h1,h2⟩:=h; exact⟨vs,h1,h2.map (fun x v hx=>Rel.ext e x v hx) fun i _ b h=>hb i b h⟩
theorem QhS {al:List Nat} :∀{l:List (Nat×X)} {t:Nat} {x:X},Qt (Qds al l) t=some x→∃y,Qt l t=some y∧x=(y.strip).keepP al
 | [],t,x,h=>by cases h
 | (i,y)::r,t,x,h=>by
  simp only[Qds,Qt]at h⊢;split at h
  ·rename_i e; rw[if_pos e]; simp only[Option.some.injEq]at h; exact⟨y,rfl,h.symm⟩
  ·rename_i e; rw[if_neg e]; exact QhS h
end
end Go.Proofs.YticoemblgkemiaaGreatDoor
namespace Go.Proofs.YticoemblgkemiaaGreatDoor
open Go.RowKit
def QEl (ops:List Oper) (p:Nat) (bh:List Nat):Bool:=bh.all fun j=>((QpG ops).getD j 0).testBit p
def Qrz (ops:List Oper) (M ds:List Nat):Nat→List Oper→Bool
 | _,[]=>true
 | j,o::t=>(Qe4 o).all (fun u=>!ds.contains u||(List.range j).any fun k=>(M.getD j 0).testBit k&&((ops[k]?).bind (·.dst))==some u)&&Qrz ops M ds (j+1) t
def QrZ (ops:List Oper) (p:Nat) (bh:List Nat):Bool:=QdO 0 ops&&Qcz (QhL ops)&&ops.all (fun o=>o.guard.isNone)&&Qrz ops (QpG ops) (Qfm bh 0 ops) 0 ops&&QEl ops p bh
theorem QpW {ops:List Oper} {M ds:List Nat} :∀{l:List Oper} {i:Nat},Qrz ops M ds i l=true→∀j o,l[j]?=some o→∀u∈Qe4 o,u∈ds→∃k,k < i+j∧(M.getD (i+j) 0).testBit k=true∧(ops[k]?).bind (·.dst)=some u
 | [],i,_,j,o,h,_,_,_=>by simp at h
 | o'::t,i,hb,j,o,h,u,hu,hd=>by
  simp only[Qrz,Bool.and_eq_true]at hb;cases j with
  | zero=>
   simp at h; subst h;have:=List.all_eq_true.1 hb.1 u hu;simp only[Bool.or_eq_true,Bool.not_eq_true',List.contains_eq_mem,decide_eq_false_iff_not,List.any_eq_true,Bool.and_eq_true,beq_iff_eq]at this;rcases this with h1 | ⟨k,h0,h2,h3⟩
   ·exact absurd hd h1
   ·exact⟨k,by simpa using h0,by simpa using h2,h3⟩
  | succ j=>
   obtain⟨k,h0,h1,h2⟩:=QpW hb.2 j o (by simpa using h) u hu hd
   exact⟨k,by omega,by rw[show i+(j+1)=i+1+j by omega]; exact h1,h2⟩
theorem QsW {bh:List Nat} :∀{l:List Oper} {i j:Nat} {o:Oper} {u:Nat},l[j]?=some o→bh.contains (i+j)=false→o.dst=some u→u∈Qfm bh i l
 | [],i,j,o,u,h,_,_=>by simp at h
 | q::t,i,j,o,u,h,hb,hd=>by
  cases j with
  | zero=>
   simp at h; subst h;rw[Nat.add_zero]at hb;simp only[Qfm];rw[if_neg (by rw[hb]; decide),hd]
   exact List.mem_cons_self ..
  | succ j=>
   have ih:u∈Qfm bh (i+1) t:=QsW (by simpa using h) (by rw[show i+1+j=i+(j+1) by omega]; exact hb) hd
   simp only[Qfm];split
   ·exact ih
   ·split
    ·exact List.mem_cons_of_mem _ ih
    ·exact ih
theorem Qhj {bh:List Nat} :∀{l:List Oper} {i u:Nat},u∈Qfm bh i l→u∈QhL l
 | [],i,u,h=>by cases h
 | q::t,i,u,h=>by
  unfold QhL;rw[List.filterMap_cons];simp only[Qfm]at h;split at h
  ·have:=Qhj h;split
   ·exact this
   ·exact List.mem_cons_of_mem _ this
  ·split at h
   ·rename_i d hd;rw[hd];simp only;rcases List.mem_cons.1 h with h | h
    ·subst h; exact List.mem_cons_self ..
    ·exact List.mem_cons_of_mem _ (Qhj h)
   ·rename_i hd;rw[hd];exact Qhj h
theorem Qhg {α:Type} :∀{l k:List (Nat×α)} {u:Nat},Qt (l++k) u=match Qt l u with | some x=>some x | none=>Qt k u
 | [],k,u=>rfl
 | (i,x)::t,k,u=>by
  simp only[List.cons_append,Qt];split
  ·rfl
  ·exact Qhg
theorem Qf8 {ds:List Nat} :∀{l:List (Nat×X)} {u:Nat},Qt (Qfi ds l) u=if ds.contains u then none else Qt l u
 | [],u=>by simp[Qfi,Qt]
 | (i,x)::t,u=>by
  simp only[Qfi];split
  ·rename_i h;rw[Qf8];simp only[Qt];split
   ·rfl
   ·rename_i hu;rw[if_neg (fun e=>hu (by subst e; exact h))]
  ·rename_i h;simp only[Qt];by_cases e:u=i
   ·subst e; rw[if_pos rfl,if_neg h,if_pos rfl]
   ·rw[if_neg e,Qf8,if_neg e]
def qAt (L:List (Nat×Nat×X)) (u:Nat):Option X:=Qt (L.map fun p=>p.2) u
theorem Qky:∀{L:List (Nat×Nat×X)} {u:Nat} {x:X},qAt L u=some x→∃j,(j,u,x)∈L
 | [],u,x,h=>by cases h
 | (i,d,y)::t,u,x,h=>by
  unfold qAt at h;simp only[List.map_cons,Qt]at h;split at h
  ·rename_i e; simp only[Option.some.injEq]at h; subst e; subst h; exact⟨i,by simp⟩
  ·obtain⟨j,h1⟩:=Qky (L:=t) h;exact⟨j,by simp[h1]⟩
theorem QlI:∀{L:List (Nat×Nat×X)} {u:Nat} {x:X} {j:Nat},(∀p∈L,∀q∈L,p.2.1=q.2.1→p=q)→(j,u,x)∈L→qAt L u=some x
 | [],u,x,j,_,h=>by simp at h
 | (i,d,y)::t,u,x,j,hu,h=>by
  unfold qAt;simp only[List.map_cons,Qt];split
  ·rename_i e;have:=hu _ h _ (List.mem_cons_self ..) e;simp only[Prod.mk.injEq]at this;rw[this.2.2]
  ·rename_i e;rcases List.mem_cons.1 h with h | h
   ·simp only[Prod.mk.injEq]at h; exact absurd h.2.1 e
   ·exact QlI (L:=t) (fun p hp q hq=>hu p (by simp[hp]) q (by simp[hq])) h
theorem QlF:∀{l:List Oper} {i j:Nat} {o o':Oper} {u:Nat},(QhL l).Nodup→l[i]?=some o→l[j]?=some o'→o.dst=some u→o'.dst=some u→i=j
 | [],i,j,o,o',u,_,h,_,_,_=>by simp at h
 | q::t,i,j,o,o',u,hn,hi,hj,h1,h2=>by
  have ht:(QhL t).Nodup:=by
   unfold QhL at hn⊢;rw[List.filterMap_cons]at hn;split at hn
   ·exact hn
   ·exact(List.nodup_cons.1 hn).2
  have hmem:∀(k:Nat) (o:Oper),t[k]?=some o→o.dst=some u→q.dst≠some u:=by
   intro k o hk hd hq;unfold QhL at hn;rw[List.filterMap_cons,hq]at hn;exact(List.nodup_cons.1 hn).1 (List.mem_filterMap.2 ⟨o,List.mem_of_getElem? hk,hd⟩)
  cases i with
  | zero=>
   simp at hi; subst hi;cases j with
   | zero=>rfl
   | succ j=>exact absurd h1 (hmem j o' (by simpa using hj) h2)
  | succ i=>
   cases j with
   | zero=>simp at hj; subst hj; exact absurd h2 (hmem i o (by simpa using hi) h1)
   | succ j=>exact congrArg Nat.succ (QlF ht (i:=i) (j:=j) (by simpa using hi) (by simpa using hj) h1 h2)
section
variable {F:Fence} {n:Nat} {P:Program} {c:Cx} {m0:Nat→Nat→Prop} {w0:Base} {g:Gh} {σ σ':St} {a:Act} {w:World}
theorem Inv.less {N:Nat} (I:Inv N m0 w0 g σ a w) (h1:∀u x,Qt σ'.tmps u=some x→x= .d .top∨Qt σ.tmps u=some x) (h2:∀b cs,Qt σ'.boxes b=some cs→Qt σ.boxes b=some cs) (h3:σ'.toks=σ.toks) (h4:σ'.maps=σ.maps):Inv N m0 w0 g σ' a w:=
 ⟨I.below,I.size,I.defers,I.lt,I.old,I.new,fun t x h=>by
  rcases h1 t x h with rfl | h
  ·simp only[RelX,Rel]
  ·rw[h3]; exact I.tmps t x h,I.boxb,I.boxi,I.tokb,I.toki,fun b cs h blk hb=>by rw[h3]; exact I.boxes b cs (h2 b cs h) blk hb,I.out,I.fz,by rw[h4]; exact I.maps,I.cells⟩
theorem QqF {o:Oper} {σ1 σ2:St} (h:∀x∈o.op.operands.toList,σ1.ev x=σ2.ev x):c.panAt o σ1=c.panAt o σ2:=by
 obtain⟨dst,op,ty,pos,after,guard⟩:=o;cases op<;>try rfl
 case call cc=>
  obtain⟨callee,args,argTypes⟩:=cc;cases callee<;>try rfl
  case value f=>
   have h1:σ1.ev f=σ2.ev f:=h f (by simp[Op.operands,Call.operands])
   have h2:args.toList.map σ1.ev=args.toList.map σ2.ev:=Qdp _ fun x hx=>h x (by simp only[Op.operands,Call.operands,Array.toList_append,List.mem_append]; exact .inr hx)
   simp only[Cx.panAt,h1,h2]
theorem Qj5 (hF:FreeF F) (hc:CxOk P c) {o:Oper} {v:Value} (h:c.panAt o σ=some v) (I:Inv c.N m0 w0 g σ a w) {next:Act→World→Prop} {Q:Exit→Act→World→Prop} (hQ:∀w',Inv c.N m0 w0 g σ a w'→Q (.panic [{ v,recovered:=false}]) a w'):o.wpIn F n P a w next Q:=by
 obtain⟨dst,op,ty,pos,after,guard⟩:=o;cases op<;>try (cases h; done)
 case call cc=>
  obtain⟨callee,args,argTypes⟩:=cc;cases callee<;>try (cases h; done)
  case value f=>
   simp only[Cx.panAt]at h;unfold Cx.panF at h;split at h
   case h_2=>cases h
   rename_i gf first caps hf
   split at h
   case isFalse=>cases h
   rename_i hemp;simp only[Bool.and_eq_true,Array.isEmpty_iff]at hemp;obtain⟨rfl,rfl⟩:=hemp;split at h
   case h_2=>cases h
   rename_i ds hds;obtain⟨hen,hpan⟩:=hc.pan gf ds v h;have hfv:=QbD I f;rw[hf]at hfv;simp only[RelX,Rel]at hfv;have hrun:(execOp a.eval ⟨dst,.call ⟨.value f,args,argTypes⟩,ty,pos,after,guard⟩).run P w= .ok (.enter gf (args.map a.eval)) w:=by
    simp[execOp,resolve,hfv,Deferred.ofValue,invoke,hen]
   have hargs:args.map a.eval=(args.toList.map a.eval).toArray:=by rw[←Array.toList_map,Array.toArray_toList]
   rw[hargs]at hrun;unfold Oper.wpIn;rw[Oper.semAt_eq _ _ _ (by intro c h; cases h),hrun]
   refine⟨fun f _=>hF.fn f,fun hd=>absurd hd (by rw[hF.depth]; simp),(hF.calls (hpan g.imm w _ I.lt I.globIn (Qjd I _ hds))).mono ?_⟩
   rintro e w' ⟨rfl,hb⟩;exact hQ w' (I.later hb)
theorem Qkb (hF:FreeF F) (hc:CxOk P c) (ops:Array Oper) {Q:Exit→Act→World→Prop} {σ1:St} {i:Nat} {o:Oper} {t:List Oper} (hs0:c.stepE ops.toList i o σ=some σ1) (I:Inv c.N m0 w0 g σ a w) (hal:∀d,Qai o=some d→g.box d=none∧Qt σ.maps d=none) (hus:¬g.used (QaN i))
  (hK:∀g' a' w',Inv c.N m0 w0 g' σ1 a' w'→(∀j,g.box j=none∧Qt σ.maps j=none→Qai o≠some j→g'.box j=none∧Qt σ1.maps j=none)→(∀t,g'.used t→g.used t∨t=QaN i)→wpListIn F n P ops Q t a' w'):wpListIn F n P ops Q (o::t) a w:=by
 unfold Cx.stepE at hs0;split at hs0
 ·rename_i σ2 hs;simp only[Option.some.injEq]at hs0; subst hs0;unfold Cx.step at hs;split at hs
  ·rename_i hw;have hw':=QbF I ops o hw;unfold wpListIn;rw[if_pos hw'];split at hs
   ·rename_i r hr;refine Qe0 hc.ty hc.eq hc.del hF hr hs I (fun cs e d hd=>?_) hus fun g' a' w' I' hb hu _=>?_
    ·subst e;exact hal d (by rw[Qcl hr]; exact hd)
    ·refine hK g' a' w' I' (fun j hj hne=>⟨hb j hj.1 ?_,by rw[Qsj hs]; exact hj.2⟩) hu
     by_cases hnew:∃cs,r= .new cs
     ·right;intro e;obtain⟨cs,hcs⟩:=hnew;subst hcs;exact hne (by rw[Qcl hr]; exact e)
     ·left; intro cs e; exact hnew ⟨cs,e⟩
   ·cases hs
  ·rename_i hw;have hw':=QbF I ops o hw;unfold wpListIn;rw[if_neg (by rw[hw']; simp)]
   refine⟨fun f _=>hF.fn f,?_⟩;have hp:PutOk c.N i σ o.dst .skip σ2:=hs;have hd:=hp.dst;have hg:=hp.get;simp only[St.res,Option.some.injEq]at hg; subst hg;exact hK g _ w (I.put hd (x:= .d (.v (.tuple #[]))) (v:=undef) (by simp only[RelX,Rel]; rfl)) (fun j hj _=>hj) (fun t ht=> .inl ht)
  ·cases hs
 ·split at hs0
  ·rename_i hw;have hw':=QbF I ops o hw;unfold wpListIn;rw[if_pos hw'];exact Qjw hF hc hs0 I hal hus fun g' a' w' I' hb hu=>hK g' a' w' I' hb hu
  ·cases hs0
theorem Qmn (hF:FreeF F) (hc:CxOk P c) {id:Nat} (ops:Array Oper) {Q:Exit→Act→World→Prop} {e:AEx} :∀(rest:List Oper) (i:Nat) (σ σ':St) (g:Gh) (a:Act) (w:World),c.runP id ops.toList i rest σ=some (e,σ')→Inv c.N m0 w0 g σ a w→(QR rest).Nodup→(∀d∈QR rest,g.box d=none∧Qt σ.maps d=none)→(∀j,i≤j→¬g.used (QaN j))→
  (∀g' a' w',Inv c.N m0 w0 g' σ' a' w'→Q e.out a' w')→wpListIn F n P ops Q rest a w
 | [],i,σ,σ',g,a,w,h,I,_,_,_,hQ=>by
  simp only[Cx.runP,Option.some.injEq,Prod.mk.injEq]at h;obtain⟨rfl,rfl⟩:=h;obtain⟨g2,I2⟩:=I.close id;exact hQ g2 a w I2
 | o::t,i,σ,σ',g,a,w,h,I,hnd,hal,hus,hQ=>by
  simp only[Cx.runP]at h;have hndt:(QR t).Nodup:=by
   rw[Qad]at hnd;exact(List.nodup_append.1 hnd).2.1
  have halt:∀d∈QR t,d∈QR (o::t):=fun d hd=>by rw[Qad]; simp[hd]
  split at h
  ·rename_i σ1 hs;refine Qkb hF hc ops hs I (fun d hd=>hal d (by rw[Qad,hd]; simp)) (hus i (Nat.le_refl _)) fun g' a' w' I' hb hu=>?_
   refine Qmn hF hc ops t (i+1) σ1 σ' g' a' w' h I' hndt (fun d hd=>hb d (hal d (halt d hd)) fun e=>?_) (fun j hj hj'=>?_) hQ
   ·rw[Qad,e]at hnd;exact(List.nodup_append.1 hnd).2.2 d (by simp) d hd rfl
   ·rcases hu _ hj' with h1 | h1
    ·exact hus j (by omega) h1
    ·unfold QaN at h1; omega
  ·split at h
   case h_2=>cases h
   rename_i hw;split at h
   case h_2=>cases h
   rename_i v hv;simp only[Option.some.injEq,Prod.mk.injEq]at h;obtain⟨rfl,rfl⟩:=h;have hw':=QbF I ops o hw;unfold wpListIn;rw[if_pos hw'];refine Qj5 hF hc hv I fun w' I'=>?_;exact hQ g a w' I'
theorem Qqt {t0:List (Nat×X)} {p:Nat} {bh:List Nat} :∀(rest:List Oper) (i:Nat) (L0 L:List (Nat×Nat×X)),c.opsQ σ t0 p bh i rest L0=some L→
  (∃L1,L=L1++L0∧∀q∈L1,i≤q.1∧q.1 < i+rest.length∧(q.1==p||bh.contains q.1)=false)∧∀(j:Nat) (o:Oper),rest[j]?=some o→(i+j==p||bh.contains (i+j))=false→
   ∃(d:Nat) (r:Res) (x:X) (A B:List (Nat×Nat×X)),L=A++(i+j,d,x)::B∧o.dst=some d∧d < c.N∧aop c.Γ c.eqs c.Δ o.op ({ σ with tmps:=qT B t0} :St).ev σ.boxes σ.toks=some r∧QzR r=some x∧(∀q∈A,i+j < q.1)∧(∀q∈B,q∈L0∨q.1 < i+j)
 | [],i,L0,L,h=>by
  simp only[Cx.opsQ,Option.some.injEq]at h;exact⟨⟨[],by simp[h],by simp⟩,fun j o h=>by simp at h⟩
 | o::t,i,L0,L,h=>by
  simp only[Cx.opsQ]at h;split at h
  ·rename_i hsk;obtain⟨⟨L1,h1,h2⟩,h3⟩:=Qqt t (i+1) L0 L h;refine⟨⟨L1,h1,fun q hq=>?_⟩,fun j o' hj hn=>?_⟩
   ·obtain⟨q1,q2,q3⟩:=h2 q hq;exact⟨by omega,by simp only[List.length_cons]; omega,q3⟩
   ·cases j with
    | zero=>rw[Nat.add_zero,hsk]at hn; cases hn
    | succ j=>
     obtain⟨d,r,x,A,B,q1,q2,q3,q4,q5,q6,q7⟩:=h3 j o' (by simpa using hj) (by rw[show i+1+j=i+(j+1) by omega]; exact hn)
     rw[show i+1+j=i+(j+1) by omega]at q1 q6 q7
     exact⟨d,r,x,A,B,q1,q2,q3,q4,q5,q6,q7⟩
  ·rename_i hsk;split at h
   case h_2=>cases h
   rename_i r d hr hd;split at h
   case isFalse=>cases h
   rename_i hdN;split at h
   case h_2=>cases h
   rename_i x hx;obtain⟨⟨L1,h1,h2⟩,h3⟩:=Qqt t (i+1) _ L h;refine⟨⟨L1++[(i,d,x)],by rw[h1]; simp,fun q hq=>?_⟩,fun j o' hj hn=>?_⟩
   ·rcases List.mem_append.1 hq with hq | hq
    ·obtain⟨q1,q2,q3⟩:=h2 q hq;exact⟨by omega,by simp only[List.length_cons]; omega,q3⟩
    ·simp only[List.mem_singleton]at hq; subst hq;exact⟨Nat.le_refl _,by simp only[List.length_cons]; omega,by simpa using hsk⟩
   ·cases j with
    | zero=>
     simp at hj; subst hj;refine⟨d,r,x,L1,L0,by simpa using h1,hd,by simpa[Qh0]using hdN,hr,hx,fun q hq=>by have:=(h2 q hq).1; omega,fun q hq=> .inl hq⟩
    | succ j=>
     obtain⟨d',r',x',A,B,q1,q2,q3,q4,q5,q6,q7⟩:=h3 j o' (by simpa using hj) (by rw[show i+1+j=i+(j+1) by omega]; exact hn)
     rw[show i+1+j=i+(j+1) by omega]at q1 q6 q7
     refine⟨d',r',x',A,B,q1,q2,q3,q4,q5,q6,fun q hq=>?_⟩;rcases q7 q hq with hq | hq
     ·rcases List.mem_cons.1 hq with rfl | hq
      ·exact .inr (by show i < _; omega)
      ·exact .inl hq
     ·exact .inr hq
set_option maxHeartbeats 1000000 in
theorem QuB (hF:FreeF F) (hc:CxOk P c) {id:Nat} {ops:Array Oper} {p:Nat} {bh:List Nat} {v:Value} (h:c.oneQ ops.toList p bh σ=some v) (hq:QrZ ops.toList p bh=true) (hal0:∀d∈QR ops.toList,w0.out d=none) (I:Inv c.N m0 w0 g σ a w) {Q:Exit→Act→World→Prop} (hQ:∀g' a' w',Inv c.N m0 w0 g' { σ with tmps:=Qfi (QhL ops.toList) σ.tmps} a' w'→Q (.panic [{ v,recovered:=false}]) a' w'):(Code.region id ops true).wpIn F n P Q a w:=by
 unfold Cx.oneQ at h;split at h
 case isFalse=>cases h
 rename_i hst;split at h
 case h_2=>cases h
 rename_i L op hL hop;have hop:ops[p]?=some op:=by simpa using hop
 obtain⟨hnd,hpl⟩:=QaJ hst;obtain⟨I0,hal,hus⟩:=I.start hal0 hst hpl;have I1:=I0.drew;simp only[QrZ,Bool.and_eq_true]at hq;obtain⟨⟨⟨⟨hed,hdn⟩,hgd⟩,hkn⟩,hbh⟩:=hq;have hdn:=QbX _ hdn;have hps:p < ops.size:=(Array.getElem?_eq_some_iff.1 hop).1;have hst':=hst;simp only[Qav,Bool.and_eq_true]at hst';obtain⟨⟨⟨⟨_,_⟩,_⟩,hbx⟩,_⟩:=hst';have hno:∀b∈QR ops.toList,Qt σ.boxes b=none:=by
  intro b hb;cases hg:Qt σ.boxes b with
  | none=>rfl
  | some cs=>
   have h:=List.all_eq_true.1 hbx _ (QeZ hg);simp only[Bool.and_eq_true,Bool.not_eq_true',List.contains_eq_mem,decide_eq_false_iff_not]at h;exact absurd hb h.1
 obtain⟨⟨L1,hL1,hLb⟩,hLat⟩:=Qqt ops.toList 0 [] L hL;rw[List.append_nil]at hL1;subst hL1;simp only[Nat.zero_add]at hLb hLat;generalize ht0:Qfi (Qfm bh 0 ops.toList) σ.tmps=t0 at*;have hent:∀q∈L,∃o,ops.toList[q.1]?=some o∧o.dst=some q.2.1∧∀q'∈L,q'.1=q.1→q'=q:=by
  intro q hq;obtain⟨_,h2,h3⟩:=hLb q hq;obtain⟨d,r,x,A,B,q1,q2,_,_,_,q6,q7⟩:=hLat q.1 _ (List.getElem?_eq_getElem h2) h3;have hall:∀q'∈L,q'.1=q.1→q'=(q.1,d,x):=by
   intro q' hq' he;rw[q1]at hq';rcases List.mem_append.1 hq' with h | h
   ·have:=q6 q' h; omega
   ·rcases List.mem_cons.1 h with h | h
    ·exact h
    ·rcases q7 q' h with h | h
     ·cases h
     ·omega
  have hqe:=hall q hq rfl;refine⟨_,List.getElem?_eq_getElem h2,by rw[q2,hqe],fun q' hq' he=>?_⟩
  rw[hall q' hq' he,hqe]
 have hdst:∀{i j:Nat} {o o':Oper} {u:Nat},ops.toList[i]?=some o→ops.toList[j]?=some o'→o.dst=some u→o'.dst=some u→i=j:=by
  intro i j o o' u hi hj h1 h2;exact QlF hdn hi hj h1 h2
 have huq:∀q∈L,∀q'∈L,q.2.1=q'.2.1→q=q':=by
  intro q hq q' hq' he;obtain⟨o,h1,h2,h3⟩:=hent q hq;obtain⟨o',h4,h5,_⟩:=hent q' hq';have:=hdst h1 h4 h2 (by rw[he]; exact h5)
  exact(h3 q' hq' this.symm).symm
 have hskip:∀(listed:Array Bool),Qn5 ops listed→listed.getD p false=false→∀k o,ops[k]?=some o→Qla o listed→bh.contains k=false:=by
  intro listed hdn hlp k o hk hdep;cases hcb:bh.contains k with
  | false=>rfl
  | true=>
   have:=List.all_eq_true.1 hbh k (by simpa using hcb)
   rw[Qfv hed hdn k o hk hdep p this]at hlp; cases hlp
 have hev:∀(listed:Array Bool),Qn5 ops listed→listed.getD p false=false→∀i o,ops[i]?=some o→Qla o listed→∀S:List (Nat×Nat×X),(∀q∈S,q∈L)→(∀q∈L,q.1 < i→q∈S)→
   ∀x∈o.op.operands.toList,({ σ with tmps:=qT (L.filter fun q=>listed.getD q.1 false) t0} :St).ev x=({ σ with tmps:=qT S t0} :St).ev x:=by
  intro listed hdw hlp i o ho hdep S hS1 hS2 x hx;cases x with
  | tmp u=>
   have hu:u∈Qe4 o:=by
    unfold Qe4;simp only[List.mem_filterMap];exact⟨.tmp u,hx,rfl⟩
   have key:qAt (L.filter fun q=>listed.getD q.1 false) u=qAt S u:=by
    by_cases hud:u∈Qfm bh 0 ops.toList
    ·obtain⟨k,k0,k1,k2⟩:=QpW hkn i o (by simpa using ho) u hu hud
     rw[Nat.zero_add]at k0 k1;have hlk:=Qfv hed hdw i o ho hdep k k1;cases hk:ops.toList[k]? with
     | none=>rw[hk]at k2; cases k2
     | some ok=>
      rw[hk]at k2;simp only[Option.bind_some]at k2;have hk':ops[k]?=some ok:=by simpa using hk
      have hnb:=hskip listed hdw hlp k ok hk' (hdw k ok hk' hlk);have hkp:k≠p:=by rintro rfl; rw[hlk]at hlp; cases hlp
      obtain⟨d,r,x,A,B,q1,q2,_⟩:=hLat k ok hk (by rw[hnb]; simp[hkp])
      rw[k2]at q2; cases q2;have hm:(k,u,x)∈L:=by rw[q1]; simp
      rw[QlI (fun q hq q' hq'=>huq q (List.mem_filter.1 hq).1 q' (List.mem_filter.1 hq').1) (List.mem_filter.2 ⟨hm,hlk⟩),QlI (fun q hq q' hq'=>huq q (hS1 q hq) q' (hS1 q' hq')) (hS2 _ hm k0)]
    ·have hn:∀S:List (Nat×Nat×X),(∀q∈S,q∈L)→qAt S u=none:=by
      intro S hS;cases hqa:qAt S u with
      | none=>rfl
      | some x=>
       obtain⟨j,hj⟩:=Qky hqa;obtain⟨o',h1,h2,_⟩:=hent _ (hS _ hj);have hb:=(hLb _ (hS _ hj)).2.2;simp only[Bool.or_eq_false_iff]at hb;exact absurd (QsW (i:=0) h1 (by rw[Nat.zero_add]; exact hb.2) h2) hud
     rw[hn _ fun q hq=>(List.mem_filter.1 hq).1,hn S hS1]
   have key':Qt (List.map (fun p=>p.2) (L.filter fun q=>listed.getD q.1 false)) u=Qt (List.map (fun p=>p.2) S) u:=key;simp only[St.ev,qT,Qhg,key']
  | _=>rfl
 refine wpIn_region_any hc.mix ?_;refine Qpi (fun listed a w=>listed.getD p false=false∧∃g,Inv c.N m0 w0 g { σ with tmps:=qT (L.filter fun q=>listed.getD q.1 false) t0} a w∧(∀j o d,ops[j]?=some o→listed.getD j false=false→Qai o=some d→g.box d=none)∧∀j,listed.getD j false=false→¬g.used (QaN j)) ?dep ?step ?fin ops.size (Array.replicate ops.size false) a _ (by simp) ?down (by simp) ?start
 case dep=>
  intro i o ho e he hb;have:=Qct ops.toList 0 hed i o (by simpa using ho) e he hb
  omega
 case down=>
  intro i o ho hl;have:i < ops.size:=(Array.getElem?_eq_some_iff.1 ho).1;simp[Array.getD_eq_getD_getElem?,this]at hl
 case start=>
  have h0:∀k,(Array.replicate ops.size false).getD k false=false:=by
   intro k;simp only[Array.getD_eq_getD_getElem?,Array.getElem?_replicate];split<;>rfl
  refine⟨h0 p,_,I1.less (fun u x hx=>?_) (fun _ _ h=>h) rfl rfl,fun j o d hj _ hd=>(hal d (Qcq _ (by simpa using hj) hd)).1,fun j _=>hus j⟩
  have hf:(L.filter fun q=>(Array.replicate ops.size false).getD q.1 false)=[]:=by
   rw[List.filter_eq_nil_iff];intro q _; rw[h0]; simp
  rw[hf]at hx;simp only[qT,List.map_nil,List.nil_append]at hx;rw[←ht0,Qf8]at hx;split at hx
  ·cases hx
  ·exact .inr hx
 case fin=>
  rintro listed a' w' hs hall ⟨h1,_⟩;have:=hall p hps;rw[QcW (by omega),h1]at this; cases this
 case step=>
  rintro listed i o a' w' hs hdw ho hli hdep ⟨hlp,g1,IS,hJ1,hJ2⟩ K hK;have hilt:i < ops.size:=(Array.getElem?_eq_some_iff.1 ho).1;have hXi:listed.getD i false=false:=by rw[←QcW (by omega)]; exact hli
  unfold wpOpIn;rw[ho];have hg:o.guard=none:=by
   have:=List.all_eq_true.1 hgd o (List.mem_of_getElem? (by simpa using ho))
   simpa using this
  have hw:Region.wanted o (yielded ops a'.tmps)=true:=by simp[Region.wanted,hg]
  simp only[hw,if_true];by_cases hip:i=p
  ·subst hip;rw[hop]at ho; cases ho;have hpa:c.panAt op ({ σ with tmps:=qT (L.filter fun q=>listed.getD q.1 false) t0} :St)=some v:=by
    rw[QqF (hev listed hdw hlp i op hop hdep L (fun _ h=>h) (fun _ h _=>h))]; exact h
   refine Qj5 hF hc hpa IS fun w2 I2=>?_;refine hQ g1 a' w2 (I2.less (fun u x h=> .inr ?_) (fun _ _ h=>h) rfl rfl);have hud:u∉QhL ops.toList:=fun hm=>by
    have h':Qt (Qfi (QhL ops.toList) σ.tmps) u=some x:=h;rw[Qf8,if_pos (by simpa using hm)]at h'; cases h'
   have hux:Qt t0 u=some x:=by
    have h':Qt (Qfi (QhL ops.toList) σ.tmps) u=some x:=h;rw[Qf8,if_neg (by simpa using hud)]at h'
    rw[←ht0,Qf8,if_neg (by simpa using fun hm=>hud (Qhj hm))]; exact h'
   have hnq:qAt (L.filter fun q=>listed.getD q.1 false) u=none:=by
    cases hqa:qAt (L.filter fun q=>listed.getD q.1 false) u with
    | none=>rfl
    | some x=>
     obtain⟨j,hj⟩:=Qky hqa;obtain⟨o',h1,h2,_⟩:=hent _ (List.mem_filter.1 hj).1;exact absurd (List.mem_filterMap.2 ⟨o',List.mem_of_getElem? h1,h2⟩) hud
   have hnq':Qt (List.map (fun p=>p.2) (L.filter fun q=>listed.getD q.1 false)) u=none:=hnq;simp only[qT,Qhg,hnq'];exact hux
  ·have hnb:=hskip listed hdw hlp i o ho hdep;obtain⟨d,r,x,A,B,q1,q2,q3,q4,q5,q6,q7⟩:=hLat i o (by simpa using ho) (by rw[hnb]; simp[hip])
   have hB1:∀q∈B,q∈L:=fun q hq=>by rw[q1]; simp[hq]
   have hB2:∀q∈L,q.1 < i→q∈B:=by
    intro q hq hlt;rw[q1]at hq;rcases List.mem_append.1 hq with hq | hq
    ·have:=q6 q hq; omega
    ·rcases List.mem_cons.1 hq with rfl | hq
     ·exact absurd hlt (Nat.lt_irrefl _)
     ·exact hq
   have haop:aop c.Γ c.eqs c.Δ o.op ({ σ with tmps:=qT (L.filter fun q=>listed.getD q.1 false) t0} :St).ev σ.boxes σ.toks=some r:=by
    rw[←q4];exact Qoq (hev listed hdw hlp i o ho hdep B hB1 hB2) (fun _ _ _ _ _=>rfl) fun _=>rfl
   have hmem:(i,d,x)∈L:=by rw[q1]; simp
   have hset:∀k,(listed.setIfInBounds i true).getD k false=if k=i then true else listed.getD k false:=fun k=>Qde listed i k false (by omega)
   have hnew:∀cs,r= .new cs→Qai o=some d:=by
    intro cs e; subst e;rw[Qcl haop]; exact q2
   have htm:∀u y,Qt (qT (L.filter fun q=>(listed.setIfInBounds i true).getD q.1 false) t0) u=some y→(u=d∧y=x)∨(u≠d∧Qt (qT (L.filter fun q=>listed.getD q.1 false) t0) u=some y):=by
    intro u y hy;simp only[qT,Qhg]at hy⊢;have huf:∀(f:Nat×Nat×X→Bool),∀q∈L.filter f,∀q'∈L.filter f,q.2.1=q'.2.1→q=q':=fun f q hq q' hq'=>huq q (List.mem_filter.1 hq).1 q' (List.mem_filter.1 hq').1;have hsub:∀q∈L,listed.getD q.1 false=true→(listed.setIfInBounds i true).getD q.1 false=true:=fun q _ hq=>by rw[hset]; split<;>simp[hq]
    have e1:Qt (List.map (fun p=>p.2) (L.filter fun q=>(listed.setIfInBounds i true).getD q.1 false)) u=qAt (L.filter fun q=>(listed.setIfInBounds i true).getD q.1 false) u:=rfl;have e2:Qt (List.map (fun p=>p.2) (L.filter fun q=>listed.getD q.1 false)) u=qAt (L.filter fun q=>listed.getD q.1 false) u:=rfl;rw[e1]at hy;rw[e2];by_cases hud:u=d
    ·subst hud;rw[QlI (huf _) (List.mem_filter.2 ⟨hmem,by rw[hset,if_pos rfl]⟩)]at hy
     simp only[Option.some.injEq]at hy;exact .inl ⟨rfl,hy.symm⟩
    ·right;refine⟨hud,?_⟩;cases hqa:qAt (L.filter fun q=>(listed.setIfInBounds i true).getD q.1 false) u with
     | some z=>
      rw[hqa]at hy;simp only[Option.some.injEq]at hy; subst hy;obtain⟨j,hj⟩:=Qky hqa;obtain⟨hj1,hj2⟩:=List.mem_filter.1 hj;have hji:j≠i:=by
       rintro rfl;obtain⟨_,_,_,h3⟩:=hent _ hmem;have:=h3 _ hj1 rfl;simp only[Prod.mk.injEq]at this;exact hud this.2.1
      rw[hset,if_neg hji]at hj2;rw[QlI (huf _) (List.mem_filter.2 ⟨hj1,hj2⟩)]
     | none=>
      rw[hqa]at hy;cases hqb:qAt (L.filter fun q=>listed.getD q.1 false) u with
      | none=>exact hy
      | some z=>
       obtain⟨j,hj⟩:=Qky hqb;obtain⟨hj1,hj2⟩:=List.mem_filter.1 hj;rw[QlI (huf _) (List.mem_filter.2 ⟨hj1,hsub _ hj1 hj2⟩)]at hqa; cases hqa
   have hnext:∀(σ2:St) g' a2 w2,Inv c.N m0 w0 g' σ2 a2 w2→(∀u y,Qt (qT (L.filter fun q=>(listed.setIfInBounds i true).getD q.1 false) t0) u=some y→y= .d .top∨Qt σ2.tmps u=some y)→(∀b cs,Qt σ.boxes b=some cs→Qt σ2.boxes b=some cs)→σ2.toks=σ.toks→σ2.maps=σ.maps→(∀j,g1.box j=none→((∀cs,r≠ .new cs)∨o.dst≠some j)→g'.box j=none)→(∀t,g'.used t→g1.used t∨t=QaN i)→K a2 w2:=by
    intro σ2 g' a2 w2 I2 h1 h2 h3 h4 hb hu;refine hK a2 w2 ⟨by rw[hset,if_neg (fun e=>hip e.symm)]; exact hlp,g',I2.less h1 h2 h3.symm h4.symm,fun j o' d' hj hl hd'=>?_,fun j hl hu'=>?_⟩
    ·rw[hset]at hl;split at hl
     ·cases hl
     ·rename_i hji;refine hb d' (hJ1 j o' d' hj hl hd') ?_;right;intro e;exact hji (hdst (by simpa using hj) (by simpa using ho) (QiS hd') e)
    ·rw[hset]at hl;split at hl
     ·cases hl
     ·rename_i hji;rcases hu _ hu' with h | h
      ·exact hJ2 j hl h
      ·unfold QaN at h; omega
   have hbox:∀cs,r= .new cs→∀d',o.dst=some d'→g1.box d'=none∧Qt σ.maps d'=none:=by
    intro cs e d' hd';rw[q2]at hd'; cases hd';have:=hnew cs e;exact⟨hJ1 i o d ho hXi this,(hal d (Qcq _ (by simpa using ho) this)).2⟩
   have hput:∀σ2,({ σ with tmps:=qT (L.filter fun q=>listed.getD q.1 false) t0} :St).res i o.dst r=some σ2→PutOk c.N i ({ σ with tmps:=qT (L.filter fun q=>listed.getD q.1 false) t0} :St) o.dst r σ2:=fun σ2 h=>by
    unfold PutOk St.put;rw[if_pos (by rw[q2]; simpa[Qh0]using q3)]; exact h
   cases r with
   | q z=>
    simp only[QzR,Option.some.injEq]at q5; subst q5;refine Qe0 hc.ty hc.eq hc.del hF haop (hput _ rfl) IS hbox (hJ2 i hXi) fun g' a2 w2 I2 hb hu _=>hnext _ g' a2 w2 I2 (fun u y hy=>?_) (fun _ _ h=>h) rfl rfl hb hu;rw[q2];simp only[Qlm,Qt];rcases htm u y hy with⟨rfl,rfl⟩ | ⟨h1,h2⟩
    ·rw[if_pos rfl]; exact .inr rfl
    ·rw[if_neg h1]; exact .inr h2
   | got z=>
    simp only[QzR,Option.some.injEq]at q5; subst q5;refine Qe0 hc.ty hc.eq hc.del hF haop (hput _ rfl) IS hbox (hJ2 i hXi) fun g' a2 w2 I2 hb hu _=>hnext _ g' a2 w2 I2 (fun u y hy=>?_) (fun _ _ h=>h) rfl rfl hb hu;rw[q2];simp only[Qlm,Qt];rcases htm u y hy with⟨rfl,rfl⟩ | ⟨h1,h2⟩
    ·rw[if_pos rfl]; exact .inr rfl
    ·rw[if_neg h1]; exact .inr h2
   | lay k rows=>
    simp only[QzR,Option.some.injEq]at q5; subst q5;refine Qe0 hc.ty hc.eq hc.del hF haop (hput _ rfl) IS hbox (hJ2 i hXi) fun g' a2 w2 I2 hb hu _=>hnext _ g' a2 w2 I2 (fun u y hy=>?_) (fun _ _ h=>h) rfl rfl hb hu;rw[q2];simp only[Qlm,Qt];rcases htm u y hy with⟨rfl,rfl⟩ | ⟨h1,h2⟩
    ·rw[if_pos rfl]; exact .inr rfl
    ·rw[if_neg h1]; exact .inr h2
   | new cs=>
    simp only[QzR,Option.some.injEq]at q5; subst q5;have hda:=hnew cs rfl;refine Qe0 hc.ty hc.eq hc.del hF haop (hput ⟨(d,cs.x d)::qT (L.filter fun q=>listed.getD q.1 false) t0,(d,cs.cells)::σ.boxes,σ.toks,σ.maps⟩ (by rw[q2]; rfl)) IS hbox (hJ2 i hXi) fun g' a2 w2 I2 hb hu _=>hnext _ g' a2 w2 I2 (fun u y hy=>?_) (fun b bc hb'=>?_) rfl rfl hb hu
    ·rcases htm u y hy with⟨rfl,rfl⟩ | ⟨h1,h2⟩
     ·exact .inl rfl
     ·right;simp only[Qt];rw[if_neg h1]; exact h2
    ·simp only[Qt];rw[if_neg]
     ·exact hb'
     ·rintro rfl;rw[hno b (Qcq _ (by simpa using ho) hda)]at hb'; cases hb'
   | skip=>cases q5
   | set b off cs=>cases q5
   | app t k rows=>cases q5
theorem QlA (hF:FreeF F) (hc:CxOk P c) {id:Nat} {ops:Array Oper} {e:AEx} :∀{l:List (Nat×List Nat)},c.tryQ ops.toList σ l=some (e,σ')→(∀p∈l,QrZ ops.toList p.1 p.2=true)→(∀d∈QR ops.toList,w0.out d=none)→Inv c.N m0 w0 g σ a w→∀{Q:Exit→Act→World→Prop},(∀g' a' w',Inv c.N m0 w0 g' σ' a' w'→Q e.out a' w')→(Code.region id ops true).wpIn F n P Q a w
 | [],h,_,_,_,_,_=>by cases h
 | (p,bh)::t,h,hl,hal,I,Q,hQ=>by
  simp only[Cx.tryQ]at h;split at h
  ·rename_i v hv;simp only[Option.some.injEq,Prod.mk.injEq]at h;obtain⟨rfl,rfl⟩:=h;exact QuB hF hc hv (hl (p,bh) (by simp)) hal I hQ
  ·exact QlA hF hc h (fun q hq=>hl q (by simp[hq])) hal I hQ
end
end Go.Proofs.YticoemblgkemiaaGreatDoor
namespace Go.Proofs.YticoemblgkemiaaGreatDoor
open Go.RowKit
def QkX:Code→Bool
 | .seq a b=>QkX a&&QkX b
 | .cond _ a b=>QkX a&&QkX b
 | .block _ a=>QkX a
 | .loop a=>QkX a
 | .scope a=>QkX a
 | .rangeFunc _ _ _ _=>false
 | _=>true
def QOm (P:Program) (c:Cx) (cd:Code):Prop:=∀(F:Fence) (n:Nat),FreeF F→∀(m0:Nat→Nat→Prop) (w0:Base),(QkX cd=true∨(F=Fence.wide∧w0.dOk∧w0.df=[]))→∀(σ:St) (e:AEx) (σ':St),c.code cd σ=some (e,σ')→(∀d∈QF cd,w0.out d=none)→
 ∀(g:Gh) (a:Act) (w:World),Inv c.N m0 w0 g σ a w→∀Q:Exit→Act→World→Prop,(∀g' a' w',Inv c.N m0 w0 g' σ' a' w'→Q e.out a' w')→cd.wpIn F n P Q a w
section
variable {P:Program} {c:Cx} {m0:Nat→Nat→Prop} {w0:Base} {g:Gh} {σ σ':St} {a:Act} {w:World}
theorem QxW:∀{ps:List Nat} {xs:List Value} {t0:List (Nat×X)} {t:Nat} {x:X},Qt (Qva ps xs++t0) t=some x→(∃(j:Nat) (v:Value),ps[j]?=some t∧xs[j]?=some v∧x=Qle v∧∀i < j,ps[i]?≠some t)∨((∀(j:Nat) (v:Value),ps[j]?=some t→xs[j]?≠some v)∧Qt t0 t=some x)
 | [],xs,t0,t,x,h=> .inr ⟨fun j v h=>by simp at h,by simpa[Qva]using h⟩
 | p::ps,[],t0,t,x,h=> .inr ⟨fun j v _ h=>by simp at h,by simpa[Qva]using h⟩
 | p::ps,v::xs,t0,t,x,h=>by
  simp only[Qva,List.cons_append,Qt]at h;split at h
  ·rename_i e;simp only[Option.some.injEq]at h;exact .inl ⟨0,v,by simp[e],rfl,h.symm,fun i hi=>by omega⟩
  ·rename_i e;rcases QxW h with⟨j,u,h1,h2,h3,h4⟩ | ⟨h1,h2⟩
   ·refine .inl ⟨j+1,u,by simpa using h1,by simpa using h2,h3,fun i hi=>?_⟩
    cases i with
    | zero=>simp; exact fun e'=>e e'.symm
    | succ i=>simpa using h4 i (by omega)
   ·refine .inr ⟨fun j u hj hu=>?_,h2⟩;cases j with
    | zero=>simp at hj; exact e hj.symm
    | succ j=>exact h1 j u (by simpa using hj) (by simpa using hu)
theorem QlO:∀(l:List (Tmp×Value)) (t:Array Value),(l.foldl (fun t (p:Tmp×Value)=>t.setIfInBounds p.1 p.2) t).size=t.size
 | [],t=>rfl
 | p::l,t=>by simp only[List.foldl_cons]; rw[QlO l]; simp
theorem Qpf:∀(ps:List Nat) (xs:List Value) (t:Array Value) (u:Nat),ps.Nodup→xs.length=ps.length→(∀p∈ps,p < t.size)→
  ((ps.zip xs).foldl (fun t (p:Tmp×Value)=>t.setIfInBounds p.1 p.2) t).getD u undef=(match(ps.zip xs).find? (fun p=>p.1==u)with | some p=>p.2 | none=>t.getD u undef)
 | [],xs,t,u,_,_,_=>rfl
 | p::ps,[],t,u,_,h,_=>by simp at h
 | p::ps,v::xs,t,u,hn,hl,hp=>by
  simp only[List.zip_cons_cons,List.foldl_cons,List.find?_cons];obtain⟨hn1,hn2⟩:=List.nodup_cons.1 hn;rw[Qpf ps xs _ u hn2 (by simpa using hl) (fun q hq=>by simp; exact hp q (by simp[hq]))]
  by_cases e:p=u
  ·subst e;have hno:(ps.zip xs).find? (fun q=>q.1==p)=none:=by
    rw[List.find?_eq_none];intro q hq hqp;simp only[beq_iff_eq]at hqp;exact hn1 (hqp ▸ (List.of_mem_zip hq).1)
   rw[hno];have hlt:p < t.size:=hp p (by simp)
   simp[Array.getD_eq_getD_getElem?,hlt]
  ·have hpe:(p==u)=false:=by simpa using e
   rw[hpe];simp only;cases(ps.zip xs).find? (fun q=>q.1==u)with
   | some q=>rfl
   | none=>
    simp only[Array.getD_eq_getD_getElem?,Array.getElem?_setIfInBounds];rw[if_neg e]
theorem QtR {g:Gh} {w:World} {toks:List Nat} {ps:Array Tmp} {xs:List Value} {tm:Array Value} {t0:List (Nat×X)} (hnd:ps.toList.Nodup) (hps:∀p∈ps.toList,p < tm.size) (hl:xs.length=ps.toList.length)
  (ht:∀t x,Qt t0 t=some x→RelX g w 0 toks x (tm.getD t undef)):∀t x,Qt (Qva ps.toList xs++t0) t=some x→RelX g w 0 toks x (((ps.zip xs.toArray).foldl (fun t (p:Tmp×Value)=>t.setIfInBounds p.1 p.2) tm).getD t undef):=by
 intro t x h;have e:(ps.zip xs.toArray).foldl (fun t (p:Tmp×Value)=>t.setIfInBounds p.1 p.2) tm=(ps.toList.zip xs).foldl (fun t (p:Tmp×Value)=>t.setIfInBounds p.1 p.2) tm:=by
  rw[←Array.foldl_toList,Array.toList_zip]
 rw[e,Qpf ps.toList xs tm t hnd hl hps];rcases QxW h with⟨j,v,h1,h2,rfl,h4⟩ | ⟨h1,h2⟩
 ·have hf:(ps.toList.zip xs).find? (fun p=>p.1==t)=some (t,v):=by
   have hj:(ps.toList.zip xs)[j]?=some (t,v):=by rw[List.getElem?_zip_eq_some]; exact⟨h1,h2⟩
   cases hff:(ps.toList.zip xs).find? (fun p=>p.1==t)with
   | none=>
    rw[List.find?_eq_none]at hff;exact absurd (hff _ (List.mem_of_getElem? hj)) (by simp)
   | some q=>
    have hq:=List.find?_some hff;simp only[beq_iff_eq]at hq;obtain⟨i,hi,hiq⟩:=List.getElem_of_mem (List.mem_of_find?_eq_some hff);have hi':(ps.toList.zip xs)[i]?=some q:=by rw[List.getElem?_eq_getElem hi,hiq]
    obtain⟨q1,q2⟩:=List.getElem?_zip_eq_some.1 hi';rw[hq]at q1;have hij:i=j:=by
     have hil:=(List.getElem?_eq_some_iff.1 q1).1;exact(List.getElem?_inj hil hnd).1 (q1.trans h1.symm)
    subst hij;rw[h2]at q2;simp only[Option.some.injEq]at q2;rw[←hq,q2]
  rw[hf];exact Qhv _ _ _ _ _
 ·have hf:(ps.toList.zip xs).find? (fun p=>p.1==t)=none:=by
   rw[List.find?_eq_none];intro q hq hqt;simp only[beq_iff_eq]at hqt;obtain⟨i,hi,hiq⟩:=List.getElem_of_mem hq;have hi':(ps.toList.zip xs)[i]?=some q:=by rw[List.getElem?_eq_getElem hi,hiq]
   obtain⟨q1,q2⟩:=List.getElem?_zip_eq_some.1 hi';exact h1 i q.2 (by rw[q1,hqt]) q2
  rw[hf];exact ht t x h2
set_option maxHeartbeats 2000000 in
theorem Qqi (hc:CxOk P c) {gop:Operand} {ps:Array Tmp} {ca cb:Code} (ha:QOm P c ca) (hb:QOm P c cb) (hna:QkX ca=true) (hnb:QkX cb=true) {n:Nat} {e:AEx} (h:c.code (.rangeFunc gop ps ca cb) σ=some (e,σ')) (hal:∀d∈QF ca++QF cb,w0.out d=none) (hdok:w0.dOk∧w0.df=[]) (I:Inv c.N m0 w0 g σ a w) {Q:Exit→Act→World→Prop} (hQ:∀g' a' w',Inv c.N m0 w0 g' σ' a' w'→Q e.out a' w'):
  (Code.rangeFunc gop ps ca cb).wpIn Fence.wide n P Q a w:=by
 obtain⟨hdok,hdf⟩:=hdok;simp only[Cx.code]at h;split at h
 case h_2=>cases h
 rename_i l hit;split at h
 case isFalse=>cases h
 rename_i hpsB;simp only[Bool.and_eq_true,List.all_eq_true,decide_eq_true_eq]at hpsB;obtain⟨hpnd,hplt⟩:=hpsB;have hpnd:=QbX _ hpnd;obtain⟨gf,caps,hgop,hseq0⟩:∃gf caps,σ.ev gop= .d (.fn gf [] caps)∧c.seq gf caps=some l:=by
  unfold Cx.iterOf at hit;split at hit
  ·rename_i gf caps heq; exact⟨gf,caps,heq,hit⟩
  ·cases hit
 obtain⟨hen,hseq⟩:=hc.seq gf caps l hseq0;have hfv:=QbD I gop;rw[hgop]at hfv;simp only[RelX,Rel,RelL]at hfv;obtain⟨fs,lb,hfe,hfs,hcaps⟩:=hfv;subst hfs;obtain⟨al,hal'⟩:∃al,al=QF ca++QF cb:=⟨_,rfl⟩;rw[←hal']at h hal;obtain⟨t0,ht0⟩:∃t0,t0=Qds al σ.tmps:=⟨_,rfl⟩;rw[←ht0]at h;obtain⟨Ds,hDs,hDnd,hD⟩:=I.defers;rw[hdf,List.append_nil]at hDs;have t0no:∀t x,Qt t0 t=some x→x.noTok:=by
  intro t x hx;rw[ht0]at hx;obtain⟨y,_,rfl⟩:=QhS hx;exact QjS (Qkz y)
 have t0rel:∀t x,Qt t0 t=some x→RelX (Q5 al g) w 0 [] x (a.tmps.getD t undef):=by
  intro t x hx;have hno:=t0no t x hx;rw[ht0]at hx;obtain⟨y,hy,rfl⟩:=QhS hx;exact(Qjx (Qhb (nw:=σ.toks) rfl rfl (I.tmps t y hy))).toks hno
 have fzlt:∀p∈w0.fz,p.1 < w.heap.size:=fun p hp=>(Array.getElem?_eq_some_iff.1 (I.fz p hp).1).1;have hDlt:∀D∈Ds,D < w.heap.size:=fun D hDm=>(Array.getElem?_eq_some_iff.1 (hD D hDm).2).1;have hsz0:=I.below.size;refine wpIn_rangeFunc ?_;intro fn hfn;obtain⟨rec,hrec⟩:∃rec:LoopState→Option Code→Loop,rec=fun st pe=> { state:=st,pending:=pe,fn,tmps:=a.tmps,params:=ps,assign:=ca,body:=cb,defers:=w.heap.size} :=⟨_,rfl⟩;obtain⟨W1,hW1⟩:∃W1,(w.alloc (.deferred (some []))).alloc (.loop (rec .ready none))=W1:=⟨_,rfl⟩;obtain⟨ln,hln⟩:∃ln,ln=w.heap.size+1:=⟨_,rfl⟩;have hln0:w0.heap.size≤ln:=by rw[hln]; exact Nat.le_trans hsz0 (Nat.le_succ _)
 have putc:∀(V:World) (b o:Nat) (r':Loop),b≠ln→(V.putObj ln (.loop r')).cell? ⟨b,o,none⟩=V.cell? ⟨b,o,none⟩:=fun V b o r' hne=>World.cell?_of_block (w:=V) (World.putObj_heap_other hne);have hL1:W1.heap[ln]?=some (.loop (rec .ready none)):=by
  rw[←hW1,hln];have:=Qbi (w.alloc (.deferred (some []))) (.loop (rec .ready none))
  rwa [World.size_alloc]at this
 have hb1:Below w.heap.size w W1:=by
  rw[←hW1]; exact((Below.refl _ w).alloc (Nat.le_refl _) _).alloc (by simp) _
 have hK1:W1.heap[w.heap.size]?=some (.deferred (some [])):=by
  rw[←hW1];exact((((Below.refl _ (w.alloc (.deferred (some [])))).alloc (Nat.le_refl _) _)).block w.heap.size (by simp)).trans (Qbi w _)
 obtain⟨RI,hRI⟩:∃RI:List (List Value)→World→Prop,RI=fun pre W=>∃(σp:St) (gp:Gh),Qe1 (c.code ca) (c.code cb) ps.toList al t0 l (QcH al t0 σ)=Qe1 (c.code ca) (c.code cb) ps.toList al t0 (l.drop pre.length) σp∧σp.tmps=t0∧Inv c.N m0 w0 gp σp ⟨a.tmps,[]⟩ W∧Away gp ln∧(∀i∈al,gp.box i=none)∧(∀D∈Ds,W.heap[D]?=some (.deferred (some [])))∧(∀b o,g.imm b o→gp.imm b o):=⟨_,rfl⟩;obtain⟨FI,hFI⟩:∃FI:World→Prop,FI=fun W=>∃(gp:Gh),Inv c.N m0 w0 gp σ' ⟨a.tmps,[]⟩ W∧Away gp ln∧(∀D∈Ds,W.heap[D]?=some (.deferred (some []))):=⟨_,rfl⟩;have hRIlater:∀pre W W',RI pre W→Below W.heap.size W W'→RI pre W':=by
  intro pre W W' hr hbl;rw[hRI]at hr⊢;obtain⟨σp,gp,r1,r2,r3,r4,r5,r6,r7⟩:=hr;exact⟨σp,gp,r1,r2,r3.later hbl,r4,r5,fun D hDm=>(hbl.block D (Array.getElem?_eq_some_iff.1 (r6 D hDm)).1).trans (r6 D hDm),r7⟩
 have hFIlater:∀W W',FI W→Below W.heap.size W W'→FI W':=by
  intro W W' hr hbl;rw[hFI]at hr⊢;obtain⟨gp,r3,r4,r6⟩:=hr;exact⟨gp,r3.later hbl,r4,fun D hDm=>(hbl.block D (Array.getElem?_eq_some_iff.1 (r6 D hDm)).1).trans (r6 D hDm)⟩
 have hputDs:∀(W:World) (r:Loop),(∀D∈Ds,W.heap[D]?=some (.deferred (some [])))→∀D∈Ds,(W.putObj ln (.loop r)).heap[D]?=some (.deferred (some [])):=fun W r hh D hDm=>(World.putObj_heap_other (by have:=hDlt D hDm; omega)).trans (hh D hDm)
 have hRI0:RI [] W1:=by
  rw[hRI];have Ir:=I.rest (a':=⟨a.tmps,[]⟩) hal t0rel (fun t x hx toks hr=>hr.toks (t0no t x hx)) I.size hdf.symm;refine⟨QcH al t0 σ,Q5 al g,rfl,rfl,Ir.later hb1,⟨fun o ho=>?_,fun i hi=>?_,fun t ht=>?_⟩,fun i hi=>?_,fun D hDm=>(hb1.block D (hDlt D hDm)).trans (hD D hDm).2,fun _ _ h=>h⟩
  ·have:=I.lt ln o ho; omega
  ·have:=(Ir.boxb i ln hi).2.1; omega
  ·have:=(I.tokb t ln ht).1; omega
  ·simp only[Q5]; rw[if_pos (by simpa using hi)]
 have hm1:RelL g.imm W1 caps lb:=RelL.ext ⟨fun _ _ h=>h,fun b o h=>hb1.cell (p:=⟨b,o,none⟩) (I.lt b o h)⟩ _ _ hcaps;refine⟨ln,[{ target:= .collected w.heap.size,args:= #[]}],W1,{ target:= .fn (.func gf) lb.toArray,args:= #[.func (.yield ln) #[] #[]]},W1,gf,#[.func (.yield ln) #[] #[]]++lb.toArray,W1,?_,?_,?_,?_,fun hd=>absurd hd (by simp[Fence.wide]),?_⟩
 ·rw[←hW1,hln,hrec]; exact run_enterLoop_outer _ _ _ _ _
 ·simp only[resolve,hfe];simp[go_sem]
 ·intro f' _; trivial
 ·simp[invoke,go_sem,hen]
 ·refine(hseq (n - 1) g.imm W1 lb (fun b o hbo=>Nat.lt_of_lt_of_le (I.lt b o hbo) hb1.size) (I.globIn.ext ⟨fun _ _ h=>h,fun b o h=>hb1.cell (p:=⟨b,o,none⟩) (I.lt b o h)⟩) hm1 ln
   (fun pre W=>RI pre W∧W.heap[ln]?=some (.loop (rec .ready none))∧W.heap[w.heap.size]?=some (.deferred (some [])))
   (fun W=>FI W∧(e≠ .normal∧∀v,e≠ .pan v)∧W.heap[ln]?=some (.loop (rec .done (some e.jump)))∧W.heap[w.heap.size]?=some (.deferred (some [])))
   (fun pre W W' hj hbl=>⟨hRIlater pre W W' hj.1 hbl,(hbl.block ln (Array.getElem?_eq_some_iff.1 hj.2.1).1).trans hj.2.1,(hbl.block _ (Array.getElem?_eq_some_iff.1 hj.2.2).1).trans hj.2.2⟩)
   (fun W W' hj hbl=>⟨hFIlater W W' hj.1 hbl,hj.2.1,(hbl.block ln (Array.getElem?_eq_some_iff.1 hj.2.2.1).1).trans hj.2.2.1,(hbl.block _ (Array.getElem?_eq_some_iff.1 hj.2.2.2).1).trans hj.2.2.2⟩)
   ?_ ⟨hRI0,hL1,hK1⟩).mono ?_
  ·
   rintro pre x W ⟨hri,hlW,hkW⟩ hpre;rw[hRI]at hri;obtain⟨σp,gp,r1,r2,r3,r4,r5,r6,r7⟩:=hri;obtain⟨post,hpost⟩:=hpre;have hdrop:l.drop pre.length=x::post:=by rw[←hpost,List.append_assoc,List.drop_left]; rfl
   have hdrop2:l.drop (pre++[x]).length=post:=by rw[←hpost,List.drop_left]
   rw[h,hdrop]at r1;simp only[Qe1]at r1;split at r1
   case isFalse=>cases r1
   rename_i hxl;split at r1
   case h_2=>cases r1
   rename_i σ1 hca;have hlt:ln < W.heap.size:=(Array.getElem?_eq_some_iff.1 hlW).1;have hy:=run_yield (P:=P) (args:=x.toArray) hlW (by rw[hrec]; simpa using hxl)
   rw[hrec]at hy;refine⟨fn,_,ca,cb,hy,?_⟩;refine roundIn_of_wpIn hfn ?_;obtain⟨fz,hfz⟩:∃fz:List (Nat×Obj),fz=w0.fz++((w.heap.size,.deferred (some []))::Ds.map fun D=>(D,.deferred (some []))):=⟨_,rfl⟩;have fzok:∀p∈fz,W.heap[p.1]?=some p.2∧p.2.isCells=false∧∀l c,p.2≠ .map l c:=by
    intro p hp;rw[hfz]at hp;rcases List.mem_append.1 hp with hp | hp
    ·exact r3.fz p hp
    ·rcases List.mem_cons.1 hp with rfl | hp
     ·exact⟨hkW,rfl,fun _ _ e=>by cases e⟩
     ·obtain⟨D,hDm,rfl⟩:=List.mem_map.1 hp;exact⟨r6 D hDm,rfl,fun _ _ e=>by cases e⟩
   have fzne:∀p∈fz,p.1≠ln:=by
    intro p hp;rw[hfz]at hp;rcases List.mem_append.1 hp with hp | hp
    ·have:=fzlt p hp; omega
    ·rcases List.mem_cons.1 hp with rfl | hp
     ·show w.heap.size≠ln;omega
     ·obtain⟨D,hDm,rfl⟩:=List.mem_map.1 hp;have:=hDlt D hDm;show D≠ln;omega
   have t0W:∀t y,Qt t0 t=some y→RelX gp W 0 σp.toks y (a.tmps.getD t undef):=fun t y hy=>(r3.tmps t y (by rw[r2]; exact hy)).base
   have IA:=r3.rebase fz fzok (a':=⟨(ps.zip x.toArray).foldl (fun t (p:Tmp×Value)=>t.setIfInBounds p.1 p.2) a.tmps,[]⟩) (tmps:=Qva ps.toList x++t0)
    (QtR (tm:=a.tmps) hpnd (fun p hp=>by rw[I.size]; exact hplt p hp) (by simpa using hxl) t0W)
    (by
     have e1:(ps.zip x.toArray).foldl (fun t (p:Tmp×Value)=>t.setIfInBounds p.1 p.2) a.tmps=(ps.toList.zip x).foldl (fun t (p:Tmp×Value)=>t.setIfInBounds p.1 p.2) a.tmps:=by rw[←Array.foldl_toList,Array.toList_zip]
     show((ps.zip x.toArray).foldl (fun t (p:Tmp×Value)=>t.setIfInBounds p.1 p.2) a.tmps).size=c.N;rw[e1,QlO]; exact I.size) rfl
   have awr:¬(Qfb W gp fz).writ ln:=by
    rintro(⟨i,hi⟩ | ⟨t,ht⟩)
    ·exact r4.box i hi
    ·exact r4.tok t ht
   have hA:=ha (Fence.wide.inRound ln) (n - 1 - 1) (.inr ⟨ln,rfl⟩) _ _ (.inl hna) _ _ σ1 hca (fun d hd=>r5 d (by rw[hal']; exact List.mem_append_left _ hd)) _ _ W IA
   refine hA _ ?_;intro gA aA WA IA2;have awA:=QdT r4 hlt IA2;have hlA:WA.heap[ln]?=some (.loop (rec .ready none)):=(IA2.below.block ln hlt awr).trans hlW;have hltA:ln < WA.heap.size:=(Array.getElem?_eq_some_iff.1 hlA).1;refine⟨_,run_beginRound hlA (by rw[hrec]),?_⟩
   have hrb:({ rec .ready none with state:= .busy} :Loop)=rec .busy none:=by rw[hrec]
   rw[hrb];have IB:=IA2.putBoth awA fzne hlt (rec .busy none);have r3b:=r3.putRec r4 hln0 (fun p hp=>by have:=fzlt p hp; omega) hlW (rec .busy none)
   have hlb:(W.putObj ln (.loop (rec .busy none))).heap[ln]?=some (.loop (rec .busy none)):=World.putObj_heap_same hlt;have hcb:∀b o,gp.imm b o→(W.putObj ln (.loop (rec .busy none))).cell? ⟨b,o,none⟩=W.cell? ⟨b,o,none⟩:=fun b o hbo=>putc W b o _ (fun e=>r4.imm o (e ▸ hbo));have hltb:ln < (W.putObj ln (.loop (rec .busy none))).heap.size:=(Array.getElem?_eq_some_iff.1 hlb).1;generalize WA.putObj ln (.loop (rec .busy none))=WB at IB;generalize hWb:W.putObj ln (.loop (rec .busy none))=Wb at IB r3b hlb hcb hltb;have hbodyK:∀(σ2:St) (gB:Gh) (aB:Act) (W3:World),Inv c.N gp.imm (Qfb Wb gp fz) gB σ2 aB W3→W3.heap[ln]?=some (.loop (rec .busy none))∧W3.heap[w.heap.size]?=some (.deferred (some []))∧(∀D∈Ds,W3.heap[D]?=some (.deferred (some [])))∧W.heap.size≤W3.heap.size∧(∀b o,gp.imm b o→W3.cell? ⟨b,o,none⟩=W.cell? ⟨b,o,none⟩)∧
     ∀r':Loop,Inv c.N m0 w0 (Q5 al gB) (QcH al t0 σ2) ⟨a.tmps,[]⟩ (W3.putObj ln (.loop r'))∧Away (Q5 al gB) ln∧(∀i∈al,(Q5 al gB).box i=none)∧(∀b o,g.imm b o→(Q5 al gB).imm b o):=by
    intro σ2 gB aB W3 I3;have awB:=QdT r4 hltb I3;have h3l:W3.heap[ln]?=some (.loop (rec .busy none)):=(I3.below.block ln hltb awr).trans hlb;have h3k:W3.heap[w.heap.size]?=some (.deferred (some [])):=(I3.fz (w.heap.size,.deferred (some [])) (by show _∈fz; rw[hfz]; simp)).1
    have h3D:∀D∈Ds,W3.heap[D]?=some (.deferred (some [])):=fun D hDm=>(I3.fz (D,.deferred (some [])) (by show _∈fz; rw[hfz]; simp[hDm])).1
    have hszb:Wb.heap.size=W.heap.size:=by rw[←hWb]; exact World.putObj_size
    have h3s:W.heap.size≤W3.heap.size:=by rw[←hszb]; exact I3.below.size
    have h3c:∀b o,gp.imm b o→W3.cell? ⟨b,o,none⟩=W.cell? ⟨b,o,none⟩:=fun b o hbo=>(I3.cells.1 b o hbo).trans (hcb b o hbo);refine⟨h3l,h3k,h3D,h3s,h3c,fun r'=>?_⟩;have I4:=r3b.unbase hdf (fz:=fz) (fun p hp=>by rw[hfz]; exact List.mem_append_left _ hp) I3
    have I5:=I4.putRec awB hln0 (fun p hp=>by have:=fzlt p hp; omega) h3l r'
    have hc5:∀b o,gp.imm b o→(W3.putObj ln (.loop r')).cell? ⟨b,o,none⟩=W.cell? ⟨b,o,none⟩:=fun b o hbo=>(putc W3 b o _ (fun e=>r4.imm o (e ▸ hbo))).trans (h3c b o hbo);refine⟨I5.rest hal (fun t x hx=>?_) (fun t x hx toks hr=>hr.toks (t0no t x hx)) I.size hdf.symm,⟨fun o ho=>awB.imm o ho,fun i hi=>?_,fun t ht=>awB.tok t ht⟩,fun i hi=>?_,fun b o hbo=>I3.old b o (r7 b o hbo)⟩
    ·refine RelX.tr0 (t0no t x hx) (g:=gp) (g':=Q5 al gB) (w:=W) (b1:=0) (t1:=σp.toks) ⟨fun b o h=>I3.old b o h,hc5⟩ (fun i b hib=>?_) (t0W t x hx);have h1:gB.box i=some b:=I3.out i b hib;simp only[Q5];rw[if_neg]
     ·exact h1
     ·intro hci;have:=r5 i (by simpa using hci)
      rw[this]at hib; cases hib
    ·simp only[Q5]at hi;split at hi
     ·cases hi
     ·exact awB.box i hi
    ·simp only[Q5]; rw[if_pos (by simpa using hi)]
   have hend:∀(W3:World) (jump:Option Code),W3.heap[ln]?=some (.loop (rec .busy none))→(Instr.endRound ln jump).run P W3= .ok (.bool jump.isNone) (W3.putObj ln (.loop (rec (if jump.isNone then .ready else .done) jump))):=by
    intro W3 jump hl3;have:=run_endRound (P:=P) jump hl3;rw[hrec]at this⊢;exact this
   split at r1
   ·
    rename_i σ2 hcb2;refine hb (Fence.wide.inRound ln) (n - 1 - 1) (.inr ⟨ln,rfl⟩) _ _ (.inl hnb) _ _ σ2 hcb2 (fun d hd=>r5 d (by rw[hal']; exact List.mem_append_right _ hd)) _ _ WB IB _ ?_
    intro gB aB W3 I3;obtain⟨b1,b2,b3,b4,b5,b6⟩:=hbodyK σ2 gB aB W3 I3;obtain⟨b7,b8,b9,b10⟩:=b6 (rec .ready none);have hlt3:ln < W3.heap.size:=Nat.lt_of_lt_of_le hlt b4;refine⟨_,_,hend W3 none b1,.inl ⟨rfl,?_,World.putObj_heap_same hlt3,(World.putObj_heap_other (by omega)).trans b2⟩,by rw[World.putObj_size]; exact b4,fun b o hbo=>?_⟩
    ·rw[hRI];exact⟨_,_,by rw[hdrop2,←r1]; exact h,rfl,b7,b8,b9,hputDs _ _ b3,b10⟩
    ·have hgp:=r7 b o hbo;exact(putc W3 b o _ (fun e=>r4.imm o (e ▸ hgp))).trans (b5 b o hgp)
   ·cases r1
   ·
    rename_i e2 σ2 hne hnp hcb2;simp only[Option.some.injEq,Prod.mk.injEq]at r1;obtain⟨rfl,rfl⟩:=r1;refine hb (Fence.wide.inRound ln) (n - 1 - 1) (.inr ⟨ln,rfl⟩) _ _ (.inl hnb) _ _ σ2 hcb2 (fun d hd=>r5 d (by rw[hal']; exact List.mem_append_right _ hd)) _ _ WB IB _ ?_
    intro gB aB W3 I3;obtain⟨b1,b2,b3,b4,b5,b6⟩:=hbodyK σ2 gB aB W3 I3;obtain⟨b7,b8,b9,b10⟩:=b6 (rec .done (some e.jump));have hlt3:ln < W3.heap.size:=Nat.lt_of_lt_of_le hlt b4;have hfin:((Instr.endRound ln (some e.jump)).run P W3= .ok (.bool false) (W3.putObj ln (.loop (rec .done (some e.jump))))):=hend W3 (some e.jump) b1;have hJx:FI (W3.putObj ln (.loop (rec .done (some e.jump))))∧(e≠ .normal∧∀v,e≠ .pan v)∧(W3.putObj ln (.loop (rec .done (some e.jump)))).heap[ln]?=some (.loop (rec .done (some e.jump)))∧(W3.putObj ln (.loop (rec .done (some e.jump)))).heap[w.heap.size]?=some (.deferred (some [])):=by
     refine⟨?_,⟨hne,hnp⟩,World.putObj_heap_same hlt3,(World.putObj_heap_other (by omega)).trans b2⟩
     rw[hFI];exact⟨_,b7,b8,hputDs _ _ b3⟩
    have hcl:W.heap.size≤(W3.putObj ln (.loop (rec .done (some e.jump)))).heap.size∧∀b o,g.imm b o→(W3.putObj ln (.loop (rec .done (some e.jump)))).cell? ⟨b,o,none⟩=W.cell? ⟨b,o,none⟩:=⟨by rw[World.putObj_size]; exact b4,fun b o hbo=>(putc W3 b o _ (fun e=>r4.imm o (e ▸ r7 b o hbo))).trans (b5 b o (r7 b o hbo))⟩
    cases e with
    | normal=>exact absurd rfl hJx.2.1.1
    | exit i=>exact⟨_,_,hfin,.inr ⟨rfl,hJx⟩,hcl⟩
    | ret=>exact⟨_,_,hfin,.inr ⟨rfl,hJx⟩,hcl⟩
    | pan v=>exact absurd rfl (hJx.2.1.2 v)
   ·cases r1
  ·rintro e2 W2 ⟨⟨v,rfl⟩,hend⟩;have hDnew:∀(V:World),V.heap[w.heap.size]?=some (.deferred (some []))→(∀D∈Ds,V.heap[D]?=some (.deferred (some [])))→∃Ds':List Nat,([{ target:= .collected w.heap.size,args:= #[]}]++a.defers:List Deferred)=Ds'.map Qgr++w0.df∧Ds'.Nodup∧∀D∈Ds',(w0.heap.size≤D∧w0.dOk)∧V.heap[D]?=some (.deferred (some [])):=by
    intro V h1 h2;refine⟨w.heap.size::Ds,by rw[hDs,hdf,List.append_nil]; rfl,List.nodup_cons.2 ⟨fun hm=>by have:=hDlt _ hm; omega,hDnd⟩,fun D hDm=>?_⟩
    rcases List.mem_cons.1 hDm with rfl | hDm
    ·exact⟨⟨hsz0,hdok⟩,h1⟩
    ·exact⟨(hD D hDm).1,h2 D hDm⟩
   have hact:∀(gp:Gh) (σe:St) (V:World),Inv c.N m0 w0 gp σe ⟨a.tmps,[]⟩ V→V.heap[w.heap.size]?=some (.deferred (some []))→(∀D∈Ds,V.heap[D]?=some (.deferred (some [])))→Inv c.N m0 w0 gp σe { a with defers:=[{ target:= .collected w.heap.size,args:= #[]}]++a.defers} V:=fun gp σe V Iv h1 h2=>
    ⟨Iv.below,Iv.size,hDnew V h1 h2,Iv.lt,Iv.old,Iv.new,Iv.tmps,Iv.boxb,Iv.boxi,Iv.tokb,Iv.toki,Iv.boxes,Iv.out,Iv.fz,Iv.maps,Iv.cells⟩
   rcases hend with⟨hri,hlW,hkW⟩ | ⟨hfi,hne,hlW,hkW⟩
   ·
    rw[hRI]at hri;obtain⟨σp,gp,r1,r2,r3,r4,r5,r6,r7⟩:=hri;rw[h,List.drop_length]at r1;simp only[Qe1,Option.some.injEq,Prod.mk.injEq]at r1;obtain⟨rfl,rfl⟩:=r1;have hE:=run_endLoop (P:=P) hlW (by rw[hrec]; simp)
    refine⟨_,_,hE,?_⟩;rw[hrec];have I5:=r3.putRec r4 hln0 (fun p hp=>by have:=fzlt p hp; omega) hlW { rec .ready none with state:= .exhausted}
    rw[hrec]at I5;exact hQ gp _ _ (hact _ _ _ I5 ((World.putObj_heap_other (by omega)).trans hkW) (hputDs _ _ r6))
   ·
    rw[hFI]at hfi;obtain⟨gp,r3,r4,r6⟩:=hfi;have hE:=run_endLoop (P:=P) hlW (by rw[hrec]; simp)
    refine⟨_,_,hE,?_⟩;rw[hrec];have I5:=r3.putRec r4 hln0 (fun p hp=>by have:=fzlt p hp; omega) hlW { rec .done (some e.jump)with state:= .exhausted}
    rw[hrec]at I5;have hfin:=hQ gp _ _ (hact _ _ _ I5 ((World.putObj_heap_other (by omega)).trans hkW) (hputDs _ _ r6))
    cases e with
    | normal=>exact absurd rfl hne.1
    | exit i=>exact wpIn_exit hfin
    | ret=>exact wpIn_ret hfin
    | pan v=>exact absurd rfl (hne.2 v)
end
end Go.Proofs.YticoemblgkemiaaGreatDoor
namespace Go.Proofs.YticoemblgkemiaaGreatDoor
open Go.RowKit
def QZ5 (ops:List Oper):Bool:=[(1,0),(3,2),(4,0),(4,1),(4,2),(4,3)].all fun p=>((QpG ops).getD (ops.length - 5+p.1) 0).testBit (ops.length - 5+p.2)
def QaO (D:Nat→List (Nat×Nat)) (md:Nat→Nat) (pq:Nat→List (Nat×List Nat)):Code→Bool
 | .region id ops true=>(pq id).all (fun p=>QrZ ops.toList p.1 p.2)&&match md id with
  | 0=>QiG (D id) ops.toList
  | 1=>QpB (D id) ops.toList (ops.toList.length - 1)
  | 2=>QpB (D id) ops.toList (ops.toList.length - 5)&&QZ5 ops.toList
  | m+3=>if 997≤m then QWB (D id) ops.toList (m - 997)else QWs (D id) ops.toList m
 | .seq a b=>QaO D md pq a&&QaO D md pq b
 | .cond _ a b=>QaO D md pq a&&QaO D md pq b
 | .block _ a=>QaO D md pq a
 | .loop a=>QaO D md pq a
 | .scope a=>QaO D md pq a
 | .rangeFunc _ _ a b=>QaO D md pq a&&QaO D md pq b&&QkX a&&QkX b
 | _=>true
def QxD (cd:Code):Bool:=(QF cd).all fun d=>decide (d < 1000)
theorem QcV {P:Program} {b:Frame} {a:Act} {k:List Item} {cs:List Frame} {w:World} {c:Code} :step P (lone (b.atR a (.code (.scope c)::k)) cs w)= .next (lone (b.atR a (.code c:: .inScope c::k)) cs w):=
 step_lone_go (by simp[stepG,stepG.exec,Frame.atR])
theorem Qm9 {P:Program} {b:Frame} {a:Act} {k:List Item} {cs:List Frame} {w:World} {c:Code} :step P (lone (b.atR a (.inScope c::k)) cs w)= .next (lone (b.atR a k) cs w):=
 step_lone_go (by simp[stepG,stepG.exec,Frame.atR])
theorem Qe7 {F:Fence} {n:Nat} {P:Program} {Q:Exit→Act→World→Prop} {a:Act} {w:World} {c:Code} (h:c.wpIn F n P (fun e a w=>(∀l,e≠ .goto l)∧Q e a w) a w):(Code.scope c).wpIn F n P Q a w:=by
 intro b k cs hro hb hr;have h0:(lone (b.atR a (.code (.scope c)::k)) cs w).fenced P F:=fenced_calm hb hr rfl;obtain⟨e,a1,w1,⟨hng,hq⟩,harr⟩:=h b (.inScope c::k) cs hro hb hr;cases e with
 | normal=>exact⟨.normal,a1,w1,hq,.head h0 QcV (StepsIn.trans harr (.one (fenced_calm hb hr rfl) Qm9))⟩
 | exit id=>
  have hx:exitTo id (.inScope c::k)=exitTo id k:=by simp[exitTo]
  exact⟨.exit id,a1,w1,hq,fun k' hk=> .head h0 QcV (harr.1 k' (by rw[hx]; exact hk)),fun hr' hk=>let ⟨k1,h1,h2⟩:=harr.2 hr' (by rw[hx]; exact hk); ⟨k1,h1,.head h0 QcV h2⟩⟩
 | goto l=>exact absurd rfl (hng l)
 | ret=>exact⟨_,a1,w1,hq,.of_steps (.one h0 QcV) harr⟩
 | panic ch=>exact⟨_,a1,w1,hq,.of_steps (.one h0 QcV) harr⟩
 | outgrown=>exact⟨_,a1,w1,hq,.of_steps (.one h0 QcV) harr⟩
theorem QlE (e:AEx):∀l,e.out≠ .goto l:=by cases e<;>simp[AEx.out]
section
variable {P:Program} {c:Cx} {m0:Nat→Nat→Prop} {w0:Base}
theorem QlY {F:Fence} {n:Nat} (b:Code) (ih:∀(σ:St) (e:AEx) (σ':St),c.code b σ=some (e,σ')→∀(g:Gh) (a:Act) (w:World),Inv c.N m0 w0 g σ a w→∀Q:Exit→Act→World→Prop,(∀g' a' w',Inv c.N m0 w0 g' σ' a' w'→Q e.out a' w')→b.wpIn F n P Q a w):
  ∀(k:Nat) (σ:St) (e:AEx) (σ':St),iter (c.code b) k σ=some (e,σ')→∀(g:Gh) (a:Act) (w:World),Inv c.N m0 w0 g σ a w→∀Q:Exit→Act→World→Prop,(∀g' a' w',Inv c.N m0 w0 g' σ' a' w'→Q e.out a' w')→Code.roundsIn F n P b Q k a w
 | 0,σ,e,σ',h,g,a,w,I,Q,hQ=>by cases h
 | k+1,σ,e,σ',h,g,a,w,I,Q,hQ=>by
  rw[roundsIn_succ];simp only[iter]at h;split at h
  ·rename_i σ1 hs;exact ih σ .normal σ1 hs g a w I _ fun g' a' w' I'=>QlY b ih k σ1 e σ' h g' a' w' I' Q hQ
  ·rename_i hne;refine ih σ e σ' h g a w I _ fun g' a' w' I'=>?_;cases e with
   | normal=>exact absurd h (hne σ')
   | exit i=>exact hQ g' a' w' I'
   | ret=>exact hQ g' a' w' I'
   | pan v=>exact hQ g' a' w' I'
theorem Qg5 {F:Fence} {n:Nat} (hF:FreeF F) (hc:CxOk P c) {id:Nat} {ops:Array Oper} {g:Gh} {σ σ':St} {a:Act} {w:World} (h:c.regionD id ops.toList σ=some σ') (hal:∀d∈QR ops.toList,w0.out d=none) (hd:QaO c.diff c.md c.pq (.region id ops true)=true) (I:Inv c.N m0 w0 g σ a w) {Q:Exit→Act→World→Prop} (hQ:∀g' a' w',Inv c.N m0 w0 g' σ' a' w'→Q .normal a' w'):(Code.region id ops true).wpIn F n P Q a w:=by
 unfold Cx.regionD at h;unfold QaO at hd;rw[Bool.and_eq_true]at hd;replace hd:=hd.2;split at h
 ·rename_i hm;rw[hm]at hd;exact Qp6 hF hc h hal hd I hQ
 ·rename_i hm;rw[hm]at hd;exact Qn6 hF hc h hal hd I hQ
 ·rename_i hm;rw[hm]at hd;simp only[Bool.and_eq_true]at hd;exact QTZ hF hc h hal hd.1 (fun p hp=>List.all_eq_true.1 hd.2 p hp) I hQ
 ·rename_i m hm;rw[hm]at hd;simp only at hd;split at h
  ·rename_i h9; rw[if_pos h9]at hd; exact QTQ hF hc h hal hd I hQ
  ·rename_i h9; rw[if_neg h9]at hd; exact QT0 hF hc h hal hd I hQ
theorem QiD (hc:CxOk P c):∀(cd:Code),QaO c.diff c.md c.pq cd=true→QOm P c cd:=by
 intro cd
 induction cd with
 | skip=>
  intro _ F n hF m0 w0 hR σ e σ' h hal g a w I Q hQ;simp only[Cx.code,Option.some.injEq,Prod.mk.injEq]at h;obtain⟨rfl,rfl⟩:=h;exact wpIn_skip (hQ g a w I)
 | label l=>
  intro _ F n hF m0 w0 hR σ e σ' h hal g a w I Q hQ;simp only[Cx.code,Option.some.injEq,Prod.mk.injEq]at h;obtain⟨rfl,rfl⟩:=h;exact wpIn_label (hQ g a w I)
 | region id ops draw=>
  intro hd F n hF m0 w0 hR σ e σ' h hal g a w I Q hQ;cases draw with
  | false=>
   simp only[Cx.code]at h;split at h
   ·split at h
    ·rename_i hst;obtain⟨hnd,hpl⟩:=QaJ hst;obtain⟨I1,hal1,hus⟩:=I.start hal hst hpl;exact wpIn_region_list (Qmn hF hc ops ops.toList 0 σ σ' _ a w h I1 (QbX _ hnd) hal1 (fun j _=>hus j) hQ)
    ·cases h
   ·split at h
    ·rename_i σ1 hr;simp only[Option.some.injEq,Prod.mk.injEq]at h;obtain⟨rfl,rfl⟩:=h;exact Qo1 hF hc hr hal I hQ
    ·cases h
  | true=>
   simp only[Cx.code]at h;split at h
   ·rename_i σ1 hr;simp only[Option.some.injEq,Prod.mk.injEq]at h;obtain⟨rfl,rfl⟩:=h;exact Qg5 hF hc hr hal hd I hQ
   ·split at h
    ·have hd':=hd;unfold QaO at hd';rw[Bool.and_eq_true]at hd';exact QlA hF hc h (fun p hp=>List.all_eq_true.1 hd'.1 p hp) hal I hQ
    ·cases h
 | seq x y ihx ihy=>
  intro hd F n hF m0 w0 hR σ e σ' h hal g a w I Q hQ;simp only[QaO,Bool.and_eq_true]at hd;simp only[QkX,Bool.and_eq_true]at hR;simp only[QF,List.mem_append]at hal;simp only[Cx.code]at h;refine wpIn_seq ?_;split at h
  ·rename_i σ1 hs;exact ihx hd.1 F n hF m0 w0 (hR.imp And.left id) σ .normal σ1 hs (fun d h=>hal d (.inl h)) g a w I _ fun g' a' w' I'=>ihy hd.2 F n hF m0 w0 (hR.imp And.right id) σ1 e σ' h (fun d h=>hal d (.inr h)) g' a' w' I' Q hQ
  ·rename_i hne;refine ihx hd.1 F n hF m0 w0 (hR.imp And.left id) σ e σ' h (fun d h=>hal d (.inl h)) g a w I _ fun g' a' w' I'=>?_;cases e with
   | normal=>exact absurd h (hne σ')
   | exit i=>exact hQ g' a' w' I'
   | ret=>exact hQ g' a' w' I'
   | pan v=>exact hQ g' a' w' I'
 | cond x y z ihy ihz=>
  intro hd F n hF m0 w0 hR σ e σ' h hal g a w I Q hQ;simp only[QaO,Bool.and_eq_true]at hd;simp only[QkX,Bool.and_eq_true]at hR;simp only[QF,List.mem_append]at hal;simp only[Cx.code]at h;split at h
  ·rename_i t hx;have hr:=QbD I x;rw[hx]at hr;simp only[RelX,Rel]at hr;refine wpIn_cond hr ?_;cases t with
   | true=>exact ihy hd.1 F n hF m0 w0 (hR.imp And.left id) σ e σ' h (fun d h=>hal d (.inl h)) g a w I Q hQ
   | false=>exact ihz hd.2 F n hF m0 w0 (hR.imp And.right id) σ e σ' h (fun d h=>hal d (.inr h)) g a w I Q hQ
  ·cases h
 | block id x ih=>
  intro hd F n hF m0 w0 hR σ e σ' h hal g a w I Q hQ;simp only[QaO]at hd;simp only[QkX]at hR;simp only[QF]at hal;simp only[Cx.code]at h;refine wpIn_block ?_;split at h
  ·rename_i j σ1 hs;split at h
   ·rename_i hj;simp only[Option.some.injEq,Prod.mk.injEq]at h;obtain⟨rfl,rfl⟩:=h;refine ih hd F n hF m0 w0 hR σ _ σ1 hs hal g a w I _ fun g' a' w' I'=>?_;simp only[AEx.out,Exit.inBlock,hj,if_true];exact hQ g' a' w' I'
   ·rename_i hj;simp only[Option.some.injEq,Prod.mk.injEq]at h;obtain⟨rfl,rfl⟩:=h;refine ih hd F n hF m0 w0 hR σ _ σ1 hs hal g a w I _ fun g' a' w' I'=>?_;simp only[AEx.out,Exit.inBlock,hj,if_false];exact hQ g' a' w' I'
  ·rename_i hne;refine ih hd F n hF m0 w0 hR σ e σ' h hal g a w I _ fun g' a' w' I'=>?_;cases e with
   | normal=>exact hQ g' a' w' I'
   | exit i=>exact absurd h (hne i σ')
   | ret=>exact hQ g' a' w' I'
   | pan v=>exact hQ g' a' w' I'
 | loop x ih=>
  intro hd F n hF m0 w0 hR σ e σ' h hal g a w I Q hQ;simp only[QaO]at hd;simp only[QkX]at hR;simp only[QF]at hal;simp only[Cx.code]at h;exact wpIn_loop_rounds c.F (QlY x (fun σ e σ' h g a w I Q hQ=>ih hd F n hF m0 w0 hR σ e σ' h hal g a w I Q hQ) c.F σ e σ' h g a w I Q hQ)
 | rangeFunc f p x y ihx ihy=>
  intro hd F n hF m0 w0 hR σ e σ' h hal g a w I Q hQ;simp only[QaO,Bool.and_eq_true]at hd;simp only[QkX,Bool.false_eq_true,false_or]at hR;obtain⟨rfl,hdk⟩:=hR;exact Qqi hc (ihx hd.1.1.1) (ihy hd.1.1.2) hd.1.2 hd.2 h hal hdk I hQ
 | exit i=>
  intro _ F n hF m0 w0 hR σ e σ' h hal g a w I Q hQ;simp only[Cx.code,Option.some.injEq,Prod.mk.injEq]at h;obtain⟨rfl,rfl⟩:=h;exact wpIn_exit (hQ g a w I)
 | scope x ih=>
  intro hd F n hF m0 w0 hR σ e σ' h hal g a w I Q hQ;simp only[QaO]at hd;simp only[QkX]at hR;simp only[QF]at hal;simp only[Cx.code]at h;exact Qe7 (ih hd F n hF m0 w0 hR σ e σ' h hal g a w I _ fun g' a' w' I'=>⟨QlE e,hQ g' a' w' I'⟩)
 | goto l=>
  intro _ F n hF m0 w0 hR σ e σ' h;cases h
 | ret=>
  intro _ F n hF m0 w0 hR σ e σ' h hal g a w I Q hQ;simp only[Cx.code,Option.some.injEq,Prod.mk.injEq]at h;obtain⟨rfl,rfl⟩:=h;exact wpIn_ret (hQ g a w I)
 | refuse s=>
  intro _ F n hF m0 w0 hR σ e σ' h;cases h
def Qv5 (Γ:Tys) (σ:St):List ResultVar→Option (List D)
 | []=>some []
 | .tmp t::rs=>match(σ.ev (.tmp t)).data,Qv5 Γ σ rs with
  | some d,some ds=>some (d::ds)
  | _,_=>none
 | .cell x T::rs=>match Qm8 Γ T (σ.ev (.tmp x)) σ.boxes with
  | some y=>match y.data,Qv5 Γ σ rs with
   | some d,some ds=>some (d::ds)
   | _,_=>none
  | none=>none
def Qgs (Γ:Tys) (σ:St):List ResultVar→Option (List D)
 | []=>some []
 | .tmp t::rs=>match(σ.ev (.tmp t)).outD σ.boxes σ.toks,Qgs Γ σ rs with
  | some d,some ds=>some (d::ds)
  | _,_=>none
 | .cell x T::rs=>match Qm8 Γ T (σ.ev (.tmp x)) σ.boxes with
  | some y=>match y.outD σ.boxes σ.toks,Qgs Γ σ rs with
   | some d,some ds=>some (d::ds)
   | _,_=>none
  | none=>none
def Qfd:List D→D
 | [d]=>d
 | ds=> .tup ds
def Qqm:Nat→List D→List (Nat×X)
 | _,[]=>[]
 | i,d::t=>(i,.d d)::Qqm (i+1) t
def Cx.call (c:Cx) (cd:Code) (rs:List ResultVar) (ds:List D):Option D:=
 match c.code cd ⟨Qqm 0 ds,[],[],[]⟩with
 | some (.exit _,_)=>none
 | some (.pan _,_)=>none
 | some (_,σ)=>match Qgs c.Γ σ rs with
  | some r=>some (Qfd r)
  | none=>none
 | none=>none
def Qc6 (tmps:Array Value):ResultVar→Sem Value
 | .tmp t=>pure (tmps.getD t undef)
 | .cell a t=>do loadVar t (←asAddr (tmps.getD a undef))
theorem QnM (hc:CxOk P c) {g:Gh} {σ:St} {a:Act} {w:World} (I:Inv c.N m0 w0 g σ a w):∀(rs:List ResultVar) (ds:List D),Qv5 c.Γ σ rs=some ds→∃vs:List Value,(rs.mapM (Qc6 a.tmps)).run P w= .ok vs w∧RelL g.imm w ds vs
 | [],ds,h=>by
  simp only[Qv5,Option.some.injEq]at h; subst h;exact⟨[],rfl,by simp[RelL]⟩
 | .tmp t::rs,ds,h=>by
  simp only[Qv5]at h;split at h
  ·rename_i d ds' hd hds;simp only[Option.some.injEq]at h; subst h;obtain⟨vs,h1,h2⟩:=QnM hc I rs ds' hds;refine⟨a.tmps.getD t undef::vs,?_,?_⟩
   ·simp only[List.mapM_cons,Qc6,Sem.run_bind,Sem.run_pure,Result.andThen_ok,h1]
   ·simp only[RelL];exact⟨_,vs,rfl,RelX.data hd (QbD I (.tmp t)),h2⟩
  ·cases h
 | .cell x T::rs,ds,h=>by
  simp only[Qv5]at h;split at h
  ·rename_i y hy;split at h
   ·rename_i d ds' hd hds;simp only[Option.some.injEq]at h; subst h;obtain⟨vs,h1,h2⟩:=QnM hc I rs ds' hds;obtain⟨v,h3,h4⟩:=Qjr hc.ty hy (QbD I (.tmp x)) I.boxes;refine⟨v::vs,?_,?_⟩
    ·have h5:(loadVar T=<< asAddr (a.tmps.getD x undef)).run P w= .ok v w:=by
      have h6:=h3;unfold Instr.loadAt at h6;rw[Sem.run_bind]at h6;show(asAddr (a.tmps.getD x undef) >>=loadVar T).run P w=_;rw[Sem.run_bind];show((asAddr (a.tmps.getD x undef)).run P w).andThen _=_;have h7:a.eval (.tmp x)=a.tmps.getD x undef:=rfl;rw[h7]at h6;generalize a.tmps.getD x undef=vx at*;cases vx with
      | pointer p=>
       cases p with
       | none=>simp[Instr.sureAddr,stuck]at h6
       | some ad=>simpa[Instr.sureAddr,asAddr]using h6
      | _=>simp[Instr.sureAddr,stuck]at h6
     simp only[List.mapM_cons,Qc6,Sem.run_bind,Sem.run_pure,Result.andThen_ok,h1]at h5⊢;have h8:(asAddr (a.tmps.getD x undef) >>=fun y=>loadVar T y).run P w= .ok v w:=h5;rw[Sem.run_bind]at h8;rw[h8]; simp only[Result.andThen_ok,h1]
    ·simp only[RelL];exact⟨_,vs,rfl,RelX.data hd h4,h2⟩
   ·cases h
  ·cases h
theorem Qsi {N:Nat} {g:Gh} {σ:St} {a:Act} {w:World} (I:Inv N m0 w0 g σ a w) {x:X} {d:D} {v:Value} (h:x.outD σ.boxes σ.toks=some d) (r:RelX g w w0.heap.size σ.toks x v):Rel (Qlf g) w d v:=by
 unfold X.outD at h;split at h
 ·rename_i k rows t;split at h
  ·rename_i ht;simp only[Option.some.injEq]at h; subst h;obtain⟨z,hz,e⟩:=List.any_eq_true.1 ht;have:z=t:=by simpa using e
   subst this;exact QqZ (r.2.2 hz)
  ·cases h
 ·exact QDv (Qm7 I.boxes h r)
theorem QhZ (hc:CxOk P c) {g:Gh} {σ:St} {a:Act} {w:World} (I:Inv c.N m0 w0 g σ a w):∀(rs:List ResultVar) (ds:List D),Qgs c.Γ σ rs=some ds→∃vs:List Value,(rs.mapM (Qc6 a.tmps)).run P w= .ok vs w∧RelL (Qlf g) w ds vs
 | [],ds,h=>by
  simp only[Qgs,Option.some.injEq]at h; subst h;exact⟨[],rfl,by simp[RelL]⟩
 | .tmp t::rs,ds,h=>by
  simp only[Qgs]at h;split at h
  ·rename_i d ds' hd hds;simp only[Option.some.injEq]at h; subst h;obtain⟨vs,h1,h2⟩:=QhZ hc I rs ds' hds;refine⟨a.tmps.getD t undef::vs,?_,?_⟩
   ·simp only[List.mapM_cons,Qc6,Sem.run_bind,Sem.run_pure,Result.andThen_ok,h1]
   ·simp only[RelL];exact⟨_,vs,rfl,Qsi I hd (QbD I (.tmp t)),h2⟩
  ·cases h
 | .cell x T::rs,ds,h=>by
  simp only[Qgs]at h;split at h
  ·rename_i y hy;split at h
   ·rename_i d ds' hd hds;simp only[Option.some.injEq]at h; subst h;obtain⟨vs,h1,h2⟩:=QhZ hc I rs ds' hds;obtain⟨v,h3,h4⟩:=Qjr hc.ty hy (QbD I (.tmp x)) I.boxes;refine⟨v::vs,?_,?_⟩
    ·have h5:(loadVar T=<< asAddr (a.tmps.getD x undef)).run P w= .ok v w:=by
      have h6:=h3;unfold Instr.loadAt at h6;rw[Sem.run_bind]at h6;show(asAddr (a.tmps.getD x undef) >>=loadVar T).run P w=_;rw[Sem.run_bind];show((asAddr (a.tmps.getD x undef)).run P w).andThen _=_;have h7:a.eval (.tmp x)=a.tmps.getD x undef:=rfl;rw[h7]at h6;generalize a.tmps.getD x undef=vx at*;cases vx with
      | pointer p=>
       cases p with
       | none=>simp[Instr.sureAddr,stuck]at h6
       | some ad=>simpa[Instr.sureAddr,asAddr]using h6
      | _=>simp[Instr.sureAddr,stuck]at h6
     simp only[List.mapM_cons,Qc6,Sem.run_bind,Sem.run_pure,Result.andThen_ok,h1]at h5⊢;have h8:(asAddr (a.tmps.getD x undef) >>=fun y=>loadVar T y).run P w= .ok v w:=h5;rw[Sem.run_bind]at h8;rw[h8]; simp only[Result.andThen_ok,h1]
    ·simp only[RelL];exact⟨_,vs,rfl,Qsi I hd h4,h2⟩
   ·cases h
  ·cases h
theorem Qjb {m:Nat→Nat→Prop} {w:World} :∀(ds:List D) (vs:List Value) (i:Nat),RelL m w ds vs→∀t x,Qt (Qqm i ds) t=some x→∃d v,x= .d d∧i≤t∧vs[t - i]?=some v∧Rel m w d v
 | [],vs,i,_,t,x,h=>by cases h
 | d::ds,vs,i,hr,t,x,h=>by
  simp only[RelL]at hr;obtain⟨v,vt,rfl,h1,h2⟩:=hr;simp only[Qqm,Qt]at h;by_cases ht:t=i
  ·rw[if_pos ht]at h; cases h; subst ht;exact⟨d,v,rfl,Nat.le_refl _,by simp,h1⟩
  ·rw[if_neg ht]at h;obtain⟨d',v',h3,h4,h5,h6⟩:=Qjb ds vt (i+1) h2 t x h;refine⟨d',v',h3,by omega,?_,h6⟩
   rw[show t - i=(t - (i+1))+1 by omega]; simpa using h5
def Qem (g:Gh) (w:World):Gh:= { g with tok:=fun t=>match g.tok t with | some b=>(match w.heap[b]? with | some (.cells cs ty f)=>some b | _=>none) | none=>none}
theorem Qg8 {g:Gh} {w:World} {t b:Nat} (h:(Qem g w).tok t=some b):g.tok t=some b∧∃cs ty f,w.heap[b]?=some (.cells cs ty f):=by
 simp only[Qem]at h;split at h
 ·rename_i b' hb;split at h
  ·rename_i cs ty f hh;simp only[Option.some.injEq]at h; subst h;exact⟨hb,cs,ty,f,hh⟩
  ·cases h
 ·cases h
theorem QoB {g:Gh} {w:World} {t b:Nat} {cs:Array Value} {ty:TypeId} {f:Nat×Nat} (h:g.tok t=some b) (hh:w.heap[b]?=some (.cells cs ty f)):(Qem g w).tok t=some b:=by
 simp only[Qem,h,hh]
theorem RelX.clean {g:Gh} {w:World} {base:Nat} {toks:List Nat} {x:X} {v:Value} (h:RelX g w base toks x v):RelX (Qem g w) w base toks x v:=by
 have key:∀{caps:List (Sum Nat D)} {vs:List Value},CapsR g w caps vs→CapsR (Qem g w) w caps vs:=fun h=>QhF (g:=g) (g':=Qem g w) rfl rfl h;cases x with
 | fx f first caps=>
  obtain⟨fs,cs,h1,h2,h3⟩:=h;exact⟨fs,cs,h1,h2,key h3⟩
 | sl k rows own=>
  cases own with
  | ex=>exact h
  | tok t=>
   refine⟨h.1,h.2.1,fun hm=>?_⟩;obtain⟨ad,cp,hv,hh⟩:=h.2.2 hm;refine⟨ad,cp,hv,hh.imp id ?_⟩;rintro⟨b,o,q1,q2,q4,cs,ty,q5,q6⟩;exact⟨b,o,QoB q1 q5,q2,q4,cs,ty,q5,q6⟩
  | own t=>
   refine⟨h.1,h.2.1,fun hm=>?_⟩;obtain⟨ad,cp,hv,h0,h1,hh⟩:=h.2.2 hm;refine⟨ad,cp,hv,h0,h1,hh.imp id ?_⟩;rintro⟨b,o,q1,q2,q4,cs,ty,q5,q6⟩;exact⟨b,o,QoB q1 q5,q2,q4,cs,ty,q5,q6⟩
 | agb cs=>obtain⟨vs,h1,h2⟩:=h; exact⟨vs,h1,RelB.map (g:=g) (g':=Qem g w) (fun _ _ hx=>hx) (fun _ _ _ hb=>hb) h2⟩
 | _=>exact h
theorem Inv.clean {N:Nat} {g:Gh} {σ:St} {a:Act} {w:World} (I:Inv N m0 w0 g σ a w):Inv N m0 w0 (Qem g w) σ a w:=
 ⟨I.below,I.size,I.defers,I.lt,I.old,I.new,fun t x h=>(I.tmps t x h).clean,I.boxb,I.boxi,fun t b h=>I.tokb t b (Qg8 h).1,fun s t b h h'=>I.toki s t b (Qg8 h).1 (Qg8 h').1,fun b cs h blk hb=>by
  obtain⟨vs,ty,k1,k2,k3⟩:=I.boxes b cs h blk hb;exact⟨vs,ty,k1,k2,fun j x v p1 p2=>⟨(k3 j x v p1 p2).1,(k3 j x v p1 p2).2.clean⟩⟩,I.out,I.fz,I.maps,I.cells⟩
structure OutSt (σ:St) (ns:List Cont) (tl:List Nat):Prop where
 cells:∀(j:Nat) (xs:List X),ns[j]?=some (.cells xs)→Qt σ.boxes (1000+j)=some xs
 maps:∀(j:Nat) (mc:Nat×List (Value×Value)),ns[j]?=some (.map mc)→Qt σ.maps (1000+j)=some mc
 toks:∀t∈tl,t∈σ.toks
theorem RelX.less {g:Gh} {w:World} {base:Nat} {t1 t2:List Nat} {x:X} {v:Value} (hs:∀t∈t2,t∈t1) (h:RelX g w base t1 x v):RelX g w base t2 x v:=by
 cases x with
 | sl k rows own=>
  cases own with
  | ex=>exact h
  | tok t=>exact⟨h.1,h.2.1,fun hm=>h.2.2 (hs t hm)⟩
  | own t=>exact⟨h.1,h.2.1,fun hm=>h.2.2 (hs t hm)⟩
 | _=>exact h
theorem Inv.outs {N:Nat} {g:Gh} {σ:St} {a:Act} {w:World} (I:Inv N m0 w0 g σ a w) {ns:List Cont} {tl:List Nat} (ho:OutSt σ ns tl) (hd:a.defers=[]) (hdf:w0.df=[]):Inv 0 m0 w0 g ⟨[],QcK 0 ns,tl,Qff 0 ns⟩ ⟨#[],[]⟩ w:=
 ⟨I.below,rfl,⟨[],by rw[hdf]; rfl,List.nodup_nil,fun D h=>by cases h⟩,I.lt,I.old,I.new,fun t x h=>(by cases h),I.boxb,I.boxi,I.tokb,I.toki,fun b cs h blk hb=>by
  obtain⟨j,rfl,hj⟩:=Qhc h;rw[Nat.add_zero]at hb;obtain⟨vs,ty,k1,k2,k3⟩:=I.boxes _ _ (ho.cells j cs hj) blk hb;exact⟨vs,ty,k1,k2,fun j x v p1 p2=>⟨(k3 j x v p1 p2).1,(k3 j x v p1 p2).2.less ho.toks⟩⟩,I.out,I.fz,fun b mc h blk hb=>by
  obtain⟨j,rfl,hj⟩:=Qji h;rw[Nat.add_zero]at hb;exact I.maps _ _ (ho.maps j mc hj) blk hb,I.cells⟩
theorem Inv.shut {N:Nat} {g:Gh} {σ:St} {tm:Array Value} {w:World} {D:Nat} {Ds:List Nat} (I:Inv N m0 w0 g σ ⟨tm,Qgr D::Ds.map Qgr⟩ w) (hdf:w0.df=[]) (hfz:∀p∈w0.fz,p.1≠D):(∃l,w.heap[D]?=some (.deferred l))∧Inv N m0 w0 (Qem g w) σ ⟨tm,Ds.map Qgr⟩ (w.putObj D (.deferred none)):=by
 have Ic:=I.clean;obtain⟨Ds',h1,h2,h3⟩:=I.defers;rw[hdf,List.append_nil]at h1;have hDs':Ds'=D::Ds:=by
  have hinj:∀(l1 l2:List Nat),l1.map Qgr=l2.map Qgr→l1=l2:=by
   intro l1
   induction l1 with
   | nil=>intro l2 h; cases l2 with
    | nil=>rfl
    | cons _ _=>simp at h
   | cons x t ih=>
    intro l2 h;cases l2 with
    | nil=>simp at h
    | cons y u=>
     simp only[List.map_cons,List.cons.injEq]at h;have hxy:x=y:=by
      have:=h.1;simp only[Qgr,Deferred.mk.injEq,Target.collected.injEq,and_true]at this;exact this
     rw[hxy,ih u h.2]
  exact(hinj _ _ (by rw[List.map_cons]; exact h1)).symm
 subst hDs';obtain⟨hn1,hn2⟩:=List.nodup_cons.1 h2;obtain⟨hDb,hDh⟩:=h3 D (by simp)
 refine⟨⟨_,hDh⟩,?_⟩;have hlt:D < w.heap.size:=(Array.getElem?_eq_some_iff.1 hDh).1;have hoth:∀k,k≠D→(w.putObj D (.deferred none)).heap[k]?=w.heap[k]?:=fun k hk=>World.putObj_heap_other hk;have hsz:(w.putObj D (.deferred none)).heap.size=w.heap.size:=World.putObj_size;have hcell:∀b o,(w.putObj D (.deferred none)).cell? ⟨b,o,none⟩=w.cell? ⟨b,o,none⟩:=by
  intro b o;by_cases e:b=D
  ·subst e;unfold World.cell?;simp only[World.putObj_heap_same hlt,hDh]
  ·exact World.cell?_of_block (w:=w) (hoth b e)
 have htok:∀t b,(Qem g w).tok t=some b→b≠D:=by
  intro t b h e;obtain⟨_,cs,ty,f,hh⟩:=Qg8 h;rw[e,hDh]at hh; cases hh
 have e:Tr (Qem g w) w σ.toks (Qem g w) (w.putObj D (.deferred none)) σ.toks:=⟨⟨fun _ _ h=>h,fun b o _=>hcell b o⟩,fun _ _ h=>h,fun _ h=>h,fun t _ h=>⟨h,fun b hb=>⟨hb,fun _ hx=>hx,hoth b (htok t b hb)⟩⟩⟩;refine⟨⟨Ic.below.os,Ic.below.tape,Ic.below.output,by rw[hsz]; exact Ic.below.size,fun k hk hn=>(hoth k (fun e=>by subst e; exact absurd hk (Nat.not_lt.2 hDb.1))).trans (Ic.below.block k hk hn)⟩,Ic.size,⟨Ds,by rw[hdf,List.append_nil],hn2,fun D' hD'=>⟨(h3 D' (by simp[hD'])).1,(hoth D' (fun e=>hn1 (e ▸ hD'))).trans (h3 D' (by simp[hD'])).2⟩⟩,fun b o h=>by rw[hsz]; exact Ic.lt b o h,Ic.old,Ic.new,fun t x h=>RelX.tr e (Ic.tmps t x h),fun i b h=>by rw[hsz]; exact Ic.boxb i b h,Ic.boxi,fun t b h=>by rw[hsz]; exact Ic.tokb t b h,Ic.toki,fun b cs h blk hb=>BoxAt.tr e (Ic.boxes b cs h blk hb) (hoth blk (fun e=>?_)),Ic.out,fun p hp=>⟨(hoth _ (hfz p hp)).trans (Ic.fz p hp).1,(Ic.fz p hp).2⟩,fun i mc hi blk hb=>(Ic.maps i mc hi blk hb).keep (hoth blk (fun e=>?_)),⟨fun b o h=>(hcell b o).trans (Ic.cells.1 b o h),Ic.cells.2⟩⟩
 ·obtain⟨vs,ty,k1,_⟩:=Ic.boxes b cs h blk hb;rw[e,hDh]at k1; cases k1
 ·obtain⟨l,cl,k1,_⟩:=Ic.maps i mc hi blk hb;rw[e,hDh]at k1; cases k1
theorem QiF {n:Nat} {fn:Func} {tm:Array Value} {N:Nat} {σ:St} {R:Ending→World→Prop} (hdf:w0.df=[]) (hfz:w0.fz=[]) (hend:∀(g':Gh) (w':World),Inv N m0 w0 g' σ ⟨tm,[]⟩ w'→∃v,(results fn tm).run P w'= .ok v w'∧R (.returned v) w'):∀(Ds:List Nat) (g:Gh) (w:World),Inv N m0 w0 g σ ⟨tm,Ds.map Qgr⟩ w→LeavesInM Fence.wide n P fn tm R (Ds.map Qgr) .returning w
 | [],g,w,I=>by
  obtain⟨v,h1,h2⟩:=hend g w I;exact⟨v,h1,h2⟩
 | D::Ds,g,w,I=>by
  obtain⟨⟨l,hl⟩,I2⟩:=I.shut hdf (by rw[hfz]; intro p hp; cases hp)
  have hDh:w.heap[D]?=some (.deferred (some [])):=by
   obtain⟨Ds',h1,h2,h3⟩:=I.defers;rw[hdf,List.append_nil]at h1;have hm:D∈Ds':=by
    have:Qgr D∈Ds'.map Qgr:=by rw[←h1]; simp
    obtain⟨y,hy,hye⟩:=List.mem_map.1 this;simp only[Qgr,Deferred.mk.injEq,Target.collected.injEq,and_true]at hye;rw[←hye]; exact hy
   exact(h3 D hm).2
  exact⟨by simp,.inl ⟨D,_,rfl,run_takeDeferred hDh,QiF hdf hfz hend Ds _ _ I2⟩⟩
theorem QkQ {m:Nat→Nat→Prop} {fn:Func} {tm:Array Value} {w:World} {us:List Value} {r:List D} (h1:(fn.results.toList.mapM (Qc6 tm)).run P w= .ok us w) (h2:RelL m w r us):∃v,(results fn tm).run P w= .ok v w∧Rel m w (Qfd r) v:=by
 have hmap:(fn.results.mapM (Qc6 tm)).run P w= .ok us.toArray w:=by
  rw[Array.mapM_eq_mapM_toList,Sem.run_map,h1]; rfl
 have hrun:(results fn tm).run P w= .ok (if h:us.toArray.size=1 then us.toArray[0]else .tuple us.toArray) w:=by
  have hR:results fn tm=(fn.results.mapM (Qc6 tm) >>=fun vs=>pure (if h:vs.size=1 then vs[0]else .tuple vs)):=rfl;rw[hR,Sem.run_bind,hmap]; rfl
 refine⟨_,hrun,?_⟩;cases r with
 | nil=>
  simp only[RelL]at h2; subst h2;simp only[Qfd,Rel];exact⟨[],by simp,by simp[RelL]⟩
 | cons d0 t=>
  simp only[RelL]at h2;obtain⟨u,ut,rfl,k1,k2⟩:=h2;cases t with
  | nil=>
   simp only[RelL]at k2; subst k2;simp only[Qfd];simpa using k1
  | cons d1 t'=>
   have hk:=k2.length;have hn1:¬(u::ut).toArray.size=1:=by
    rw[List.size_toArray,List.length_cons,hk,List.length_cons]; omega
   rw[dif_neg hn1];simp only[Qfd,Rel];exact⟨u::ut,rfl,by simp only[RelL]; exact⟨u,ut,rfl,k1,by simpa[RelL]using k2⟩⟩
theorem Qsg (hc:CxOk P c) {f:Nat} {fn:Func} {cd:Code} (hf:P.funcs[f]?=some fn) (hb:fn.body=some cd) (hN:fn.ntmps=c.N) {vs:List Value} (hl:vs.length≤c.N) (hd:QaO c.diff c.md c.pq cd=true) (hal:∀d∈QF cd,w0.out d=none) (hfz:w0.fz=[]) (hdok:w0.dOk) (hdf:w0.df=[]) {σ σ':St} {e:AEx} (hne:∀i,e≠ .exit i) (hnp:∀v,e≠ .pan v) (h:c.code cd σ=some (e,σ')) {g:Gh} {w:World}
  (I:Inv c.N m0 w0 g σ { tmps:=vs.toArray++Array.replicate (fn.ntmps - vs.toArray.size) undef,defers:=[]} w) {R:Ending→World→Prop} (hR:∀(g':Gh) (a':Act) (w':World),Inv c.N m0 w0 g' σ' a' w'→a'.defers=[]→∃v,(results fn a'.tmps).run P w'= .ok v w'∧R (.returned v) w'):Calls P f vs.toArray w R:=by
 refine(callsIn_wide (n:=0)).1 (callsIn_of_wp_marks hf hb trivial ?_);refine QiD hc cd hd Fence.wide 0 (.inl rfl) m0 w0 (.inr ⟨rfl,hdok,hdf⟩) σ e σ' h hal g _ w I _ fun g' a' w' I'=>?_;have hfin:LeavesInM Fence.wide 0 P fn a'.tmps R a'.defers .returning w':=by
  obtain⟨Ds,h1,h2,h3⟩:=I'.defers;rw[hdf,List.append_nil]at h1;have I2:Inv c.N m0 w0 g' σ' ⟨a'.tmps,Ds.map Qgr⟩ w':=by rw[←h1]; exact I'
  rw[h1];exact QiF hdf hfz (fun g2 w2 I3=>hR g2 ⟨a'.tmps,[]⟩ w2 I3 rfl) Ds g' w' I2
 cases e with
 | normal=>exact hfin
 | exit i=>exact absurd rfl (hne i)
 | ret=>exact hfin
 | pan v=>exact absurd rfl (hnp v)
theorem QKG {cd:Code} (h:QxD cd=true) {out:Nat→Option Nat} (ho:∀i b,out i=some b→1000≤i):∀d∈QF cd,out d=none:=by
 intro d hd;have:=List.all_eq_true.1 h d hd;simp only[decide_eq_true_eq]at this;cases hod:out d with
 | none=>rfl
 | some b=>have:=ho d b hod; omega
theorem Qf (hc:CxOk P c) {f:Nat} {fn:Func} {cd:Code} (hf:P.funcs[f]?=some fn) (hb:fn.body=some cd) (hN:fn.ntmps=c.N) {ds:List D} {d:D} (hl:ds.length≤c.N) (hd:QaO c.diff c.md c.pq cd=true) (h:c.call cd fn.results.toList ds=some d):PureC P f ds d:=by
 intro m w vs hm hG hr;have hvl:=hr.length;have I0:Inv c.N m ⟨w,fun _=>none,fun _=>none,[],True,[]⟩ { imm:=m,box:=fun _=>none,tok:=fun _=>none,used:=fun _=>False} ⟨Qqm 0 ds,[],[],[]⟩ { tmps:=vs.toArray++Array.replicate (fn.ntmps - vs.toArray.size) undef,defers:=[]} w:=by
  refine⟨KeepsW.refl _ _,by simp; omega,⟨[],rfl,List.nodup_nil,fun D h=>by cases h⟩,hm,fun _ _ h=>h,fun _ _ h=> .inl h,fun t x hx=>?_,fun i b h=>(by cases h),fun i j b h=>(by cases h),fun t b h=>(by cases h),fun s t b h=>(by cases h),fun b cs h=>(by cases h),fun i b h=>(by cases h),fun p hp=>(by cases hp),fun i mc h=>(by cases h),fun _ _ _=>rfl,hG⟩
  obtain⟨d',v',rfl,_,h5,h6⟩:=Qjb ds vs 0 hr t x hx;simp only[Nat.sub_zero]at h5;have hlt:t < vs.length:=(List.getElem?_eq_some_iff.1 h5).1;have:(vs.toArray++Array.replicate (fn.ntmps - vs.toArray.size) undef).getD t undef=v':=by
   rw[Array.getD_eq_getD_getElem?,Array.getElem?_append,if_pos (by simpa using hlt)]
   simp[h5]
  show RelX _ _ _ _ (.d d') _;rw[this]; exact h6
 unfold Cx.call at h;split at h
 ·cases h
 ·cases h
 ·rename_i e σ hne hnp hcode;split at h
  ·rename_i r hres;simp only[Option.some.injEq]at h; subst h;refine Qsg hc hf hb hN (by omega) hd (fun _ _=>rfl) rfl trivial rfl (fun i e=>by subst e; exact hne i rfl) (fun v e=>by subst e; exact hnp v rfl) hcode I0 fun g' a' w' I' _=>?_
   obtain⟨us,h1,h2⟩:=QhZ hc I' fn.results.toList r hres;have hno:∀b,¬(⟨w,fun _=>none,fun _=>none,[],True,[]⟩:Base).writ b:=by
    rintro b (⟨i,hi⟩ | ⟨t,ht⟩)
    ·cases hi
    ·cases ht
   have hx:ExtM (Qlf g') w' (fun b o=>m b o∨(Qlf g' b o∧w.heap.size≤b)) w':=⟨fun b o h=>by
    rcases h with(h | ⟨i,h⟩) | ⟨s,h⟩
    ·exact(I'.new b o h).imp id fun h2=>⟨.inl (.inl h),h2.resolve_right (hno b)⟩
    ·exact .inr ⟨.inl (.inr ⟨i,h⟩),(I'.boxb i b h).1.resolve_right (hno b)⟩
    ·exact .inr ⟨.inr ⟨s,h⟩,(I'.tokb s b h).2.1.resolve_right (hno b)⟩,fun _ _ _=>rfl⟩
   obtain⟨v,h3,h4⟩:=QkQ h1 (RelL.ext hx _ _ h2);exact⟨v,h3,v,(fun b o=>Qlf g' b o∧w.heap.size≤b),rfl,I'.below.below (fun k hk=>hno k hk),fun b o h=>⟨h.2,by
    rcases h.1 with(h | ⟨i,h⟩) | ⟨s,h⟩
    ·exact I'.lt b o h
    ·exact(I'.boxb i b h).2.1
    ·exact(I'.tokb s b h).1⟩,h4⟩
  ·cases h
 ·cases h
def QDu:Nat→List X→List (Nat×X)
 | _,[]=>[]
 | i,x::t=>(i,x)::QDu (i+1) t
theorem Qxw:∀(xs:List X) (i:Nat) {t:Nat} {x:X},Qt (QDu i xs) t=some x→∃j,t=i+j∧xs[j]?=some x
 | [],i,t,x,h=>by cases h
 | y::r,i,t,x,h=>by
  simp only[QDu,Qt]at h;split at h
  ·rename_i e; simp only[Option.some.injEq]at h; subst h; exact⟨0,by omega,rfl⟩
  ·obtain⟨j,h1,h2⟩:=Qxw r (i+1) h;exact⟨j+1,by omega,by simpa using h2⟩
def QwC (σ:St):Nat→List Cont→Option (List Cont)
 | _,[]=>some []
 | i,.cells _::t=>(match Qt σ.boxes (1000+i),QwC σ (i+1) t with
  | some xs,some r=>some (.cells xs::r)
  | _,_=>none)
 | i,.map _::t=>(match Qt σ.maps (1000+i),QwC σ (i+1) t with
  | some mc,some r=>some (.map mc::r)
  | _,_=>none)
theorem Qrq {σ:St} :∀{cs:List Cont} {i:Nat} {ns:List Cont},QwC σ i cs=some ns→(∀(j:Nat) (xs:List X),ns[j]?=some (.cells xs)→Qt σ.boxes (1000+i+j)=some xs)∧∀(j:Nat) (mc:Nat×List (Value×Value)),ns[j]?=some (.map mc)→Qt σ.maps (1000+i+j)=some mc
 | [],i,ns,h=>by simp only[QwC,Option.some.injEq]at h; subst h; exact⟨fun j xs h=>by simp at h,fun j mc h=>by simp at h⟩
 | .cells _::t,i,ns,h=>by
  simp only[QwC]at h;split at h
  ·rename_i xs r h1 h2;simp only[Option.some.injEq]at h; subst h;obtain⟨q1,q2⟩:=Qrq h2;refine⟨fun j ys hj=>?_,fun j mc hj=>?_⟩
   ·cases j with
    | zero=>simp at hj; subst hj; exact h1
    | succ j=>have:=q1 j ys (by simpa using hj); rw[show 1000+i+(j+1)=1000+(i+1)+j by omega]; exact this
   ·cases j with
    | zero=>simp at hj
    | succ j=>have:=q2 j mc (by simpa using hj); rw[show 1000+i+(j+1)=1000+(i+1)+j by omega]; exact this
  ·cases h
 | .map _::t,i,ns,h=>by
  simp only[QwC]at h;split at h
  ·rename_i mc r h1 h2;simp only[Option.some.injEq]at h; subst h;obtain⟨q1,q2⟩:=Qrq h2;refine⟨fun j ys hj=>?_,fun j mc' hj=>?_⟩
   ·cases j with
    | zero=>simp at hj
    | succ j=>have:=q1 j ys (by simpa using hj); rw[show 1000+i+(j+1)=1000+(i+1)+j by omega]; exact this
   ·cases j with
    | zero=>simp at hj; subst hj; exact h1
    | succ j=>have:=q2 j mc' (by simpa using hj); rw[show 1000+i+(j+1)=1000+(i+1)+j by omega]; exact this
  ·cases h
def Cx.callE (c:Cx) (cd:Code) (rs:List ResultVar) (xs:List X) (cs:List Cont) (tl:List Nat):Option (D×List Cont×List Nat):=
 match c.code cd ⟨QDu 0 xs,QcK 0 cs,tl,Qff 0 cs⟩with
 | some (.exit _,_)=>none
 | some (.pan _,_)=>none
 | some (_,σ)=>(match Qv5 c.Γ σ rs,QwC σ 0 cs with
  | some r,some ns=>some (Qfd r,ns,(Qtd σ.toks ns).toList)
  | _,_=>none)
 | none=>none
theorem QbO (hc:CxOk P c) {f:Nat} {fn:Func} {cd:Code} (hf:P.funcs[f]?=some fn) (hb:fn.body=some cd) (hN:fn.ntmps=c.N) {xs:List X} {cs:List Cont} {tl:List Nat} {d:D} {ns:List Cont} {tl':List Nat} (hl:xs.length≤c.N) (hd:QaO c.diff c.md c.pq cd=true) (hnm:QxD cd=true) (h:c.callE cd fn.results.toList xs cs tl=some (d,ns,tl')):QNt P f xs cs tl d ns tl':=by
 intro m w blks tb vs hbl I hvs;obtain⟨hvl,hva⟩:=hvs;have I0:Inv c.N m (QC3 w blks tb) (QId m blks tb) ⟨QDu 0 xs,QcK 0 cs,tl,Qff 0 cs⟩ { tmps:=vs.toArray++Array.replicate (fn.ntmps - vs.toArray.size) undef,defers:=[]} w:=by
  refine⟨I.below,by simp; omega,⟨[],rfl,List.nodup_nil,fun D h=>by cases h⟩,I.lt,I.old,I.new,fun t x hx=>?_,I.boxb,I.boxi,I.tokb,I.toki,I.boxes,I.out,I.fz,I.maps,I.cells⟩
  obtain⟨j,rfl,hj⟩:=Qxw xs 0 hx;have hlt:j < vs.length:=by rw[hvl]; exact(List.getElem?_eq_some_iff.1 hj).1
  have hjv:=hva j x vs[j] hj (List.getElem?_eq_getElem hlt);have:(vs.toArray++Array.replicate (fn.ntmps - vs.toArray.size) undef).getD (0+j) undef=vs[j]:=by
   rw[Array.getD_eq_getD_getElem?,Array.getElem?_append,if_pos (by simpa using hlt)]
   simp[hlt]
  rw[this]; exact hjv
 unfold Cx.callE at h;split at h
 ·cases h
 ·cases h
 ·rename_i e σ hne hnp hcode;split at h
  ·rename_i r ns' hres hout;simp only[Option.some.injEq,Prod.mk.injEq]at h;obtain⟨rfl,rfl,rfl⟩:=h;refine Qsg hc hf hb hN (by omega) hd (QKG hnm fun i b h=>(Qdb.1 h).1) rfl trivial rfl (fun i e=>by subst e; exact hne i rfl) (fun v e=>by subst e; exact hnp v rfl) hcode I0 fun g' a' w' I' hdef=>?_
   obtain⟨us,h1,h2⟩:=QnM hc I' fn.results.toList r hres;obtain⟨v,h3,h4⟩:=QkQ h1 h2;obtain⟨q1,q2⟩:=Qrq hout;refine⟨v,h3,v,g',rfl,I'.outs ⟨fun j xs hj=>by have:=q1 j xs hj; simpa using this,fun j mc hj=>by have:=q2 j mc hj; simpa using this,fun t ht=>?_⟩ hdef rfl,h4⟩
   cases ho:Qtd σ.toks ns' with
   | none=>rw[ho]at ht; cases ht
   | some t'=>rw[ho]at ht; simp at ht; subst ht; exact Qi5 ho
  ·cases h
 ·cases h
end
end Go.Proofs.YticoemblgkemiaaGreatDoor
