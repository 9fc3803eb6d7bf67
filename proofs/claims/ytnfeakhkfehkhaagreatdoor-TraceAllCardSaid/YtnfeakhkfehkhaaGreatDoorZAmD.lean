/-
  A loop over a function: its rounds, as the plain machine runs them. For any program. No program here.
-/
import Derived.Test.YtnfeakhkfehkhaaGreatDoorZAmC
set_option linter.unusedSectionVars false
set_option linter.unusedSimpArgs false
set_option linter.unusedVariables false
namespace Go.Proofs.YtnfeakhkfehkhaaGreatDoor
open Go.RowKit
def AEx.out:AEx->Exit
 | .normal=> .normal
 | .exit i=> .exit i
 | .ret=> .ret
 | .pan v=> .panic [{ v,recovered:=false}]
def AEx.jump:AEx->Code
 | .normal=> .skip
 | .exit i=> .exit i
 | .ret=> .ret
 | .pan _=> .skip
section
variable {P:Program} {c:Cx} {N:Nat} {m0:Nat->Nat->Prop} {w0:Base} {g g':Gh} {σ σ':St} {a a':Act} {w w':World}
theorem RelX.base {b1 b2:Nat} {toks:List Nat} {x:X} {v:Value} (h:RelX g w b1 toks x v):RelX g w b2 toks x v:=by
 cases x with
 | sl k rows own=>
  cases own with
  | ex=>exact h
  | tok t=>exact h
  | own t=>exact h
 | _=>exact h
theorem BoxAt.base {b1 b2:Nat} {toks:List Nat} {blk:Nat} {cs:List X} (h:BoxAt g w b1 toks blk cs):BoxAt g w b2 toks blk cs:=by
 obtain⟨vs,ty,h1,h2,h3⟩:=h;exact⟨vs,ty,h1,h2,λj x v k1 k2=>⟨(h3 j x v k1 k2).1,(h3 j x v k1 k2).2.base⟩⟩
def Qei (w:World) (g:Gh) (fz:List (Nat×Obj)):Base:=⟨w,g.box,g.tok,fz,False,[]⟩
theorem Inv.rebase (I:Inv N m0 w0 g σ a w) (fz:List (Nat×Obj)) (dT:∀p∈fz,w.heap[p.1]?=some p.2/\p.2.isCells=false/\∀l c,p.2≠ .map l c) {tmps:List (Nat×X)} (ht:∀t x,Qv tmps t=some x->RelX g w 0 σ.toks x (a'.tmps.getD t undef)) (hs:a'.tmps.size=N) (hd:a'.defers=[]):
  Inv N g.imm (Qei w g fz) g { σ with tmps:=tmps} a' w where
 below:=KeepsW.refl _ _
 size:=hs
 defers:=⟨[],hd,List.nodup_nil,λD hD=>by cases hD⟩
 lt:=I.lt
 old:=λ_ _ h=>h
 new:=λ_ _ h=> .inl h
 tmps:=λt x h=>(ht t x h).base
 boxb:=λi b h=>⟨.inr (.inl ⟨i,h⟩),(I.boxb i b h).2⟩
 boxi:=I.boxi
 tokb:=λt b h=>⟨(I.tokb t b h).1,.inr (.inr ⟨t,h⟩),(I.tokb t b h).2.2⟩
 toki:=I.toki
 boxes:=λb cs h blk hb=>(I.boxes b cs h blk hb).base
 out:=λi b h=>h
 fz:=dT
 maps:=I.maps
 cells:=⟨λ_ _ _=>rfl,I.globIn⟩
theorem Inv.unbase (dM:w0.df=[]) (I:Inv N m0 w0 g σ a w) {fz:List (Nat×Obj)} (gX:∀p∈w0.fz,p∈fz) (I':Inv N g.imm (Qei w g fz) g' σ' a' w'):Inv N m0 w0 g' σ' a' w':=by
 have cC:=I.below.size;have oF:w.heap.size<=w'.heap.size:=I'.below.size;have fA:∀b,(Qei w g fz).writ b->w0.heap.size<=b\/w0.writ b:=by
  rintro b (⟨i,hi⟩ | ⟨t,ht⟩)
  .exact(I.boxb i b hi).1
  .exact(I.tokb t b ht).2.1
 have hb:∀b,((Qei w g fz).heap.size<=b\/(Qei w g fz).writ b)->w0.heap.size<=b\/w0.writ b:=by
  rintro b (h | h)
  .exact .inl (Nat.le_trans cC h)
  .exact fA b h
 exact⟨I.below.but I'.below (λb h1 h2=>(fA b h2).resolve_left (Nat.not_le.2 h1)),I'.size,by
   obtain⟨Ds,h1,h2,h3⟩:=I'.defers;exact⟨Ds,by rw[dM]; exact h1,h2,λD hD=>(h3 D hD).1.2.elim⟩,I'.lt,λb o h=>I'.old b o (I.old b o h),λb o h=>by
   rcases I'.new b o h with h | h
   .exact I.new b o h
   .exact .inr (hb b h),λt x h=>(I'.tmps t x h).base,λi b h=>⟨hb b (I'.boxb i b h).1,(I'.boxb i b h).2⟩,I'.boxi,λt b h=>⟨(I'.tokb t b h).1,hb b (I'.tokb t b h).2.1,(I'.tokb t b h).2.2⟩,I'.toki,λb cs h blk hb=>(I'.boxes b cs h blk hb).base,λi b h=>I'.out i b (I.out i b h),λp hp=>I'.fz p (gX p hp),I'.maps,Qbm I.cells I.old (λb o h=>I'.cells.1 b o h)⟩
theorem Inv.later (I:Inv N m0 w0 g σ a w) (hb:Below w.heap.size w w'):Inv N m0 w0 g σ a w':=
 I.tr (g':=g) ⟨⟨λ_ _ h=>h,λb o h=>hb.cell (p:=⟨b,o,none⟩) (I.lt b o h)⟩,λ_ _ h=>h,λ_ h=>h,λt _ h=>⟨h,λb cO=>⟨cO,λ_ hx=>hx,hb.block b (I.tokb t b cO).1⟩⟩⟩ (hb.mono I.below.size) (KeepN.of_below hb) (λb o h=>Nat.lt_of_lt_of_le (I.lt b o h) hb.size) I.new rfl rfl λi b h=>⟨(I.boxb i b h).2.2,hb.block b (I.boxb i b h).2.1⟩
structure Away (g:Gh) (ln:Nat):Prop where
 imm:∀o,¬g.imm ln o
 box:∀i,g.box i≠some ln
 tok:∀t,g.tok t≠some ln
theorem Inv.putRec (I:Inv N m0 w0 g σ a w) {ln:Nat} (hw:Away g ln) (rQ:w0.heap.size<=ln) (dT:∀p∈w0.fz,p.1≠ln) {r:Loop} (hr:w.heap[ln]?=some (.loop r)) (r':Loop):Inv N m0 w0 g σ a (w.putObj ln (.loop r')):=by
 have bH:∀k,k≠ln->(w.putObj ln (.loop r')).heap[k]?=w.heap[k]?:=λk hk=>World.putObj_heap_other hk;have hs:(w.putObj ln (.loop r')).heap.size=w.heap.size:=World.putObj_size;have aW:∀b o,g.imm b o->(w.putObj ln (.loop r')).cell? ⟨b,o,none⟩=w.cell? ⟨b,o,none⟩:=λb o h=>World.cell?_of_block (w:=w) (bH b (λe=>hw.imm o (e ▸ h)));have e:Tr g w σ.toks g (w.putObj ln (.loop r')) σ.toks:=⟨⟨λ_ _ h=>h,aW⟩,λ_ _ h=>h,λ_ h=>h,λt _ h=>⟨h,λb hb=>⟨hb,λ_ hx=>hx,bH b (λe=>hw.tok t (e ▸ hb))⟩⟩⟩;refine⟨⟨I.below.os,I.below.tape,I.below.output,by rw[hs]; exact I.below.size,λk hk hn=>(bH k (λe=>by subst e; exact absurd hk (Nat.not_lt.2 rQ))).trans (I.below.block k hk hn)⟩,I.size,?_,λb o h=>by rw[hs]; exact I.lt b o h,I.old,I.new,λt x h=>RelX.tr e (I.tmps t x h),λi b h=>by rw[hs]; exact I.boxb i b h,I.boxi,λt b h=>by rw[hs]; exact I.tokb t b h,I.toki,λb cs h blk hb=>BoxAt.tr e (I.boxes b cs h blk hb) (bH blk (λe=>hw.box b (e ▸ hb))),I.out,λp hp=>⟨(bH _ (dT p hp)).trans (I.fz p hp).1,(I.fz p hp).2⟩,λi mc hi blk hb=>(I.maps i mc hi blk hb).keep (bH blk (λe=>hw.box i (e ▸ hb))),Qbm I.cells I.old aW⟩
 obtain⟨Ds,h1,h2,h3⟩:=I.defers;refine⟨Ds,h1,h2,λD hD=>⟨(h3 D hD).1,(bH D (λe=>?_)).trans (h3 D hD).2⟩⟩;subst e;have:=(h3 _ hD).2;rw[hr]at this; cases this
theorem Inv.putBoth {W:World} {gp:Gh} {fz:List (Nat×Obj)} (I:Inv N m0 (Qei W gp fz) g σ a w) {ln:Nat} (hw:Away g ln) (dT:∀p∈fz,p.1≠ln) (aR:ln < W.heap.size) (r':Loop):Inv N m0 (Qei (W.putObj ln (.loop r')) gp fz) g σ a (w.putObj ln (.loop r')):=by
 have bH:∀(w:World) k,k≠ln->(w.putObj ln (.loop r')).heap[k]?=w.heap[k]?:=λw k hk=>World.putObj_heap_other hk;have hs:∀w:World,(w.putObj ln (.loop r')).heap.size=w.heap.size:=λw=>World.putObj_size;have aW:∀(w:World) b o,b≠ln->(w.putObj ln (.loop r')).cell? ⟨b,o,none⟩=w.cell? ⟨b,o,none⟩:=λw b o h=>World.cell?_of_block (w:=w) (bH w b h);have kS:∀b o,g.imm b o->b≠ln:=λb o h e=>hw.imm o (e ▸ h);have cC:W.heap.size<=w.heap.size:=I.below.size;have e:Tr g w σ.toks g (w.putObj ln (.loop r')) σ.toks:=⟨⟨λ_ _ h=>h,λb o h=>aW w b o (kS b o h)⟩,λ_ _ h=>h,λ_ h=>h,λt _ h=>⟨h,λb hb=>⟨hb,λ_ hx=>hx,bH w b (λe=>hw.tok t (e ▸ hb))⟩⟩⟩;refine⟨⟨I.below.os,I.below.tape,I.below.output,?_,λk hk hn=>?_⟩,I.size,?_,λb o h=>by rw[hs]; exact I.lt b o h,I.old,λb o h=>?_,λt x h=>(RelX.tr e (I.tmps t x h)).base,λi b h=>?_,I.boxi,λt b h=>?_,I.toki,λb cs h blk hb=>(BoxAt.tr e (I.boxes b cs h blk hb) (bH w blk (λe=>hw.box b (e ▸ hb)))).base,I.out,λp hp=>⟨(bH w _ (dT p hp)).trans (I.fz p hp).1,(I.fz p hp).2⟩,λi mc hi blk hb=>(I.maps i mc hi blk hb).keep (bH w blk (λe=>hw.box i (e ▸ hb))),λb o h=>?_,I.cells.2.ext ⟨λ_ _ h=>h,λb o h=>aW W b o (kS b o (I.old b o h))⟩⟩
 .show(W.putObj ln (.loop r')).heap.size<=_;rw[hs,hs]; exact cC
 .have cZ:k < W.heap.size:=by
   have:k < (W.putObj ln (.loop r')).heap.size:=hk
   rwa [hs]at this
  show _=(W.putObj ln (.loop r')).heap[k]?;by_cases e:k=ln
  .subst e;rw[World.putObj_heap_same cZ,World.putObj_heap_same (Nat.lt_of_lt_of_le cZ cC)]
  .rw[bH w k e,bH W k e];exact I.below.block k cZ hn
 .obtain⟨Ds,h1,h2,h3⟩:=I.defers;refine⟨Ds,h1,h2,λD hD=>⟨?_,(bH w D (λe=>?_)).trans (h3 D hD).2⟩⟩
  .exact(h3 D hD).1.2.elim
  .exact(h3 D hD).1.2.elim
 .rcases I.new b o h with h | h | h
  .exact .inl h
  .refine .inr (.inl ?_);show(W.putObj ln (.loop r')).heap.size<=b;rw[hs]; exact h
  .exact .inr (.inr h)
 .obtain⟨h1,h2,h3⟩:=I.boxb i b h;refine⟨h1.imp (λh=>?_) (λh=>h),by rw[hs]; exact h2,h3⟩
  show(W.putObj ln (.loop r')).heap.size<=b;rw[hs]; exact h
 .obtain⟨h1,h2,h3⟩:=I.tokb t b h;refine⟨by rw[hs]; exact h1,h2.imp (λh=>?_) (λh=>h),h3⟩
  show(W.putObj ln (.loop r')).heap.size<=b;rw[hs]; exact h
 .have aS:=kS b o (I.old b o h);rw[aW w b o aS];show _=(W.putObj ln (.loop r')).cell? ⟨b,o,none⟩;rw[aW W b o aS];exact I.cells.1 b o h
theorem Qc8 {ln:Nat} {fz:List (Nat×Obj)} (hw:Away g ln) (aR:ln < w.heap.size) (I':Inv N g.imm (Qei w g fz) g' σ' a' w'):Away g' ln:=by
 have fA:¬(Qei w g fz).writ ln:=by
  rintro(⟨i,hi⟩ | ⟨t,ht⟩)
  .exact hw.box i hi
  .exact hw.tok t ht
 refine⟨λo ho=>?_,λi hi=>?_,λt ht=>?_⟩
 .rcases I'.new ln o ho with h | h | h
  .exact hw.imm o h
  .exact absurd aR (Nat.not_lt.2 h)
  .exact fA h
 .rcases(I'.boxb i ln hi).1 with h | h
  .exact absurd aR (Nat.not_lt.2 h)
  .exact fA h
 .rcases(I'.tokb t ln ht).2.1 with h | h
  .exact absurd aR (Nat.not_lt.2 h)
  .exact fA h
theorem Qmm {al:List Nat} :∀{l:List (Nat×List X)} {b:Nat} {cs:List X},Qv (QsG al l) b=some cs->al.contains b=false/\∃nI,Qv l b=some nI/\cs=nI.map (X.keepP al)
 | [],b,cs,h=>by cases h
 | (i,x)::t,b,cs,h=>by
  simp only[QsG]at h;split at h
  .rename_i hc;obtain⟨h1,nI,h2,h3⟩:=Qmm h;refine⟨h1,nI,?_,h3⟩;simp only[Qv]; rw[if_neg (λe=>by rw[e,hc]at h1; cases h1)]; exact h2
  .rename_i hc;simp only[Qv]at h|-;split at h
   .rename_i e; subst e;simp only[Zs]at h;exact⟨by simpa using hc,x,by rw[if_pos rfl],h.symm⟩
   .rename_i e;obtain⟨h1,nI,h2,h3⟩:=Qmm h;exact⟨h1,nI,by rw[if_neg e]; exact h2,h3⟩
theorem QmA {al:List Nat} :∀{l:List (Nat×(Nat×List (Value×Value)))} {b:Nat} {mc:Nat×List (Value×Value)},Qv (Qsk al l) b=some mc->al.contains b=false/\Qv l b=some mc
 | [],b,mc,h=>by cases h
 | (i,x)::t,b,mc,h=>by
  simp only[Qsk]at h;split at h
  .rename_i hc;obtain⟨h1,h2⟩:=QmA h;refine⟨h1,?_⟩;simp only[Qv]; rw[if_neg (λe=>by rw[e,hc]at h1; cases h1)]; exact h2
  .rename_i hc;simp only[Qv]at h|-;split at h
   .rename_i e; subst e;exact⟨by simpa using hc,by rw[if_pos rfl]; exact h⟩
   .rename_i e;obtain⟨h1,h2⟩:=QmA h;exact⟨h1,by rw[if_neg e]; exact h2⟩
theorem QiY {al:List Nat} {base:Nat} {toks:List Nat} {x:X} {v:Value} (h:RelX g w base toks x v):RelX (Q9 al g) w base toks (x.keepP al) v:=by
 unfold X.keepP;split
 .rename_i hp; exact QiD hp h
 .simp[RelX,Rel]
theorem Inv.rest (I:Inv N m0 w0 g σ a w) {al:List Nat} (aP:∀d∈al,w0.out d=none) {t0:List (Nat×X)} (ht:∀t x,Qv t0 t=some x->RelX (Q9 al g) w 0 [] x (a'.tmps.getD t undef)) (uY:∀t x,Qv t0 t=some x->∀toks,RelX (Q9 al g) w 0 [] x (a'.tmps.getD t undef)->RelX (Q9 al g) w 0 toks x (a'.tmps.getD t undef)) (hs:a'.tmps.size=N) (hd:a'.defers=w0.df):
  Inv N m0 w0 (Q9 al g) (QcS al t0 σ) a' w:=by
 have hb:∀i b,(Q9 al g).box i=some b->al.contains i=false/\g.box i=some b:=by
  intro i b hi;simp only[Q9]at hi;split at hi
  .cases hi
  .rename_i hc; exact⟨by simpa using hc,hi⟩
 refine⟨I.below,hs,⟨[],hd,List.nodup_nil,λD hD=>by cases hD⟩,I.lt,I.old,I.new,λt x h=>(uY t x h _ (ht t x h)).base,λi b h=>I.boxb i b (hb i b h).2,λi j b h h'=>I.boxi i j b (hb i b h).2 (hb j b h').2,λt b h=>⟨(I.tokb t b h).1,(I.tokb t b h).2.1,λi hi=>(I.tokb t b h).2.2 i (hb i b hi).2⟩,I.toki,λb cs h blk aG=>?_,λi b hi=>?_,I.fz,λi mc hi blk aG=>?_,I.cells⟩
 .obtain⟨_,nI,h2,rfl⟩:=Qmm h;obtain⟨vs,ty,k1,k2,k3⟩:=I.boxes b nI h2 blk (hb b blk aG).2;refine⟨vs,ty,k1,by simpa using k2,λj x v p1 p2=>?_⟩
  rw[List.getElem?_map]at p1;cases hj:nI[j]? with
  | none=>rw[hj]at p1; cases p1
  | some y=>
   rw[hj]at p1; simp at p1; subst p1;exact⟨(k3 j y v hj p2).1,QiY (k3 j y v hj p2).2⟩
 .have h1:=I.out i b hi;simp only[Q9];rw[if_neg]
  .exact h1
  .intro hc;rw[aP i (by simpa using hc)]at hi; cases hi
 .exact I.maps i mc (QmA hi).2 blk (hb i blk aG).2
def X.noTok:X->Prop
 | .sl _ _ _=>False
 | _=>True
theorem Qja (x:X):x.strip.noTok:=by
 cases x with
 | sl k rows own=>cases own<;>trivial
 | _=>trivial
theorem Qjm {al:List Nat} {x:X} (h:x.noTok):(x.keepP al).noTok:=by
 unfold X.keepP;split
 .exact h
 .trivial
theorem RelX.toks {x:X} (hx:x.noTok) {b1 b2:Nat} {t1 t2:List Nat} {v:Value} (h:RelX g w b1 t1 x v):RelX g w b2 t2 x v:=by
 cases x with
 | sl k rows own=>exact hx.elim
 | _=>exact h
theorem RelX.tr0 {x:X} (hx:x.noTok) {b1 b2:Nat} {t1 t2:List Nat} (e:ExtM g.imm w g'.imm w') (hb:∀i b,g.box i=some b->g'.box i=some b) {v:Value} (h:RelX g w b1 t1 x v):RelX g' w' b2 t2 x v:=by
 have key:∀{caps:List (Sum Nat D)} {vs:List Value},CapsR g w caps vs->CapsR g' w' caps vs:=by
  intro caps
  induction caps with
  | nil=>intro vs h; exact h
  | cons c t ih=>
   intro vs h;cases c with
   | inl b=>
    simp only[CapsR]at h|-;obtain⟨v,vt,h1,⟨blk,h2,h3⟩,h4⟩:=h;exact⟨v,vt,h1,⟨blk,hb _ _ h2,h3⟩,ih h4⟩
   | inr d=>
    simp only[CapsR]at h|-;obtain⟨v,vt,h1,h2,h4⟩:=h;exact⟨v,vt,h1,Rel.ext e _ _ h2,ih h4⟩
 cases x with
 | sl k rows own=>exact hx.elim
 | d y=>exact Rel.ext e _ _ h
 | agz cs=>exact Rel.ext e _ _ h
 | fx f first caps=>
  obtain⟨fs,cs,h1,h2,h3⟩:=h;exact⟨fs,cs,h1,RelL.ext e _ _ h2,key h3⟩
 | loc b off=>obtain⟨blk,h1,h2⟩:=h; exact⟨blk,hb _ _ h1,h2⟩
 | bs b off n k=>obtain⟨blk,c,h1,h2⟩:=h; exact⟨blk,c,hb _ _ h1,h2⟩
 | mp b=>obtain⟨blk,h1,h2⟩:=h; exact⟨blk,hb _ _ h1,h2⟩
 | agb cs=>obtain⟨vs,h1,h2⟩:=h; exact⟨vs,h1,h2.map (λx v hx=>Rel.ext e x v hx) λi _ b h=>hb i b h⟩
theorem Qgk {al:List Nat} :∀{l:List (Nat×X)} {t:Nat} {x:X},Qv (Qdm al l) t=some x->∃y,Qv l t=some y/\x=(y.strip).keepP al
 | [],t,x,h=>by cases h
 | (i,y)::r,t,x,h=>by
  simp only[Qdm,Qv]at h|-;split at h
  .rename_i e; rw[if_pos e]; simp only[Zs]at h; exact⟨y,rfl,h.symm⟩
  .rename_i e; rw[if_neg e]; exact Qgk h
end
def QBR (ops:List Oper) (p:Nat) (bh:List Nat):Bool:=bh.all λj=>((Qoe ops).getD j 0).testBit p
def Qqt (ops:List Oper) (M ds:List Nat):Nat->List Oper->Bool
 | _,[]=>true
 | j,o::t=>(Qen o).all (λu=>!ds.contains u||(List.range j).any λk=>(M.getD j 0).testBit k&&((ops[k]?).bind (·.dst))==some u)&&Qqt ops M ds (j+1) t
def Qqv (ops:List Oper) (p:Nat) (bh:List Nat):Bool:=Qdj 0 ops&&QcP (Qgi ops)&&ops.all (λo=>o.guard.isNone)&&Qqt ops (Qoe ops) (Qes bh 0 ops) 0 ops&&QBR ops p bh
theorem Qof {ops:List Oper} {M ds:List Nat} :∀{l:List Oper} {i:Nat},Qqt ops M ds i l=true->∀j o,l[j]?=some o->∀u∈Qen o,u∈ds->∃k,k < i+j/\(M.getD (i+j) 0).testBit k=true/\(ops[k]?).bind (·.dst)=some u
 | [],i,_,j,o,h,_,_,_=>by simp at h
 | o'::t,i,hb,j,o,h,u,hu,hd=>by
  simp only[Qqt,Za]at hb;cases j with
  | zero=>
   simp at h; subst h;have:=Zl.1 hb.1 u hu;simp only[Bool.or_eq_true,Bool.not_eq_true',List.contains_eq_mem,decide_eq_false_iff_not,Zy,Za,beq_iff_eq]at this;rcases this with h1 | ⟨k,h0,h2,h3⟩
   .exact absurd hd h1
   .exact⟨k,by simpa using h0,by simpa using h2,h3⟩
  | succ j=>
   obtain⟨k,h0,h1,h2⟩:=Qof hb.2 j o (by simpa using h) u hu hd
   exact⟨k,by omega,by rw[show i+(j+1)=i+1+j by omega]; exact h1,h2⟩
theorem QqB {bh:List Nat} :∀{l:List Oper} {i j:Nat} {o:Oper} {u:Nat},l[j]?=some o->bh.contains (i+j)=false->o.dst=some u->u∈Qes bh i l
 | [],i,j,o,u,h,_,_=>by simp at h
 | q::t,i,j,o,u,h,hb,hd=>by
  cases j with
  | zero=>
   simp at h; subst h;rw[Nat.add_zero]at hb;simp only[Qes];rw[if_neg (by rw[hb]; decide),hd]
   exact List.mem_cons_self ..
  | succ j=>
   have ih:u∈Qes bh (i+1) t:=QqB (by simpa using h) (by rw[show i+1+j=i+(j+1) by omega]; exact hb) hd
   simp only[Qes];split
   .exact ih
   .split
    .exact List.mem_cons_of_mem _ ih
    .exact ih
theorem Qgn {bh:List Nat} :∀{l:List Oper} {i u:Nat},u∈Qes bh i l->u∈Qgi l
 | [],i,u,h=>by cases h
 | q::t,i,u,h=>by
  unfold Qgi;rw[List.filterMap_cons];simp only[Qes]at h;split at h
  .have:=Qgn h;split
   .exact this
   .exact List.mem_cons_of_mem _ this
  .split at h
   .rename_i d hd;rw[hd];simp only;rcases List.mem_cons.1 h with h | h
    .subst h; exact List.mem_cons_self ..
    .exact List.mem_cons_of_mem _ (Qgn h)
   .rename_i hd;rw[hd];exact Qgn h
theorem QgS {α:Type} :∀{l k:List (Nat×α)} {u:Nat},Qv (l++k) u=match Qv l u with | some x=>some x | none=>Qv k u
 | [],k,u=>rfl
 | (i,x)::t,k,u=>by
  simp only[List.cons_append,Qv];split
  .rfl
  .exact QgS
theorem Qfp {ds:List Nat} :∀{l:List (Nat×X)} {u:Nat},Qv (Qez ds l) u=if ds.contains u then none else Qv l u
 | [],u=>by simp[Qez,Qv]
 | (i,x)::t,u=>by
  simp only[Qez];split
  .rename_i h;rw[Qfp];simp only[Qv];split
   .rfl
   .rename_i hu;rw[if_neg (λe=>hu (by subst e; exact h))]
  .rename_i h;simp only[Qv];by_cases e:u=i
   .subst e; rw[if_pos rfl,if_neg h,if_pos rfl]
   .rw[if_neg e,Qfp,if_neg e]
def qAt (L:List (Nat×Nat×X)) (u:Nat):Option X:=Qv (L.map λp=>p.2) u
theorem Qjp:∀{L:List (Nat×Nat×X)} {u:Nat} {x:X},qAt L u=some x->∃j,(j,u,x)∈L
 | [],u,x,h=>by cases h
 | (i,d,y)::t,u,x,h=>by
  unfold qAt at h;simp only[List.map_cons,Qv]at h;split at h
  .rename_i e; simp only[Zs]at h; subst e; subst h; exact⟨i,by simp⟩
  .obtain⟨j,h1⟩:=Qjp (L:=t) h;exact⟨j,by simp[h1]⟩
theorem Qkw:∀{L:List (Nat×Nat×X)} {u:Nat} {x:X} {j:Nat},(∀p∈L,∀q∈L,p.2.1=q.2.1->p=q)->(j,u,x)∈L->qAt L u=some x
 | [],u,x,j,_,h=>by simp at h
 | (i,d,y)::t,u,x,j,hu,h=>by
  unfold qAt;simp only[List.map_cons,Qv];split
  .rename_i e;have:=hu _ h _ (List.mem_cons_self ..) e;simp only[Prod.mk.injEq]at this;rw[this.2.2]
  .rename_i e;rcases List.mem_cons.1 h with h | h
   .simp only[Prod.mk.injEq]at h; exact absurd h.2.1 e
   .exact Qkw (L:=t) (λp hp q hq=>hu p (by simp[hp]) q (by simp[hq])) h
theorem Qk7:∀{l:List Oper} {i j:Nat} {o o':Oper} {u:Nat},(Qgi l).Nodup->l[i]?=some o->l[j]?=some o'->o.dst=some u->o'.dst=some u->i=j
 | [],i,j,o,o',u,_,h,_,_,_=>by simp at h
 | q::t,i,j,o,o',u,hn,hi,hj,h1,h2=>by
  have ht:(Qgi t).Nodup:=by
   unfold Qgi at hn|-;rw[List.filterMap_cons]at hn;split at hn
   .exact hn
   .exact(List.nodup_cons.1 hn).2
  have c7:∀(k:Nat) (o:Oper),t[k]?=some o->o.dst=some u->q.dst≠some u:=by
   intro k o hk hd hq;unfold Qgi at hn;rw[List.filterMap_cons,hq]at hn;exact(List.nodup_cons.1 hn).1 (List.mem_filterMap.2 ⟨o,List.mem_of_getElem? hk,hd⟩)
  cases i with
  | zero=>
   simp at hi; subst hi;cases j with
   | zero=>rfl
   | succ j=>exact absurd h1 (c7 j o' (by simpa using hj) h2)
  | succ i=>
   cases j with
   | zero=>simp at hj; subst hj; exact absurd h2 (c7 i o (by simpa using hi) h1)
   | succ j=>exact congrArg Nat.succ (Qk7 ht (i:=i) (j:=j) (by simpa using hi) (by simpa using hj) h1 h2)
section
variable {F:Fence} {n:Nat} {P:Program} {c:Cx} {m0:Nat->Nat->Prop} {w0:Base} {g:Gh} {σ σ':St} {a:Act} {w:World}
theorem Inv.less {N:Nat} (I:Inv N m0 w0 g σ a w) (h1:∀u x,Qv σ'.tmps u=some x->x= .d .top\/Qv σ.tmps u=some x) (h2:∀b cs,Qv σ'.boxes b=some cs->Qv σ.boxes b=some cs) (h3:σ'.toks=σ.toks) (h4:σ'.maps=σ.maps):Inv N m0 w0 g σ' a w:=
 ⟨I.below,I.size,I.defers,I.lt,I.old,I.new,λt x h=>by
  rcases h1 t x h with rfl | h
  .simp only[RelX,Rel]
  .rw[h3]; exact I.tmps t x h,I.boxb,I.boxi,I.tokb,I.toki,λb cs h blk hb=>by rw[h3]; exact I.boxes b cs (h2 b cs h) blk hb,I.out,I.fz,by rw[h4]; exact I.maps,I.cells⟩
theorem QoV {o:Oper} {σ1 σ2:St} (h:∀x∈o.op.operands.toList,σ1.ev x=σ2.ev x):c.panAt o σ1=c.panAt o σ2:=by
 obtain⟨dst,op,ty,pos,after,guard⟩:=o;cases op<;>try rfl
 case call cc=>
  obtain⟨callee,args,argTypes⟩:=cc;cases callee<;>try rfl
  case value f=>
   have h1:σ1.ev f=σ2.ev f:=h f (by simp[Op.operands,Call.operands])
   have h2:args.toList.map σ1.ev=args.toList.map σ2.ev:=Qc0 _ λx hx=>h x (by simp only[Op.operands,Call.operands,Array.toList_append,Zp]; exact .inr hx)
   simp only[Cx.panAt,h1,h2]
theorem Qjc (hF:FreeF F) (hc:CxOk P c) {o:Oper} {v:Value} (h:c.panAt o σ=some v) (I:Inv c.N m0 w0 g σ a w) {next:Act->World->Prop} {Q:Exit->Act->World->Prop} (hQ:∀w',Inv c.N m0 w0 g σ a w'->Q (.panic [{ v,recovered:=false}]) a w'):o.wpIn F n P a w next Q:=by
 obtain⟨dst,op,ty,pos,after,guard⟩:=o;cases op<;>try (cases h; done)
 case call cc=>
  obtain⟨callee,args,argTypes⟩:=cc;cases callee<;>try (cases h; done)
  case value f=>
   simp only[Cx.panAt]at h;unfold Cx.panF at h;split at h
   case h_2=>cases h
   rename_i gf first caps hf
   split at h
   case isFalse=>cases h
   rename_i cI;simp only[Za,Array.isEmpty_iff]at cI;obtain⟨rfl,rfl⟩:=cI;split at h
   case h_2=>cases h
   rename_i ds cE;obtain⟨iQ,hpan⟩:=hc.pan gf ds v h;have oB:=Qbt I f;rw[hf]at oB;simp only[RelX,Rel]at oB;have aH:(execOp a.eval ⟨dst,.call ⟨.value f,args,argTypes⟩,ty,pos,after,guard⟩).run P w= .ok (.enter gf (args.map a.eval)) w:=by
    simp[execOp,resolve,oB,Deferred.ofValue,invoke,iQ]
   have aY:args.map a.eval=(args.toList.map a.eval).toArray:=by rw[<-Array.toList_map,Array.toArray_toList]
   rw[aY]at aH;unfold Oper.wpIn;rw[Oper.semAt_eq _ _ _ (by intro c h; cases h),aH]
   refine⟨λf _=>hF.fn f,λhd=>absurd hd (by rw[hF.depth]; simp),(hF.calls (hpan g.imm w _ I.lt I.globIn (Qh5 I _ cE))).mono ?_⟩
   rintro e w' ⟨rfl,hb⟩;exact hQ w' (I.later hb)
theorem Qiz (hF:FreeF F) (hc:CxOk P c) (ops:Array Oper) {Q:Exit->Act->World->Prop} {σ1:St} {i:Nat} {o:Oper} {t:List Oper} (dG:c.stepE ops.toList i o σ=some σ1) (I:Inv c.N m0 w0 g σ a w) (aP:∀d,Qab o=some d->g.box d=none/\Qv σ.maps d=none) (dA:¬g.used (Qat i))
  (hK:∀g' a' w',Inv c.N m0 w0 g' σ1 a' w'->(∀j,g.box j=none/\Qv σ.maps j=none->Qab o≠some j->g'.box j=none/\Qv σ1.maps j=none)->(∀t,g'.used t->g.used t\/t=Qat i)->wpListIn F n P ops Q t a' w'):wpListIn F n P ops Q (o::t) a w:=by
 unfold Cx.stepE at dG;split at dG
 .rename_i σ2 hs;simp only[Zs]at dG; subst dG;unfold Cx.step at hs;split at hs
  .rename_i hw;have jW:=Qbo I ops o hw;unfold wpListIn;rw[if_pos jW];split at hs
   .rename_i r hr;refine Qd3 hc.ty hc.eq hc.del hF hr hs I (λcs e d hd=>?_) dA λg' a' w' I' hb hu _=>?_
    .subst e;exact aP d (by rw[Qb0 hr]; exact hd)
    .refine hK g' a' w' I' (λj hj aS=>⟨hb j hj.1 ?_,by rw[Qrc hs]; exact hj.2⟩) hu
     by_cases cJ:∃cs,r= .new cs
     .right;intro e;obtain⟨cs,bP⟩:=cJ;subst bP;exact aS (by rw[Qb0 hr]; exact e)
     .left; intro cs e; exact cJ ⟨cs,e⟩
   .cases hs
  .rename_i hw;have jW:=Qbo I ops o hw;unfold wpListIn;rw[if_neg (by rw[jW]; simp)]
   refine⟨λf _=>hF.fn f,?_⟩;have hp:PutOk c.N i σ o.dst .skip σ2:=hs;have hd:=hp.dst;have hg:=hp.get;simp only[St.res,Zs]at hg; subst hg;exact hK g _ w (I.put hd (x:= .d (.v (.tuple #[]))) (v:=undef) (by simp only[RelX,Rel]; rfl)) (λj hj _=>hj) (λt ht=> .inl ht)
  .cases hs
 .split at dG
  .rename_i hw;have jW:=Qbo I ops o hw;unfold wpListIn;rw[if_pos jW];exact Qjs hF hc dG I aP dA λg' a' w' I' hb hu=>hK g' a' w' I' hb hu
  .cases dG
theorem Qky (hF:FreeF F) (hc:CxOk P c) {id:Nat} (ops:Array Oper) {Q:Exit->Act->World->Prop} {e:AEx} :∀(rest:List Oper) (i:Nat) (σ σ':St) (g:Gh) (a:Act) (w:World),c.runP id ops.toList i rest σ=some (e,σ')->Inv c.N m0 w0 g σ a w->(QP rest).Nodup->(∀d∈QP rest,g.box d=none/\Qv σ.maps d=none)->(∀j,i<=j->¬g.used (Qat j))->
  (∀g' a' w',Inv c.N m0 w0 g' σ' a' w'->Q e.out a' w')->wpListIn F n P ops Q rest a w
 | [],i,σ,σ',g,a,w,h,I,_,_,_,hQ=>by
  simp only[Cx.runP,Zs,Prod.mk.injEq]at h;obtain⟨rfl,rfl⟩:=h;obtain⟨g2,I2⟩:=I.close id;exact hQ g2 a w I2
 | o::t,i,σ,σ',g,a,w,h,I,cB,aP,dA,hQ=>by
  simp only[Cx.runP]at h;have gU:(QP t).Nodup:=by
   rw[Q7]at cB;exact(List.nodup_append.1 cB).2.1
  have halt:∀d∈QP t,d∈QP (o::t):=λd hd=>by rw[Q7]; simp[hd]
  split at h
  .rename_i σ1 hs;refine Qiz hF hc ops hs I (λd hd=>aP d (by rw[Q7,hd]; simp)) (dA i (Zr _)) λg' a' w' I' hb hu=>?_
   refine Qky hF hc ops t (i+1) σ1 σ' g' a' w' h I' gU (λd hd=>hb d (aP d (halt d hd)) λe=>?_) (λj hj cM=>?_) hQ
   .rw[Q7,e]at cB;exact(List.nodup_append.1 cB).2.2 d (by simp) d hd rfl
   .rcases hu _ cM with h1 | h1
    .exact dA j (by omega) h1
    .unfold Qat at h1; omega
  .split at h
   case h_2=>cases h
   rename_i hw;split at h
   case h_2=>cases h
   rename_i v hv;simp only[Zs,Prod.mk.injEq]at h;obtain⟨rfl,rfl⟩:=h;have jW:=Qbo I ops o hw;unfold wpListIn;rw[if_pos jW];refine Qjc hF hc hv I λw' I'=>?_;exact hQ g a w' I'
theorem QoN {t0:List (Nat×X)} {p:Nat} {bh:List Nat} :∀(rest:List Oper) (i:Nat) (L0 L:List (Nat×Nat×X)),c.opsQ σ t0 p bh i rest L0=some L->
  (∃L1,L=L1++L0/\∀q∈L1,i<=q.1/\q.1 < i+rest.length/\(q.1==p||bh.contains q.1)=false)/\∀(j:Nat) (o:Oper),rest[j]?=some o->(i+j==p||bh.contains (i+j))=false->
   ∃(d:Nat) (r:Res) (x:X) (A B:List (Nat×Nat×X)),L=A++(i+j,d,x)::B/\o.dst=some d/\d < c.N/\aop c.Γ c.eqs c.Δ o.op ({ σ with tmps:=qT B t0} :St).ev σ.boxes σ.toks=some r/\Qv6 r=some x/\(∀q∈A,i+j < q.1)/\(∀q∈B,q∈L0\/q.1 < i+j)
 | [],i,L0,L,h=>by
  simp only[Cx.opsQ,Zs]at h;exact⟨⟨[],by simp[h],by simp⟩,λj o h=>by simp at h⟩
 | o::t,i,L0,L,h=>by
  simp only[Cx.opsQ]at h;split at h
  .rename_i eY;obtain⟨⟨L1,h1,h2⟩,h3⟩:=QoN t (i+1) L0 L h;refine⟨⟨L1,h1,λq hq=>?_⟩,λj o' hj hn=>?_⟩
   .obtain⟨q1,q2,q3⟩:=h2 q hq;exact⟨by omega,by simp only[List.length_cons]; omega,q3⟩
   .cases j with
    | zero=>rw[Nat.add_zero,eY]at hn; cases hn
    | succ j=>
     obtain⟨d,r,x,A,B,q1,q2,q3,q4,q5,q6,q7⟩:=h3 j o' (by simpa using hj) (by rw[show i+1+j=i+(j+1) by omega]; exact hn)
     rw[show i+1+j=i+(j+1) by omega]at q1 q6 q7
     exact⟨d,r,x,A,B,q1,q2,q3,q4,q5,q6,q7⟩
  .rename_i eY;split at h
   case h_2=>cases h
   rename_i r d hr hd;split at h
   case isFalse=>cases h
   rename_i hdN;split at h
   case h_2=>cases h
   rename_i x hx;obtain⟨⟨L1,h1,h2⟩,h3⟩:=QoN t (i+1) _ L h;refine⟨⟨L1++[(i,d,x)],by rw[h1]; simp,λq hq=>?_⟩,λj o' hj hn=>?_⟩
   .rcases Zp.1 hq with hq | hq
    .obtain⟨q1,q2,q3⟩:=h2 q hq;exact⟨by omega,by simp only[List.length_cons]; omega,q3⟩
    .simp only[List.mem_singleton]at hq; subst hq;exact⟨Zr _,by simp only[List.length_cons]; omega,by simpa using eY⟩
   .cases j with
    | zero=>
     simp at hj; subst hj;refine⟨d,r,x,L1,L0,by simpa using h1,hd,by simpa[Qg3]using hdN,hr,hx,λq hq=>by have:=(h2 q hq).1; omega,λq hq=> .inl hq⟩
    | succ j=>
     obtain⟨d',r',x',A,B,q1,q2,q3,q4,q5,q6,q7⟩:=h3 j o' (by simpa using hj) (by rw[show i+1+j=i+(j+1) by omega]; exact hn)
     rw[show i+1+j=i+(j+1) by omega]at q1 q6 q7
     refine⟨d',r',x',A,B,q1,q2,q3,q4,q5,q6,λq hq=>?_⟩;rcases q7 q hq with hq | hq
     .rcases List.mem_cons.1 hq with rfl | hq
      .exact .inr (by show i < _; omega)
      .exact .inl hq
     .exact .inr hq
set_option maxHeartbeats 1000000 in
theorem Qsp (hF:FreeF F) (hc:CxOk P c) {id:Nat} {ops:Array Oper} {p:Nat} {bh:List Nat} {v:Value} (h:c.oneQ ops.toList p bh σ=some v) (hq:Qqv ops.toList p bh=true) (mB:∀d∈QP ops.toList,w0.out d=none) (I:Inv c.N m0 w0 g σ a w) {Q:Exit->Act->World->Prop} (hQ:∀g' a' w',Inv c.N m0 w0 g' { σ with tmps:=Qez (Qgi ops.toList) σ.tmps} a' w'->Q (.panic [{ v,recovered:=false}]) a' w'):(Code.region id ops true).wpIn F n P Q a w:=by
 unfold Cx.oneQ at h;split at h
 case isFalse=>cases h
 rename_i bV;split at h
 case h_2=>cases h
 rename_i L op hL iU;have iU:ops[p]?=some op:=by simpa using iU
 obtain⟨cB,dE⟩:=Qaz bV;obtain⟨I0,aP,dA⟩:=I.start mB bV dE;have I1:=I0.drew;simp only[Qqv,Za]at hq;obtain⟨⟨⟨⟨dN,lI⟩,nD⟩,kR⟩,hbh⟩:=hq;have lI:=QbE _ lI;have pF:p < ops.size:=(Zj.1 iU).1;have mD:=bV;simp only[Qan,Za]at mD;obtain⟨⟨⟨⟨_,_⟩,_⟩,dO⟩,_⟩:=mD;have bA:∀b∈QP ops.toList,Qv σ.boxes b=none:=by
  intro b hb;cases hg:Qv σ.boxes b with
  | none=>rfl
  | some cs=>
   have h:=Zl.1 dO _ (QdY hg);simp only[Za,Bool.not_eq_true',List.contains_eq_mem,decide_eq_false_iff_not]at h;exact absurd hb h.1
 obtain⟨⟨L1,pQ,nJ⟩,oG⟩:=QoN ops.toList 0 [] L hL;rw[List.append_nil]at pQ;subst pQ;simp only[Nat.zero_add]at nJ oG;generalize nE:Qez (Qes bh 0 ops.toList) σ.tmps=t0 at*;have cD:∀q∈L,∃o,ops.toList[q.1]?=some o/\o.dst=some q.2.1/\∀q'∈L,q'.1=q.1->q'=q:=by
  intro q hq;obtain⟨_,h2,h3⟩:=nJ q hq;obtain⟨d,r,x,A,B,q1,q2,_,_,_,q6,q7⟩:=oG q.1 _ (Zg h2) h3;have hall:∀q'∈L,q'.1=q.1->q'=(q.1,d,x):=by
   intro q' gJ he;rw[q1]at gJ;rcases Zp.1 gJ with h | h
   .have:=q6 q' h; omega
   .rcases List.mem_cons.1 h with h | h
    .exact h
    .rcases q7 q' h with h | h
     .cases h
     .omega
  have hqe:=hall q hq rfl;refine⟨_,Zg h2,by rw[q2,hqe],λq' gJ he=>?_⟩
  rw[hall q' gJ he,hqe]
 have dY:∀{i j:Nat} {o o':Oper} {u:Nat},ops.toList[i]?=some o->ops.toList[j]?=some o'->o.dst=some u->o'.dst=some u->i=j:=by
  intro i j o o' u hi hj h1 h2;exact Qk7 lI hi hj h1 h2
 have huq:∀q∈L,∀q'∈L,q.2.1=q'.2.1->q=q':=by
  intro q hq q' gJ he;obtain⟨o,h1,h2,h3⟩:=cD q hq;obtain⟨o',h4,h5,_⟩:=cD q' gJ;have:=dY h1 h4 h2 (by rw[he]; exact h5)
  exact(h3 q' gJ this.symm).symm
 have pR:∀(aD:Array Bool),QmF ops aD->aD.getD p false=false->∀k o,ops[k]?=some o->Qj5 o aD->bh.contains k=false:=by
  intro aD lI mF k o hk eH;cases oH:bh.contains k with
  | false=>rfl
  | true=>
   have:=Zl.1 hbh k (by simpa using oH)
   rw[QeV dN lI k o hk eH p this]at mF; cases mF
 have gR:∀(aD:Array Bool),QmF ops aD->aD.getD p false=false->∀i o,ops[i]?=some o->Qj5 o aD->∀S:List (Nat×Nat×X),(∀q∈S,q∈L)->(∀q∈L,q.1 < i->q∈S)->
   ∀x∈o.op.operands.toList,({ σ with tmps:=qT (L.filter λq=>aD.getD q.1 false) t0} :St).ev x=({ σ with tmps:=qT S t0} :St).ev x:=by
  intro aD rR mF i o ho eH S hS1 hS2 x hx;cases x with
  | tmp u=>
   have hu:u∈Qen o:=by
    unfold Qen;simp only[List.mem_filterMap];exact⟨.tmp u,hx,rfl⟩
   have key:qAt (L.filter λq=>aD.getD q.1 false) u=qAt S u:=by
    by_cases nK:u∈Qes bh 0 ops.toList
    .obtain⟨k,k0,k1,k2⟩:=Qof kR i o (by simpa using ho) u hu nK
     rw[Nat.zero_add]at k0 k1;have fB:=QeV dN rR i o ho eH k k1;cases hk:ops.toList[k]? with
     | none=>rw[hk]at k2; cases k2
     | some ok=>
      rw[hk]at k2;simp only[Option.bind_some]at k2;have cZ:ops[k]?=some ok:=by simpa using hk
      have d7:=pR aD rR mF k ok cZ (rR k ok cZ fB);have zZ:k≠p:=by rintro rfl; rw[fB]at mF; cases mF
      obtain⟨d,r,x,A,B,q1,q2,_⟩:=oG k ok hk (by rw[d7]; simp[zZ])
      rw[k2]at q2; cases q2;have hm:(k,u,x)∈L:=by rw[q1]; simp
      rw[Qkw (λq hq q' gJ=>huq q (List.mem_filter.1 hq).1 q' (List.mem_filter.1 gJ).1) (List.mem_filter.2 ⟨hm,fB⟩),Qkw (λq hq q' gJ=>huq q (hS1 q hq) q' (hS1 q' gJ)) (hS2 _ hm k0)]
    .have hn:∀S:List (Nat×Nat×X),(∀q∈S,q∈L)->qAt S u=none:=by
      intro S hS;cases hqa:qAt S u with
      | none=>rfl
      | some x=>
       obtain⟨j,hj⟩:=Qjp hqa;obtain⟨o',h1,h2,_⟩:=cD _ (hS _ hj);have hb:=(nJ _ (hS _ hj)).2.2;simp only[Bool.or_eq_false_iff]at hb;exact absurd (QqB (i:=0) h1 (by rw[Nat.zero_add]; exact hb.2) h2) nK
     rw[hn _ λq hq=>(List.mem_filter.1 hq).1,hn S hS1]
   have key':Qv (List.map (λp=>p.2) (L.filter λq=>aD.getD q.1 false)) u=Qv (List.map (λp=>p.2) S) u:=key;simp only[St.ev,qT,QgS,key']
  | _=>rfl
 refine wpIn_region_any hc.mix ?_;refine Qm5 (λaD a w=>aD.getD p false=false/\∃g,Inv c.N m0 w0 g { σ with tmps:=qT (L.filter λq=>aD.getD q.1 false) t0} a w/\(∀j o d,ops[j]?=some o->aD.getD j false=false->Qab o=some d->g.box d=none)/\∀j,aD.getD j false=false->¬g.used (Qat j)) ?dep ?step ?fin ops.size (Array.replicate ops.size false) a _ (by simp) ?down (by simp) ?start
 case dep=>
  intro i o ho e he hb;have:=Qca ops.toList 0 dN i o (by simpa using ho) e he hb
  omega
 case down=>
  intro i o ho hl;have:i < ops.size:=(Zj.1 ho).1;simp[Array.getD_eq_getD_getElem?,this]at hl
 case start=>
  have h0:∀k,(Array.replicate ops.size false).getD k false=false:=by
   intro k;simp only[Array.getD_eq_getD_getElem?,Array.getElem?_replicate];split<;>rfl
  refine⟨h0 p,_,I1.less (λu x hx=>?_) (λ_ _ h=>h) rfl rfl,λj o d hj _ hd=>(aP d (Qb4 _ (by simpa using hj) hd)).1,λj _=>dA j⟩
  have hf:(L.filter λq=>(Array.replicate ops.size false).getD q.1 false)=[]:=by
   rw[List.filter_eq_nil_iff];intro q _; rw[h0]; simp
  rw[hf]at hx;simp only[qT,List.map_nil,List.nil_append]at hx;rw[<-nE,Qfp]at hx;split at hx
  .cases hx
  .exact .inr hx
 case fin=>
  rintro aD a' w' hs hall ⟨h1,_⟩;have:=hall p pF;rw[Qcr (by omega),h1]at this; cases this
 case step=>
  rintro aD i o a' w' hs rR ho fR eH ⟨mF,g1,IS,hJ1,nF⟩ K hK;have vD:i < ops.size:=(Zj.1 ho).1;have kH:aD.getD i false=false:=by rw[<-Qcr (by omega)]; exact fR
  unfold wpOpIn;rw[ho];have hg:o.guard=none:=by
   have:=Zl.1 nD o (List.mem_of_getElem? (by simpa using ho))
   simpa using this
  have hw:Region.wanted o (yielded ops a'.tmps)=true:=by simp[Region.wanted,hg]
  simp only[hw,if_true];by_cases hip:i=p
  .subst hip;rw[iU]at ho; cases ho;have hpa:c.panAt op ({ σ with tmps:=qT (L.filter λq=>aD.getD q.1 false) t0} :St)=some v:=by
    rw[QoV (gR aD rR mF i op iU eH L (λ_ h=>h) (λ_ h _=>h))]; exact h
   refine Qjc hF hc hpa IS λw2 I2=>?_;refine hQ g1 a' w2 (I2.less (λu x h=> .inr ?_) (λ_ _ h=>h) rfl rfl);have nK:u∉Qgi ops.toList:=λhm=>by
    have h':Qv (Qez (Qgi ops.toList) σ.tmps) u=some x:=h;rw[Qfp,if_pos (by simpa using hm)]at h'; cases h'
   have hux:Qv t0 u=some x:=by
    have h':Qv (Qez (Qgi ops.toList) σ.tmps) u=some x:=h;rw[Qfp,if_neg (by simpa using nK)]at h'
    rw[<-nE,Qfp,if_neg (by simpa using λhm=>nK (Qgn hm))]; exact h'
   have hnq:qAt (L.filter λq=>aD.getD q.1 false) u=none:=by
    cases hqa:qAt (L.filter λq=>aD.getD q.1 false) u with
    | none=>rfl
    | some x=>
     obtain⟨j,hj⟩:=Qjp hqa;obtain⟨o',h1,h2,_⟩:=cD _ (List.mem_filter.1 hj).1;exact absurd (List.mem_filterMap.2 ⟨o',List.mem_of_getElem? h1,h2⟩) nK
   have hnq':Qv (List.map (λp=>p.2) (L.filter λq=>aD.getD q.1 false)) u=none:=hnq;simp only[qT,QgS,hnq'];exact hux
  .have d7:=pR aD rR mF i o ho eH;obtain⟨d,r,x,A,B,q1,q2,q3,q4,q5,q6,q7⟩:=oG i o (by simpa using ho) (by rw[d7]; simp[hip])
   have hB1:∀q∈B,q∈L:=λq hq=>by rw[q1]; simp[hq]
   have vI:∀q∈L,q.1 < i->q∈B:=by
    intro q hq aR;rw[q1]at hq;rcases Zp.1 hq with hq | hq
    .have:=q6 q hq; omega
    .rcases List.mem_cons.1 hq with rfl | hq
     .exact absurd aR (Nat.lt_irrefl _)
     .exact hq
   have gE:aop c.Γ c.eqs c.Δ o.op ({ σ with tmps:=qT (L.filter λq=>aD.getD q.1 false) t0} :St).ev σ.boxes σ.toks=some r:=by
    rw[<-q4];exact Qm3 (gR aD rR mF i o ho eH B hB1 vI) (λ_ _ _ _ _=>rfl) λ_=>rfl
   have c7:(i,d,x)∈L:=by rw[q1]; simp
   have bY:∀k,(aD.setIfInBounds i true).getD k false=if k=i then true else aD.getD k false:=λk=>QcA aD i k false (by omega)
   have cJ:∀cs,r= .new cs->Qab o=some d:=by
    intro cs e; subst e;rw[Qb0 gE]; exact q2
   have nG:∀u y,Qv (qT (L.filter λq=>(aD.setIfInBounds i true).getD q.1 false) t0) u=some y->(u=d/\y=x)\/(u≠d/\Qv (qT (L.filter λq=>aD.getD q.1 false) t0) u=some y):=by
    intro u y hy;simp only[qT,QgS]at hy|-;have huf:∀(f:Nat×Nat×X->Bool),∀q∈L.filter f,∀q'∈L.filter f,q.2.1=q'.2.1->q=q':=λf q hq q' gJ=>huq q (List.mem_filter.1 hq).1 q' (List.mem_filter.1 gJ).1;have gX:∀q∈L,aD.getD q.1 false=true->(aD.setIfInBounds i true).getD q.1 false=true:=λq _ hq=>by rw[bY]; split<;>simp[hq]
    have e1:Qv (List.map (λp=>p.2) (L.filter λq=>(aD.setIfInBounds i true).getD q.1 false)) u=qAt (L.filter λq=>(aD.setIfInBounds i true).getD q.1 false) u:=rfl;have e2:Qv (List.map (λp=>p.2) (L.filter λq=>aD.getD q.1 false)) u=qAt (L.filter λq=>aD.getD q.1 false) u:=rfl;rw[e1]at hy;rw[e2];by_cases nK:u=d
    .subst nK;rw[Qkw (huf _) (List.mem_filter.2 ⟨c7,by rw[bY,if_pos rfl]⟩)]at hy
     simp only[Zs]at hy;exact .inl ⟨rfl,hy.symm⟩
    .right;refine⟨nK,?_⟩;cases hqa:qAt (L.filter λq=>(aD.setIfInBounds i true).getD q.1 false) u with
     | some z=>
      rw[hqa]at hy;simp only[Zs]at hy; subst hy;obtain⟨j,hj⟩:=Qjp hqa;obtain⟨eE,dW⟩:=List.mem_filter.1 hj;have oE:j≠i:=by
       rintro rfl;obtain⟨_,_,_,h3⟩:=cD _ c7;have:=h3 _ eE rfl;simp only[Prod.mk.injEq]at this;exact nK this.2.1
      rw[bY,if_neg oE]at dW;rw[Qkw (huf _) (List.mem_filter.2 ⟨eE,dW⟩)]
     | none=>
      rw[hqa]at hy;cases rS:qAt (L.filter λq=>aD.getD q.1 false) u with
      | none=>exact hy
      | some z=>
       obtain⟨j,hj⟩:=Qjp rS;obtain⟨eE,dW⟩:=List.mem_filter.1 hj;rw[Qkw (huf _) (List.mem_filter.2 ⟨eE,gX _ eE dW⟩)]at hqa; cases hqa
   have dZ:∀(σ2:St) g' a2 w2,Inv c.N m0 w0 g' σ2 a2 w2->(∀u y,Qv (qT (L.filter λq=>(aD.setIfInBounds i true).getD q.1 false) t0) u=some y->y= .d .top\/Qv σ2.tmps u=some y)->(∀b cs,Qv σ.boxes b=some cs->Qv σ2.boxes b=some cs)->σ2.toks=σ.toks->σ2.maps=σ.maps->(∀j,g1.box j=none->((∀cs,r≠ .new cs)\/o.dst≠some j)->g'.box j=none)->(∀t,g'.used t->g1.used t\/t=Qat i)->K a2 w2:=by
    intro σ2 g' a2 w2 I2 h1 h2 h3 h4 hb hu;refine hK a2 w2 ⟨by rw[bY,if_neg (λe=>hip e.symm)]; exact mF,g',I2.less h1 h2 h3.symm h4.symm,λj o' d' hj hl cA=>?_,λj hl l9=>?_⟩
    .rw[bY]at hl;split at hl
     .cases hl
     .rename_i oE;refine hb d' (hJ1 j o' d' hj hl cA) ?_;right;intro e;exact oE (dY (by simpa using hj) (by simpa using ho) (QhK cA) e)
    .rw[bY]at hl;split at hl
     .cases hl
     .rename_i oE;rcases hu _ l9 with h | h
      .exact nF j hl h
      .unfold Qat at h; omega
   have bC:∀cs,r= .new cs->∀d',o.dst=some d'->g1.box d'=none/\Qv σ.maps d'=none:=by
    intro cs e d' cA;rw[q2]at cA; cases cA;have:=cJ cs e;exact⟨hJ1 i o d ho kH this,(aP d (Qb4 _ (by simpa using ho) this)).2⟩
   have oI:∀σ2,({ σ with tmps:=qT (L.filter λq=>aD.getD q.1 false) t0} :St).res i o.dst r=some σ2->PutOk c.N i ({ σ with tmps:=qT (L.filter λq=>aD.getD q.1 false) t0} :St) o.dst r σ2:=λσ2 h=>by
    unfold PutOk St.put;rw[if_pos (by rw[q2]; simpa[Qg3]using q3)]; exact h
   cases r with
   | q z=>
    simp only[Qv6,Zs]at q5; subst q5;refine Qd3 hc.ty hc.eq hc.del hF gE (oI _ rfl) IS bC (nF i kH) λg' a2 w2 I2 hb hu _=>dZ _ g' a2 w2 I2 (λu y hy=>?_) (λ_ _ h=>h) rfl rfl hb hu;rw[q2];simp only[Qj4,Qv];rcases nG u y hy with⟨rfl,rfl⟩ | ⟨h1,h2⟩
    .rw[if_pos rfl]; exact .inr rfl
    .rw[if_neg h1]; exact .inr h2
   | got z=>
    simp only[Qv6,Zs]at q5; subst q5;refine Qd3 hc.ty hc.eq hc.del hF gE (oI _ rfl) IS bC (nF i kH) λg' a2 w2 I2 hb hu _=>dZ _ g' a2 w2 I2 (λu y hy=>?_) (λ_ _ h=>h) rfl rfl hb hu;rw[q2];simp only[Qj4,Qv];rcases nG u y hy with⟨rfl,rfl⟩ | ⟨h1,h2⟩
    .rw[if_pos rfl]; exact .inr rfl
    .rw[if_neg h1]; exact .inr h2
   | lay k rows=>
    simp only[Qv6,Zs]at q5; subst q5;refine Qd3 hc.ty hc.eq hc.del hF gE (oI _ rfl) IS bC (nF i kH) λg' a2 w2 I2 hb hu _=>dZ _ g' a2 w2 I2 (λu y hy=>?_) (λ_ _ h=>h) rfl rfl hb hu;rw[q2];simp only[Qj4,Qv];rcases nG u y hy with⟨rfl,rfl⟩ | ⟨h1,h2⟩
    .rw[if_pos rfl]; exact .inr rfl
    .rw[if_neg h1]; exact .inr h2
   | new cs=>
    simp only[Qv6,Zs]at q5; subst q5;have hda:=cJ cs rfl;refine Qd3 hc.ty hc.eq hc.del hF gE (oI ⟨(d,cs.x d)::qT (L.filter λq=>aD.getD q.1 false) t0,(d,cs.cells)::σ.boxes,σ.toks,σ.maps⟩ (by rw[q2]; rfl)) IS bC (nF i kH) λg' a2 w2 I2 hb hu _=>dZ _ g' a2 w2 I2 (λu y hy=>?_) (λb bc dX=>?_) rfl rfl hb hu
    .rcases nG u y hy with⟨rfl,rfl⟩ | ⟨h1,h2⟩
     .exact .inl rfl
     .right;simp only[Qv];rw[if_neg h1]; exact h2
    .simp only[Qv];rw[if_neg]
     .exact dX
     .rintro rfl;rw[bA b (Qb4 _ (by simpa using ho) hda)]at dX; cases dX
   | skip=>cases q5
   | set b off cs=>cases q5
   | app t k rows=>cases q5
theorem Qkj (hF:FreeF F) (hc:CxOk P c) {id:Nat} {ops:Array Oper} {e:AEx} :∀{l:List (Nat×List Nat)},c.tryQ ops.toList σ l=some (e,σ')->(∀p∈l,Qqv ops.toList p.1 p.2=true)->(∀d∈QP ops.toList,w0.out d=none)->Inv c.N m0 w0 g σ a w->∀{Q:Exit->Act->World->Prop},(∀g' a' w',Inv c.N m0 w0 g' σ' a' w'->Q e.out a' w')->(Code.region id ops true).wpIn F n P Q a w
 | [],h,_,_,_,_,_=>by cases h
 | (p,bh)::t,h,hl,aP,I,Q,hQ=>by
  simp only[Cx.tryQ]at h;split at h
  .rename_i v hv;simp only[Zs,Prod.mk.injEq]at h;obtain⟨rfl,rfl⟩:=h;exact Qsp hF hc hv (hl (p,bh) (by simp)) aP I hQ
  .exact Qkj hF hc h (λq hq=>hl q (by simp[hq])) aP I hQ
end
end Go.Proofs.YtnfeakhkfehkhaaGreatDoor
namespace Go.Proofs.YtnfeakhkfehkhaaGreatDoor
open Go.RowKit
def QiL:Code->Bool
 | .seq a b=>QiL a&&QiL b
 | .cond _ a b=>QiL a&&QiL b
 | .block _ a=>QiL a
 | .loop a=>QiL a
 | .scope a=>QiL a
 | .rangeFunc _ _ _ _=>false
 | _=>true
def QG9 (P:Program) (c:Cx) (cd:Code):Prop:=∀(F:Fence) (n:Nat),FreeF F->∀(m0:Nat->Nat->Prop) (w0:Base),(QiL cd=true\/(F=Fence.wide/\w0.dOk/\w0.df=[]))->∀(σ:St) (e:AEx) (σ':St),c.code cd σ=some (e,σ')->(∀d∈QD cd,w0.out d=none)->
 ∀(g:Gh) (a:Act) (w:World),Inv c.N m0 w0 g σ a w->∀Q:Exit->Act->World->Prop,(∀g' a' w',Inv c.N m0 w0 g' σ' a' w'->Q e.out a' w')->cd.wpIn F n P Q a w
section
variable {P:Program} {c:Cx} {m0:Nat->Nat->Prop} {w0:Base} {g:Gh} {σ σ':St} {a:Act} {w:World}
theorem Qvn:∀{ps:List Nat} {xs:List Value} {t0:List (Nat×X)} {t:Nat} {x:X},Qv (QsK ps xs++t0) t=some x->(∃(j:Nat) (v:Value),ps[j]?=some t/\xs[j]?=some v/\x=Qj0 v/\∀i < j,ps[i]?≠some t)\/((∀(j:Nat) (v:Value),ps[j]?=some t->xs[j]?≠some v)/\Qv t0 t=some x)
 | [],xs,t0,t,x,h=> .inr ⟨λj v h=>by simp at h,by simpa[QsK]using h⟩
 | p::ps,[],t0,t,x,h=> .inr ⟨λj v _ h=>by simp at h,by simpa[QsK]using h⟩
 | p::ps,v::xs,t0,t,x,h=>by
  simp only[QsK,List.cons_append,Qv]at h;split at h
  .rename_i e;simp only[Zs]at h;exact .inl ⟨0,v,by simp[e],rfl,h.symm,λi hi=>by omega⟩
  .rename_i e;rcases Qvn h with⟨j,u,h1,h2,h3,h4⟩ | ⟨h1,h2⟩
   .refine .inl ⟨j+1,u,by simpa using h1,by simpa using h2,h3,λi hi=>?_⟩
    cases i with
    | zero=>simp; exact λe'=>e e'.symm
    | succ i=>simpa using h4 i (by omega)
   .refine .inr ⟨λj u hj hu=>?_,h2⟩;cases j with
    | zero=>simp at hj; exact e hj.symm
    | succ j=>exact h1 j u (by simpa using hj) (by simpa using hu)
theorem Qk1:∀(l:List (Tmp×Value)) (t:Array Value),(l.foldl (λt (p:Tmp×Value)=>t.setIfInBounds p.1 p.2) t).size=t.size
 | [],t=>rfl
 | p::l,t=>by simp only[List.foldl_cons]; rw[Qk1 l]; simp
theorem Qm1:∀(ps:List Nat) (xs:List Value) (t:Array Value) (u:Nat),ps.Nodup->xs.length=ps.length->(∀p∈ps,p < t.size)->
  ((ps.zip xs).foldl (λt (p:Tmp×Value)=>t.setIfInBounds p.1 p.2) t).getD u undef=(match(ps.zip xs).find? (λp=>p.1==u)with | some p=>p.2 | none=>t.getD u undef)
 | [],xs,t,u,_,_,_=>rfl
 | p::ps,[],t,u,_,h,_=>by simp at h
 | p::ps,v::xs,t,u,hn,hl,hp=>by
  simp only[List.zip_cons_cons,List.foldl_cons,List.find?_cons];obtain⟨pA,lK⟩:=List.nodup_cons.1 hn;rw[Qm1 ps xs _ u lK (by simpa using hl) (λq hq=>by simp; exact hp q (by simp[hq]))]
  by_cases e:p=u
  .subst e;have bA:(ps.zip xs).find? (λq=>q.1==p)=none:=by
    rw[List.find?_eq_none];intro q hq hqp;simp only[beq_iff_eq]at hqp;exact pA (hqp ▸ (List.of_mem_zip hq).1)
   rw[bA];have aR:p < t.size:=hp p (by simp)
   simp[Array.getD_eq_getD_getElem?,aR]
  .have iF:(p==u)=false:=by simpa using e
   rw[iF];simp only;cases(ps.zip xs).find? (λq=>q.1==u)with
   | some q=>rfl
   | none=>
    simp only[Array.getD_eq_getD_getElem?,Array.getElem?_setIfInBounds];rw[if_neg e]
theorem QrL {g:Gh} {w:World} {toks:List Nat} {ps:Array Tmp} {xs:List Value} {tm:Array Value} {t0:List (Nat×X)} (cB:ps.toList.Nodup) (pF:∀p∈ps.toList,p < tm.size) (hl:xs.length=ps.toList.length)
  (ht:∀t x,Qv t0 t=some x->RelX g w 0 toks x (tm.getD t undef)):∀t x,Qv (QsK ps.toList xs++t0) t=some x->RelX g w 0 toks x (((ps.zip xs.toArray).foldl (λt (p:Tmp×Value)=>t.setIfInBounds p.1 p.2) tm).getD t undef):=by
 intro t x h;have e:(ps.zip xs.toArray).foldl (λt (p:Tmp×Value)=>t.setIfInBounds p.1 p.2) tm=(ps.toList.zip xs).foldl (λt (p:Tmp×Value)=>t.setIfInBounds p.1 p.2) tm:=by
  rw[<-Array.foldl_toList,Array.toList_zip]
 rw[e,Qm1 ps.toList xs tm t cB hl pF];rcases Qvn h with⟨j,v,h1,h2,rfl,h4⟩ | ⟨h1,h2⟩
 .have hf:(ps.toList.zip xs).find? (λp=>p.1==t)=some (t,v):=by
   have hj:(ps.toList.zip xs)[j]?=some (t,v):=by rw[List.getElem?_zip_eq_some]; exact⟨h1,h2⟩
   cases hff:(ps.toList.zip xs).find? (λp=>p.1==t)with
   | none=>
    rw[List.find?_eq_none]at hff;exact absurd (hff _ (List.mem_of_getElem? hj)) (by simp)
   | some q=>
    have hq:=List.find?_some hff;simp only[beq_iff_eq]at hq;obtain⟨i,hi,hiq⟩:=List.getElem_of_mem (List.mem_of_find?_eq_some hff);have hi':(ps.toList.zip xs)[i]?=some q:=by rw[Zg hi,hiq]
    obtain⟨q1,q2⟩:=List.getElem?_zip_eq_some.1 hi';rw[hq]at q1;have hij:i=j:=by
     have dC:=(Zi.1 q1).1;exact(List.getElem?_inj dC cB).1 (q1.trans h1.symm)
    subst hij;rw[h2]at q2;simp only[Zs]at q2;rw[<-hq,q2]
  rw[hf];exact Qge _ _ _ _ _
 .have hf:(ps.toList.zip xs).find? (λp=>p.1==t)=none:=by
   rw[List.find?_eq_none];intro q hq mG;simp only[beq_iff_eq]at mG;obtain⟨i,hi,hiq⟩:=List.getElem_of_mem hq;have hi':(ps.toList.zip xs)[i]?=some q:=by rw[Zg hi,hiq]
   obtain⟨q1,q2⟩:=List.getElem?_zip_eq_some.1 hi';exact h1 i q.2 (by rw[q1,mG]) q2
  rw[hf];exact ht t x h2
set_option maxHeartbeats 2000000 in
theorem QoJ (hc:CxOk P c) {yM:Operand} {ps:Array Tmp} {ca cb:Code} (ha:QG9 P c ca) (hb:QG9 P c cb) (hna:QiL ca=true) (d7:QiL cb=true) {n:Nat} {e:AEx} (h:c.code (.rangeFunc yM ps ca cb) σ=some (e,σ')) (aP:∀d∈QD ca++QD cb,w0.out d=none) (mH:w0.dOk/\w0.df=[]) (I:Inv c.N m0 w0 g σ a w) {Q:Exit->Act->World->Prop} (hQ:∀g' a' w',Inv c.N m0 w0 g' σ' a' w'->Q e.out a' w'):
  (Code.rangeFunc yM ps ca cb).wpIn Fence.wide n P Q a w:=by
 obtain⟨mH,dM⟩:=mH;simp only[Cx.code]at h;split at h
 case h_2=>cases h
 rename_i l hit;split at h
 case isFalse=>cases h
 rename_i vJ;simp only[Za,Zl,decide_eq_true_eq]at vJ;obtain⟨rU,hplt⟩:=vJ;have rU:=QbE _ rU;obtain⟨gf,caps,hgop,vK⟩:∃gf caps,σ.ev yM= .d (.fn gf [] caps)/\c.seq gf caps=some l:=by
  unfold Cx.iterOf at hit;split at hit
  .rename_i gf caps heq; exact⟨gf,caps,heq,hit⟩
  .cases hit
 obtain⟨iQ,hseq⟩:=hc.seq gf caps l vK;have oB:=Qbt I yM;rw[hgop]at oB;simp only[RelX,Rel,RelL]at oB;obtain⟨fs,lb,u0,uG,vL⟩:=oB;subst uG;obtain⟨al,oK⟩:∃al,al=QD ca++QD cb:=⟨_,rfl⟩;rw[<-oK]at h aP;obtain⟨t0,nE⟩:∃t0,t0=Qdm al σ.tmps:=⟨_,rfl⟩;rw[<-nE]at h;obtain⟨Ds,hDs,hDnd,hD⟩:=I.defers;rw[dM,List.append_nil]at hDs;have j0:∀t x,Qv t0 t=some x->x.noTok:=by
  intro t x hx;rw[nE]at hx;obtain⟨y,_,rfl⟩:=Qgk hx;exact Qjm (Qja y)
 have mI:∀t x,Qv t0 t=some x->RelX (Q9 al g) w 0 [] x (a.tmps.getD t undef):=by
  intro t x hx;have bA:=j0 t x hx;rw[nE]at hx;obtain⟨y,hy,rfl⟩:=Qgk hx;exact(QiY (Qga (nw:=σ.toks) rfl rfl (I.tmps t y hy))).toks bA
 have mJ:∀p∈w0.fz,p.1 < w.heap.size:=λp hp=>(Zj.1 (I.fz p hp).1).1;have oL:∀D∈Ds,D < w.heap.size:=λD hDm=>(Zj.1 (hD D hDm).2).1;have e9:=I.below.size;refine wpIn_rangeFunc ?_;intro fn fF;obtain⟨rec,cR⟩:∃rec:LoopState->Option Code->Loop,rec=λst pe=> { state:=st,pending:=pe,fn,tmps:=a.tmps,params:=ps,assign:=ca,body:=cb,defers:=w.heap.size} :=⟨_,rfl⟩;obtain⟨W1,yN⟩:∃W1,(w.alloc (.deferred (some []))).alloc (.loop (rec .ready none))=W1:=⟨_,rfl⟩;obtain⟨ln,rQ⟩:∃ln,ln=w.heap.size+1:=⟨_,rfl⟩;have oM:w0.heap.size<=ln:=by rw[rQ]; exact Nat.le_trans e9 (Nat.le_succ _)
 have oN:∀(V:World) (b o:Nat) (r':Loop),b≠ln->(V.putObj ln (.loop r')).cell? ⟨b,o,none⟩=V.cell? ⟨b,o,none⟩:=λV b o r' aS=>World.cell?_of_block (w:=V) (World.putObj_heap_other aS);have pQ:W1.heap[ln]?=some (.loop (rec .ready none)):=by
  rw[<-yN,rQ];have:=QaZ (w.alloc (.deferred (some []))) (.loop (rec .ready none))
  rwa [World.size_alloc]at this
 have eD:Below w.heap.size w W1:=by
  rw[<-yN]; exact((Below.refl _ w).alloc (Zr _) _).alloc (by simp) _
 have hK1:W1.heap[w.heap.size]?=some (.deferred (some [])):=by
  rw[<-yN];exact((((Below.refl _ (w.alloc (.deferred (some [])))).alloc (Zr _) _)).block w.heap.size (by simp)).trans (QaZ w _)
 obtain⟨RI,vM⟩:∃RI:List (List Value)->World->Prop,RI=λpre W=>∃(σp:St) (gp:Gh),QdZ (c.code ca) (c.code cb) ps.toList al t0 l (QcS al t0 σ)=QdZ (c.code ca) (c.code cb) ps.toList al t0 (l.drop pre.length) σp/\σp.tmps=t0/\Inv c.N m0 w0 gp σp ⟨a.tmps,[]⟩ W/\Away gp ln/\(∀i∈al,gp.box i=none)/\(∀D∈Ds,W.heap[D]?=some (.deferred (some [])))/\(∀b o,g.imm b o->gp.imm b o):=⟨_,rfl⟩;obtain⟨FI,hFI⟩:∃FI:World->Prop,FI=λW=>∃(gp:Gh),Inv c.N m0 w0 gp σ' ⟨a.tmps,[]⟩ W/\Away gp ln/\(∀D∈Ds,W.heap[D]?=some (.deferred (some []))):=⟨_,rfl⟩;have mK:∀pre W W',RI pre W->Below W.heap.size W W'->RI pre W':=by
  intro pre W W' hr fL;rw[vM]at hr|-;obtain⟨σp,gp,r1,r2,r3,r4,r5,r6,r7⟩:=hr;exact⟨σp,gp,r1,r2,r3.later fL,r4,r5,λD hDm=>(fL.block D (Zj.1 (r6 D hDm)).1).trans (r6 D hDm),r7⟩
 have mL:∀W W',FI W->Below W.heap.size W W'->FI W':=by
  intro W W' hr fL;rw[hFI]at hr|-;obtain⟨gp,r3,r4,r6⟩:=hr;exact⟨gp,r3.later fL,r4,λD hDm=>(fL.block D (Zj.1 (r6 D hDm)).1).trans (r6 D hDm)⟩
 have gY:∀(W:World) (r:Loop),(∀D∈Ds,W.heap[D]?=some (.deferred (some [])))->∀D∈Ds,(W.putObj ln (.loop r)).heap[D]?=some (.deferred (some [])):=λW r hh D hDm=>(World.putObj_heap_other (by have:=oL D hDm; omega)).trans (hh D hDm)
 have hRI0:RI [] W1:=by
  rw[vM];have Ir:=I.rest (a':=⟨a.tmps,[]⟩) aP mI (λt x hx toks hr=>hr.toks (j0 t x hx)) I.size dM.symm;refine⟨QcS al t0 σ,Q9 al g,rfl,rfl,Ir.later eD,⟨λo ho=>?_,λi hi=>?_,λt ht=>?_⟩,λi hi=>?_,λD hDm=>(eD.block D (oL D hDm)).trans (hD D hDm).2,λ_ _ h=>h⟩
  .have:=I.lt ln o ho; omega
  .have:=(Ir.boxb i ln hi).2.1; omega
  .have:=(I.tokb t ln ht).1; omega
  .simp only[Q9]; rw[if_pos (by simpa using hi)]
 have rV:RelL g.imm W1 caps lb:=RelL.ext ⟨λ_ _ h=>h,λb o h=>eD.cell (p:=⟨b,o,none⟩) (I.lt b o h)⟩ _ _ vL;refine⟨ln,[{ target:= .collected w.heap.size,args:= #[]}],W1,{ target:= .fn (.func gf) lb.toArray,args:= #[.func (.yield ln) #[] #[]]},W1,gf,#[.func (.yield ln) #[] #[]]++lb.toArray,W1,?_,?_,?_,?_,λhd=>absurd hd (by simp[Fence.wide]),?_⟩
 .rw[<-yN,rQ,cR]; exact run_enterLoop_outer _ _ _ _ _
 .simp only[resolve,u0];simp[go_sem]
 .intro f' _; trivial
 .simp[invoke,go_sem,iQ]
 .refine(hseq (n - 1) g.imm W1 lb (λb o d8=>Nat.lt_of_lt_of_le (I.lt b o d8) eD.size) (I.globIn.ext ⟨λ_ _ h=>h,λb o h=>eD.cell (p:=⟨b,o,none⟩) (I.lt b o h)⟩) rV ln
   (λpre W=>RI pre W/\W.heap[ln]?=some (.loop (rec .ready none))/\W.heap[w.heap.size]?=some (.deferred (some [])))
   (λW=>FI W/\(e≠ .normal/\∀v,e≠ .pan v)/\W.heap[ln]?=some (.loop (rec .done (some e.jump)))/\W.heap[w.heap.size]?=some (.deferred (some [])))
   (λpre W W' hj fL=>⟨mK pre W W' hj.1 fL,(fL.block ln (Zj.1 hj.2.1).1).trans hj.2.1,(fL.block _ (Zj.1 hj.2.2).1).trans hj.2.2⟩)
   (λW W' hj fL=>⟨mL W W' hj.1 fL,hj.2.1,(fL.block ln (Zj.1 hj.2.2.1).1).trans hj.2.2.1,(fL.block _ (Zj.1 hj.2.2.2).1).trans hj.2.2.2⟩)
   ?_ ⟨hRI0,pQ,hK1⟩).mono ?_
  ·
   rintro pre x W ⟨vN,nM,vO⟩ gZ;rw[vM]at vN;obtain⟨σp,gp,r1,r2,r3,r4,r5,r6,r7⟩:=vN;obtain⟨post,cF⟩:=gZ;have vP:l.drop pre.length=x::post:=by rw[<-cF,List.append_assoc,List.drop_left]; rfl
   have rW:l.drop (pre++[x]).length=post:=by rw[<-cF,List.drop_left]
   rw[h,vP]at r1;simp only[QdZ]at r1;split at r1
   case isFalse=>cases r1
   rename_i lT;split at r1
   case h_2=>cases r1
   rename_i σ1 hca;have aR:ln < W.heap.size:=(Zj.1 nM).1;have hy:=run_yield (P:=P) (args:=x.toArray) nM (by rw[cR]; simpa using lT)
   rw[cR]at hy;refine⟨fn,_,ca,cb,hy,?_⟩;refine roundIn_of_wpIn fF ?_;obtain⟨fz,dT⟩:∃fz:List (Nat×Obj),fz=w0.fz++((w.heap.size,.deferred (some []))::Ds.map λD=>(D,.deferred (some []))):=⟨_,rfl⟩;have fzok:∀p∈fz,W.heap[p.1]?=some p.2/\p.2.isCells=false/\∀l c,p.2≠ .map l c:=by
    intro p hp;rw[dT]at hp;rcases Zp.1 hp with hp | hp
    .exact r3.fz p hp
    .rcases List.mem_cons.1 hp with rfl | hp
     .exact⟨vO,rfl,λ_ _ e=>by cases e⟩
     .obtain⟨D,hDm,rfl⟩:=List.mem_map.1 hp;exact⟨r6 D hDm,rfl,λ_ _ e=>by cases e⟩
   have fzne:∀p∈fz,p.1≠ln:=by
    intro p hp;rw[dT]at hp;rcases Zp.1 hp with hp | hp
    .have:=mJ p hp; omega
    .rcases List.mem_cons.1 hp with rfl | hp
     .show w.heap.size≠ln;omega
     .obtain⟨D,hDm,rfl⟩:=List.mem_map.1 hp;have:=oL D hDm;show D≠ln;omega
   have t0W:∀t y,Qv t0 t=some y->RelX gp W 0 σp.toks y (a.tmps.getD t undef):=λt y hy=>(r3.tmps t y (by rw[r2]; exact hy)).base
   have IA:=r3.rebase fz fzok (a':=⟨(ps.zip x.toArray).foldl (λt (p:Tmp×Value)=>t.setIfInBounds p.1 p.2) a.tmps,[]⟩) (tmps:=QsK ps.toList x++t0)
    (QrL (tm:=a.tmps) rU (λp hp=>by rw[I.size]; exact hplt p hp) (by simpa using lT) t0W)
    (by
     have e1:(ps.zip x.toArray).foldl (λt (p:Tmp×Value)=>t.setIfInBounds p.1 p.2) a.tmps=(ps.toList.zip x).foldl (λt (p:Tmp×Value)=>t.setIfInBounds p.1 p.2) a.tmps:=by rw[<-Array.foldl_toList,Array.toList_zip]
     show((ps.zip x.toArray).foldl (λt (p:Tmp×Value)=>t.setIfInBounds p.1 p.2) a.tmps).size=c.N;rw[e1,Qk1]; exact I.size) rfl
   have awr:¬(Qei W gp fz).writ ln:=by
    rintro(⟨i,hi⟩ | ⟨t,ht⟩)
    .exact r4.box i hi
    .exact r4.tok t ht
   have hA:=ha (Fence.wide.inRound ln) (n - 1 - 1) (.inr ⟨ln,rfl⟩) _ _ (.inl hna) _ _ σ1 hca (λd hd=>r5 d (by rw[oK]; exact List.mem_append_left _ hd)) _ _ W IA
   refine hA _ ?_;intro gA aA WA IA2;have awA:=Qc8 r4 aR IA2;have hlA:WA.heap[ln]?=some (.loop (rec .ready none)):=(IA2.below.block ln aR awr).trans nM;have hltA:ln < WA.heap.size:=(Zj.1 hlA).1;refine⟨_,run_beginRound hlA (by rw[cR]),?_⟩
   have hrb:({ rec .ready none with state:= .busy} :Loop)=rec .busy none:=by rw[cR]
   rw[hrb];have IB:=IA2.putBoth awA fzne aR (rec .busy none);have r3b:=r3.putRec r4 oM (λp hp=>by have:=mJ p hp; omega) nM (rec .busy none)
   have pS:(W.putObj ln (.loop (rec .busy none))).heap[ln]?=some (.loop (rec .busy none)):=World.putObj_heap_same aR;have oH:∀b o,gp.imm b o->(W.putObj ln (.loop (rec .busy none))).cell? ⟨b,o,none⟩=W.cell? ⟨b,o,none⟩:=λb o d8=>oN W b o _ (λe=>r4.imm o (e ▸ d8));have rX:ln < (W.putObj ln (.loop (rec .busy none))).heap.size:=(Zj.1 pS).1;generalize WA.putObj ln (.loop (rec .busy none))=WB at IB;generalize iE:W.putObj ln (.loop (rec .busy none))=Wb at IB r3b pS oH rX;have mM:∀(σ2:St) (gB:Gh) (aB:Act) (W3:World),Inv c.N gp.imm (Qei Wb gp fz) gB σ2 aB W3->W3.heap[ln]?=some (.loop (rec .busy none))/\W3.heap[w.heap.size]?=some (.deferred (some []))/\(∀D∈Ds,W3.heap[D]?=some (.deferred (some [])))/\W.heap.size<=W3.heap.size/\(∀b o,gp.imm b o->W3.cell? ⟨b,o,none⟩=W.cell? ⟨b,o,none⟩)/\
     ∀r':Loop,Inv c.N m0 w0 (Q9 al gB) (QcS al t0 σ2) ⟨a.tmps,[]⟩ (W3.putObj ln (.loop r'))/\Away (Q9 al gB) ln/\(∀i∈al,(Q9 al gB).box i=none)/\(∀b o,g.imm b o->(Q9 al gB).imm b o):=by
    intro σ2 gB aB W3 I3;have yO:=Qc8 r4 rX I3;have h3l:W3.heap[ln]?=some (.loop (rec .busy none)):=(I3.below.block ln rX awr).trans pS;have h3k:W3.heap[w.heap.size]?=some (.deferred (some [])):=(I3.fz (w.heap.size,.deferred (some [])) (by show _∈fz; rw[dT]; simp)).1
    have h3D:∀D∈Ds,W3.heap[D]?=some (.deferred (some [])):=λD hDm=>(I3.fz (D,.deferred (some [])) (by show _∈fz; rw[dT]; simp[hDm])).1
    have hszb:Wb.heap.size=W.heap.size:=by rw[<-iE]; exact World.putObj_size
    have h3s:W.heap.size<=W3.heap.size:=by rw[<-hszb]; exact I3.below.size
    have h3c:∀b o,gp.imm b o->W3.cell? ⟨b,o,none⟩=W.cell? ⟨b,o,none⟩:=λb o d8=>(I3.cells.1 b o d8).trans (oH b o d8);refine⟨h3l,h3k,h3D,h3s,h3c,λr'=>?_⟩;have I4:=r3b.unbase dM (fz:=fz) (λp hp=>by rw[dT]; exact List.mem_append_left _ hp) I3
    have I5:=I4.putRec yO oM (λp hp=>by have:=mJ p hp; omega) h3l r'
    have hc5:∀b o,gp.imm b o->(W3.putObj ln (.loop r')).cell? ⟨b,o,none⟩=W.cell? ⟨b,o,none⟩:=λb o d8=>(oN W3 b o _ (λe=>r4.imm o (e ▸ d8))).trans (h3c b o d8);refine⟨I5.rest aP (λt x hx=>?_) (λt x hx toks hr=>hr.toks (j0 t x hx)) I.size dM.symm,⟨λo ho=>yO.imm o ho,λi hi=>?_,λt ht=>yO.tok t ht⟩,λi hi=>?_,λb o d8=>I3.old b o (r7 b o d8)⟩
    .refine RelX.tr0 (j0 t x hx) (g:=gp) (g':=Q9 al gB) (w:=W) (b1:=0) (t1:=σp.toks) ⟨λb o h=>I3.old b o h,hc5⟩ (λi b hib=>?_) (t0W t x hx);have h1:gB.box i=some b:=I3.out i b hib;simp only[Q9];rw[if_neg]
     .exact h1
     .intro hci;have:=r5 i (by simpa using hci)
      rw[this]at hib; cases hib
    .simp only[Q9]at hi;split at hi
     .cases hi
     .exact yO.box i hi
    .simp only[Q9]; rw[if_pos (by simpa using hi)]
   have cY:∀(W3:World) (jump:Option Code),W3.heap[ln]?=some (.loop (rec .busy none))->(Instr.endRound ln jump).run P W3= .ok (.bool jump.isNone) (W3.putObj ln (.loop (rec (if jump.isNone then .ready else .done) jump))):=by
    intro W3 jump tJ;have:=run_endRound (P:=P) jump tJ;rw[cR]at this|-;exact this
   split at r1
   ·
    rename_i σ2 hcb2;refine hb (Fence.wide.inRound ln) (n - 1 - 1) (.inr ⟨ln,rfl⟩) _ _ (.inl d7) _ _ σ2 hcb2 (λd hd=>r5 d (by rw[oK]; exact List.mem_append_right _ hd)) _ _ WB IB _ ?_
    intro gB aB W3 I3;obtain⟨b1,b2,b3,b4,b5,b6⟩:=mM σ2 gB aB W3 I3;obtain⟨b7,b8,b9,b10⟩:=b6 (rec .ready none);have rY:ln < W3.heap.size:=Nat.lt_of_lt_of_le aR b4;refine⟨_,_,cY W3 none b1,.inl ⟨rfl,?_,World.putObj_heap_same rY,(World.putObj_heap_other (by omega)).trans b2⟩,by rw[World.putObj_size]; exact b4,λb o d8=>?_⟩
    .rw[vM];exact⟨_,_,by rw[rW,<-r1]; exact h,rfl,b7,b8,b9,gY _ _ b3,b10⟩
    .have hgp:=r7 b o d8;exact(oN W3 b o _ (λe=>r4.imm o (e ▸ hgp))).trans (b5 b o hgp)
   .cases r1
   ·
    rename_i e2 σ2 aS pT hcb2;simp only[Zs,Prod.mk.injEq]at r1;obtain⟨rfl,rfl⟩:=r1;refine hb (Fence.wide.inRound ln) (n - 1 - 1) (.inr ⟨ln,rfl⟩) _ _ (.inl d7) _ _ σ2 hcb2 (λd hd=>r5 d (by rw[oK]; exact List.mem_append_right _ hd)) _ _ WB IB _ ?_
    intro gB aB W3 I3;obtain⟨b1,b2,b3,b4,b5,b6⟩:=mM σ2 gB aB W3 I3;obtain⟨b7,b8,b9,b10⟩:=b6 (rec .done (some e.jump));have rY:ln < W3.heap.size:=Nat.lt_of_lt_of_le aR b4;have dV:((Instr.endRound ln (some e.jump)).run P W3= .ok (.bool false) (W3.putObj ln (.loop (rec .done (some e.jump))))):=cY W3 (some e.jump) b1;have tK:FI (W3.putObj ln (.loop (rec .done (some e.jump))))/\(e≠ .normal/\∀v,e≠ .pan v)/\(W3.putObj ln (.loop (rec .done (some e.jump)))).heap[ln]?=some (.loop (rec .done (some e.jump)))/\(W3.putObj ln (.loop (rec .done (some e.jump)))).heap[w.heap.size]?=some (.deferred (some [])):=by
     refine⟨?_,⟨aS,pT⟩,World.putObj_heap_same rY,(World.putObj_heap_other (by omega)).trans b2⟩
     rw[hFI];exact⟨_,b7,b8,gY _ _ b3⟩
    have eB:W.heap.size<=(W3.putObj ln (.loop (rec .done (some e.jump)))).heap.size/\∀b o,g.imm b o->(W3.putObj ln (.loop (rec .done (some e.jump)))).cell? ⟨b,o,none⟩=W.cell? ⟨b,o,none⟩:=⟨by rw[World.putObj_size]; exact b4,λb o d8=>(oN W3 b o _ (λe=>r4.imm o (e ▸ r7 b o d8))).trans (b5 b o (r7 b o d8))⟩
    cases e with
    | normal=>exact absurd rfl tK.2.1.1
    | exit i=>exact⟨_,_,dV,.inr ⟨rfl,tK⟩,eB⟩
    | ret=>exact⟨_,_,dV,.inr ⟨rfl,tK⟩,eB⟩
    | pan v=>exact absurd rfl (tK.2.1.2 v)
   .cases r1
  .rintro e2 W2 ⟨⟨v,rfl⟩,cY⟩;have vQ:∀(V:World),V.heap[w.heap.size]?=some (.deferred (some []))->(∀D∈Ds,V.heap[D]?=some (.deferred (some [])))->∃Ds':List Nat,([{ target:= .collected w.heap.size,args:= #[]}]++a.defers:List Deferred)=Ds'.map Qfy++w0.df/\Ds'.Nodup/\∀D∈Ds',(w0.heap.size<=D/\w0.dOk)/\V.heap[D]?=some (.deferred (some [])):=by
    intro V h1 h2;refine⟨w.heap.size::Ds,by rw[hDs,dM,List.append_nil]; rfl,List.nodup_cons.2 ⟨λhm=>by have:=oL _ hm; omega,hDnd⟩,λD hDm=>?_⟩
    rcases List.mem_cons.1 hDm with rfl | hDm
    .exact⟨⟨e9,mH⟩,h1⟩
    .exact⟨(hD D hDm).1,h2 D hDm⟩
   have vR:∀(gp:Gh) (σe:St) (V:World),Inv c.N m0 w0 gp σe ⟨a.tmps,[]⟩ V->V.heap[w.heap.size]?=some (.deferred (some []))->(∀D∈Ds,V.heap[D]?=some (.deferred (some [])))->Inv c.N m0 w0 gp σe { a with defers:=[{ target:= .collected w.heap.size,args:= #[]}]++a.defers} V:=λgp σe V Iv h1 h2=>
    ⟨Iv.below,Iv.size,vQ V h1 h2,Iv.lt,Iv.old,Iv.new,Iv.tmps,Iv.boxb,Iv.boxi,Iv.tokb,Iv.toki,Iv.boxes,Iv.out,Iv.fz,Iv.maps,Iv.cells⟩
   rcases cY with⟨vN,nM,vO⟩ | ⟨hfi,aS,nM,vO⟩
   ·
    rw[vM]at vN;obtain⟨σp,gp,r1,r2,r3,r4,r5,r6,r7⟩:=vN;rw[h,List.drop_length]at r1;simp only[QdZ,Zs,Prod.mk.injEq]at r1;obtain⟨rfl,rfl⟩:=r1;have hE:=run_endLoop (P:=P) nM (by rw[cR]; simp)
    refine⟨_,_,hE,?_⟩;rw[cR];have I5:=r3.putRec r4 oM (λp hp=>by have:=mJ p hp; omega) nM { rec .ready none with state:= .exhausted}
    rw[cR]at I5;exact hQ gp _ _ (vR _ _ _ I5 ((World.putObj_heap_other (by omega)).trans vO) (gY _ _ r6))
   ·
    rw[hFI]at hfi;obtain⟨gp,r3,r4,r6⟩:=hfi;have hE:=run_endLoop (P:=P) nM (by rw[cR]; simp)
    refine⟨_,_,hE,?_⟩;rw[cR];have I5:=r3.putRec r4 oM (λp hp=>by have:=mJ p hp; omega) nM { rec .done (some e.jump)with state:= .exhausted}
    rw[cR]at I5;have dV:=hQ gp _ _ (vR _ _ _ I5 ((World.putObj_heap_other (by omega)).trans vO) (gY _ _ r6))
    cases e with
    | normal=>exact absurd rfl aS.1
    | exit i=>exact wpIn_exit dV
    | ret=>exact wpIn_ret dV
    | pan v=>exact absurd rfl (aS.2 v)
end
end Go.Proofs.YtnfeakhkfehkhaaGreatDoor
namespace Go.Proofs.YtnfeakhkfehkhaaGreatDoor
open Go.RowKit
def Qav (D:Nat->List (Nat×Nat)) (md:Nat->Nat) (pq:Nat->List (Nat×List Nat)):Code->Bool
 | .region id ops true=>(pq id).all (λp=>Qqv ops.toList p.1 p.2)&&match md id with
  | 0=>QhE (D id) ops.toList
  | 1=>Qn4 (D id) ops.toList (ops.toList.length - 1)
  | _=>false
 | .seq a b=>Qav D md pq a&&Qav D md pq b
 | .cond _ a b=>Qav D md pq a&&Qav D md pq b
 | .block _ a=>Qav D md pq a
 | .loop a=>Qav D md pq a
 | .scope a=>Qav D md pq a
 | .rangeFunc _ _ a b=>Qav D md pq a&&Qav D md pq b&&QiL a&&QiL b
 | _=>true
def Qzl (cd:Code):Bool:=(QD cd).all λd=>decide (d < 1000)
theorem Qcs {P:Program} {b:Frame} {a:Act} {k:List Item} {cs:List Frame} {w:World} {c:Code} :step P (lone (b.atR a (.code (.scope c)::k)) cs w)= .next (lone (b.atR a (.code c:: .inScope c::k)) cs w):=
 step_lone_go (by simp[stepG,stepG.exec,Frame.atR])
theorem Ql8 {P:Program} {b:Frame} {a:Act} {k:List Item} {cs:List Frame} {w:World} {c:Code} :step P (lone (b.atR a (.inScope c::k)) cs w)= .next (lone (b.atR a k) cs w):=
 step_lone_go (by simp[stepG,stepG.exec,Frame.atR])
theorem Qel {F:Fence} {n:Nat} {P:Program} {Q:Exit->Act->World->Prop} {a:Act} {w:World} {c:Code} (h:c.wpIn F n P (λe a w=>(∀l,e≠ .goto l)/\Q e a w) a w):(Code.scope c).wpIn F n P Q a w:=by
 intro b k cs lO hb hr;have h0:(lone (b.atR a (.code (.scope c)::k)) cs w).fenced P F:=fenced_calm hb hr rfl;obtain⟨e,a1,w1,⟨hng,hq⟩,kY⟩:=h b (.inScope c::k) cs lO hb hr;cases e with
 | normal=>exact⟨.normal,a1,w1,hq,.head h0 Qcs (StepsIn.trans kY (.one (fenced_calm hb hr rfl) Ql8))⟩
 | exit id=>
  have hx:exitTo id (.inScope c::k)=exitTo id k:=by simp[exitTo]
  exact⟨.exit id,a1,w1,hq,λk' hk=> .head h0 Qcs (kY.1 k' (by rw[hx]; exact hk)),λbN hk=>let ⟨k1,h1,h2⟩:=kY.2 bN (by rw[hx]; exact hk); ⟨k1,h1,.head h0 Qcs h2⟩⟩
 | goto l=>exact absurd rfl (hng l)
 | ret=>exact⟨_,a1,w1,hq,.of_steps (.one h0 Qcs) kY⟩
 | panic ch=>exact⟨_,a1,w1,hq,.of_steps (.one h0 Qcs) kY⟩
 | outgrown=>exact⟨_,a1,w1,hq,.of_steps (.one h0 Qcs) kY⟩
theorem Qko (e:AEx):∀l,e.out≠ .goto l:=by cases e<;>simp[AEx.out]
section
variable {P:Program} {c:Cx} {m0:Nat->Nat->Prop} {w0:Base}
theorem QkP {F:Fence} {n:Nat} (b:Code) (ih:∀(σ:St) (e:AEx) (σ':St),c.code b σ=some (e,σ')->∀(g:Gh) (a:Act) (w:World),Inv c.N m0 w0 g σ a w->∀Q:Exit->Act->World->Prop,(∀g' a' w',Inv c.N m0 w0 g' σ' a' w'->Q e.out a' w')->b.wpIn F n P Q a w):
  ∀(k:Nat) (σ:St) (e:AEx) (σ':St),iter (c.code b) k σ=some (e,σ')->∀(g:Gh) (a:Act) (w:World),Inv c.N m0 w0 g σ a w->∀Q:Exit->Act->World->Prop,(∀g' a' w',Inv c.N m0 w0 g' σ' a' w'->Q e.out a' w')->Code.roundsIn F n P b Q k a w
 | 0,σ,e,σ',h,g,a,w,I,Q,hQ=>by cases h
 | k+1,σ,e,σ',h,g,a,w,I,Q,hQ=>by
  rw[roundsIn_succ];simp only[iter]at h;split at h
  .rename_i σ1 hs;exact ih σ .normal σ1 hs g a w I _ λg' a' w' I'=>QkP b ih k σ1 e σ' h g' a' w' I' Q hQ
  .rename_i aS;refine ih σ e σ' h g a w I _ λg' a' w' I'=>?_;cases e with
   | normal=>exact absurd h (aS σ')
   | exit i=>exact hQ g' a' w' I'
   | ret=>exact hQ g' a' w' I'
   | pan v=>exact hQ g' a' w' I'
theorem QgI {F:Fence} {n:Nat} (hF:FreeF F) (hc:CxOk P c) {id:Nat} {ops:Array Oper} {g:Gh} {σ σ':St} {a:Act} {w:World} (h:c.regionD id ops.toList σ=some σ') (aP:∀d∈QP ops.toList,w0.out d=none) (hd:Qav c.diff c.md c.pq (.region id ops true)=true) (I:Inv c.N m0 w0 g σ a w) {Q:Exit->Act->World->Prop} (hQ:∀g' a' w',Inv c.N m0 w0 g' σ' a' w'->Q .normal a' w'):(Code.region id ops true).wpIn F n P Q a w:=by
 unfold Cx.regionD at h;unfold Qav at hd;rw[Za]at hd;replace hd:=hd.2;split at h
 .rename_i hm;rw[hm]at hd;exact Qo1 hF hc h aP hd I hQ
 .rename_i hm;rw[hm]at hd;exact QmH hF hc h aP hd I hQ
 .cases h
theorem Qhy (hc:CxOk P c):∀(cd:Code),Qav c.diff c.md c.pq cd=true->QG9 P c cd:=by
 intro cd
 induction cd with
 | skip=>
  intro _ F n hF m0 w0 hR σ e σ' h aP g a w I Q hQ;simp only[Cx.code,Zs,Prod.mk.injEq]at h;obtain⟨rfl,rfl⟩:=h;exact wpIn_skip (hQ g a w I)
 | label l=>
  intro _ F n hF m0 w0 hR σ e σ' h aP g a w I Q hQ;simp only[Cx.code,Zs,Prod.mk.injEq]at h;obtain⟨rfl,rfl⟩:=h;exact wpIn_label (hQ g a w I)
 | region id ops draw=>
  intro hd F n hF m0 w0 hR σ e σ' h aP g a w I Q hQ;cases draw with
  | false=>
   simp only[Cx.code]at h;split at h
   .split at h
    .rename_i bV;obtain⟨cB,dE⟩:=Qaz bV;obtain⟨I1,mA,dA⟩:=I.start aP bV dE;exact wpIn_region_list (Qky hF hc ops ops.toList 0 σ σ' _ a w h I1 (QbE _ cB) mA (λj _=>dA j) hQ)
    .cases h
   .split at h
    .rename_i σ1 hr;simp only[Zs,Prod.mk.injEq]at h;obtain⟨rfl,rfl⟩:=h;exact Qnq hF hc hr aP I hQ
    .cases h
  | true=>
   simp only[Cx.code]at h;split at h
   .rename_i σ1 hr;simp only[Zs,Prod.mk.injEq]at h;obtain⟨rfl,rfl⟩:=h;exact QgI hF hc hr aP hd I hQ
   .split at h
    .have cA:=hd;unfold Qav at cA;rw[Za]at cA;exact Qkj hF hc h (λp hp=>Zl.1 cA.1 p hp) aP I hQ
    .cases h
 | seq x y ihx ihy=>
  intro hd F n hF m0 w0 hR σ e σ' h aP g a w I Q hQ;simp only[Qav,Za]at hd;simp only[QiL,Za]at hR;simp only[QD,Zp]at aP;simp only[Cx.code]at h;refine wpIn_seq ?_;split at h
  .rename_i σ1 hs;exact ihx hd.1 F n hF m0 w0 (hR.imp And.left id) σ .normal σ1 hs (λd h=>aP d (.inl h)) g a w I _ λg' a' w' I'=>ihy hd.2 F n hF m0 w0 (hR.imp And.right id) σ1 e σ' h (λd h=>aP d (.inr h)) g' a' w' I' Q hQ
  .rename_i aS;refine ihx hd.1 F n hF m0 w0 (hR.imp And.left id) σ e σ' h (λd h=>aP d (.inl h)) g a w I _ λg' a' w' I'=>?_;cases e with
   | normal=>exact absurd h (aS σ')
   | exit i=>exact hQ g' a' w' I'
   | ret=>exact hQ g' a' w' I'
   | pan v=>exact hQ g' a' w' I'
 | cond x y z ihy ihz=>
  intro hd F n hF m0 w0 hR σ e σ' h aP g a w I Q hQ;simp only[Qav,Za]at hd;simp only[QiL,Za]at hR;simp only[QD,Zp]at aP;simp only[Cx.code]at h;split at h
  .rename_i t hx;have hr:=Qbt I x;rw[hx]at hr;simp only[RelX,Rel]at hr;refine wpIn_cond hr ?_;cases t with
   | true=>exact ihy hd.1 F n hF m0 w0 (hR.imp And.left id) σ e σ' h (λd h=>aP d (.inl h)) g a w I Q hQ
   | false=>exact ihz hd.2 F n hF m0 w0 (hR.imp And.right id) σ e σ' h (λd h=>aP d (.inr h)) g a w I Q hQ
  .cases h
 | block id x ih=>
  intro hd F n hF m0 w0 hR σ e σ' h aP g a w I Q hQ;simp only[Qav]at hd;simp only[QiL]at hR;simp only[QD]at aP;simp only[Cx.code]at h;refine wpIn_block ?_;split at h
  .rename_i j σ1 hs;split at h
   .rename_i hj;simp only[Zs,Prod.mk.injEq]at h;obtain⟨rfl,rfl⟩:=h;refine ih hd F n hF m0 w0 hR σ _ σ1 hs aP g a w I _ λg' a' w' I'=>?_;simp only[AEx.out,Exit.inBlock,hj,if_true];exact hQ g' a' w' I'
   .rename_i hj;simp only[Zs,Prod.mk.injEq]at h;obtain⟨rfl,rfl⟩:=h;refine ih hd F n hF m0 w0 hR σ _ σ1 hs aP g a w I _ λg' a' w' I'=>?_;simp only[AEx.out,Exit.inBlock,hj,if_false];exact hQ g' a' w' I'
  .rename_i aS;refine ih hd F n hF m0 w0 hR σ e σ' h aP g a w I _ λg' a' w' I'=>?_;cases e with
   | normal=>exact hQ g' a' w' I'
   | exit i=>exact absurd h (aS i σ')
   | ret=>exact hQ g' a' w' I'
   | pan v=>exact hQ g' a' w' I'
 | loop x ih=>
  intro hd F n hF m0 w0 hR σ e σ' h aP g a w I Q hQ;simp only[Qav]at hd;simp only[QiL]at hR;simp only[QD]at aP;simp only[Cx.code]at h;exact wpIn_loop_rounds c.F (QkP x (λσ e σ' h g a w I Q hQ=>ih hd F n hF m0 w0 hR σ e σ' h aP g a w I Q hQ) c.F σ e σ' h g a w I Q hQ)
 | rangeFunc f p x y ihx ihy=>
  intro hd F n hF m0 w0 hR σ e σ' h aP g a w I Q hQ;simp only[Qav,Za]at hd;simp only[QiL,Bool.false_eq_true,false_or]at hR;obtain⟨rfl,hdk⟩:=hR;exact QoJ hc (ihx hd.1.1.1) (ihy hd.1.1.2) hd.1.2 hd.2 h aP hdk I hQ
 | exit i=>
  intro _ F n hF m0 w0 hR σ e σ' h aP g a w I Q hQ;simp only[Cx.code,Zs,Prod.mk.injEq]at h;obtain⟨rfl,rfl⟩:=h;exact wpIn_exit (hQ g a w I)
 | scope x ih=>
  intro hd F n hF m0 w0 hR σ e σ' h aP g a w I Q hQ;simp only[Qav]at hd;simp only[QiL]at hR;simp only[QD]at aP;simp only[Cx.code]at h;exact Qel (ih hd F n hF m0 w0 hR σ e σ' h aP g a w I _ λg' a' w' I'=>⟨Qko e,hQ g' a' w' I'⟩)
 | goto l=>
  intro _ F n hF m0 w0 hR σ e σ' h;cases h
 | ret=>
  intro _ F n hF m0 w0 hR σ e σ' h aP g a w I Q hQ;simp only[Cx.code,Zs,Prod.mk.injEq]at h;obtain⟨rfl,rfl⟩:=h;exact wpIn_ret (hQ g a w I)
 | refuse s=>
  intro _ F n hF m0 w0 hR σ e σ' h;cases h
def QuY (Γ:Tys) (σ:St):List ResultVar->Option (List D)
 | []=>some []
 | .tmp t::rs=>match(σ.ev (.tmp t)).data,QuY Γ σ rs with
  | some d,some ds=>some (d::ds)
  | _,_=>none
 | .cell x T::rs=>match Qmq Γ T (σ.ev (.tmp x)) σ.boxes with
  | some y=>match y.data,QuY Γ σ rs with
   | some d,some ds=>some (d::ds)
   | _,_=>none
  | none=>none
def Qfx (Γ:Tys) (σ:St):List ResultVar->Option (List D)
 | []=>some []
 | .tmp t::rs=>match(σ.ev (.tmp t)).outD σ.boxes σ.toks,Qfx Γ σ rs with
  | some d,some ds=>some (d::ds)
  | _,_=>none
 | .cell x T::rs=>match Qmq Γ T (σ.ev (.tmp x)) σ.boxes with
  | some y=>match y.outD σ.boxes σ.toks,Qfx Γ σ rs with
   | some d,some ds=>some (d::ds)
   | _,_=>none
  | none=>none
def Qew:List D->D
 | [d]=>d
 | ds=> .tup ds
def QoD:Nat->List D->List (Nat×X)
 | _,[]=>[]
 | i,d::t=>(i,.d d)::QoD (i+1) t
def Cx.call (c:Cx) (cd:Code) (rs:List ResultVar) (ds:List D):Option D:=
 match c.code cd ⟨QoD 0 ds,[],[],[]⟩with
 | some (.exit _,_)=>none
 | some (.pan _,_)=>none
 | some (_,σ)=>match Qfx c.Γ σ rs with
  | some r=>some (Qew r)
  | none=>none
 | none=>none
def QcN (tmps:Array Value):ResultVar->Sem Value
 | .tmp t=>pure (tmps.getD t undef)
 | .cell a t=>do loadVar t (<-asAddr (tmps.getD a undef))
theorem QlW (hc:CxOk P c) {g:Gh} {σ:St} {a:Act} {w:World} (I:Inv c.N m0 w0 g σ a w):∀(rs:List ResultVar) (ds:List D),QuY c.Γ σ rs=some ds->∃vs:List Value,(rs.mapM (QcN a.tmps)).run P w= .ok vs w/\RelL g.imm w ds vs
 | [],ds,h=>by
  simp only[QuY,Zs]at h; subst h;exact⟨[],rfl,by simp[RelL]⟩
 | .tmp t::rs,ds,h=>by
  simp only[QuY]at h;split at h
  .rename_i d cT hd cE;simp only[Zs]at h; subst h;obtain⟨vs,h1,h2⟩:=QlW hc I rs cT cE;refine⟨a.tmps.getD t undef::vs,?_,?_⟩
   .simp only[List.mapM_cons,QcN,Sem.run_bind,Sem.run_pure,Zo,h1]
   .simp only[RelL];exact⟨_,vs,rfl,RelX.data hd (Qbt I (.tmp t)),h2⟩
  .cases h
 | .cell x T::rs,ds,h=>by
  simp only[QuY]at h;split at h
  .rename_i y hy;split at h
   .rename_i d cT hd cE;simp only[Zs]at h; subst h;obtain⟨vs,h1,h2⟩:=QlW hc I rs cT cE;obtain⟨v,h3,h4⟩:=Qh3 hc.ty hy (Qbt I (.tmp x)) I.boxes;refine⟨v::vs,?_,?_⟩
    .have h5:(loadVar T=<< asAddr (a.tmps.getD x undef)).run P w= .ok v w:=by
      have h6:=h3;unfold Instr.loadAt at h6;rw[Sem.run_bind]at h6;show(asAddr (a.tmps.getD x undef) >>=loadVar T).run P w=_;rw[Sem.run_bind];show((asAddr (a.tmps.getD x undef)).run P w).andThen _=_;have h7:a.eval (.tmp x)=a.tmps.getD x undef:=rfl;rw[h7]at h6;generalize a.tmps.getD x undef=vx at*;cases vx with
      | pointer p=>
       cases p with
       | none=>simp[Instr.sureAddr,stuck]at h6
       | some ad=>simpa[Instr.sureAddr,asAddr]using h6
      | _=>simp[Instr.sureAddr,stuck]at h6
     simp only[List.mapM_cons,QcN,Sem.run_bind,Sem.run_pure]at h5|-;have h8:(asAddr (a.tmps.getD x undef) >>=λy=>loadVar T y).run P w= .ok v w:=h5;rw[Sem.run_bind]at h8;rw[h8]; simp only[Zo,h1]
    .simp only[RelL];exact⟨_,vs,rfl,RelX.data hd h4,h2⟩
   .cases h
  .cases h
theorem Qp1 {N:Nat} {g:Gh} {σ:St} {a:Act} {w:World} (I:Inv N m0 w0 g σ a w) {x:X} {d:D} {v:Value} (h:x.outD σ.boxes σ.toks=some d) (r:RelX g w w0.heap.size σ.toks x v):Rel (Qka g) w d v:=by
 unfold X.outD at h;split at h
 .rename_i k rows t;split at h
  .rename_i ht;simp only[Zs]at h; subst h;obtain⟨z,hz,e⟩:=Zy.1 ht;have:z=t:=by simpa using e
   subst this;exact Qoq (r.2.2 hz)
  .cases h
 .exact Qyz (QlJ I.boxes h r)
theorem QgX (hc:CxOk P c) {g:Gh} {σ:St} {a:Act} {w:World} (I:Inv c.N m0 w0 g σ a w):∀(rs:List ResultVar) (ds:List D),Qfx c.Γ σ rs=some ds->∃vs:List Value,(rs.mapM (QcN a.tmps)).run P w= .ok vs w/\RelL (Qka g) w ds vs
 | [],ds,h=>by
  simp only[Qfx,Zs]at h; subst h;exact⟨[],rfl,by simp[RelL]⟩
 | .tmp t::rs,ds,h=>by
  simp only[Qfx]at h;split at h
  .rename_i d cT hd cE;simp only[Zs]at h; subst h;obtain⟨vs,h1,h2⟩:=QgX hc I rs cT cE;refine⟨a.tmps.getD t undef::vs,?_,?_⟩
   .simp only[List.mapM_cons,QcN,Sem.run_bind,Sem.run_pure,Zo,h1]
   .simp only[RelL];exact⟨_,vs,rfl,Qp1 I hd (Qbt I (.tmp t)),h2⟩
  .cases h
 | .cell x T::rs,ds,h=>by
  simp only[Qfx]at h;split at h
  .rename_i y hy;split at h
   .rename_i d cT hd cE;simp only[Zs]at h; subst h;obtain⟨vs,h1,h2⟩:=QgX hc I rs cT cE;obtain⟨v,h3,h4⟩:=Qh3 hc.ty hy (Qbt I (.tmp x)) I.boxes;refine⟨v::vs,?_,?_⟩
    .have h5:(loadVar T=<< asAddr (a.tmps.getD x undef)).run P w= .ok v w:=by
      have h6:=h3;unfold Instr.loadAt at h6;rw[Sem.run_bind]at h6;show(asAddr (a.tmps.getD x undef) >>=loadVar T).run P w=_;rw[Sem.run_bind];show((asAddr (a.tmps.getD x undef)).run P w).andThen _=_;have h7:a.eval (.tmp x)=a.tmps.getD x undef:=rfl;rw[h7]at h6;generalize a.tmps.getD x undef=vx at*;cases vx with
      | pointer p=>
       cases p with
       | none=>simp[Instr.sureAddr,stuck]at h6
       | some ad=>simpa[Instr.sureAddr,asAddr]using h6
      | _=>simp[Instr.sureAddr,stuck]at h6
     simp only[List.mapM_cons,QcN,Sem.run_bind,Sem.run_pure]at h5|-;have h8:(asAddr (a.tmps.getD x undef) >>=λy=>loadVar T y).run P w= .ok v w:=h5;rw[Sem.run_bind]at h8;rw[h8]; simp only[Zo,h1]
    .simp only[RelL];exact⟨_,vs,rfl,Qp1 I hd h4,h2⟩
   .cases h
  .cases h
theorem Qif {m:Nat->Nat->Prop} {w:World} :∀(ds:List D) (vs:List Value) (i:Nat),RelL m w ds vs->∀t x,Qv (QoD i ds) t=some x->∃d v,x= .d d/\i<=t/\vs[t - i]?=some v/\Rel m w d v
 | [],vs,i,_,t,x,h=>by cases h
 | d::ds,vs,i,hr,t,x,h=>by
  simp only[RelL]at hr;obtain⟨v,vt,rfl,h1,h2⟩:=hr;simp only[QoD,Qv]at h;by_cases ht:t=i
  .rw[if_pos ht]at h; cases h; subst ht;exact⟨d,v,rfl,Zr _,by simp,h1⟩
  .rw[if_neg ht]at h;obtain⟨d',v',h3,h4,h5,h6⟩:=Qif ds vt (i+1) h2 t x h;refine⟨d',v',h3,by omega,?_,h6⟩
   rw[show t - i=(t - (i+1))+1 by omega]; simpa using h5
def QdA (g:Gh) (w:World):Gh:= { g with tok:=λt=>match g.tok t with | some b=>(match w.heap[b]? with | some (.cells cs ty f)=>some b | _=>none) | none=>none}
theorem QgH {g:Gh} {w:World} {t b:Nat} (h:(QdA g w).tok t=some b):g.tok t=some b/\∃cs ty f,w.heap[b]?=some (.cells cs ty f):=by
 simp only[QdA]at h;split at h
 .rename_i b' hb;split at h
  .rename_i cs ty f hh;simp only[Zs]at h; subst h;exact⟨hb,cs,ty,f,hh⟩
  .cases h
 .cases h
theorem QnR {g:Gh} {w:World} {t b:Nat} {cs:Array Value} {ty:TypeId} {f:Nat×Nat} (h:g.tok t=some b) (hh:w.heap[b]?=some (.cells cs ty f)):(QdA g w).tok t=some b:=by
 simp only[QdA,h,hh]
theorem RelX.clean {g:Gh} {w:World} {base:Nat} {toks:List Nat} {x:X} {v:Value} (h:RelX g w base toks x v):RelX (QdA g w) w base toks x v:=by
 have key:∀{caps:List (Sum Nat D)} {vs:List Value},CapsR g w caps vs->CapsR (QdA g w) w caps vs:=λh=>QgA (g:=g) (g':=QdA g w) rfl rfl h;cases x with
 | fx f first caps=>
  obtain⟨fs,cs,h1,h2,h3⟩:=h;exact⟨fs,cs,h1,h2,key h3⟩
 | sl k rows own=>
  cases own with
  | ex=>exact h
  | tok t=>
   refine⟨h.1,h.2.1,λhm=>?_⟩;obtain⟨ad,cp,hv,hh⟩:=h.2.2 hm;refine⟨ad,cp,hv,hh.imp id ?_⟩;rintro⟨b,o,q1,q2,q4,cs,ty,q5,q6⟩;exact⟨b,o,QnR q1 q5,q2,q4,cs,ty,q5,q6⟩
  | own t=>
   refine⟨h.1,h.2.1,λhm=>?_⟩;obtain⟨ad,cp,hv,h0,h1,hh⟩:=h.2.2 hm;refine⟨ad,cp,hv,h0,h1,hh.imp id ?_⟩;rintro⟨b,o,q1,q2,q4,cs,ty,q5,q6⟩;exact⟨b,o,QnR q1 q5,q2,q4,cs,ty,q5,q6⟩
 | agb cs=>obtain⟨vs,h1,h2⟩:=h; exact⟨vs,h1,RelB.map (g:=g) (g':=QdA g w) (λ_ _ hx=>hx) (λ_ _ _ hb=>hb) h2⟩
 | _=>exact h
theorem Inv.clean {N:Nat} {g:Gh} {σ:St} {a:Act} {w:World} (I:Inv N m0 w0 g σ a w):Inv N m0 w0 (QdA g w) σ a w:=
 ⟨I.below,I.size,I.defers,I.lt,I.old,I.new,λt x h=>(I.tmps t x h).clean,I.boxb,I.boxi,λt b h=>I.tokb t b (QgH h).1,λs t b h h'=>I.toki s t b (QgH h).1 (QgH h').1,λb cs h blk hb=>by
  obtain⟨vs,ty,k1,k2,k3⟩:=I.boxes b cs h blk hb;exact⟨vs,ty,k1,k2,λj x v p1 p2=>⟨(k3 j x v p1 p2).1,(k3 j x v p1 p2).2.clean⟩⟩,I.out,I.fz,I.maps,I.cells⟩
structure OutSt (σ:St) (ns:List Cont) (tl:List Nat):Prop where
 cells:∀(j:Nat) (xs:List X),ns[j]?=some (.cells xs)->Qv σ.boxes (1000+j)=some xs
 maps:∀(j:Nat) (mc:Nat×List (Value×Value)),ns[j]?=some (.map mc)->Qv σ.maps (1000+j)=some mc
 toks:∀t∈tl,t∈σ.toks
theorem RelX.less {g:Gh} {w:World} {base:Nat} {t1 t2:List Nat} {x:X} {v:Value} (hs:∀t∈t2,t∈t1) (h:RelX g w base t1 x v):RelX g w base t2 x v:=by
 cases x with
 | sl k rows own=>
  cases own with
  | ex=>exact h
  | tok t=>exact⟨h.1,h.2.1,λhm=>h.2.2 (hs t hm)⟩
  | own t=>exact⟨h.1,h.2.1,λhm=>h.2.2 (hs t hm)⟩
 | _=>exact h
theorem Inv.outs {N:Nat} {g:Gh} {σ:St} {a:Act} {w:World} (I:Inv N m0 w0 g σ a w) {ns:List Cont} {tl:List Nat} (ho:OutSt σ ns tl) (hd:a.defers=[]) (dM:w0.df=[]):Inv 0 m0 w0 g ⟨[],Qck 0 ns,tl,Qey 0 ns⟩ ⟨#[],[]⟩ w:=
 ⟨I.below,rfl,⟨[],by rw[dM]; rfl,List.nodup_nil,λD h=>by cases h⟩,I.lt,I.old,I.new,λt x h=>(by cases h),I.boxb,I.boxi,I.tokb,I.toki,λb cs h blk hb=>by
  obtain⟨j,rfl,hj⟩:=QgL h;rw[Nat.add_zero]at hb;obtain⟨vs,ty,k1,k2,k3⟩:=I.boxes _ _ (ho.cells j cs hj) blk hb;exact⟨vs,ty,k1,k2,λj x v p1 p2=>⟨(k3 j x v p1 p2).1,(k3 j x v p1 p2).2.less ho.toks⟩⟩,I.out,I.fz,λb mc h blk hb=>by
  obtain⟨j,rfl,hj⟩:=Qh0 h;rw[Nat.add_zero]at hb;exact I.maps _ _ (ho.maps j mc hj) blk hb,I.cells⟩
theorem Inv.shut {N:Nat} {g:Gh} {σ:St} {tm:Array Value} {w:World} {D:Nat} {Ds:List Nat} (I:Inv N m0 w0 g σ ⟨tm,Qfy D::Ds.map Qfy⟩ w) (dM:w0.df=[]) (dT:∀p∈w0.fz,p.1≠D):(∃l,w.heap[D]?=some (.deferred l))/\Inv N m0 w0 (QdA g w) σ ⟨tm,Ds.map Qfy⟩ (w.putObj D (.deferred none)):=by
 have Ic:=I.clean;obtain⟨Ds',h1,h2,h3⟩:=I.defers;rw[dM,List.append_nil]at h1;have hDs':Ds'=D::Ds:=by
  have bZ:∀(l1 l2:List Nat),l1.map Qfy=l2.map Qfy->l1=l2:=by
   intro l1
   induction l1 with
   | nil=>intro l2 h; cases l2 with
    | nil=>rfl
    | cons _ _=>simp at h
   | cons x t ih=>
    intro l2 h;cases l2 with
    | nil=>simp at h
    | cons y u=>
     simp only[List.map_cons,List.cons.injEq]at h;have hxy:x=y:=by
      have:=h.1;simp only[Qfy,Deferred.mk.injEq,Target.collected.injEq,and_true]at this;exact this
     rw[hxy,ih u h.2]
  exact(bZ _ _ (by rw[List.map_cons]; exact h1)).symm
 subst hDs';obtain⟨pA,lK⟩:=List.nodup_cons.1 h2;obtain⟨hDb,pU⟩:=h3 D (by simp)
 refine⟨⟨_,pU⟩,?_⟩;have aR:D < w.heap.size:=(Zj.1 pU).1;have bH:∀k,k≠D->(w.putObj D (.deferred none)).heap[k]?=w.heap[k]?:=λk hk=>World.putObj_heap_other hk;have cC:(w.putObj D (.deferred none)).heap.size=w.heap.size:=World.putObj_size;have aW:∀b o,(w.putObj D (.deferred none)).cell? ⟨b,o,none⟩=w.cell? ⟨b,o,none⟩:=by
  intro b o;by_cases e:b=D
  .subst e;unfold World.cell?;simp only[World.putObj_heap_same aR,pU]
  .exact World.cell?_of_block (w:=w) (bH b e)
 have htok:∀t b,(QdA g w).tok t=some b->b≠D:=by
  intro t b h e;obtain⟨_,cs,ty,f,hh⟩:=QgH h;rw[e,pU]at hh; cases hh
 have e:Tr (QdA g w) w σ.toks (QdA g w) (w.putObj D (.deferred none)) σ.toks:=⟨⟨λ_ _ h=>h,λb o _=>aW b o⟩,λ_ _ h=>h,λ_ h=>h,λt _ h=>⟨h,λb hb=>⟨hb,λ_ hx=>hx,bH b (htok t b hb)⟩⟩⟩;refine⟨⟨Ic.below.os,Ic.below.tape,Ic.below.output,by rw[cC]; exact Ic.below.size,λk hk hn=>(bH k (λe=>by subst e; exact absurd hk (Nat.not_lt.2 hDb.1))).trans (Ic.below.block k hk hn)⟩,Ic.size,⟨Ds,by rw[dM,List.append_nil],lK,λD' yP=>⟨(h3 D' (by simp[yP])).1,(bH D' (λe=>pA (e ▸ yP))).trans (h3 D' (by simp[yP])).2⟩⟩,λb o h=>by rw[cC]; exact Ic.lt b o h,Ic.old,Ic.new,λt x h=>RelX.tr e (Ic.tmps t x h),λi b h=>by rw[cC]; exact Ic.boxb i b h,Ic.boxi,λt b h=>by rw[cC]; exact Ic.tokb t b h,Ic.toki,λb cs h blk hb=>BoxAt.tr e (Ic.boxes b cs h blk hb) (bH blk (λe=>?_)),Ic.out,λp hp=>⟨(bH _ (dT p hp)).trans (Ic.fz p hp).1,(Ic.fz p hp).2⟩,λi mc hi blk hb=>(Ic.maps i mc hi blk hb).keep (bH blk (λe=>?_)),⟨λb o h=>(aW b o).trans (Ic.cells.1 b o h),Ic.cells.2⟩⟩
 .obtain⟨vs,ty,k1,_⟩:=Ic.boxes b cs h blk hb;rw[e,pU]at k1; cases k1
 .obtain⟨l,cl,k1,_⟩:=Ic.maps i mc hi blk hb;rw[e,pU]at k1; cases k1
theorem QhH {n:Nat} {fn:Func} {tm:Array Value} {N:Nat} {σ:St} {R:Ending->World->Prop} (dM:w0.df=[]) (dT:w0.fz=[]) (cY:∀(g':Gh) (w':World),Inv N m0 w0 g' σ ⟨tm,[]⟩ w'->∃v,(results fn tm).run P w'= .ok v w'/\R (.returned v) w'):∀(Ds:List Nat) (g:Gh) (w:World),Inv N m0 w0 g σ ⟨tm,Ds.map Qfy⟩ w->LeavesInM Fence.wide n P fn tm R (Ds.map Qfy) .returning w
 | [],g,w,I=>by
  obtain⟨v,h1,h2⟩:=cY g w I;exact⟨v,h1,h2⟩
 | D::Ds,g,w,I=>by
  obtain⟨⟨l,hl⟩,I2⟩:=I.shut dM (by rw[dT]; intro p hp; cases hp)
  have pU:w.heap[D]?=some (.deferred (some [])):=by
   obtain⟨Ds',h1,h2,h3⟩:=I.defers;rw[dM,List.append_nil]at h1;have hm:D∈Ds':=by
    have:Qfy D∈Ds'.map Qfy:=by rw[<-h1]; simp
    obtain⟨y,hy,hye⟩:=List.mem_map.1 this;simp only[Qfy,Deferred.mk.injEq,Target.collected.injEq,and_true]at hye;rw[<-hye]; exact hy
   exact(h3 D hm).2
  exact⟨by simp,.inl ⟨D,_,rfl,run_takeDeferred pU,QhH dM dT cY Ds _ _ I2⟩⟩
theorem QiV {m:Nat->Nat->Prop} {fn:Func} {tm:Array Value} {w:World} {us:List Value} {r:List D} (h1:(fn.results.toList.mapM (QcN tm)).run P w= .ok us w) (h2:RelL m w r us):∃v,(results fn tm).run P w= .ok v w/\Rel m w (Qew r) v:=by
 have gP:(fn.results.mapM (QcN tm)).run P w= .ok us.toArray w:=by
  rw[Array.mapM_eq_mapM_toList,Sem.run_map,h1]; rfl
 have aH:(results fn tm).run P w= .ok (if h:us.toArray.size=1 then us.toArray[0]else .tuple us.toArray) w:=by
  have hR:results fn tm=(fn.results.mapM (QcN tm) >>=λvs=>pure (if h:vs.size=1 then vs[0]else .tuple vs)):=rfl;rw[hR,Sem.run_bind,gP]; rfl
 refine⟨_,aH,?_⟩;cases r with
 | nil=>
  simp only[RelL]at h2; subst h2;simp only[Qew,Rel];exact⟨[],by simp,by simp[RelL]⟩
 | cons d0 t=>
  simp only[RelL]at h2;obtain⟨u,ut,rfl,k1,k2⟩:=h2;cases t with
  | nil=>
   simp only[RelL]at k2; subst k2;simp only[Qew];simpa using k1
  | cons d1 t'=>
   have hk:=k2.length;have pA:¬(u::ut).toArray.size=1:=by
    rw[List.size_toArray,List.length_cons,hk,List.length_cons]; omega
   rw[dif_neg pA];simp only[Qew,Rel];exact⟨u::ut,rfl,by simp only[RelL]; exact⟨u,ut,rfl,k1,by simpa[RelL]using k2⟩⟩
theorem Qqp (hc:CxOk P c) {f:Nat} {fn:Func} {cd:Code} (hf:P.funcs[f]?=some fn) (hb:fn.body=some cd) (hN:fn.ntmps=c.N) {vs:List Value} (hl:vs.length<=c.N) (hd:Qav c.diff c.md c.pq cd=true) (aP:∀d∈QD cd,w0.out d=none) (dT:w0.fz=[]) (mH:w0.dOk) (dM:w0.df=[]) {σ σ':St} {e:AEx} (aS:∀i,e≠ .exit i) (pT:∀v,e≠ .pan v) (h:c.code cd σ=some (e,σ')) {g:Gh} {w:World}
  (I:Inv c.N m0 w0 g σ { tmps:=vs.toArray++Array.replicate (fn.ntmps - vs.toArray.size) undef,defers:=[]} w) {R:Ending->World->Prop} (hR:∀(g':Gh) (a':Act) (w':World),Inv c.N m0 w0 g' σ' a' w'->a'.defers=[]->∃v,(results fn a'.tmps).run P w'= .ok v w'/\R (.returned v) w'):Calls P f vs.toArray w R:=by
 refine(callsIn_wide (n:=0)).1 (callsIn_of_wp_marks hf hb trivial ?_);refine Qhy hc cd hd Fence.wide 0 (.inl rfl) m0 w0 (.inr ⟨rfl,mH,dM⟩) σ e σ' h aP g _ w I _ λg' a' w' I'=>?_;have dV:LeavesInM Fence.wide 0 P fn a'.tmps R a'.defers .returning w':=by
  obtain⟨Ds,h1,h2,h3⟩:=I'.defers;rw[dM,List.append_nil]at h1;have I2:Inv c.N m0 w0 g' σ' ⟨a'.tmps,Ds.map Qfy⟩ w':=by rw[<-h1]; exact I'
  rw[h1];exact QhH dM dT (λg2 w2 I3=>hR g2 ⟨a'.tmps,[]⟩ w2 I3 rfl) Ds g' w' I2
 cases e with
 | normal=>exact dV
 | exit i=>exact absurd rfl (aS i)
 | ret=>exact dV
 | pan v=>exact absurd rfl (pT v)
theorem QC5 {cd:Code} (h:Qzl cd=true) {out:Nat->Option Nat} (ho:∀i b,out i=some b->1000<=i):∀d∈QD cd,out d=none:=by
 intro d hd;have:=Zl.1 h d hd;simp only[decide_eq_true_eq]at this;cases hod:out d with
 | none=>rfl
 | some b=>have:=ho d b hod; omega
theorem Qm (hc:CxOk P c) {f:Nat} {fn:Func} {cd:Code} (hf:P.funcs[f]?=some fn) (hb:fn.body=some cd) (hN:fn.ntmps=c.N) {ds:List D} {d:D} (hl:ds.length<=c.N) (hd:Qav c.diff c.md c.pq cd=true) (h:c.call cd fn.results.toList ds=some d):PureC P f ds d:=by
 intro m w vs hm hG hr;have lF:=hr.length;have I0:Inv c.N m ⟨w,λ_=>none,λ_=>none,[],True,[]⟩ { imm:=m,box:=λ_=>none,tok:=λ_=>none,used:=λ_=>False} ⟨QoD 0 ds,[],[],[]⟩ { tmps:=vs.toArray++Array.replicate (fn.ntmps - vs.toArray.size) undef,defers:=[]} w:=by
  refine⟨KeepsW.refl _ _,by simp; omega,⟨[],rfl,List.nodup_nil,λD h=>by cases h⟩,hm,λ_ _ h=>h,λ_ _ h=> .inl h,λt x hx=>?_,λi b h=>(by cases h),λi j b h=>(by cases h),λt b h=>(by cases h),λs t b h=>(by cases h),λb cs h=>(by cases h),λi b h=>(by cases h),λp hp=>(by cases hp),λi mc h=>(by cases h),λ_ _ _=>rfl,hG⟩
  obtain⟨d',v',rfl,_,h5,h6⟩:=Qif ds vs 0 hr t x hx;simp only[Nat.sub_zero]at h5;have aR:t < vs.length:=(Zi.1 h5).1;have:(vs.toArray++Array.replicate (fn.ntmps - vs.toArray.size) undef).getD t undef=v':=by
   rw[Array.getD_eq_getD_getElem?,Array.getElem?_append,if_pos (by simpa using aR)]
   simp[h5]
  show RelX _ _ _ _ (.d d') _;rw[this]; exact h6
 unfold Cx.call at h;split at h
 .cases h
 .cases h
 .rename_i e σ aS pT hcode;split at h
  .rename_i r bS;simp only[Zs]at h; subst h;refine Qqp hc hf hb hN (by omega) hd (λ_ _=>rfl) rfl trivial rfl (λi e=>by subst e; exact aS i rfl) (λv e=>by subst e; exact pT v rfl) hcode I0 λg' a' w' I' _=>?_
   obtain⟨us,h1,h2⟩:=QgX hc I' fn.results.toList r bS;have bA:∀b,¬(⟨w,λ_=>none,λ_=>none,[],True,[]⟩:Base).writ b:=by
    rintro b (⟨i,hi⟩ | ⟨t,ht⟩)
    .cases hi
    .cases ht
   have hx:ExtM (Qka g') w' (λb o=>m b o\/(Qka g' b o/\w.heap.size<=b)) w':=⟨λb o h=>by
    rcases h with(h | ⟨i,h⟩) | ⟨s,h⟩
    .exact(I'.new b o h).imp id λh2=>⟨.inl (.inl h),h2.resolve_right (bA b)⟩
    .exact .inr ⟨.inl (.inr ⟨i,h⟩),(I'.boxb i b h).1.resolve_right (bA b)⟩
    .exact .inr ⟨.inr ⟨s,h⟩,(I'.tokb s b h).2.1.resolve_right (bA b)⟩,λ_ _ _=>rfl⟩
   obtain⟨v,h3,h4⟩:=QiV h1 (RelL.ext hx _ _ h2);exact⟨v,h3,v,(λb o=>Qka g' b o/\w.heap.size<=b),rfl,I'.below.below (λk hk=>bA k hk),λb o h=>⟨h.2,by
    rcases h.1 with(h | ⟨i,h⟩) | ⟨s,h⟩
    .exact I'.lt b o h
    .exact(I'.boxb i b h).2.1
    .exact(I'.tokb s b h).1⟩,h4⟩
  .cases h
 .cases h
def Qza:Nat->List X->List (Nat×X)
 | _,[]=>[]
 | i,x::t=>(i,x)::Qza (i+1) t
theorem QtF:∀(xs:List X) (i:Nat) {t:Nat} {x:X},Qv (Qza i xs) t=some x->∃j,t=i+j/\xs[j]?=some x
 | [],i,t,x,h=>by cases h
 | y::r,i,t,x,h=>by
  simp only[Qza,Qv]at h;split at h
  .rename_i e; simp only[Zs]at h; subst h; exact⟨0,by omega,rfl⟩
  .obtain⟨j,h1,h2⟩:=QtF r (i+1) h;exact⟨j+1,by omega,by simpa using h2⟩
def QvI (σ:St):Nat->List Cont->Option (List Cont)
 | _,[]=>some []
 | i,.cells _::t=>(match Qv σ.boxes (1000+i),QvI σ (i+1) t with
  | some xs,some r=>some (.cells xs::r)
  | _,_=>none)
 | i,.map _::t=>(match Qv σ.maps (1000+i),QvI σ (i+1) t with
  | some mc,some r=>some (.map mc::r)
  | _,_=>none)
theorem Qo6 {σ:St} :∀{cs:List Cont} {i:Nat} {ns:List Cont},QvI σ i cs=some ns->(∀(j:Nat) (xs:List X),ns[j]?=some (.cells xs)->Qv σ.boxes (1000+i+j)=some xs)/\∀(j:Nat) (mc:Nat×List (Value×Value)),ns[j]?=some (.map mc)->Qv σ.maps (1000+i+j)=some mc
 | [],i,ns,h=>by simp only[QvI,Zs]at h; subst h; exact⟨λj xs h=>by simp at h,λj mc h=>by simp at h⟩
 | .cells _::t,i,ns,h=>by
  simp only[QvI]at h;split at h
  .rename_i xs r h1 h2;simp only[Zs]at h; subst h;obtain⟨q1,q2⟩:=Qo6 h2;refine⟨λj ys hj=>?_,λj mc hj=>?_⟩
   .cases j with
    | zero=>simp at hj; subst hj; exact h1
    | succ j=>have:=q1 j ys (by simpa using hj); rw[show 1000+i+(j+1)=1000+(i+1)+j by omega]; exact this
   .cases j with
    | zero=>simp at hj
    | succ j=>have:=q2 j mc (by simpa using hj); rw[show 1000+i+(j+1)=1000+(i+1)+j by omega]; exact this
  .cases h
 | .map _::t,i,ns,h=>by
  simp only[QvI]at h;split at h
  .rename_i mc r h1 h2;simp only[Zs]at h; subst h;obtain⟨q1,q2⟩:=Qo6 h2;refine⟨λj ys hj=>?_,λj uR hj=>?_⟩
   .cases j with
    | zero=>simp at hj
    | succ j=>have:=q1 j ys (by simpa using hj); rw[show 1000+i+(j+1)=1000+(i+1)+j by omega]; exact this
   .cases j with
    | zero=>simp at hj; subst hj; exact h1
    | succ j=>have:=q2 j uR (by simpa using hj); rw[show 1000+i+(j+1)=1000+(i+1)+j by omega]; exact this
  .cases h
def Cx.callE (c:Cx) (cd:Code) (rs:List ResultVar) (xs:List X) (cs:List Cont) (tl:List Nat):Option (D×List Cont×List Nat):=
 match c.code cd ⟨Qza 0 xs,Qck 0 cs,tl,Qey 0 cs⟩with
 | some (.exit _,_)=>none
 | some (.pan _,_)=>none
 | some (_,σ)=>(match QuY c.Γ σ rs,QvI σ 0 cs with
  | some r,some ns=>some (Qew r,ns,(QqF σ.toks ns).toList)
  | _,_=>none)
 | none=>none
theorem Qcp (hc:CxOk P c) {f:Nat} {fn:Func} {cd:Code} (hf:P.funcs[f]?=some fn) (hb:fn.body=some cd) (hN:fn.ntmps=c.N) {xs:List X} {cs:List Cont} {tl:List Nat} {d:D} {ns:List Cont} {jR:List Nat} (hl:xs.length<=c.N) (hd:Qav c.diff c.md c.pq cd=true) (kV:Qzl cd=true) (h:c.callE cd fn.results.toList xs cs tl=some (d,ns,jR)):QF9 P f xs cs tl d ns jR:=by
 intro m w c8 tb vs fL I oA;obtain⟨lF,hva⟩:=oA;have I0:Inv c.N m (QyZ w c8 tb) (QCB m c8 tb) ⟨Qza 0 xs,Qck 0 cs,tl,Qey 0 cs⟩ { tmps:=vs.toArray++Array.replicate (fn.ntmps - vs.toArray.size) undef,defers:=[]} w:=by
  refine⟨I.below,by simp; omega,⟨[],rfl,List.nodup_nil,λD h=>by cases h⟩,I.lt,I.old,I.new,λt x hx=>?_,I.boxb,I.boxi,I.tokb,I.toki,I.boxes,I.out,I.fz,I.maps,I.cells⟩
  obtain⟨j,rfl,hj⟩:=QtF xs 0 hx;have aR:j < vs.length:=by rw[lF]; exact(Zi.1 hj).1
  have hjv:=hva j x vs[j] hj (Zg aR);have:(vs.toArray++Array.replicate (fn.ntmps - vs.toArray.size) undef).getD (0+j) undef=vs[j]:=by
   rw[Array.getD_eq_getD_getElem?,Array.getElem?_append,if_pos (by simpa using aR)]
   simp[aR]
  rw[this]; exact hjv
 unfold Cx.callE at h;split at h
 .cases h
 .cases h
 .rename_i e σ aS pT hcode;split at h
  .rename_i r ns' bS iS;simp only[Zs,Prod.mk.injEq]at h;obtain⟨rfl,rfl,rfl⟩:=h;refine Qqp hc hf hb hN (by omega) hd (QC5 kV λi b h=>(QcF.1 h).1) rfl trivial rfl (λi e=>by subst e; exact aS i rfl) (λv e=>by subst e; exact pT v rfl) hcode I0 λg' a' w' I' rZ=>?_
   obtain⟨us,h1,h2⟩:=QlW hc I' fn.results.toList r bS;obtain⟨v,h3,h4⟩:=QiV h1 h2;obtain⟨q1,q2⟩:=Qo6 iS;refine⟨v,h3,v,g',rfl,I'.outs ⟨λj xs hj=>by have:=q1 j xs hj; simpa using this,λj mc hj=>by have:=q2 j mc hj; simpa using this,λt ht=>?_⟩ rZ rfl,h4⟩
   cases ho:QqF σ.toks ns' with
   | none=>rw[ho]at ht; cases ht
   | some t'=>rw[ho]at ht; simp at ht; subst ht; exact Qia ho
  .cases h
 .cases h
end
end Go.Proofs.YtnfeakhkfehkhaaGreatDoor
