/-
  A slice of the call's own that a temporary holds becomes memory that stays; the other temporaries stay as they are told. For any program. No program here.
-/
import Derived.Test.YtnfeakhkfehkhaaGreatDoorZAmF
set_option linter.unusedSectionVars false
set_option linter.unusedSimpArgs false
set_option linter.unusedVariables false
namespace Go.Proofs.YtnfeakhkfehkhaaGreatDoor
open Go.RowKit
section
variable {P:Program} {c:Cx} {m0:Nat->Nat->Prop} {w0:Base} {g:Gh} {σ σ':St} {a:Act} {w:World}
def QQa (al:List Nat):List (Nat×X)->List (Nat×X)
 | []=>[]
 | (t,x)::r=>(t,x.keepP al)::QQa al r
theorem QQz {al:List Nat} :∀{l:List (Nat×X)} {t:Nat} {x:X},Qv (QQa al l) t=some x->∃y,Qv l t=some y/\x=y.keepP al
 | [],t,x,h=>by simp[QQa,Qv]at h
 | (i,y)::r,t,x,h=>by
  simp only[QQa,Qv]at h|-;split at h
  .rename_i e;rw[if_pos e];simp only[Zs]at h;exact⟨y,rfl,h.symm⟩
  .rename_i e;rw[if_neg e];exact QQz h
theorem Inv.forgetU (I:Inv c.N m0 w0 g σ a w) (ha:a.defers=w0.df) (al:List Nat) (aP:∀d∈al,w0.out d=none):Inv c.N m0 w0 (Q9 al g) (QcS al (QQa al σ.tmps) σ) a w:=by
 have I1:=(I.forget ha al aP).1;refine⟨I1.below,I1.size,I1.defers,I1.lt,I1.old,I1.new,λt x hx=>?_,I1.boxb,I1.boxi,I1.tokb,I1.toki,I1.boxes,I1.out,I1.fz,I1.maps,I1.cells⟩;obtain⟨y,hy,rfl⟩:=QQz hx;exact QiY (I.tmps t y hy)
theorem Inv.freezeU (I:Inv c.N m0 w0 g σ a w) (ha:a.defers=w0.df) {b n k t:Nat} {tail:List X} {rows:List (List D)}
  (hb:Qv σ.boxes b=some (rows.flatten.map X.d++tail)) (ht:Qv σ.tmps t=some (.bs b 0 n k)) (hall:∀r∈rows,r.length=k) (hn:rows.length=n) (gQ:n<=140737488355328) (aP:w0.out b=none):
  ∃g',Inv c.N m0 w0 g' (QcS [b] ((t,.d (.sl k rows))::QQa [b] σ.tmps) σ) a w:=by
 obtain⟨blk,bR,aG,hv,nV⟩:=I.tmps t _ ht;have I1:=I.forgetU ha [b] (λd hd=>by rw[List.mem_singleton.1 hd]; exact aP)
 obtain⟨cv,ty,hh,hs,hc⟩:=I.boxes b _ hb blk aG;have fE:=I.boxb b blk aG;have bC:∀i b',(Q9 [b] g).box i=some b'->i≠b/\g.box i=some b':=λi b' h=>by
  simp only[Q9]at h;split at h
  .cases h
  .rename_i hn;exact⟨λe=>hn (by subst e; simp),h⟩
 have e:Tr (Q9 [b] g) w σ.toks { Q9 [b] g with imm:=λk o=>g.imm k o\/k=blk} w σ.toks:=
  ⟨⟨λ_ _ h=> .inl h,λ_ _ _=>rfl⟩,λ_ _ h=>h,λ_ h=>h,λt _ h=>⟨h,λb' dX=>⟨dX,λx hx=>hx.resolve_right λe=>(I.tokb t b' dX).2.2 b (by rw[aG,e]),rfl⟩⟩⟩
 have cC:rows.flatten.length<=cv.size:=by
  have:(rows.flatten.map X.d++tail).length<=cv.size:=hs;rw[List.length_append,List.length_map]at this; omega
 have wM:∀(j:Nat) (d:D) (u:Value),rows.flatten[j]?=some d->cv[j]?=some u->u.oneCell'=true/\Rel (λk o=>g.imm k o\/k=blk) w d u:=λj d u h1 h2=>by
  have hj:j < rows.flatten.length:=(Zi.1 h1).1;obtain⟨p1,p2⟩:=hc j (.d d) u (by rw[List.getElem?_append,List.length_map,if_pos hj,List.getElem?_map,h1]; rfl) h2
  exact⟨p1,Rel.ext ⟨λ_ _ h=> .inl h,λ_ _ _=>rfl⟩ _ _ p2⟩
 have bG:RelRows (λk o=>g.imm k o\/k=blk) w rows blk 0 k:=by
  refine QoQ (xs:=cv.toList.take rows.flatten.length) hall (RelL.of (by rw[List.length_take,Array.length_toList]; exact Nat.min_eq_left cC) λj d u h1 h2=>?_) λj u h=>?_
  .rw[List.getElem?_take]at h2;split at h2
   .exact(wM j d u h1 (by simpa using h2)).2
   .cases h2
  .rw[List.getElem?_take]at h;split at h
   .rename_i hj;have h':cv[j]?=some u:=by simpa using h
    refine⟨.inr rfl,?_,(wM j _ u (Zg hj) h').1⟩;have:=Qds blk (0+j) 0 cv ty hh;simpa[h']using this
   .cases h
 refine⟨{ Q9 [b] g with imm:=λk o=>g.imm k o\/k=blk},?_⟩
 refine⟨I1.below,I1.size,I1.defers,λk o h=>h.elim (I1.lt k o) (λe=>by subst e; exact fE.2.1),λk o h=> .inl (I1.old k o h),λk o h=>h.elim (I1.new k o) (λe=>by subst e; exact .inr fE.1),λt' x hx=>?_,λi b' h=>?_,I1.boxi,I1.tokb,I1.toki,λb' bM h cL aT=>BoxAt.tr e (I1.boxes b' bM h cL aT) rfl,I1.out,I1.fz,I1.maps,I1.cells⟩
 .simp only[QcS,Qv]at hx;split at hx
  .rename_i iN;subst iN;simp only[Zs]at hx;subst hx;rw[hv];simp only[RelX,Rel];exact⟨by rw[hn]; exact gQ,_,bR,by rw[hn],by rw[hn]; exact nV,.inr ⟨blk,0,rfl,bG⟩⟩
  .exact RelX.tr e (I1.tmps t' x hx)
 .obtain⟨h1,h2⟩:=bC i b' h;have:=I.boxb i b' h2;exact⟨this.1,this.2.1,λo ho=>ho.elim (this.2.2 o) λe=>h1 (I.boxi i b b' h2 (by rw[aG,e]))⟩
theorem QQF (hc:CxOk P c) {b n k t:Nat} {tail:List X} {rows:List (List D)}
  (hb:Qv σ.boxes b=some (rows.flatten.map X.d++tail)) (ht:Qv σ.tmps t=some (.bs b 0 n k)) (hall:∀r∈rows,r.length=k) (hn:rows.length=n) (gQ:n<=140737488355328) (aP:w0.out b=none) (I:Inv c.N m0 w0 g σ a w) (ha:a.defers=w0.df):
  ∃g',Inv c.N m0 w0 g' (QcS [b] ((t,.d (.sl k rows))::QQa [b] σ.tmps) σ) a w:=I.freezeU ha hb ht hall hn gQ aP
end
end Go.Proofs.YtnfeakhkfehkhaaGreatDoor
