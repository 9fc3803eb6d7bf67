/-
  Data as the plain machine takes it; functions that are told of by plain functions. For any program. No program here.
-/
import Derived.Test.YtnfeakhkfehkhaaGreatDoorZAmD
import Derived.ProofKit
set_option linter.unusedSimpArgs false
set_option linter.unusedVariables false
namespace Go.Proofs.YtnfeakhkfehkhaaGreatDoor
open Go.RowKit
abbrev DI (n:Int):D:= .v (.int .i64 n)
abbrev DB (b:Bool):D:= .v (.bool b)
abbrev DS (s:ByteArray):D:= .v (.string s)
def DImp (a b:D):Prop:=∀(m:Nat->Nat->Prop) (w:World) (v:Value),Rel m w a v->Rel m w b v
def LImp:List D->List D->Prop
 | [],bs=>bs=[]
 | a::t,bs=>∃b u,bs=b::u/\DImp a b/\LImp t u
theorem DImp.refl (a:D):DImp a a:=λ_ _ _ h=>h
theorem LImp.refl:∀l:List D,LImp l l
 | []=>rfl
 | a::t=>⟨a,t,rfl,DImp.refl a,LImp.refl t⟩
theorem LImp.rel {m:Nat->Nat->Prop} {w:World} :∀{as bs:List D} {vs:List Value},LImp as bs->RelL m w as vs->RelL m w bs vs
 | [],bs,vs,h,hr=>by simp only[LImp]at h; subst h; exact hr
 | a::t,bs,vs,h,hr=>by
  obtain⟨b,u,rfl,h1,h2⟩:=h;simp only[RelL]at hr|-;obtain⟨v,vt,rfl,r1,r2⟩:=hr;exact⟨v,vt,rfl,h1 _ _ _ r1,LImp.rel h2 r2⟩
theorem LImp.cells {m:Nat->Nat->Prop} {w:World} :∀{as bs:List D} {b o:Nat},LImp as bs->RelCells m w as b o->RelCells m w bs b o
 | [],bs,b,o,h,hr=>by simp only[LImp]at h; subst h; exact hr
 | a::t,bs,bb,o,h,hr=>by
  obtain⟨b,u,rfl,h1,h2⟩:=h;simp only[RelCells]at hr|-;obtain⟨⟨v,r1,r2,r3,r4⟩,r5⟩:=hr;exact⟨⟨v,r1,r2,r3,h1 _ _ _ r4⟩,LImp.cells h2 r5⟩
theorem LImp.length:∀{as bs:List D},LImp as bs->as.length=bs.length
 | [],bs,h=>by simp only[LImp]at h; subst h; rfl
 | a::t,bs,h=>by obtain⟨b,u,rfl,_,h2⟩:=h; simp[LImp.length h2]
theorem LImp.agg {as bs:List D} (h:LImp as bs):DImp (.agg as) (.agg bs):=λm w v hr=>by
 simp only[Rel]at hr|-;obtain⟨vs,h1,h2,h3⟩:=hr;exact⟨vs,h1,h2,h.rel h3⟩
theorem LImp.tup {as bs:List D} (h:LImp as bs):DImp (.tup as) (.tup bs):=λm w v hr=>by
 simp only[Rel]at hr|-;obtain⟨vs,h1,h3⟩:=hr;exact⟨vs,h1,h.rel h3⟩
def RImp:List (List D)->List (List D)->Prop
 | [],bs=>bs=[]
 | a::t,bs=>∃b u,bs=b::u/\LImp a b/\RImp t u
theorem RImp.rows {m:Nat->Nat->Prop} {w:World} {b k:Nat} :∀{as bs:List (List D)} {o:Nat},RImp as bs->RelRows m w as b o k->RelRows m w bs b o k
 | [],bs,o,h,hr=>by simp only[RImp]at h; subst h; exact hr
 | a::t,bs,o,h,hr=>by
  obtain⟨b',u,rfl,h1,h2⟩:=h;simp only[RelRows]at hr|-;obtain⟨⟨r1,r2⟩,r3⟩:=hr;exact⟨⟨by rw[<-h1.length]; exact r1,h1.cells r2⟩,RImp.rows h2 r3⟩
theorem RImp.length:∀{as bs:List (List D)},RImp as bs->as.length=bs.length
 | [],bs,h=>by simp only[RImp]at h; subst h; rfl
 | a::t,bs,h=>by obtain⟨b,u,rfl,_,h2⟩:=h; simp[RImp.length h2]
theorem RImp.sl {k:Nat} {as bs:List (List D)} (h:RImp as bs):DImp (.sl k as) (.sl k bs):=λm w v hr=>by
 have hl:=h.length;simp only[Rel]at hr|-;rw[<-hl];obtain⟨h0,a,c,h1,h2,h3⟩:=hr;refine⟨h0,a,c,h1,h2,?_⟩;rcases h3 with h3 | ⟨b,o,h4,h5⟩
 .left; subst h3; simp only[RImp]at h; exact h
 .exact .inr ⟨b,o,h4,h.rows h5⟩
theorem QFG (k k':Nat):DImp (.sl k []) (.sl k' []):=λm w v hr=>by
 simp only[Rel]at hr|-;obtain⟨h0,a,c,h1,h2,h3⟩:=hr;exact⟨h0,a,c,h1,h2,.inl trivial⟩
structure Cod (α:Type) where
 enc:α->D
 dec:D->Option α
 ed:∀d x,dec d=some x->DImp d (enc x)
structure Row (α:Type) where
 k:Nat
 enc:α->List D
 dec:List D->Option α
 de:∀x,dec (enc x)=some x
 ed:∀d x,dec d=some x->LImp d (enc x)
def Qbh:Cod Int:=⟨DI,λd=>match d with | .v (.int .i64 n)=>some n | _=>none,λd x h=>by
 split at h
 .cases h; exact DImp.refl _
 .cases h⟩
def cK (k:IntKind):Cod Int:=⟨λn=> .v (.int k n),λd=>match d with | .v (.int k' n)=>if k'=k then some n else none | _=>none,λd x h=>by
 split at h
 .split at h
  .rename_i e; subst e; cases h; exact DImp.refl _
  .cases h
 .cases h⟩
def QaI:Cod Bool:=⟨DB,λd=>match d with | .v (.bool n)=>some n | _=>none,λd x h=>by
 split at h
 .cases h; exact DImp.refl _
 .cases h⟩
def QmM:Cod ByteArray:=⟨DS,λd=>match d with | .v (.string n)=>some n | _=>none,λd x h=>by
 split at h
 .cases h; exact DImp.refl _
 .cases h⟩
def QfX {α:Type} (r:Row α):List (List D)->Option (List α)
 | []=>some []
 | x::t=>match r.dec x,QfX r t with
  | some y,some ys=>some (y::ys)
  | _,_=>none
theorem Qo3 {α:Type} (r:Row α) (l:List α):QfX r (l.map r.enc)=some l:=by
 induction l with
 | nil=>rfl
 | cons x t ih=>simp only[List.map_cons,QfX,r.de,ih]
theorem QkE {α:Type} (r:Row α):∀(rows:List (List D)) (l:List α),QfX r rows=some l->RImp rows (l.map r.enc)
 | [],l,h=>by simp only[QfX,Zs]at h; subst h; rfl
 | x::t,l,h=>by
  simp only[QfX]at h;split at h
  .rename_i y ys h1 h2;cases h;exact⟨r.enc y,_,rfl,r.ed _ _ h1,QkE r t ys h2⟩
  .cases h
def Qw0 {α:Type} (r:Row α) (k:Nat) (rows:List (List D)):Option (List α):=if k=r.k then QfX r rows else(match rows with | []=>some [] | _=>none)
def Qy {α:Type} (r:Row α):Cod (List α):=⟨λl=> .sl r.k (l.map r.enc),λd=>match d with | .sl k rows=>Qw0 r k rows | _=>none,λd x h=>by
 split at h
 .rename_i k rows;unfold Qw0 at h;split at h
  .rename_i hk; subst hk;exact(QkE r _ _ h).sl
  .split at h
   .cases h; exact QFG _ _
   .cases h
 .cases h⟩
theorem QaY {α:Type} (r:Row α) (l:List α) (k:Nat) (h:k=r.k):(Qy r).dec (.sl k (l.map r.enc))=some l:=by
 simp only[Qy,Qw0,if_pos h,Qo3]
def QeC {α:Type} (r:Row α):Cod α:=⟨λx=> .agg (r.enc x),λd=>match d with | .agg cs=>r.dec cs | _=>none,λd x h=>by
 split at h
 .exact(r.ed _ _ h).agg
 .cases h⟩
def Qex {α β:Type} (A:Cod α) (B:Cod β):Cod (α×β):=⟨λx=> .tup [A.enc x.1,B.enc x.2],λd=>match d with | .tup [a,b]=>(match A.dec a,B.dec b with | some x,some y=>some (x,y) | _,_=>none) | _=>none,λd x h=>by
 split at h
 .split at h
  .rename_i p q h1 h2; cases h; exact LImp.tup ⟨_,_,rfl,A.ed _ _ h1,_,_,rfl,B.ed _ _ h2,rfl⟩
  .cases h
 .cases h⟩
def QlK {α β γ:Type} (A:Cod α) (B:Cod β) (C:Cod γ):Cod (α×β×γ):=⟨λx=> .tup [A.enc x.1,B.enc x.2.1,C.enc x.2.2],λd=>match d with | .tup [a,b,c]=>(match A.dec a,B.dec b,C.dec c with | some x,some y,some z=>some (x,y,z) | _,_,_=>none) | _=>none,λd x h=>by
 split at h
 .split at h
  .rename_i p q r h1 h2 h3; cases h; exact LImp.tup ⟨_,_,rfl,A.ed _ _ h1,_,_,rfl,B.ed _ _ h2,_,_,rfl,C.ed _ _ h3,rfl⟩
  .cases h
 .cases h⟩
def Qt:Row Int:=⟨1,λx=>[DI x],λd=>match d with | [.v (.int .i64 n)]=>some n | _=>none,λ_=>rfl,λd x h=>by
 split at h
 .cases h; exact LImp.refl _
 .cases h⟩
def Qf7:Row ByteArray:=⟨1,λx=>[DS x],λd=>match d with | [.v (.string n)]=>some n | _=>none,λ_=>rfl,λd x h=>by
 split at h
 .cases h; exact LImp.refl _
 .cases h⟩
def rK (k:IntKind):Row Int:=⟨1,λx=>[.v (.int k x)],λd=>match d with | [.v (.int k' n)]=>if k'=k then some n else none | _=>none,λ_=>by simp,λd x h=>by
 split at h
 .split at h
  .rename_i e; subst e; cases h; exact LImp.refl _
  .cases h
 .cases h⟩
theorem Qg:Qt.k=1:=rfl
theorem QfJ:Qf7.k=1:=rfl
theorem QL3 (k:IntKind):(rK k).k=1:=rfl
theorem Qc (x:Int):Qt.enc x=[DI x]:=rfl
theorem QaO (x:ByteArray):Qf7.enc x=[DS x]:=rfl
theorem QEx (k:IntKind) (x:Int):(rK k).enc x=[.v (.int k x)]:=rfl
theorem QmD (x:Int):Qbh.enc x=DI x:=rfl
theorem QeF (x:Bool):QaI.enc x=DB x:=rfl
theorem Qc1 (x:ByteArray):QmM.enc x=DS x:=rfl
theorem QEP (k:IntKind) (x:Int):(cK k).enc x= .v (.int k x):=rfl
theorem Qam (x:Int):Qbh.dec (DI x)=some x:=rfl
theorem QvD (x:Bool):QaI.dec (DB x)=some x:=rfl
theorem Qp8 (x:ByteArray):QmM.dec (DS x)=some x:=rfl
theorem QE9 (k:IntKind) (x:Int):(cK k).dec (.v (.int k x))=some x:=by simp[cK]
theorem Qbk {α:Type} (r:Row α) (l:List α):(Qy r).enc l= .sl r.k (l.map r.enc):=rfl
theorem Qqg {α:Type} (r:Row α) (x:α):(QeC r).enc x= .agg (r.enc x):=rfl
theorem Qbq {α:Type} (r:Row α) (l:List D):(QeC r).dec (.agg l)=r.dec l:=rfl
theorem QQ (l:List Int):(Qy Qt).dec (.sl 1 (l.map Qt.enc))=some l:=QaY Qt l 1 rfl
theorem Qcd (l:List ByteArray):(Qy Qf7).dec (.sl 1 (l.map Qf7.enc))=some l:=QaY Qf7 l 1 rfl
theorem QBV (k:IntKind) (l:List Int):(Qy (rK k)).dec (.sl 1 (l.map (rK k).enc))=some l:=QaY (rK k) l 1 rfl
theorem Qar {α:Type} (r:Row α) (k:Nat):(Qy r).dec (.sl k [])=some []:=by
 simp only[Qy,Qw0]; split<;>rfl
theorem Qiu {α β:Type} (A:Cod α) (B:Cod β) (x:α×β):(Qex A B).enc x= .tup [A.enc x.1,B.enc x.2]:=rfl
theorem QnF {α β γ:Type} (A:Cod α) (B:Cod β) (C:Cod γ) (x:α×β×γ):(QlK A B C).enc x= .tup [A.enc x.1,B.enc x.2.1,C.enc x.2.2]:=rfl
theorem Qtj {α β:Type} (A:Cod α) (B:Cod β) (a b:D):(Qex A B).dec (.tup [a,b])=(match A.dec a,B.dec b with | some x,some y=>some (x,y) | _,_=>none):=rfl
theorem Qvv {α β γ:Type} (A:Cod α) (B:Cod β) (C:Cod γ) (a b c:D):(QlK A B C).dec (.tup [a,b,c])=(match A.dec a,B.dec b,C.dec c with | some x,some y,some z=>some (x,y,z) | _,_,_=>none):=rfl
theorem Qsw {α β:Type} (a:α) (f:α->Option β):(some a).bind f=f a:=rfl
theorem PureC.out {P:Program} {f:Nat} {ds:List D} {d d':D} (h:PureC P f ds d) (hi:DImp d d'):PureC P f ds d':=λm w vs hm hG hr=>(h m w vs hm hG hr).mono λe w' ⟨v,m',h1,h2,h3,h4⟩=>⟨v,m',h1,h2,h3,hi _ _ _ h4⟩
theorem Qbz {P:Program} {c:Cx} {α:Type} (R:Cod α) (r:α) (hc:CxOk P c) {f:Nat} {fn:Func} {cd:Code} (hf:P.funcs[f]?=some fn) (hb:fn.body=some cd) (hN:fn.ntmps=c.N) {ds:List D} (hl:ds.length<=c.N) (hd:Qav c.diff c.md c.pq cd=true) (h:(c.call cd fn.results.toList ds).bind R.dec=some r):PureC P f ds (R.enc r):=by
 obtain⟨d,h1,h2⟩:=Option.bind_eq_some_iff.1 h;exact(Qm hc hf hb hN hl hd h1).out (R.ed _ _ h2)
def sp0 {ρ:Type} (R:Cod ρ) (f:Option ρ):List D->Option D
 | []=>f.map R.enc
 | _=>none
def sp1 {α ρ:Type} (A:Cod α) (R:Cod ρ) (f:α->Option ρ):List D->Option D
 | [a]=>match A.dec a with | some x=>(f x).map R.enc | none=>none
 | _=>none
def sp2 {α β ρ:Type} (A:Cod α) (B:Cod β) (R:Cod ρ) (f:α->β->Option ρ):List D->Option D
 | [a,b]=>match A.dec a,B.dec b with | some x,some y=>(f x y).map R.enc | _,_=>none
 | _=>none
def sp3 {α β γ ρ:Type} (A:Cod α) (B:Cod β) (C:Cod γ) (R:Cod ρ) (f:α->β->γ->Option ρ):List D->Option D
 | [a,b,c]=>match A.dec a,B.dec b,C.dec c with | some x,some y,some z=>(f x y z).map R.enc | _,_,_=>none
 | _=>none
def sp4 {α β γ δ ρ:Type} (A:Cod α) (B:Cod β) (C:Cod γ) (E:Cod δ) (R:Cod ρ) (f:α->β->γ->δ->Option ρ):List D->Option D
 | [a,b,c,e]=>match A.dec a,B.dec b,C.dec c,E.dec e with | some x,some y,some z,some u=>(f x y z u).map R.enc | _,_,_,_=>none
 | _=>none
def sp5 {α β γ δ ε ρ:Type} (A:Cod α) (B:Cod β) (C:Cod γ) (E:Cod δ) (G:Cod ε) (R:Cod ρ) (f:α->β->γ->δ->ε->Option ρ):List D->Option D
 | [a,b,c,e,g]=>match A.dec a,B.dec b,C.dec c,E.dec e,G.dec g with | some x,some y,some z,some u,some v=>(f x y z u v).map R.enc | _,_,_,_,_=>none
 | _=>none
theorem PureC.imp {P:Program} {f:Nat} {ds cT:List D} {d:D} (h:PureC P f cT d) (hi:LImp ds cT):PureC P f ds d:=λm w vs hm hG hr=>h m w vs hm hG (hi.rel hr)
section
variable {P:Program} {f:Nat}
theorem QyH {ρ:Type} {R:Cod ρ} {F:Option ρ} (h:∀r,F=some r->PureC P f [] (R.enc r)):∀ds d,sp0 R F ds=some d->PureC P f ds d:=by
 intro ds d hd;unfold sp0 at hd;split at hd
 .obtain⟨r,hr,rfl⟩:=Option.map_eq_some_iff.1 hd;exact h r hr
 .cases hd
theorem Qb2 {α ρ:Type} {A:Cod α} {R:Cod ρ} {F:α->Option ρ} (h:∀x r,F x=some r->PureC P f [A.enc x] (R.enc r)):∀ds d,sp1 A R F ds=some d->PureC P f ds d:=by
 intro ds d hd;unfold sp1 at hd;split at hd
 .split at hd
  .rename_i x hx;obtain⟨r,hr,rfl⟩:=Option.map_eq_some_iff.1 hd;exact(h x r hr).imp ⟨_,_,rfl,A.ed _ _ hx,rfl⟩
  .cases hd
 .cases hd
theorem QaR {α β ρ:Type} {A:Cod α} {B:Cod β} {R:Cod ρ} {F:α->β->Option ρ} (h:∀x y r,F x y=some r->PureC P f [A.enc x,B.enc y] (R.enc r)):∀ds d,sp2 A B R F ds=some d->PureC P f ds d:=by
 intro ds d hd;unfold sp2 at hd;split at hd
 .split at hd
  .rename_i x y hx hy;obtain⟨r,hr,rfl⟩:=Option.map_eq_some_iff.1 hd;exact(h x y r hr).imp ⟨_,_,rfl,A.ed _ _ hx,_,_,rfl,B.ed _ _ hy,rfl⟩
  .cases hd
 .cases hd
theorem QcG {α β γ ρ:Type} {A:Cod α} {B:Cod β} {C:Cod γ} {R:Cod ρ} {F:α->β->γ->Option ρ} (h:∀x y z r,F x y z=some r->PureC P f [A.enc x,B.enc y,C.enc z] (R.enc r)):∀ds d,sp3 A B C R F ds=some d->PureC P f ds d:=by
 intro ds d hd;unfold sp3 at hd;split at hd
 .split at hd
  .rename_i x y z hx hy hz;obtain⟨r,hr,rfl⟩:=Option.map_eq_some_iff.1 hd;exact(h x y z r hr).imp ⟨_,_,rfl,A.ed _ _ hx,_,_,rfl,B.ed _ _ hy,_,_,rfl,C.ed _ _ hz,rfl⟩
  .cases hd
 .cases hd
theorem Qjb {α β γ δ ρ:Type} {A:Cod α} {B:Cod β} {C:Cod γ} {E:Cod δ} {R:Cod ρ} {F:α->β->γ->δ->Option ρ} (h:∀x y z u r,F x y z u=some r->PureC P f [A.enc x,B.enc y,C.enc z,E.enc u] (R.enc r)):∀ds d,sp4 A B C E R F ds=some d->PureC P f ds d:=by
 intro ds d hd;unfold sp4 at hd;split at hd
 .split at hd
  .rename_i x y z u hx hy hz hu;obtain⟨r,hr,rfl⟩:=Option.map_eq_some_iff.1 hd;exact(h x y z u r hr).imp ⟨_,_,rfl,A.ed _ _ hx,_,_,rfl,B.ed _ _ hy,_,_,rfl,C.ed _ _ hz,_,_,rfl,E.ed _ _ hu,rfl⟩
  .cases hd
 .cases hd
def Qas (l:List (Nat×(List D->Option D))) (f:Nat) (ds:List D):Option D:=match Qv l f with | some s=>s ds | none=>none
theorem QB:Qay P (Qas []):=λf ds d h=>by cases h
theorem Ql {l:List (Nat×(List D->Option D))} {s:List D->Option D} (hl:Qay P (Qas l)) (he:∀xs w,(callFunc f xs).run P w= .ok (.enter f xs) w) (hs:∀ds d,s ds=some d->PureC P f ds d) (cH:QEA.contains f=true->∀ds d,s ds=some d->Qtx P f ds d:=by exact λh=>absurd h (by decide)):Qay P (Qas ((f,s)::l)):=by
 intro g ds d h;unfold Qas at h;simp only[Qv]at h;by_cases e:g=f
 .subst e; rw[if_pos rfl]at h; exact⟨he,hs ds d h,λhc=>cH hc ds d h⟩
 .rw[if_neg e]at h; exact hl g ds d h
def Qkc:List (Nat×(List D->Option Value))->Nat->List D->Option Value
 | [],_,_=>none
 | (f,s)::t,g,ds=>if g=f then s ds else Qkc t g ds
theorem QzG {P:Program} :QoG P (Qkc []):=λ_ _ _ h=>by cases h
theorem QqL {P:Program} {f:Nat} {s:List D->Option Value} {t:List (Nat×(List D->Option Value))} (ht:QoG P (Qkc t)) (hc:∀xs w,(callFunc f xs).run P w= .ok (.enter f xs) w) (h:∀ds v,s ds=some v->Qqk P f ds v):QoG P (Qkc ((f,s)::t)):=by
 intro g ds v hg;simp only[Qkc]at hg;split at hg
 .rename_i e; subst e; exact⟨hc,h ds v hg⟩
 .exact ht g ds v hg
theorem Qib {P:Program} :QoG P (λ_ _=>none):=λ_ _ _ h=>by cases h
end
def Cx.loop (c:Cx) (a:Code) (σ:St):Option (AEx×St):=iter (c.code a) c.F σ
def Cx.seqK (c:Cx) (b:Code):Option (AEx×St)->Option (AEx×St)
 | some (.normal,σ')=>c.code b σ'
 | r=>r
def QCu (id:Nat):Option (AEx×St)->Option (AEx×St)
 | some (.exit j,σ')=>if j=id then some (.normal,σ')else some (.exit j,σ')
 | r=>r
def QCx:Option St->Option (AEx×St)
 | some σ'=>some (.normal,σ')
 | none=>none
def Cx.closeK (c:Cx) (id:Nat):Option St->Option St
 | some σ'=>some (c.close id σ')
 | none=>none
def Cx.closeD (c:Cx) (id:Nat) (ops:List Oper):Option St->Option St
 | some σ'=>if Qg9 ops σ' (c.diff id)then some (c.close id σ')else none
 | none=>none
def Cx.opsK (c:Cx) (ops:List Oper) (i:Nat) (t:List Oper):Option St->Option St
 | some σ'=>c.ops ops (i+1) t σ'
 | none=>none
def Cx.opsEK (c:Cx) (ops:List Oper) (i:Nat) (t:List Oper):Option St->Option St
 | some σ'=>c.opsE ops (i+1) t σ'
 | none=>none
def Cx.effK (c:Cx) (i:Nat) (o:Oper) (σ:St):Option Bool->Option St
 | some true=>c.eff i o σ
 | _=>none
def Cx.stepEK (c:Cx) (ops:List Oper) (i:Nat) (o:Oper) (σ:St):Option St->Option St
 | some σ'=>some σ'
 | none=>c.effK i o σ (QaL ops σ o)
def Cx.putK (c:Cx) (i:Nat) (d:Option Nat) (σ:St):Option Res->Option St
 | some r=>σ.put c.N i d r
 | none=>none
def Cx.stepK (c:Cx) (i:Nat) (o:Oper) (σ:St):Option Bool->Option St
 | some true=>c.putK i o.dst σ (aop c.Γ c.eqs c.Δ o.op σ.ev σ.boxes σ.toks)
 | some false=>σ.put c.N i o.dst .skip
 | none=>none
def Cx.condK (c:Cx) (a b:Code) (σ:St):X->Option (AEx×St)
 | .d (.v (.bool t))=>(match t with | true=>c.code a σ | false=>c.code b σ)
 | _=>none
def Cx.callK (c:Cx) (rs:List ResultVar):Option (AEx×St)->Option D
 | some (.exit _,_)=>none
 | some (.pan _,_)=>none
 | some (_,σ)=>(match Qfx c.Γ σ rs with
  | some r=>some (Qew r)
  | none=>none)
 | none=>none
def Cx.callEK (c:Cx) (rs:List ResultVar) (cs:List Cont):Option (AEx×St)->Option (D×List Cont×List Nat)
 | some (.exit _,_)=>none
 | some (.pan _,_)=>none
 | some (_,σ)=>(match QuY c.Γ σ rs,QvI σ 0 cs with
  | some r,some ns=>some (Qew r,ns,(QqF σ.toks ns).toList)
  | _,_=>none)
 | none=>none
def Cx.regionM (c:Cx) (id:Nat) (ops:List Oper) (σ:St):Nat->Option St
 | 0=>c.region id ops σ
 | 1=>c.regionL id ops σ
 | _=>none
def Cx.lastK (c:Cx) (id n:Nat) (pr:List Oper) (o:Oper):Option St->Option St
 | some σ'=>if Qg9 pr σ' (c.diff id)then c.closeK id (c.eff n o σ')else none
 | none=>none
def Cx.regionLK (c:Cx) (id n:Nat) (pr:List Oper) (σ:St):List Oper->Option St
 | [o]=>(match o.guard,Qab o with
  | none,none=>if Qan (QP pr) σ then c.lastK id n pr o (c.ops pr 0 pr σ)else none
  | _,_=>none)
 | _=>none
def Qi3 (fa fb:St->Option (AEx×St)) (ps al:List Nat) (t0:List (Nat×X)) (xs:List Value) (σ:St):Option (AEx×St):=
 if xs.length=ps.length then(match fa { σ with tmps:=QsK ps xs++t0} with
  | some (.normal,σ1)=>(match fb σ1 with
   | some (.pan _,_)=>none
   | some (e,σ2)=>some (e,QcS al t0 σ2)
   | none=>none)
  | _=>none)else none
def QtP (al:List Nat) (t0:List (Nat×X)):Option (AEx×St)->Option (AEx×St)
 | some (.pan _,_)=>none
 | some (e,σ2)=>some (e,QcS al t0 σ2)
 | none=>none
def Cx.roundK (c:Cx) (b:Code) (al:List Nat) (t0:List (Nat×X)):Option (AEx×St)->Option (AEx×St)
 | some (.normal,σ1)=>QtP al t0 (c.code b σ1)
 | _=>none
def Cx.rounds (c:Cx) (a b:Code) (ps al:List Nat) (t0:List (Nat×X)) (l:List (List Value)) (σ:St):Option (AEx×St):=QdZ (c.code a) (c.code b) ps al t0 l σ
def Cx.rangeK (c:Cx) (ps:List Nat) (a b:Code) (σ:St):Option (List (List Value))->Option (AEx×St)
 | some l=>if QcP ps&&ps.all (λp=>decide (p < c.N))then c.rounds a b ps (QD a++QD b) (Qdm (QD a++QD b) σ.tmps) l (QcS (QD a++QD b) (Qdm (QD a++QD b) σ.tmps) σ)else none
 | none=>none
section
variable (c:Cx) (σ:St)
theorem Qvl:c.code .skip σ=some (.normal,σ):=rfl
theorem Qr9 (l:Nat):c.code (.label l) σ=some (.normal,σ):=rfl
theorem Qn1 (hp:c.pan=false) (id:Nat) (ops:Array Oper):c.code (.region id ops true) σ=QCx (c.regionM id ops.toList σ (c.md id)):=by
 have e:c.regionD id ops.toList σ=c.regionM id ops.toList σ (c.md id):=by
  unfold Cx.regionD;generalize c.md id=k
  match k with
  | 0=>rfl
  | 1=>rfl
  | 2=>rfl
  | m+3=>rfl
 simp only[Cx.code,QCx,e,hp]; cases c.regionM id ops.toList σ (c.md id)<;>rfl
theorem QsW (id:Nat) (ops:List Oper):c.regionM id ops σ 0=c.region id ops σ:=rfl
theorem Quz (id:Nat) (ops:List Oper):c.regionM id ops σ 1=c.regionLK id (ops.length - 1) (ops.take (ops.length - 1)) σ (ops.drop (ops.length - 1)):=by
 show c.regionL id ops σ=_;unfold Cx.regionL Cx.regionLK;simp only;generalize ops.drop (ops.length - 1)=l;cases l with
 | nil=>simp only; split<;>(try rfl); split<;>(try rfl); split<;>rfl
 | cons o t=>
  cases t with
  | cons o2 t2=>simp only; split<;>(try rfl); split<;>(try rfl); split<;>rfl
  | nil=>
   simp only;cases o.guard<;>cases Qab o<;>simp only<;>split<;>(try rfl)<;>(cases c.ops (ops.take (ops.length - 1)) 0 (ops.take (ops.length - 1)) σ<;>simp only[]<;>(try rfl))<;>split<;>(try rfl)<;>(rename_i σ' _; cases c.eff (ops.length - 1) o σ'<;>rfl)
theorem Qoc (id n:Nat) (pr:List Oper) (o:Oper):c.regionLK id n pr σ [o]=if(o.guard.isNone&&(Qab o).isNone)=true then(if Qan (QP pr) σ then c.lastK id n pr o (c.ops pr 0 pr σ)else none)else none:=by
 simp only[Cx.regionLK];cases o.guard<;>cases Qab o<;>rfl
theorem QrC (id n:Nat) (pr:List Oper) (o:Oper):c.lastK id n pr o (some σ)=if Qg9 pr σ (c.diff id)then c.closeK id (c.eff n o σ)else none:=rfl
theorem Qpx (id:Nat):c.closeK id none=none:=rfl
theorem QrT (g:Operand) (ps:Array Tmp) (a b:Code):c.code (.rangeFunc g ps a b) σ=c.rangeK ps.toList a b σ (c.iterOf (σ.ev g)):=by
 simp only[Cx.code,Cx.rangeK]; cases c.iterOf (σ.ev g)<;>rfl
theorem QoT (ps:List Nat) (a b:Code) (l:List (List Value)):c.rangeK ps a b σ (some l)=if QcP ps&&ps.all (λp=>decide (p < c.N))then c.rounds a b ps (QD a++QD b) (Qdm (QD a++QD b) σ.tmps) l (QcS (QD a++QD b) (Qdm (QD a++QD b) σ.tmps) σ)else none:=rfl
theorem Qz8 (al:List Nat) (t0:List (Nat×X)):QtP al t0 (some (.normal,σ))=some (.normal,QcS al t0 σ):=rfl
theorem Qz0 (al:List Nat) (t0:List (Nat×X)) (i:Nat):QtP al t0 (some (.exit i,σ))=some (.exit i,QcS al t0 σ):=rfl
theorem QzD (al:List Nat) (t0:List (Nat×X)):QtP al t0 (some (.ret,σ))=some (.ret,QcS al t0 σ):=rfl
theorem QxD (b:Code) (al:List Nat) (t0:List (Nat×X)):c.roundK b al t0 (some (.normal,σ))=QtP al t0 (c.code b σ):=rfl
theorem QrE (a b:Code) (ps al:List Nat) (t0:List (Nat×X)) (xs:List Value):Qi3 (c.code a) (c.code b) ps al t0 xs σ=if xs.length=ps.length then c.roundK b al t0 (c.code a { σ with tmps:=QsK ps xs++t0})else none:=by
 unfold Qi3;split
 .cases c.code a { σ with tmps:=QsK ps xs++t0} with
  | none=>rfl
  | some p=>
   obtain⟨e,σ1⟩:=p;cases e with
   | normal=>simp only[Cx.roundK]; cases c.code b σ1<;>rfl
   | _=>rfl
 .rfl
theorem Qog (hp:c.pan=false) (id:Nat) (ops:Array Oper):c.code (.region id ops false) σ=QCx (c.regionE id ops.toList σ):=by
 simp only[Cx.code,QCx,hp]; cases c.regionE id ops.toList σ<;>rfl
def Cx.runPK (c:Cx) (id:Nat) (ops:List Oper) (i:Nat) (o:Oper) (t:List Oper) (σ:St):Option St->Option (AEx×St)
 | some σ'=>c.runP id ops (i+1) t σ'
 | none=>(match QaL ops σ o with
   | some true=>(match c.panAt o σ with
    | some v=>some (.pan v,σ)
    | none=>none)
   | _=>none)
def QGR (σ:St):Option Value->Option (AEx×St)
 | some v=>some (.pan v,σ)
 | none=>none
def Cx.panW (c:Cx) (o:Oper) (σ:St):Option Bool->Option (AEx×St)
 | some true=>QGR σ (c.panAt o σ)
 | _=>none
def Cx.regQ (c:Cx) (id:Nat) (ops:List Oper) (σ:St):Option St->Option (AEx×St)
 | some σ'=>some (.normal,σ')
 | none=>c.tryQ ops σ (c.pq id)
def Cx.tryK (c:Cx) (ops:List Oper) (σ:St) (t:List (Nat×List Nat)):Option Value->Option (AEx×St)
 | some v=>some (.pan v,{ σ with tmps:=Qez (Qgi ops) σ.tmps})
 | none=>c.tryQ ops σ t
def Cx.lastQ (c:Cx) (σ:St) (t0:List (Nat×X)):Option Oper->Option (List (Nat×Nat×X))->Option Value
 | some o,some L=>c.panAt o { σ with tmps:=qT L t0}
 | _,_=>none
def Cx.opsQK (c:Cx) (σ:St) (t0:List (Nat×X)) (p:Nat) (bh:List Nat) (j d:Nat) (t:List Oper) (L:List (Nat×Nat×X)):Option X->Option (List (Nat×Nat×X))
 | some x=>if Qg3 c.N (some d)then c.opsQ σ t0 p bh (j+1) t ((j,d,x)::L)else none
 | none=>none
def QH9:Option Res->Option X
 | some r=>Qv6 r
 | none=>none
theorem Qmt (hp:c.pan=true) (id:Nat) (ops:Array Oper):c.code (.region id ops true) σ=c.regQ id ops.toList σ (c.regionM id ops.toList σ (c.md id)):=by
 have e:c.regionD id ops.toList σ=c.regionM id ops.toList σ (c.md id):=by
  unfold Cx.regionD;generalize c.md id=k
  match k with
  | 0=>rfl
  | 1=>rfl
  | 2=>rfl
  | m+3=>rfl
 simp only[Cx.code,Cx.regQ,e,hp,if_true]; cases c.regionM id ops.toList σ (c.md id)<;>rfl
theorem Qvw (id:Nat) (ops:List Oper) (σ':St):c.regQ id ops σ (some σ')=some (.normal,σ'):=rfl
theorem Qt0 (id:Nat) (ops:List Oper):c.regQ id ops σ none=c.tryQ ops σ (c.pq id):=rfl
theorem QxB (ops:List Oper):c.tryQ ops σ []=none:=rfl
theorem Qtq (ops:List Oper) (p:Nat) (bh:List Nat) (t:List (Nat×List Nat)):c.tryQ ops σ ((p,bh)::t)=c.tryK ops σ t (c.oneQ ops p bh σ):=by
 simp only[Cx.tryQ,Cx.tryK]; cases c.oneQ ops p bh σ<;>rfl
theorem QtZ (ops:List Oper) (t:List (Nat×List Nat)) (v:Value):c.tryK ops σ t (some v)=some (.pan v,⟨Qez (Qgi ops) σ.tmps,σ.boxes,σ.toks,σ.maps⟩):=rfl
theorem Qt1 (ops:List Oper) (t:List (Nat×List Nat)):c.tryK ops σ t none=c.tryQ ops σ t:=rfl
theorem Qz6 (ops:List Oper) (p:Nat) (bh:List Nat):c.oneQ ops p bh σ=if Qan (QP ops) σ then c.lastQ σ (Qez (Qes bh 0 ops) σ.tmps) ops[p]? (c.opsQ σ (Qez (Qes bh 0 ops) σ.tmps) p bh 0 ops [])else none:=by
 unfold Cx.oneQ;split
 .cases c.opsQ σ (Qez (Qes bh 0 ops) σ.tmps) p bh 0 ops []<;>cases ops[p]?<;>rfl
 .rfl
theorem QrU (t0:List (Nat×X)) (o:Oper) (L:List (Nat×Nat×X)):c.lastQ σ t0 (some o) (some L)=c.panAt o ⟨qT L t0,σ.boxes,σ.toks,σ.maps⟩:=rfl
theorem QrO (t0:List (Nat×X)) (o:Oper):c.lastQ σ t0 (some o) none=none:=rfl
theorem QxM (t0:List (Nat×X)) (p:Nat) (bh:List Nat) (j:Nat) (L:List (Nat×Nat×X)):c.opsQ σ t0 p bh j [] L=some L:=rfl
theorem Qt9 (t0:List (Nat×X)) (p:Nat) (bh:List Nat) (j d:Nat) (op:Op) (ty:TypeId) (pos:String) (after:Array Edge) (guard:Option (Nat×Bool)) (t:List Oper) (L:List (Nat×Nat×X)):c.opsQ σ t0 p bh j (⟨some d,op,ty,pos,after,guard⟩::t) L=if(j==p||bh.contains j)=true then c.opsQ σ t0 p bh (j+1) t L else c.opsQK σ t0 p bh j d t L (QH9 (aop c.Γ c.eqs c.Δ op (St.mk (qT L t0) σ.boxes σ.toks σ.maps).ev σ.boxes σ.toks)):=by
 simp only[Cx.opsQ];split
 .rfl
 .cases aop c.Γ c.eqs c.Δ op (St.mk (qT L t0) σ.boxes σ.toks σ.maps).ev σ.boxes σ.toks with
  | none=>rfl
  | some r=>
   simp only[QH9];cases hr:Qv6 r with
   | none=>simp only[Cx.opsQK]; split<;>rfl
   | some x=>rfl
theorem Qto (t0:List (Nat×X)) (p:Nat) (bh:List Nat) (j:Nat) (op:Op) (ty:TypeId) (pos:String) (after:Array Edge) (guard:Option (Nat×Bool)) (t:List Oper) (L:List (Nat×Nat×X)):c.opsQ σ t0 p bh j (⟨none,op,ty,pos,after,guard⟩::t) L=if(j==p||bh.contains j)=true then c.opsQ σ t0 p bh (j+1) t L else none:=by
 simp only[Cx.opsQ];split
 .rfl
 .cases aop c.Γ c.eqs c.Δ op (St.mk (qT L t0) σ.boxes σ.toks σ.maps).ev σ.boxes σ.toks<;>rfl
theorem QrQ (t0:List (Nat×X)) (p:Nat) (bh:List Nat) (j d:Nat) (t:List Oper) (L:List (Nat×Nat×X)) (x:X):c.opsQK σ t0 p bh j d t L (some x)=if Qg3 c.N (some d)then c.opsQ σ t0 p bh (j+1) t ((j,d,x)::L)else none:=rfl
theorem QvP (r:Res):QH9 (some r)=Qv6 r:=rfl
theorem Qlv (hp:c.pan=true) (id:Nat) (ops:Array Oper):c.code (.region id ops false) σ=if Qan (QP ops.toList) σ then c.runP id ops.toList 0 ops.toList σ else none:=by
 simp only[Cx.code,hp,if_true]
theorem QxL (id:Nat) (ops:List Oper) (i:Nat):c.runP id ops i [] σ=some (.normal,c.close id σ):=rfl
theorem QtQ (id:Nat) (ops:List Oper) (i:Nat) (o:Oper) (t:List Oper):c.runP id ops i (o::t) σ=c.runPK id ops i o t σ (c.stepEK ops i o σ (c.step ops i o σ)):=by
 have e:c.stepE ops i o σ=c.stepEK ops i o σ (c.step ops i o σ):=by
  simp only[Cx.stepE,Cx.stepEK];cases c.step ops i o σ with
  | some σ'=>rfl
  | none=>
   simp only;cases QaL ops σ o with
   | none=>rfl
   | some b=>cases b<;>rfl
 rw[<-e];simp only[Cx.runP,Cx.runPK];cases c.stepE ops i o σ<;>rfl
theorem QrJ (id:Nat) (ops:List Oper) (i:Nat) (o:Oper) (t:List Oper) (σ':St):c.runPK id ops i o t σ (some σ')=c.runP id ops (i+1) t σ':=rfl
theorem Qse (id:Nat) (ops:List Oper) (i:Nat) (o:Oper) (t:List Oper):c.runPK id ops i o t σ none=c.panW o σ (QaL ops σ o):=by
 simp only[Cx.runPK,Cx.panW,QGR]
theorem QDP (o:Oper):c.panW o σ (some true)=QGR σ (c.panAt o σ):=rfl
theorem QuA (v:Value):QGR σ (some v)=some (.pan v,σ):=rfl
theorem QEq (b:Code) (v:Value):c.seqK b (some (.pan v,σ))=some (.pan v,σ):=rfl
theorem QEn (id:Nat) (v:Value):QCu id (some (.pan v,σ))=some (.pan v,σ):=rfl
theorem Qop (id:Nat) (ops:List Oper):c.closeD id ops none=none:=rfl
theorem Qtm:QCx (some σ)=some (.normal,σ):=rfl
theorem Qvz:QCx none=none:=rfl
theorem Qu8 (id:Nat) (ops:List Oper):c.region id ops σ=if Qan (QP ops) σ then c.closeD id ops (c.ops ops 0 ops σ)else none:=by
 unfold Cx.region Cx.closeD; cases c.ops ops 0 ops σ<;>rfl
theorem Qsq (id:Nat) (ops:List Oper):c.regionE id ops σ=if Qan (QP ops) σ then c.closeK id (c.opsE ops 0 ops σ)else none:=by
 unfold Cx.regionE Cx.closeK; cases c.opsE ops 0 ops σ<;>rfl
theorem Qwi (ops:List Oper) (i:Nat):c.opsE ops i [] σ=some σ:=rfl
theorem QtO (ops:List Oper) (i:Nat) (o:Oper) (t:List Oper):c.opsE ops i (o::t) σ=c.opsEK ops i t (c.stepEK ops i o σ (c.step ops i o σ)):=by
 simp only[Cx.opsE,Cx.opsEK,Cx.stepE,Cx.stepEK];cases c.step ops i o σ with
 | some σ'=>rfl
 | none=>
  simp only;cases QaL ops σ o with
  | none=>rfl
  | some b=>
   cases b with
   | false=>rfl
   | true=>simp only[Cx.effK]; cases c.eff i o σ<;>rfl
theorem Qr4 (ops:List Oper) (i:Nat) (t:List Oper):c.opsEK ops i t (some σ)=c.opsE ops (i+1) t σ:=rfl
theorem QrB (ops:List Oper) (i:Nat) (t:List Oper):c.opsEK ops i t none=none:=rfl
theorem Qoz (ops:List Oper) (i:Nat) (o:Oper) (σ':St):c.stepEK ops i o σ (some σ')=some σ':=rfl
theorem QiC (ops:List Oper) (i:Nat) (o:Oper):c.stepEK ops i o σ none=c.effK i o σ (QaL ops σ o):=rfl
theorem QE0 (i:Nat) (o:Oper):c.effK i o σ (some true)=c.eff i o σ:=rfl
theorem Qvb (i:Nat) (d:Option Nat):c.putK i d σ none=none:=rfl
theorem QoM (id:Nat) (ops:List Oper):c.closeD id ops (some σ)=if Qg9 ops σ (c.diff id)then some (c.close id σ)else none:=rfl
theorem QoP (id:Nat):c.closeK id (some σ)=some (c.close id σ):=rfl
theorem QAv (ops:List Oper) (i:Nat):c.ops ops i [] σ=some σ:=rfl
theorem QwN (ops:List Oper) (i:Nat) (o:Oper) (t:List Oper):c.ops ops i (o::t) σ=c.opsK ops i t (c.step ops i o σ):=by
 simp only[Cx.ops,Cx.opsK]; cases c.step ops i o σ<;>rfl
theorem QuQ (ops:List Oper) (i:Nat) (t:List Oper):c.opsK ops i t (some σ)=c.ops ops (i+1) t σ:=rfl
theorem Qti (ops:List Oper) (i:Nat) (t:List Oper):c.opsK ops i t none=none:=rfl
theorem QAk (ops:List Oper) (i:Nat) (o:Oper):c.step ops i o σ=c.stepK i o σ (QaL ops σ o):=by
 unfold Cx.step Cx.stepK;cases QaL ops σ o with
 | none=>rfl
 | some b=>cases b<;>simp only[Cx.putK]<;>(try rfl)<;>(cases aop c.Γ c.eqs c.Δ o.op σ.ev σ.boxes σ.toks<;>rfl)
theorem QA1 (i:Nat) (o:Oper):c.stepK i o σ (some true)=c.putK i o.dst σ (aop c.Γ c.eqs c.Δ o.op σ.ev σ.boxes σ.toks):=rfl
theorem Qzr (i:Nat) (o:Oper):c.stepK i o σ (some false)=σ.put c.N i o.dst .skip:=rfl
theorem Qu9 (i:Nat) (d:Option Nat) (r:Res):c.putK i d σ (some r)=σ.put c.N i d r:=rfl
theorem QwL (a b:Code):c.code (.seq a b) σ=c.seqK b (c.code a σ):=by
 simp only[Cx.code,Cx.seqK]; cases c.code a σ with
 | none=>rfl
 | some p=>obtain⟨e,σ'⟩:=p; cases e<;>rfl
theorem QFj (b:Code):c.seqK b (some (.normal,σ))=c.code b σ:=rfl
theorem QCW (b:Code) (j:Nat):c.seqK b (some (.exit j,σ))=some (.exit j,σ):=rfl
theorem QDc (b:Code):c.seqK b (some (.ret,σ))=some (.ret,σ):=rfl
theorem Quc (x:Operand) (a b:Code):c.code (.cond x a b) σ=c.condK a b σ (σ.ev x):=by
 simp only[Cx.code,Cx.condK]; rfl
theorem QAi (a b:Code):c.condK a b σ (.d (.v (.bool true)))=c.code a σ:=rfl
theorem Qzx (a b:Code):c.condK a b σ (.d (.v (.bool false)))=c.code b σ:=rfl
theorem Qss (id:Nat) (a:Code):c.code (.block id a) σ=QCu id (c.code a σ):=by
 simp only[Cx.code,QCu]; cases c.code a σ with
 | none=>rfl
 | some p=>obtain⟨e,σ'⟩:=p; cases e<;>rfl
theorem QDq (id:Nat):QCu id (some (.normal,σ))=some (.normal,σ):=rfl
theorem QE2 (id j:Nat):QCu id (some (.exit j,σ))=if j=id then some (.normal,σ)else some (.exit j,σ):=rfl
theorem QEC (id:Nat):QCu id (some (.ret,σ))=some (.ret,σ):=rfl
theorem QuS (a:Code):c.code (.loop a) σ=c.loop a σ:=rfl
theorem QvL (id:Nat):c.code (.exit id) σ=some (.exit id,σ):=rfl
theorem Qsz (a:Code):c.code (.scope a) σ=c.code a σ:=rfl
theorem QwA:c.code .ret σ=some (.ret,σ):=rfl
theorem Qz4 (cd:Code) (rs:List ResultVar) (ds:List D):c.call cd rs ds=c.callK rs (c.code cd ⟨QoD 0 ds,[],[],[]⟩):=by
 unfold Cx.call Cx.callK;cases c.code cd ⟨QoD 0 ds,[],[],[]⟩with
 | none=>rfl
 | some p=>obtain⟨e,σ'⟩:=p; cases e<;>rfl
theorem QAm (rs:List ResultVar):c.callK rs (some (.normal,σ))=(match Qfx c.Γ σ rs with | some r=>some (Qew r) | none=>none):=rfl
theorem QB8 (rs:List ResultVar):c.callK rs (some (.ret,σ))=(match Qfx c.Γ σ rs with | some r=>some (Qew r) | none=>none):=rfl
theorem Qwd (cd:Code) (rs:List ResultVar) (xs:List X) (cs:List Cont) (tl:List Nat):c.callE cd rs xs cs tl=c.callEK rs cs (c.code cd ⟨Qza 0 xs,Qck 0 cs,tl,Qey 0 cs⟩):=by
 unfold Cx.callE Cx.callEK;cases c.code cd ⟨Qza 0 xs,Qck 0 cs,tl,Qey 0 cs⟩with
 | none=>rfl
 | some p=>obtain⟨e,σ'⟩:=p; cases e<;>rfl
theorem QxZ (rs:List ResultVar) (cs:List Cont):c.callEK rs cs (some (.normal,σ))=(match QuY c.Γ σ rs,QvI σ 0 cs with | some r,some ns=>some (Qew r,ns,(QqF σ.toks ns).toList) | _,_=>none):=rfl
theorem Qxx (rs:List ResultVar) (cs:List Cont):c.callEK rs cs (some (.ret,σ))=(match QuY c.Γ σ rs,QvI σ 0 cs with | some r,some ns=>some (Qew r,ns,(QqF σ.toks ns).toList) | _,_=>none):=rfl
end
theorem Qp3 {f:St->Option (AEx×St)} (S:Nat->St) (e:AEx) (σ':St) (he:e≠ .normal):∀(n k F:Nat),(∀j,k<=j->j < k+n->f (S j)=some (.normal,S (j+1)))->f (S (k+n))=some (e,σ')->n < F->iter f F (S k)=some (e,σ')
 | 0,k,F,_,h,hF=>by
  obtain⟨F',rfl⟩:∃F',F=F'+1:=⟨F - 1,by omega⟩
  simp only[iter];rw[Nat.add_zero]at h;rw[h];cases e with
  | normal=>exact absurd rfl he
  | _=>rfl
 | n+1,k,F,hs,h,hF=>by
  obtain⟨F',rfl⟩:∃F',F=F'+1:=⟨F - 1,by omega⟩
  simp only[iter];rw[hs k (Zr _) (by omega)]
  exact Qp3 S e σ' he n (k+1) F' (λj h1 h2=>hs j (by omega) (by omega)) (by rw[show k+1+n=k+(n+1) by omega]; exact h) (by omega)
theorem Qdv {c:Cx} {a:Code} (S:Nat->St) (e:AEx) (σ':St) (n:Nat) (he:e≠ .normal) (hs:∀j,j < n->c.code a (S j)=some (.normal,S (j+1))) (h:c.code a (S n)=some (e,σ')) (hF:n < c.F):c.loop a (S 0)=some (e,σ'):=
 Qp3 S e σ' he n 0 c.F (λj _ h2=>hs j (by omega)) (by rw[Nat.zero_add]; exact h) hF
def Qsh:Option (AEx×St)->Option (AEx×St)
 | some (.normal,_)=>none
 | r=>r
theorem QBS (σ:St):Qsh (some (.normal,σ))=none:=rfl
theorem Qzu (j:Nat) (σ:St):Qsh (some (.exit j,σ))=some (.exit j,σ):=rfl
theorem QAG (σ:St):Qsh (some (.ret,σ))=some (.ret,σ):=rfl
theorem QzO (v:Value) (σ:St):Qsh (some (.pan v,σ))=some (.pan v,σ):=rfl
theorem Qi {c:Cx} {a:Code} {σ0:St} {β:Type} {r:β} {R:Option (AEx×St)} (hL:c.loop a σ0=R) (S:Nat->St) (n:Nat) (h0:σ0=S 0) (K:Option (AEx×St)->Option β) (hs:∀j,j < n->c.code a (S j)=some (.normal,S (j+1))) (hF:n < c.F) (hK:K none=none) (h:K (Qsh (c.code a (S n)))=some r):K R=some r:=by
 subst h0;cases hc:c.code a (S n)with
 | none=>rw[hc]at h; change K none=some r at h; rw[hK]at h; cases h
 | some p=>
  obtain⟨e,σ'⟩:=p;rw[hc]at h;cases e with
  | normal=>change K none=some r at h; rw[hK]at h; cases h
  | _=>rw[<-hL,Qdv S _ σ' n (by simp) hs hc hF]; exact h
theorem Qk5 {fa fb:St->Option (AEx×St)} {ps al:List Nat} {t0:List (Nat×X)} :∀(l:List (List Value)) (S:Nat->St) (k:Nat),(∀j x,l[j]?=some x->Qi3 fa fb ps al t0 x (S (k+j))=some (.normal,S (k+j+1)))->QdZ fa fb ps al t0 l (S k)=some (.normal,S (k+l.length))
 | [],S,k,_=>rfl
 | x::t,S,k,h=>by
  have h0:=h 0 x rfl;unfold Qi3 at h0;simp only[QdZ];split at h0
  case isFalse=>cases h0
  rename_i hl;rw[if_pos hl];split at h0
  case h_2=>cases h0
  rename_i σ1 h1;split at h0
  case h_1=>cases h0
  case h_3=>cases h0
  rename_i e σ2 pT h2;simp only[Nat.add_zero]at h1 h0;simp only[Zs,Prod.mk.injEq]at h0;obtain⟨rfl,h3⟩:=h0;rw[h1];simp only[h2];rw[h3,Qk5 t S (k+1) λj x hj=>by have:=h (j+1) x (by simpa using hj); rw[show k+1+j=k+(j+1) by omega]; exact this]
  simp only[List.length_cons];rw[show k+1+t.length=k+(t.length+1) by omega]
theorem QaK (p:Nat->Bool) (n:Nat):(∀k,k < n->p k=true)\/∃k,k < n/\p k=false/\∀j,j < k->p j=true:=by
 induction n with
 | zero=>left; intro k h; omega
 | succ n ih=>
  rcases ih with h | ⟨k,h1,h2,h3⟩
  .cases hp:p n with
   | true=>
    left;intro k hk;by_cases e:k=n
    .subst e; exact hp
    .exact h k (by omega)
   | false=>exact .inr ⟨n,by omega,hp,h⟩
  .exact .inr ⟨k,by omega,h2,h3⟩
theorem QxS:IntKind.i64.wrap 1=1:=by decide
theorem QvA:IntKind.i64.wrap 0=0:=by decide
structure CodL (α:Type) where
 enc:α->List D
 dec:List D->Option α
 ed:∀d x,dec d=some x->LImp d (enc x)
def nilL:CodL Unit:=⟨λ_=>[],λd=>match d with | []=>some () | _=>none,λd x h=>by
 split at h
 .exact LImp.refl _
 .cases h⟩
def QEB {α β:Type} (A:Cod α) (L:CodL β):CodL (α×β):=⟨λx=>A.enc x.1::L.enc x.2,λd=>match d with | d::ds=>(match A.dec d,L.dec ds with | some x,some y=>some (x,y) | _,_=>none) | _=>none,λd x h=>by
 split at h
 .split at h
  .rename_i p q h1 h2; cases h; exact⟨_,_,rfl,A.ed _ _ h1,L.ed _ _ h2⟩
  .cases h
 .cases h⟩
def QDZ {α:Type} (L:CodL α):Cod α:=⟨λx=> .tup (L.enc x),λd=>match d with | .tup ds=>L.dec ds | _=>none,λd x h=>by
 split at h
 .exact LImp.tup (L.ed _ _ h)
 .cases h⟩
def QiO {α:Type} (A:Cod α):List D->Option (List α)
 | []=>some []
 | d::t=>match A.dec d,QiO A t with
  | some x,some y=>some (x::y)
  | _,_=>none
theorem Qna {α:Type} (A:Cod α):∀(ds:List D) (l:List α),QiO A ds=some l->LImp ds (l.map A.enc)
 | [],l,h=>by simp only[QiO,Zs]at h; subst h; rfl
 | d::t,l,h=>by
  simp only[QiO]at h;split at h
  .rename_i x y h1 h2;cases h;exact⟨_,_,rfl,A.ed _ _ h1,Qna A t y h2⟩
  .cases h
def Qu5 {α:Type} (A:Cod α):Cod (List α):=⟨λl=> .agg (l.map A.enc),λd=>match d with | .agg cs=>QiO A cs | _=>none,λd x h=>by
 split at h
 .exact(Qna A _ _ h).agg
 .cases h⟩
theorem Qx6:nilL.dec []=some ():=rfl
theorem QxT (x:Unit):nilL.enc x=[]:=rfl
theorem QtY {α β:Type} (A:Cod α) (L:CodL β) (d:D) (ds:List D):(QEB A L).dec (d::ds)=(match A.dec d,L.dec ds with | some x,some y=>some (x,y) | _,_=>none):=rfl
theorem Qve {α β:Type} (A:Cod α) (L:CodL β) (x:α) (y:β):(QEB A L).enc (x,y)=A.enc x::L.enc y:=rfl
theorem Qvj {α:Type} (L:CodL α) (ds:List D):(QDZ L).dec (.tup ds)=L.dec ds:=rfl
theorem Qt5 {α:Type} (L:CodL α) (x:α):(QDZ L).enc x= .tup (L.enc x):=rfl
theorem Qsi {α:Type} (A:Cod α) (l:List α):(Qu5 A).enc l= .agg (l.map A.enc):=rfl
theorem Qkr {α:Type} (A:Cod α) (h:∀x,A.dec (A.enc x)=some x) (l:List α):QiO A (l.map A.enc)=some l:=by
 induction l with
 | nil=>rfl
 | cons x t ih=>simp only[List.map_cons,QiO,h,ih]
theorem QmY (l:List Bool):(Qu5 QaI).dec (.agg (l.map DB))=some l:=Qkr QaI (λ_=>rfl) l
theorem QpC (l:List Int):(Qu5 Qbh).dec (.agg (l.map DI))=some l:=Qkr Qbh (λ_=>rfl) l
section
variable {P:Program} {f:Nat}
end
abbrev QfU:=List X->List Cont->List Nat->Option (D×List Cont×List Nat)
def Qj6 (l:List (Nat×QfU)) (f:Nat):QfU:=λxs cs tl=>match Qv l f with | some s=>s xs cs tl | none=>none
def Qdc (P:Program) (f:Nat) (s:QfU):Prop:=∀xs cs tl d ns jR,s xs cs tl=some (d,ns,jR)->QF9 P f xs cs tl d ns jR
section
variable {P:Program} {f:Nat}
theorem Qct:Qne P (Qj6 []):=λf xs cs tl d ns jR h=>by cases h
theorem Qfr {l:List (Nat×QfU)} {s:QfU} (hl:Qne P (Qj6 l)) (he:∀xs w,(callFunc f xs).run P w= .ok (.enter f xs) w) (hs:Qdc P f s):Qne P (Qj6 ((f,s)::l)):=by
 intro g xs cs tl d ns jR h;unfold Qj6 at h;simp only[Qv]at h;by_cases e:g=f
 .subst e; rw[if_pos rfl]at h; exact⟨he,hs xs cs tl d ns jR h⟩
 .rw[if_neg e]at h; exact hl g xs cs tl d ns jR h
open Classical in
noncomputable def QnC {α:Type} (enc:α->List X×List Cont×List Nat) (res:α->Option (D×List Cont×List Nat)):QfU:=λxs cs tl=>if h:∃p,enc p=(xs,cs,tl)then res h.choose else none
theorem Qgo {α:Type} {enc:α->List X×List Cont×List Nat} {res:α->Option (D×List Cont×List Nat)} (bZ:∀p q,enc p=enc q->res p=res q) (p:α) {xs:List X} {cs:List Cont} {tl:List Nat} (h:enc p=(xs,cs,tl)):QnC enc res xs cs tl=res p:=by
 have sA:∃p,enc p=(xs,cs,tl):=⟨p,h⟩;unfold QnC;rw[dif_pos sA];exact bZ _ _ (sA.choose_spec.trans h.symm)
theorem Qd2 {α:Type} {enc:α->List X×List Cont×List Nat} {res:α->Option (D×List Cont×List Nat)} (h:∀p r,res p=some r->QF9 P f (enc p).1 (enc p).2.1 (enc p).2.2 r.1 r.2.1 r.2.2):Qdc P f (QnC enc res):=by
 intro xs cs tl d ns jR hr;unfold QnC at hr;split at hr
 .rename_i sA;have hs:=sA.choose_spec;have:=h _ _ hr;rw[hs]at this;exact this
 .cases hr
end
def Qm6 (l:List (Nat×(List D->Option (List (List Value))))) (f:Nat) (ds:List D):Option (List (List Value)):=match Qv l f with | some s=>s ds | none=>none
def Quo (P:Program) (s:Nat->List D->Option (List (List Value))):Prop:=∀gf caps l,s gf caps=some l->(∀xs w,(callFunc gf xs).run P w= .ok (.enter gf xs) w)/\QGy P gf caps l
theorem QcU {P:Program} :Quo P (Qm6 []):=λgf caps l h=>by cases h
theorem Qmh {P:Program} :Quo P (λ_ _=>none):=λgf caps l h=>by cases h
end Go.Proofs.YtnfeakhkfehkhaaGreatDoor
namespace Go.Proofs.YtnfeakhkfehkhaaGreatDoor
open Go.RowKit
def Qov (w:World):Nat->Nat->Prop:=λb _=>b < w.heap.size
structure Reads {α:Type} (P:Program) (t:TypeId) (r:Row α) (G:α->Prop):Prop where
 size:P.cellsOf t=r.k
 read:∀{H:Type} (enc:TypeId×Value->H) (w:World) (Qbx:Nat) (cs:List Value) (d:DataW H) (ps:List MemPlace),DataW.trod enc P w 0 (λ_=>true) true Qbx t cs=some (d,ps)->(∀n∈d.weights P t,n<=reachBytes)->
  ∃x,G x/\cs.length=r.k/\RelL (Qov w) w (r.enc x) cs/\∀v∈cs,v.oneCell'=true
section
variable {P:Program} {t:TypeId}
theorem QAZ {k:IntKind} (hu:P.underlying t=some (.int k)) (hc:P.cellsOf t=1):Reads P t (rK k) (λn=>(Lit.int k n).wf=true):=by
 refine⟨hc,λenc w Qbx cs d ps h hw=>?_⟩;cases Qbx with
 | zero=>simp[DataW.trod]at h
 | succ Qbx=>
  simp only[DataW.trod,hu]at h;split at h<;>simp_all;rename_i k' n h1;obtain⟨⟨rfl,yI⟩,_⟩:=h;exact⟨n,yI,rfl,⟨_,_,rfl,by simp[Rel],rfl⟩,rfl⟩
theorem QCb (hu:P.underlying t=some (.int .i64)) (hc:P.cellsOf t=1):Reads P t Qt (λn=>(Lit.int .i64 n).wf=true):=by
 have h:=QAZ hu hc;refine⟨hc,λenc w Qbx cs d ps h1 hw=>?_⟩;obtain⟨x,h1,h2,h3,h4⟩:=h.read enc w Qbx cs d ps h1 hw;exact⟨x,h1,h2,h3,h4⟩
theorem QBK (hu:P.underlying t=some .string) (hc:P.cellsOf t=1):Reads P t Qf7 (λs=>s.size<=reachBytes):=by
 refine⟨hc,λenc w Qbx cs d ps h hw=>?_⟩;cases Qbx with
 | zero=>simp[DataW.trod]at h
 | succ Qbx=>
  simp only[DataW.trod,hu]at h;split at h<;>simp_all;rename_i nI s;obtain⟨yI,rfl,_⟩:=h;refine⟨s,?_,rfl,⟨_,_,rfl,by simp[Rel],rfl⟩,rfl⟩
  have:=hw s.data.toList.length (by simp[DataW.weights])
  simpa using this
theorem QlT {α β:Type} (f:α->Option β):∀(l:List α) (ys:List β),l.mapM f=some ys->ys.length=l.length/\∀(i:Nat) (x:α),l[i]?=some x->∃y,ys[i]?=some y/\f x=some y
 | [],ys,h=>by simp at h; subst h; simp
 | a::t,ys,h=>by
  rw[List.mapM_cons]at h;simp only[Option.pure_def,Option.bind_eq_bind,Option.bind_eq_some_iff,Zs]at h;obtain⟨y,hy,zs,hz,rfl⟩:=h;obtain⟨h1,h2⟩:=QlT f t zs hz;refine⟨by simp[h1],λi x hx=>?_⟩
  cases i with
  | zero=>simp at hx; subst hx; exact⟨y,rfl,hy⟩
  | succ i=>exact h2 i x (by simpa using hx)
theorem Qs7 {w:World} {a:Addr} {n:Nat} {cs:List Value} (h:w.cells? 0 a n=some cs):cs.length=n/\∀i v,cs[i]?=some v->w.cell? (a.add i)=some v:=by
 unfold World.cells? at h;rw[if_pos (Nat.zero_le _)]at h;obtain⟨h1,h2⟩:=QlT _ _ _ h;rw[List.length_range]at h1;refine⟨h1,λi v hv=>?_⟩;have hi:i < n:=by have:=(Zi.1 hv).1; omega
 obtain⟨y,hy,he⟩:=h2 i i (by simp[hi])
 rw[hy]at hv; cases hv; exact he
theorem QiQ {H:Type} (e:TypeId):∀(l:List (DataW H)) (d:DataW H),d∈l->∀n∈d.weights P e,n∈DataW.weightsAll P e l
 | a::l,d,hd,n,hn=>by
  simp only[DataW.weightsAll,Zp];rcases List.mem_cons.1 hd with rfl | hd
  .exact .inl hn
  .exact .inr (QiQ e l d hd n hn)
theorem QjF {w:World} {b:Nat} :∀(ds:List D) (cs:List Value) (o:Nat),RelL (Qov w) w ds cs->(∀v∈cs,v.oneCell'=true)->(∀i v,cs[i]?=some v->w.cell? ⟨b,o+i,none⟩=some v)->(0 < ds.length->b < w.heap.size)->RelCells (Qov w) w ds b o
 | [],cs,o,_,_,_,_=>trivial
 | d::ds,cs,o,hr,h1,hc,hb=>by
  simp only[RelL]at hr;obtain⟨v,t,rfl,h2,h3⟩:=hr;refine⟨⟨v,hb (by simp),by simpa using hc 0 v rfl,h1 v (by simp),h2⟩,QjF ds t (o+1) h3 (λv hv=>h1 v (by simp[hv])) (λi v hv=>?_) (λ_=>hb (by simp))⟩
  have:=hc (i+1) v (by simpa using hv)
  rw[show o+1+i=o+(i+1) by omega]; exact this
def Qwq {α:Type} (r:Row α):Row (List α):=⟨1,λl=>[D.sl r.k (l.map r.enc)],λd=>match d with | [x]=>(Qy r).dec x | _=>none,λx=>by simp only[QaY r x r.k rfl],λd x h=>by
 split at h
 .rename_i y; exact⟨_,_,rfl,(Qy r).ed _ _ h,rfl⟩
 .cases h⟩
theorem Reads.mono {α:Type} {r:Row α} {G G':α->Prop} (h:Reads P t r G) (hg:∀x,G x->G' x):Reads P t r G':=
 ⟨h.size,λenc w Qbx cs d ps h1 h2=>let ⟨x,g1,g2,g3,g4⟩:=h.read enc w Qbx cs d ps h1 h2; ⟨x,hg x g1,g2,g3,g4⟩⟩
theorem QiZ {e:TypeId} {α:Type} {r:Row α} {G:α->Prop} (B:Nat) (hB:B<=140737488355328) (hu:P.underlying t=some (.slice e)) (hc:P.cellsOf t=1) (he:Reads P e r G) (hk:0 < r.k) (hb:∀n,n*P.bytesOf e<=reachBytes->n<=B):
  Reads P t (Qwq r) (λl=>(∀x∈l,G x)/\l.length<=B):=by
 refine⟨hc,λenc w Qbx cs d ps h hw=>?_⟩;cases Qbx with
 | zero=>simp[DataW.trod]at h
 | succ Qbx=>
  simp only[DataW.trod,hu]at h;split at h<;>try (simp_all; done)
  .simp only[Zs,Prod.mk.injEq]at h;obtain⟨rfl,_⟩:=h;refine⟨[],by simp,rfl,⟨_,_,rfl,?_,rfl⟩,by simp[Value.oneCell']⟩
   simp[Rel]
  .rename_i e' a len bR heq;simp only[Zs,TypeDesc.slice.injEq]at heq;subst heq;split at h
   .rename_i aN;obtain⟨_,d6,hcm⟩:=aN;simp only[if_true,Option.bind_eq_some_iff,Option.map_eq_some_iff,Prod.mk.injEq]at h;obtain⟨mN,yQ,rest,hre,rfl,_⟩:=h;obtain⟨l1,l2⟩:=QlT _ _ _ yQ;rw[List.length_range]at l1;have kK:∀n∈(DataW.slice (mN.map (·.1)) (rest.map (·.1))).weights P t,n<=reachBytes:=hw;simp only[DataW.weights,hu,List.mem_cons,Zp]at kK;have aI:(mN.length+rest.length)*P.bytesOf e<=reachBytes:=by simpa using kK _ (.inl rfl)
    have vS:len<=B:=Nat.le_trans (by omega) (hb _ aI)
    have bW:∀i,i < len->∃x cs,G x/\cs.length=r.k/\RelL (Qov w) w (r.enc x) cs/\(∀v∈cs,v.oneCell'=true)/\∀j v,cs[j]?=some v->w.cell? ((a.add (i*r.k)).add j)=some v:=by
     intro i hi;obtain⟨y,hy,hf⟩:=l2 i i (by simp[hi])
     simp only[Option.bind_eq_some_iff]at hf;obtain⟨cs,bP,ht⟩:=hf;rw[he.size]at bP;obtain⟨c1,c2⟩:=Qs7 bP;have c7:y.1∈mN.map (·.1):=List.mem_map.2 ⟨y,List.mem_of_getElem? hy,rfl⟩;obtain⟨x,g1,g2,g3,g4⟩:=he.read enc w Qbx cs y.1 y.2 ht (λn hn=>kK n (.inr (.inl (QiQ e _ _ c7 n hn))));exact⟨x,cs,g1,g2,g3,g4,c2⟩
    obtain⟨l,hl,hrel⟩:∃l:List α,l.length=len/\∀i x,l[i]?=some x->∃cs,G x/\cs.length=r.k/\RelL (Qov w) w (r.enc x) cs/\(∀v∈cs,v.oneCell'=true)/\∀j v,cs[j]?=some v->w.cell? ((a.add (i*r.k)).add j)=some v:=by
     clear hcm d6 aI kK yQ hre l1 l2 vS hw
     induction len with
     | zero=>exact⟨[],rfl,λi x h=>by simp at h⟩
     | succ n ih=>
      obtain⟨l,h1,h2⟩:=ih (λi hi=>bW i (by omega))
      obtain⟨x,cs,hx⟩:=bW n (by omega)
      refine⟨l++[x],by simp[h1],λi y hy=>?_⟩
      rw[List.getElem?_append]at hy;split at hy
      .exact h2 i y hy
      .rename_i aR;have:i - l.length=0:=by have:=(Zi.1 hy).1; simp at this; omega
       rw[this]at hy;simp at hy; subst hy;have:i=n:=by omega
       subst this;exact⟨cs,hx⟩
    refine⟨l,⟨λx hx=>?_,by omega⟩,rfl,⟨_,_,rfl,?_,rfl⟩,by simp[Value.oneCell']⟩
    .obtain⟨i,hi,rfl⟩:=List.getElem_of_mem hx;obtain⟨cs,h1,_⟩:=hrel i _ (Zg hi);exact h1
    .simp only[Rel,List.length_map,hl];refine⟨Nat.le_trans vS hB,some a,bR,rfl,d6,?_⟩;by_cases h0:len=0
     .left; simp; exact List.length_eq_zero_iff.1 (by omega)
     .right;obtain⟨b,off,spot⟩:=a;obtain⟨x,cs,_,g2,_,_,g5⟩:=bW 0 (by omega)
      have nA:=g5 0 cs[0] (Zg (by omega))
      have vT:spot=none:=by simpa[Addr.add]using World.cell?_spot nA
      subst vT;refine⟨b,off,rfl,RelRows.of λi rr hr=>?_⟩;rw[List.getElem?_map]at hr;obtain⟨x,hx,rfl⟩:=Option.map_eq_some_iff.1 hr;obtain⟨cs,q1,q2,q3,q4,q5⟩:=hrel i x hx;refine⟨by rw[<-q3.length]; exact q2,QjF _ cs _ q3 q4 (λj v hv=>?_) (λh=>?_)⟩
      .have:=q5 j v hv;rw[Addr.add_lit,Addr.add_lit]at this; exact this
      .have:=q5 0 cs[0] (Zg (by omega))
       rw[Addr.add_lit,Addr.add_lit]at this;exact block_lt_of_cell this
   .cases h
theorem RelL.app {m:Nat->Nat->Prop} {w:World} :∀{as bs:List D} {vs us:List Value},RelL m w as vs->RelL m w bs us->RelL m w (as++bs) (vs++us)
 | [],bs,vs,us,h,k=>by simp only[RelL]at h; subst h; exact k
 | a::as,bs,vs,us,h,k=>by
  simp only[RelL]at h;obtain⟨v,t,rfl,h1,h2⟩:=h;exact⟨v,_,rfl,h1,RelL.app h2 k⟩
theorem Qcz {H:Type} {n:Nat} {T:TypeId} {Ts:List TypeId} {d:DataW H} {ds:List (DataW H)} :n∈DataW.weightsEach P (T::Ts) (d::ds)↔n∈d.weights P T\/n∈DataW.weightsEach P Ts ds:=by
 simp[DataW.weightsEach]
structure Fields {α:Type} (P:Program) (fs:List Field) (off:Nat) (enc:α->List D) (k:Nat) (G:α->Prop):Prop where
 read:∀{H:Type} (e:TypeId×Value->H) (w:World) (Qbx:Nat) (cs:List Value) (xs:List (DataW H×List MemPlace)),cs.length=off+k->fs.mapM (λf=>DataW.trod e P w 0 (λ_=>true) true Qbx f.type ((cs.drop f.offset).take (P.cellsOf f.type)))=some xs->(∀n∈DataW.weightsEach P (fs.map (·.type)) (xs.map (·.1)),n<=reachBytes)->
  ∃x,G x/\RelL (Qov w) w (enc x) (cs.drop off)/\∀v∈cs.drop off,v.oneCell'=true
theorem QkJ (off:Nat):Fields P [] off (λ_:Unit=>[]) 0 (λ_=>True):=
 ⟨λe w Qbx cs xs hl h hw=>⟨(),trivial,by rw[List.drop_of_length_le (by omega)]; rfl,by rw[List.drop_of_length_le (by omega)]; simp⟩⟩
theorem QbV {α β:Type} {f:Field} {fs:List Field} {off k:Nat} {r:Row α} {G:α->Prop} {enc:β->List D} {G':β->Prop} (h0:Reads P f.type r G) (ho:f.offset=off) (h1:Fields P fs (off+r.k) enc k G'):
  Fields P (f::fs) off (λx:α×β=>r.enc x.1++enc x.2) (r.k+k) (λx=>G x.1/\G' x.2):=by
 refine⟨λe w Qbx cs xs hl h hw=>?_⟩;rw[List.mapM_cons]at h;simp only[Option.pure_def,Option.bind_eq_bind,Option.bind_eq_some_iff,Zs]at h;obtain⟨y,hy,zs,hz,rfl⟩:=h;simp only[List.map_cons]at hw;rw[ho,h0.size]at hy;obtain⟨x,g1,g2,g3,g4⟩:=h0.read e w Qbx _ y.1 y.2 hy (λn hn=>hw n (Qcz.2 (.inl hn)));obtain⟨x',q1,q3,q4⟩:=h1.read e w Qbx cs zs (by omega) hz (λn hn=>hw n (Qcz.2 (.inr hn)))
 have hs:cs.drop off=(cs.drop off).take r.k++cs.drop (off+r.k):=by
  rw[<-List.drop_drop,List.take_append_drop]
 refine⟨(x,x'),⟨g1,q1⟩,?_,?_⟩
 .rw[hs]; exact g3.app q3
 .rw[hs]; intro v hv;rcases Zp.1 hv with hv | hv
  .exact g4 v hv
  .exact q4 v hv
theorem Qrl {α β:Type} {fs:Array Field} {enc:α->List D} {k:Nat} {G:α->Prop} (r:Row β) (mk:α->β) (hu:P.underlying t=some (.struct fs)) (hf:Fields P fs.toList 0 enc k G) (hc:P.cellsOf t=k) (hr:r.k=k) (he:∀x,r.enc (mk x)=enc x):
  Reads P t r (λy=>∃x,y=mk x/\G x):=by
 refine⟨by rw[hc,hr],λe w Qbx cs d ps h hw=>?_⟩
 cases Qbx with
 | zero=>simp[DataW.trod]at h
 | succ Qbx=>
  have eB:cs.length=P.cellsOf t/\∃xs,fs.toList.mapM (λf=>DataW.trod e P w 0 (λ_=>true) true Qbx f.type ((cs.drop f.offset).take (P.cellsOf f.type)))=some xs/\d= .agg (xs.map (·.1)):=by
   simp only[DataW.trod,hu]at h;split at h
   .rename_i hl;simp only[Option.map_eq_some_iff,Prod.mk.injEq]at h;obtain⟨xs,hx,rfl,_⟩:=h;exact⟨hl,xs,hx,rfl⟩
   .cases h
  obtain⟨hl,xs,hx,rfl⟩:=eB;simp only[DataW.weights,hu]at hw;obtain⟨x,g1,g2,g3⟩:=hf.read e w Qbx cs xs (by omega) hx hw
  exact⟨mk x,⟨x,rfl,g1⟩,by omega,by rw[he]; simpa using g2,by simpa using g3⟩
theorem QOc {β:Type} {e:TypeId} {α:Type} {r:Row α} {G:α->Prop} {N:Nat} (r':Row β) (mk:List α->β) (hu:P.underlying t=some (.array N e)) (h0:Reads P e r G) (hc:P.cellsOf t=N*r.k) (hr:r'.k=N*r.k) (he:∀l:List α,l.length=N->r'.enc (mk l)=l.flatMap r.enc):
  Reads P t r' (λy=>∃l,y=mk l/\l.length=N/\∀x∈l,G x):=by
 refine⟨by rw[hc,hr],λen w Qbx cs d ps h hw=>?_⟩
 cases Qbx with
 | zero=>simp[DataW.trod]at h
 | succ Qbx=>
  have eB:cs.length=P.cellsOf t/\∃xs,(List.range N).mapM (λi=>DataW.trod en P w 0 (λ_=>true) true Qbx e ((cs.drop (i*P.cellsOf e)).take (P.cellsOf e)))=some xs/\d= .agg (xs.map (·.1)):=by
   simp only[DataW.trod,hu]at h;split at h
   .rename_i hl;simp only[Option.map_eq_some_iff,Prod.mk.injEq]at h;obtain⟨xs,hx,rfl,_⟩:=h;exact⟨hl,xs,hx,rfl⟩
   .cases h
  obtain⟨hl,xs,hx,rfl⟩:=eB;simp only[DataW.weights,hu]at hw;obtain⟨l1,l2⟩:=QlT _ _ _ hx;rw[List.length_range]at l1;rw[hc]at hl;have key:∀n,n<=N->∃l:List α,l.length=n/\(∀x∈l,G x)/\RelL (Qov w) w (l.flatMap r.enc) (cs.take (n*r.k))/\∀v∈cs.take (n*r.k),v.oneCell'=true:=by
   intro n
   induction n with
   | zero=>intro _; exact⟨[],rfl,by simp,by simp[RelL],by simp⟩
   | succ n ih=>
    intro hn;obtain⟨l,h1,h2,h3,h4⟩:=ih (by omega)
    obtain⟨y,hy,ht⟩:=l2 n n (List.getElem?_range (by omega))
    rw[h0.size]at ht;have c7:y.1∈xs.map (·.1):=List.mem_map.2 ⟨y,List.mem_of_getElem? hy,rfl⟩;obtain⟨x,g1,g2,g3,g4⟩:=h0.read en w Qbx _ y.1 y.2 ht (λk hk=>hw k (QiQ e _ _ c7 k hk));have u7:cs.take ((n+1)*r.k)=cs.take (n*r.k)++(cs.drop (n*r.k)).take r.k:=by
     rw[Nat.succ_mul,List.take_add]
    refine⟨l++[x],by simp[h1],?_,?_,?_⟩
    .intro z hz;rcases Zp.1 hz with hz | hz
     .exact h2 z hz
     .simp at hz; subst hz; exact g1
    .rw[u7,List.flatMap_append]; simpa using h3.app g3
    .rw[u7]; intro v hv;rcases Zp.1 hv with hv | hv
     .exact h4 v hv
     .exact g4 v hv
  obtain⟨l,h1,h2,h3,h4⟩:=key N (Zr _);rw[List.take_of_length_le (by omega)]at h3 h4
  exact⟨mk l,⟨l,rfl,h1,h2⟩,by omega,by rw[he l h1]; exact h3,h4⟩
theorem QOh {α:Type} {r:Row α} {G:α->Prop} (h:Reads P t r G) (hk:r.k≠1) {H:Type} {enc:TypeId×Value->H} {w:World} {v:Value} {d:DataW H} {p:List MemPlace} (ht:DataW.Trod enc P w 0 (λ_=>true) true t v d p) (hw:∀n∈d.weights P t,n<=reachBytes):
  ∃x,G x/\Rel (Qov w) w ((QeC r).enc x) v:=by
 obtain⟨Qbx,hf⟩:=ht;obtain⟨x,h1,h2,h3,h4⟩:=h.read enc w Qbx _ d p hf hw;refine⟨x,h1,?_⟩;rw[Qqg];simp only[Rel];refine⟨v.cells.toList,?_,h4,h3⟩;cases v<;>simp[Value.cells]at h2|- <;>omega
theorem QoK {α:Type} {r:Row α} {G:α->Prop} (h:Reads P t r G) (E:α->D) (he:∀x,r.enc x=[E x]) {H:Type} {enc:TypeId×Value->H} {w:World} {v:Value} {d:DataW H} {p:List MemPlace} (hv:v.cells= #[v]) (ht:DataW.Trod enc P w 0 (λ_=>true) true t v d p) (hw:∀n∈d.weights P t,n<=reachBytes):
  ∃x,G x/\Rel (Qov w) w (E x) v:=by
 obtain⟨Qbx,hf⟩:=ht;rw[hv]at hf;obtain⟨x,h1,h2,h3,h4⟩:=h.read enc w Qbx _ d p hf hw;refine⟨x,h1,?_⟩;rw[he]at h3;simp only[RelL]at h3;obtain⟨v',t',e,h5,_⟩:=h3;cases e; exact h5
theorem QtR {f:Nat} {ds:List D} (h:PureC P f ds (DB true)) {w:World} {vs:List Value} (hG:GlobIn (Qov w) w) (hr:RelL (Qov w) w ds vs):Calls P f vs.toArray w λe w'=>e= .returned (.bool true)/\Below w.heap.size w w':=
 (h (Qov w) w vs (λ_ _ h=>h) hG hr).mono λe w' ⟨v,m',h1,h2,_,h3⟩=>by
  simp only[Rel]at h3;subst h3;exact⟨h1,h2⟩
end
end Go.Proofs.YtnfeakhkfehkhaaGreatDoor
