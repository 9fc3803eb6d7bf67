/-
  Data as the plain machine takes it; functions that are told of by plain functions. For any program. No program here.
-/
import Derived.Test.YticoemblgkemiaaGreatDoorZAmD
import GoSem.ClaimJoined
import Derived.ProofKit
set_option linter.unusedSimpArgs false
set_option linter.unusedVariables false
namespace Go.Proofs.YticoemblgkemiaaGreatDoor
open Go.RowKit
abbrev DI (n:Int):D:= .v (.int .i64 n)
abbrev DB (b:Bool):D:= .v (.bool b)
abbrev DS (s:ByteArray):D:= .v (.string s)
def DImp (a b:D):Prop:=∀(m:Nat→Nat→Prop) (w:World) (v:Value),Rel m w a v→Rel m w b v
def LImp:List D→List D→Prop
 | [],bs=>bs=[]
 | a::t,bs=>∃b u,bs=b::u∧DImp a b∧LImp t u
theorem DImp.refl (a:D):DImp a a:=fun _ _ _ h=>h
theorem LImp.refl:∀l:List D,LImp l l
 | []=>rfl
 | a::t=>⟨a,t,rfl,DImp.refl a,LImp.refl t⟩
theorem LImp.rel {m:Nat→Nat→Prop} {w:World} :∀{as bs:List D} {vs:List Value},LImp as bs→RelL m w as vs→RelL m w bs vs
 | [],bs,vs,h,hr=>by simp only[LImp]at h; subst h; exact hr
 | a::t,bs,vs,h,hr=>by
  obtain⟨b,u,rfl,h1,h2⟩:=h;simp only[RelL]at hr⊢;obtain⟨v,vt,rfl,r1,r2⟩:=hr;exact⟨v,vt,rfl,h1 _ _ _ r1,LImp.rel h2 r2⟩
theorem LImp.cells {m:Nat→Nat→Prop} {w:World} :∀{as bs:List D} {b o:Nat},LImp as bs→RelCells m w as b o→RelCells m w bs b o
 | [],bs,b,o,h,hr=>by simp only[LImp]at h; subst h; exact hr
 | a::t,bs,bb,o,h,hr=>by
  obtain⟨b,u,rfl,h1,h2⟩:=h;simp only[RelCells]at hr⊢;obtain⟨⟨v,r1,r2,r3,r4⟩,r5⟩:=hr;exact⟨⟨v,r1,r2,r3,h1 _ _ _ r4⟩,LImp.cells h2 r5⟩
theorem LImp.length:∀{as bs:List D},LImp as bs→as.length=bs.length
 | [],bs,h=>by simp only[LImp]at h; subst h; rfl
 | a::t,bs,h=>by obtain⟨b,u,rfl,_,h2⟩:=h; simp[LImp.length h2]
theorem LImp.agg {as bs:List D} (h:LImp as bs):DImp (.agg as) (.agg bs):=fun m w v hr=>by
 simp only[Rel]at hr⊢;obtain⟨vs,h1,h2,h3⟩:=hr;exact⟨vs,h1,h2,h.rel h3⟩
theorem LImp.tup {as bs:List D} (h:LImp as bs):DImp (.tup as) (.tup bs):=fun m w v hr=>by
 simp only[Rel]at hr⊢;obtain⟨vs,h1,h3⟩:=hr;exact⟨vs,h1,h.rel h3⟩
def RImp:List (List D)→List (List D)→Prop
 | [],bs=>bs=[]
 | a::t,bs=>∃b u,bs=b::u∧LImp a b∧RImp t u
theorem RImp.rows {m:Nat→Nat→Prop} {w:World} {b k:Nat} :∀{as bs:List (List D)} {o:Nat},RImp as bs→RelRows m w as b o k→RelRows m w bs b o k
 | [],bs,o,h,hr=>by simp only[RImp]at h; subst h; exact hr
 | a::t,bs,o,h,hr=>by
  obtain⟨b',u,rfl,h1,h2⟩:=h;simp only[RelRows]at hr⊢;obtain⟨⟨r1,r2⟩,r3⟩:=hr;exact⟨⟨by rw[←h1.length]; exact r1,h1.cells r2⟩,RImp.rows h2 r3⟩
theorem RImp.length:∀{as bs:List (List D)},RImp as bs→as.length=bs.length
 | [],bs,h=>by simp only[RImp]at h; subst h; rfl
 | a::t,bs,h=>by obtain⟨b,u,rfl,_,h2⟩:=h; simp[RImp.length h2]
theorem RImp.sl {k:Nat} {as bs:List (List D)} (h:RImp as bs):DImp (.sl k as) (.sl k bs):=fun m w v hr=>by
 have hl:=h.length;simp only[Rel]at hr⊢;rw[←hl];obtain⟨h0,a,c,h1,h2,h3⟩:=hr;refine⟨h0,a,c,h1,h2,?_⟩;rcases h3 with h3 | ⟨b,o,h4,h5⟩
 ·left; subst h3; simp only[RImp]at h; exact h
 ·exact .inr ⟨b,o,h4,h.rows h5⟩
theorem QL2 (k k':Nat):DImp (.sl k []) (.sl k' []):=fun m w v hr=>by
 simp only[Rel]at hr⊢;obtain⟨h0,a,c,h1,h2,h3⟩:=hr;exact⟨h0,a,c,h1,h2,.inl trivial⟩
structure Cod (α:Type) where
 enc:α→D
 dec:D→Option α
 ed:∀d x,dec d=some x→DImp d (enc x)
structure Row (α:Type) where
 k:Nat
 enc:α→List D
 dec:List D→Option α
 de:∀x,dec (enc x)=some x
 ed:∀d x,dec d=some x→LImp d (enc x)
def QaY:Cod Int:=⟨DI,fun d=>match d with | .v (.int .i64 n)=>some n | _=>none,fun d x h=>by
 split at h
 ·cases h; exact DImp.refl _
 ·cases h⟩
def cK (k:IntKind):Cod Int:=⟨fun n=> .v (.int k n),fun d=>match d with | .v (.int k' n)=>if k'=k then some n else none | _=>none,fun d x h=>by
 split at h
 ·split at h
  ·rename_i e; subst e; cases h; exact DImp.refl _
  ·cases h
 ·cases h⟩
def QaW:Cod Bool:=⟨DB,fun d=>match d with | .v (.bool n)=>some n | _=>none,fun d x h=>by
 split at h
 ·cases h; exact DImp.refl _
 ·cases h⟩
def Qoe:Cod ByteArray:=⟨DS,fun d=>match d with | .v (.string n)=>some n | _=>none,fun d x h=>by
 split at h
 ·cases h; exact DImp.refl _
 ·cases h⟩
def QgG {α:Type} (r:Row α):List (List D)→Option (List α)
 | []=>some []
 | x::t=>match r.dec x,QgG r t with
  | some y,some ys=>some (y::ys)
  | _,_=>none
theorem Qqq {α:Type} (r:Row α) (l:List α):QgG r (l.map r.enc)=some l:=by
 induction l with
 | nil=>rfl
 | cons x t ih=>simp only[List.map_cons,QgG,r.de,ih]
theorem Qms {α:Type} (r:Row α):∀(rows:List (List D)) (l:List α),QgG r rows=some l→RImp rows (l.map r.enc)
 | [],l,h=>by simp only[QgG,Option.some.injEq]at h; subst h; rfl
 | x::t,l,h=>by
  simp only[QgG]at h;split at h
  ·rename_i y ys h1 h2;cases h;exact⟨r.enc y,_,rfl,r.ed _ _ h1,Qms r t ys h2⟩
  ·cases h
def QAS {α:Type} (r:Row α) (k:Nat) (rows:List (List D)):Option (List α):=if k=r.k then QgG r rows else(match rows with | []=>some [] | _=>none)
def QJ {α:Type} (r:Row α):Cod (List α):=⟨fun l=> .sl r.k (l.map r.enc),fun d=>match d with | .sl k rows=>QAS r k rows | _=>none,fun d x h=>by
 split at h
 ·rename_i k rows;unfold QAS at h;split at h
  ·rename_i hk; subst hk;exact(Qms r _ _ h).sl
  ·split at h
   ·cases h; exact QL2 _ _
   ·cases h
 ·cases h⟩
theorem Qbd {α:Type} (r:Row α) (l:List α) (k:Nat) (h:k=r.k):(QJ r).dec (.sl k (l.map r.enc))=some l:=by
 simp only[QJ,QAS,if_pos h,Qqq]
def Qcf {α:Type} (r:Row α):Cod α:=⟨fun x=> .agg (r.enc x),fun d=>match d with | .agg cs=>r.dec cs | _=>none,fun d x h=>by
 split at h
 ·exact(r.ed _ _ h).agg
 ·cases h⟩
def Qgw {α β:Type} (A:Cod α) (B:Cod β):Cod (α×β):=⟨fun x=> .tup [A.enc x.1,B.enc x.2],fun d=>match d with | .tup [a,b]=>(match A.dec a,B.dec b with | some x,some y=>some (x,y) | _,_=>none) | _=>none,fun d x h=>by
 split at h
 ·split at h
  ·rename_i p q h1 h2; cases h; exact LImp.tup ⟨_,_,rfl,A.ed _ _ h1,_,_,rfl,B.ed _ _ h2,rfl⟩
  ·cases h
 ·cases h⟩
def Qmy {α β γ:Type} (A:Cod α) (B:Cod β) (C:Cod γ):Cod (α×β×γ):=⟨fun x=> .tup [A.enc x.1,B.enc x.2.1,C.enc x.2.2],fun d=>match d with | .tup [a,b,c]=>(match A.dec a,B.dec b,C.dec c with | some x,some y,some z=>some (x,y,z) | _,_,_=>none) | _=>none,fun d x h=>by
 split at h
 ·split at h
  ·rename_i p q r h1 h2 h3; cases h; exact LImp.tup ⟨_,_,rfl,A.ed _ _ h1,_,_,rfl,B.ed _ _ h2,_,_,rfl,C.ed _ _ h3,rfl⟩
  ·cases h
 ·cases h⟩
def QH:Row Int:=⟨1,fun x=>[DI x],fun d=>match d with | [.v (.int .i64 n)]=>some n | _=>none,fun _=>rfl,fun d x h=>by
 split at h
 ·cases h; exact LImp.refl _
 ·cases h⟩
def Qg0:Row ByteArray:=⟨1,fun x=>[DS x],fun d=>match d with | [.v (.string n)]=>some n | _=>none,fun _=>rfl,fun d x h=>by
 split at h
 ·cases h; exact LImp.refl _
 ·cases h⟩
def rK (k:IntKind):Row Int:=⟨1,fun x=>[.v (.int k x)],fun d=>match d with | [.v (.int k' n)]=>if k'=k then some n else none | _=>none,fun _=>by simp,fun d x h=>by
 split at h
 ·split at h
  ·rename_i e; subst e; cases h; exact LImp.refl _
  ·cases h
 ·cases h⟩
theorem Qn:QH.k=1:=rfl
theorem Qgx:Qg0.k=1:=rfl
theorem Qe2 (k:IntKind):(rK k).k=1:=rfl
theorem Qd (x:Int):QH.enc x=[DI x]:=rfl
theorem Qa7 (x:ByteArray):Qg0.enc x=[DS x]:=rfl
theorem QbN (k:IntKind) (x:Int):(rK k).enc x=[.v (.int k x)]:=rfl
theorem QmH (x:Int):QaY.enc x=DI x:=rfl
theorem QkF (x:Bool):QaW.enc x=DB x:=rfl
theorem Qdr (x:ByteArray):Qoe.enc x=DS x:=rfl
theorem QKY (k:IntKind) (x:Int):(cK k).enc x= .v (.int k x):=rfl
theorem Qak (x:Int):QaY.dec (DI x)=some x:=rfl
theorem QxY (x:Bool):QaW.dec (DB x)=some x:=rfl
theorem QrD (x:ByteArray):Qoe.dec (DS x)=some x:=rfl
theorem QLR (k:IntKind) (x:Int):(cK k).dec (.v (.int k x))=some x:=by simp[cK]
theorem QbL {α:Type} (r:Row α) (l:List α):(QJ r).enc l= .sl r.k (l.map r.enc):=rfl
theorem QmL {α:Type} (r:Row α) (x:α):(Qcf r).enc x= .agg (r.enc x):=rfl
theorem QaQ {α:Type} (r:Row α) (l:List D):(Qcf r).dec (.agg l)=r.dec l:=rfl
theorem Qap (l:List Int):(QJ QH).dec (.sl 1 (l.map QH.enc))=some l:=Qbd QH l 1 rfl
theorem Qcy (l:List ByteArray):(QJ Qg0).dec (.sl 1 (l.map Qg0.enc))=some l:=Qbd Qg0 l 1 rfl
theorem Qnf (k:IntKind) (l:List Int):(QJ (rK k)).dec (.sl 1 (l.map (rK k).enc))=some l:=Qbd (rK k) l 1 rfl
theorem Qb9 {α:Type} (r:Row α) (k:Nat):(QJ r).dec (.sl k [])=some []:=by
 simp only[QJ,QAS]; split<;>rfl
theorem Qvi {α β:Type} (A:Cod α) (B:Cod β) (x:α×β):(Qgw A B).enc x= .tup [A.enc x.1,B.enc x.2]:=rfl
theorem QoP {α β γ:Type} (A:Cod α) (B:Cod β) (C:Cod γ) (x:α×β×γ):(Qmy A B C).enc x= .tup [A.enc x.1,B.enc x.2.1,C.enc x.2.2]:=rfl
theorem QvL {α β:Type} (A:Cod α) (B:Cod β) (a b:D):(Qgw A B).dec (.tup [a,b])=(match A.dec a,B.dec b with | some x,some y=>some (x,y) | _,_=>none):=rfl
theorem QyW {α β γ:Type} (A:Cod α) (B:Cod β) (C:Cod γ) (a b c:D):(Qmy A B C).dec (.tup [a,b,c])=(match A.dec a,B.dec b,C.dec c with | some x,some y,some z=>some (x,y,z) | _,_,_=>none):=rfl
theorem Qt7 {α β:Type} (a:α) (f:α→Option β):(some a).bind f=f a:=rfl
theorem PureC.out {P:Program} {f:Nat} {ds:List D} {d d':D} (h:PureC P f ds d) (hi:DImp d d'):PureC P f ds d':=fun m w vs hm hG hr=>(h m w vs hm hG hr).mono fun e w' ⟨v,m',h1,h2,h3,h4⟩=>⟨v,m',h1,h2,h3,hi _ _ _ h4⟩
theorem QdB {P:Program} {c:Cx} {α:Type} (R:Cod α) (r:α) (hc:CxOk P c) {f:Nat} {fn:Func} {cd:Code} (hf:P.funcs[f]?=some fn) (hb:fn.body=some cd) (hN:fn.ntmps=c.N) {ds:List D} (hl:ds.length≤c.N) (hd:QaO c.diff c.md c.pq cd=true) (h:(c.call cd fn.results.toList ds).bind R.dec=some r):PureC P f ds (R.enc r):=by
 obtain⟨d,h1,h2⟩:=Option.bind_eq_some_iff.1 h;exact(Qf hc hf hb hN hl hd h1).out (R.ed _ _ h2)
def sp0 {ρ:Type} (R:Cod ρ) (f:Option ρ):List D→Option D
 | []=>f.map R.enc
 | _=>none
def sp1 {α ρ:Type} (A:Cod α) (R:Cod ρ) (f:α→Option ρ):List D→Option D
 | [a]=>match A.dec a with | some x=>(f x).map R.enc | none=>none
 | _=>none
def sp2 {α β ρ:Type} (A:Cod α) (B:Cod β) (R:Cod ρ) (f:α→β→Option ρ):List D→Option D
 | [a,b]=>match A.dec a,B.dec b with | some x,some y=>(f x y).map R.enc | _,_=>none
 | _=>none
def sp3 {α β γ ρ:Type} (A:Cod α) (B:Cod β) (C:Cod γ) (R:Cod ρ) (f:α→β→γ→Option ρ):List D→Option D
 | [a,b,c]=>match A.dec a,B.dec b,C.dec c with | some x,some y,some z=>(f x y z).map R.enc | _,_,_=>none
 | _=>none
def sp4 {α β γ δ ρ:Type} (A:Cod α) (B:Cod β) (C:Cod γ) (E:Cod δ) (R:Cod ρ) (f:α→β→γ→δ→Option ρ):List D→Option D
 | [a,b,c,e]=>match A.dec a,B.dec b,C.dec c,E.dec e with | some x,some y,some z,some u=>(f x y z u).map R.enc | _,_,_,_=>none
 | _=>none
def sp5 {α β γ δ ε ρ:Type} (A:Cod α) (B:Cod β) (C:Cod γ) (E:Cod δ) (G:Cod ε) (R:Cod ρ) (f:α→β→γ→δ→ε→Option ρ):List D→Option D
 | [a,b,c,e,g]=>match A.dec a,B.dec b,C.dec c,E.dec e,G.dec g with | some x,some y,some z,some u,some v=>(f x y z u v).map R.enc | _,_,_,_,_=>none
 | _=>none
theorem PureC.imp {P:Program} {f:Nat} {ds ds':List D} {d:D} (h:PureC P f ds' d) (hi:LImp ds ds'):PureC P f ds d:=fun m w vs hm hG hr=>h m w vs hm hG (hi.rel hr)
section
variable {P:Program} {f:Nat}
theorem Qxu {ρ:Type} {R:Cod ρ} {F:Option ρ} (h:∀r,F=some r→PureC P f [] (R.enc r)):∀ds d,sp0 R F ds=some d→PureC P f ds d:=by
 intro ds d hd;unfold sp0 at hd;split at hd
 ·obtain⟨r,hr,rfl⟩:=Option.map_eq_some_iff.1 hd;exact h r hr
 ·cases hd
theorem Qbr {α ρ:Type} {A:Cod α} {R:Cod ρ} {F:α→Option ρ} (h:∀x r,F x=some r→PureC P f [A.enc x] (R.enc r)):∀ds d,sp1 A R F ds=some d→PureC P f ds d:=by
 intro ds d hd;unfold sp1 at hd;split at hd
 ·split at hd
  ·rename_i x hx;obtain⟨r,hr,rfl⟩:=Option.map_eq_some_iff.1 hd;exact(h x r hr).imp ⟨_,_,rfl,A.ed _ _ hx,rfl⟩
  ·cases hd
 ·cases hd
theorem Qay {α β ρ:Type} {A:Cod α} {B:Cod β} {R:Cod ρ} {F:α→β→Option ρ} (h:∀x y r,F x y=some r→PureC P f [A.enc x,B.enc y] (R.enc r)):∀ds d,sp2 A B R F ds=some d→PureC P f ds d:=by
 intro ds d hd;unfold sp2 at hd;split at hd
 ·split at hd
  ·rename_i x y hx hy;obtain⟨r,hr,rfl⟩:=Option.map_eq_some_iff.1 hd;exact(h x y r hr).imp ⟨_,_,rfl,A.ed _ _ hx,_,_,rfl,B.ed _ _ hy,rfl⟩
  ·cases hd
 ·cases hd
theorem QcN {α β γ ρ:Type} {A:Cod α} {B:Cod β} {C:Cod γ} {R:Cod ρ} {F:α→β→γ→Option ρ} (h:∀x y z r,F x y z=some r→PureC P f [A.enc x,B.enc y,C.enc z] (R.enc r)):∀ds d,sp3 A B C R F ds=some d→PureC P f ds d:=by
 intro ds d hd;unfold sp3 at hd;split at hd
 ·split at hd
  ·rename_i x y z hx hy hz;obtain⟨r,hr,rfl⟩:=Option.map_eq_some_iff.1 hd;exact(h x y z r hr).imp ⟨_,_,rfl,A.ed _ _ hx,_,_,rfl,B.ed _ _ hy,_,_,rfl,C.ed _ _ hz,rfl⟩
  ·cases hd
 ·cases hd
theorem Qyy {α β γ δ ρ:Type} {A:Cod α} {B:Cod β} {C:Cod γ} {E:Cod δ} {R:Cod ρ} {F:α→β→γ→δ→Option ρ} (h:∀x y z u r,F x y z u=some r→PureC P f [A.enc x,B.enc y,C.enc z,E.enc u] (R.enc r)):∀ds d,sp4 A B C E R F ds=some d→PureC P f ds d:=by
 intro ds d hd;unfold sp4 at hd;split at hd
 ·split at hd
  ·rename_i x y z u hx hy hz hu;obtain⟨r,hr,rfl⟩:=Option.map_eq_some_iff.1 hd;exact(h x y z u r hr).imp ⟨_,_,rfl,A.ed _ _ hx,_,_,rfl,B.ed _ _ hy,_,_,rfl,C.ed _ _ hz,_,_,rfl,E.ed _ _ hu,rfl⟩
  ·cases hd
 ·cases hd
theorem QJO {α β γ δ ε ρ:Type} {A:Cod α} {B:Cod β} {C:Cod γ} {E:Cod δ} {G:Cod ε} {R:Cod ρ} {F:α→β→γ→δ→ε→Option ρ} (h:∀x y z u v r,F x y z u v=some r→PureC P f [A.enc x,B.enc y,C.enc z,E.enc u,G.enc v] (R.enc r)):∀ds d,sp5 A B C E G R F ds=some d→PureC P f ds d:=by
 intro ds d hd;unfold sp5 at hd;split at hd
 ·split at hd
  ·rename_i x y z u v hx hy hz hu hv;obtain⟨r,hr,rfl⟩:=Option.map_eq_some_iff.1 hd;exact(h x y z u v r hr).imp ⟨_,_,rfl,A.ed _ _ hx,_,_,rfl,B.ed _ _ hy,_,_,rfl,C.ed _ _ hz,_,_,rfl,E.ed _ _ hu,_,_,rfl,G.ed _ _ hv,rfl⟩
  ·cases hd
 ·cases hd
def Qaw (l:List (Nat×(List D→Option D))) (f:Nat) (ds:List D):Option D:=match Qt l f with | some s=>s ds | none=>none
theorem Qs:QaE P (Qaw []):=fun f ds d h=>by cases h
theorem Qh {l:List (Nat×(List D→Option D))} {s:List D→Option D} (hl:QaE P (Qaw l)) (he:∀xs w,(callFunc f xs).run P w= .ok (.enter f xs) w) (hs:∀ds d,s ds=some d→PureC P f ds d) (hfr:QIi.contains f=true→∀ds d,s ds=some d→Qwg P f ds d:=by exact fun h=>absurd h (by decide)):QaE P (Qaw ((f,s)::l)):=by
 intro g ds d h;unfold Qaw at h;simp only[Qt]at h;by_cases e:g=f
 ·subst e; rw[if_pos rfl]at h; exact⟨he,hs ds d h,fun hc=>hfr hc ds d h⟩
 ·rw[if_neg e]at h; exact hl g ds d h
def Qlr:List (Nat×(List D→Option Value))→Nat→List D→Option Value
 | [],_,_=>none
 | (f,s)::t,g,ds=>if g=f then s ds else Qlr t g ds
theorem QEE {P:Program} :Qql P (Qlr []):=fun _ _ _ h=>by cases h
theorem Qtq {P:Program} {f:Nat} {s:List D→Option Value} {t:List (Nat×(List D→Option Value))} (ht:Qql P (Qlr t)) (hc:∀xs w,(callFunc f xs).run P w= .ok (.enter f xs) w) (h:∀ds v,s ds=some v→Qsb P f ds v):Qql P (Qlr ((f,s)::t)):=by
 intro g ds v hg;simp only[Qlr]at hg;split at hg
 ·rename_i e; subst e; exact⟨hc,h ds v hg⟩
 ·exact ht g ds v hg
theorem Qi9 {P:Program} :Qql P (fun _ _=>none):=fun _ _ _ h=>by cases h
end
def Cx.loop (c:Cx) (a:Code) (σ:St):Option (AEx×St):=iter (c.code a) c.F σ
def Cx.seqK (c:Cx) (b:Code):Option (AEx×St)→Option (AEx×St)
 | some (.normal,σ')=>c.code b σ'
 | r=>r
def QIe (id:Nat):Option (AEx×St)→Option (AEx×St)
 | some (.exit j,σ')=>if j=id then some (.normal,σ')else some (.exit j,σ')
 | r=>r
def QIj:Option St→Option (AEx×St)
 | some σ'=>some (.normal,σ')
 | none=>none
def Cx.closeK (c:Cx) (id:Nat):Option St→Option St
 | some σ'=>some (c.close id σ')
 | none=>none
def Cx.closeD (c:Cx) (id:Nat) (ops:List Oper):Option St→Option St
 | some σ'=>if Qil ops σ' (c.diff id)then some (c.close id σ')else none
 | none=>none
def Cx.opsK (c:Cx) (ops:List Oper) (i:Nat) (t:List Oper):Option St→Option St
 | some σ'=>c.ops ops (i+1) t σ'
 | none=>none
def Cx.opsEK (c:Cx) (ops:List Oper) (i:Nat) (t:List Oper):Option St→Option St
 | some σ'=>c.opsE ops (i+1) t σ'
 | none=>none
def Cx.effK (c:Cx) (i:Nat) (o:Oper) (σ:St):Option Bool→Option St
 | some true=>c.eff i o σ
 | _=>none
def Cx.stepEK (c:Cx) (ops:List Oper) (i:Nat) (o:Oper) (σ:St):Option St→Option St
 | some σ'=>some σ'
 | none=>c.effK i o σ (Qa5 ops σ o)
def Cx.putK (c:Cx) (i:Nat) (d:Option Nat) (σ:St):Option Res→Option St
 | some r=>σ.put c.N i d r
 | none=>none
def Cx.stepK (c:Cx) (i:Nat) (o:Oper) (σ:St):Option Bool→Option St
 | some true=>c.putK i o.dst σ (aop c.Γ c.eqs c.Δ o.op σ.ev σ.boxes σ.toks)
 | some false=>σ.put c.N i o.dst .skip
 | none=>none
def Cx.condK (c:Cx) (a b:Code) (σ:St):X→Option (AEx×St)
 | .d (.v (.bool t))=>(match t with | true=>c.code a σ | false=>c.code b σ)
 | _=>none
def Cx.callK (c:Cx) (rs:List ResultVar):Option (AEx×St)→Option D
 | some (.exit _,_)=>none
 | some (.pan _,_)=>none
 | some (_,σ)=>(match Qgs c.Γ σ rs with
  | some r=>some (Qfd r)
  | none=>none)
 | none=>none
def Cx.callEK (c:Cx) (rs:List ResultVar) (cs:List Cont):Option (AEx×St)→Option (D×List Cont×List Nat)
 | some (.exit _,_)=>none
 | some (.pan _,_)=>none
 | some (_,σ)=>(match Qv5 c.Γ σ rs,QwC σ 0 cs with
  | some r,some ns=>some (Qfd r,ns,(Qtd σ.toks ns).toList)
  | _,_=>none)
 | none=>none
def Cx.regionM (c:Cx) (id:Nat) (ops:List Oper) (σ:St):Nat→Option St
 | 0=>c.region id ops σ
 | 1=>c.regionL id ops σ
 | 2=>c.regionI id ops σ
 | m+3=>if 997≤m then c.regionC id (m - 997) ops σ else c.regionS id m ops σ
def Cx.restS (c:Cx) (id m:Nat) (ops rest:List Oper):Option St→Option St
 | some σ2=>if Qav (QR rest) σ2 then c.closeK id (c.ops (QR5 (m+1) ops) (m+1) rest σ2)else none
 | none=>none
def Cx.midK (c:Cx) (id m:Nat) (ops:List Oper) (o:Oper) (rest:List Oper):Option St→Option St
 | some σ1=>if Qil (ops.take m) σ1 (c.diff id)then c.restS id m ops rest (c.eff m o σ1)else none
 | none=>none
def Cx.regionSK (c:Cx) (id m:Nat) (ops:List Oper) (σ:St):List Oper→Option St
 | o::rest=>if(o.guard.isNone&&(Qai o).isNone)=true then(if Qav (QR (ops.take m)) σ then c.midK id m ops o rest (c.ops (ops.take m) 0 (ops.take m) σ)else none)else none
 | []=>none
def Cx.lastK (c:Cx) (id n:Nat) (pr:List Oper) (o:Oper):Option St→Option St
 | some σ'=>if Qil pr σ' (c.diff id)then c.closeK id (c.eff n o σ')else none
 | none=>none
def Cx.regionLK (c:Cx) (id n:Nat) (pr:List Oper) (σ:St):List Oper→Option St
 | [o]=>(match o.guard,Qai o with
  | none,none=>if Qav (QR pr) σ then c.lastK id n pr o (c.ops pr 0 pr σ)else none
  | _,_=>none)
 | _=>none
def Cx.incS (c:Cx) (q:IncI) (σ:St):Option St:=
 match c.mapAt q.T (σ.ev (.tmp q.m)) σ,(σ.ev (.tmp q.k)).key,c.lookup q.T (σ.ev (.tmp q.m)) (σ.ev (.tmp q.k)) σ with
 | some (b,sh,es,_,_),some kv,some (.int .i64 n)=>if q.dl < c.N∧q.da < c.N∧q.de < c.N∧q.dx < c.N then some { tmps:=tops q σ.tmps,boxes:=σ.boxes,toks:=σ.toks,maps:=(b,(sh,(kv,.int .i64 (IntKind.i64.wrap (n+1)))::es))::σ.maps} else none
 | _,_,_=>none
def Cx.incK (c:Cx) (id:Nat) (pr:List Oper) (q:IncI):Option St→Option St
 | some σ'=>if Qil pr σ' (c.diff id)then c.closeK id (c.incS q σ')else none
 | none=>none
def Cx.regionIK (c:Cx) (id:Nat) (pr:List Oper) (σ:St):Option IncI→Option St
 | some q=>if Qav (QR pr) σ then c.incK id pr q (c.ops pr 0 pr σ)else none
 | none=>none
def QjD (fa fb:St→Option (AEx×St)) (ps al:List Nat) (t0:List (Nat×X)) (xs:List Value) (σ:St):Option (AEx×St):=
 if xs.length=ps.length then(match fa { σ with tmps:=Qva ps xs++t0} with
  | some (.normal,σ1)=>(match fb σ1 with
   | some (.pan _,_)=>none
   | some (e,σ2)=>some (e,QcH al t0 σ2)
   | none=>none)
  | _=>none)else none
def Qvk (al:List Nat) (t0:List (Nat×X)):Option (AEx×St)→Option (AEx×St)
 | some (.pan _,_)=>none
 | some (e,σ2)=>some (e,QcH al t0 σ2)
 | none=>none
def Cx.roundK (c:Cx) (b:Code) (al:List Nat) (t0:List (Nat×X)):Option (AEx×St)→Option (AEx×St)
 | some (.normal,σ1)=>Qvk al t0 (c.code b σ1)
 | _=>none
def Cx.rounds (c:Cx) (a b:Code) (ps al:List Nat) (t0:List (Nat×X)) (l:List (List Value)) (σ:St):Option (AEx×St):=Qe1 (c.code a) (c.code b) ps al t0 l σ
def Cx.rangeK (c:Cx) (ps:List Nat) (a b:Code) (σ:St):Option (List (List Value))→Option (AEx×St)
 | some l=>if Qcz ps&&ps.all (fun p=>decide (p < c.N))then c.rounds a b ps (QF a++QF b) (Qds (QF a++QF b) σ.tmps) l (QcH (QF a++QF b) (Qds (QF a++QF b) σ.tmps) σ)else none
 | none=>none
section
variable (c:Cx) (σ:St)
theorem Qw0:c.code .skip σ=some (.normal,σ):=rfl
theorem QuH (l:Nat):c.code (.label l) σ=some (.normal,σ):=rfl
theorem QoS (hp:c.pan=false) (id:Nat) (ops:Array Oper):c.code (.region id ops true) σ=QIj (c.regionM id ops.toList σ (c.md id)):=by
 have e:c.regionD id ops.toList σ=c.regionM id ops.toList σ (c.md id):=by
  unfold Cx.regionD;generalize c.md id=k
  match k with
  | 0=>rfl
  | 1=>rfl
  | 2=>rfl
  | m+3=>rfl
 simp only[Cx.code,QIj,e,hp]; cases c.regionM id ops.toList σ (c.md id)<;>rfl
theorem QyU (id:Nat) (ops:List Oper):c.regionM id ops σ 0=c.region id ops σ:=rfl
theorem Qyl (id:Nat) (ops:List Oper):c.regionM id ops σ 1=c.regionLK id (ops.length - 1) (ops.take (ops.length - 1)) σ (ops.drop (ops.length - 1)):=by
 show c.regionL id ops σ=_;unfold Cx.regionL Cx.regionLK;simp only;generalize ops.drop (ops.length - 1)=l;cases l with
 | nil=>simp only; split<;>(try rfl); split<;>(try rfl); split<;>rfl
 | cons o t=>
  cases t with
  | cons o2 t2=>simp only; split<;>(try rfl); split<;>(try rfl); split<;>rfl
  | nil=>
   simp only;cases o.guard<;>cases Qai o<;>simp only<;>split<;>(try rfl)<;>(cases c.ops (ops.take (ops.length - 1)) 0 (ops.take (ops.length - 1)) σ<;>simp only[Cx.lastK]<;>(try rfl))<;>split<;>(try rfl)<;>(rename_i σ' _; cases c.eff (ops.length - 1) o σ'<;>rfl)
theorem QW4 (id:Nat) (ops:List Oper):c.regionM id ops σ 2=c.regionIK id (ops.take (ops.length - 5)) σ (QXb (ops.drop (ops.length - 5))):=by
 show c.regionI id ops σ=_;unfold Cx.regionI Cx.regionIK;simp only;cases QXb (ops.drop (ops.length - 5))with
 | none=>simp only; split<;>(try rfl); split<;>(try rfl); split<;>rfl
 | some q=>
  simp only;split<;>(try rfl)
  cases c.ops (ops.take (ops.length - 5)) 0 (ops.take (ops.length - 5)) σ with
  | none=>rfl
  | some σ'=>
   simp only[Cx.incK];split<;>(try rfl)
   unfold Cx.incS;rcases c.mapAt q.T (σ'.ev (.tmp q.m)) σ' with _ | ⟨b,sh,es,e0,j⟩
   ·rfl
   ·rcases(σ'.ev (.tmp q.k)).key with _ | kv
    ·rfl
    ·rcases c.lookup q.T (σ'.ev (.tmp q.m)) (σ'.ev (.tmp q.k)) σ' with _ | v
     ·rfl
     ·cases v with
      | int k n=>
       cases k with
       | i64=>simp only; split<;>rfl
       | _=>rfl
      | _=>rfl
def Cx.chainK (c:Cx) (id m:Nat) (ops:List Oper):Option St→Option St
 | some σ1=>if Qil (ops.take m) σ1 (c.diff id)then c.closeK id (c.opsE ops m (ops.drop m) σ1)else none
 | none=>none
def Cx.regionCK (c:Cx) (id m:Nat) (ops:List Oper) (σ:St):Option St:=if Qav (QR (ops.take m)) σ then c.chainK id m ops (c.ops (ops.take m) 0 (ops.take m) σ)else none
theorem QVa (id m:Nat) (ops:List Oper):c.chainK id m ops (some σ)=if Qil (ops.take m) σ (c.diff id)then c.closeK id (c.opsE ops m (ops.drop m) σ)else none:=rfl
theorem QV7 (id m:Nat) (ops:List Oper):c.regionC id m ops σ=c.regionCK id m ops σ:=by
 unfold Cx.regionC Cx.regionCK;split<;>rfl
theorem QVY (id m:Nat) (ops:List Oper):c.regionS id m ops σ=c.regionSK id m ops σ (ops.drop m):=by
 unfold Cx.regionS Cx.regionSK;simp only;generalize ops.drop m=l;cases l with
 | nil=>simp only; split<;>(try rfl); split<;>(try rfl); split<;>rfl
 | cons o rest=>
  simp only;cases hg:o.guard with
  | some p=>simp only[Option.isNone_some,Bool.false_and,Bool.false_eq_true,if_false]; split<;>(try rfl); split<;>(try rfl); split<;>rfl
  | none=>
   cases ha:Qai o with
   | some d=>simp only[Option.isNone_some,Bool.and_false,Bool.false_eq_true,if_false]; split<;>(try rfl); split<;>(try rfl); split<;>rfl
   | none=>
    simp only[Option.isNone_none,Bool.and_self,if_true];split<;>(try rfl)
theorem QXv (id m:Nat) (ops:List Oper):c.regionM id ops σ (m+3)=if 997≤m then c.regionCK id (m - 997) ops σ else c.regionSK id m ops σ (ops.drop m):=by
 show(if 997≤m then c.regionC id (m - 997) ops σ else c.regionS id m ops σ)=_;rw[QV7,QVY]
theorem QTR (id m:Nat) (ops:List Oper) (o:Oper) (rest:List Oper):c.regionSK id m ops σ (o::rest)=if(o.guard.isNone&&(Qai o).isNone)=true then(if Qav (QR (ops.take m)) σ then c.midK id m ops o rest (c.ops (ops.take m) 0 (ops.take m) σ)else none)else none:=rfl
theorem QXl (id m:Nat) (ops:List Oper) (o:Oper) (rest:List Oper):c.midK id m ops o rest (some σ)=if Qil (ops.take m) σ (c.diff id)then c.restS id m ops rest (c.eff m o σ)else none:=rfl
theorem QVX (id m:Nat) (ops rest:List Oper):c.restS id m ops rest (some σ)=if Qav (QR rest) σ then c.closeK id (c.ops (QR5 (m+1) ops) (m+1) rest σ)else none:=rfl
theorem QpJ (id n:Nat) (pr:List Oper) (o:Oper):c.regionLK id n pr σ [o]=if(o.guard.isNone&&(Qai o).isNone)=true then(if Qav (QR pr) σ then c.lastK id n pr o (c.ops pr 0 pr σ)else none)else none:=by
 simp only[Cx.regionLK];cases o.guard<;>cases Qai o<;>rfl
theorem QTX (id:Nat) (pr:List Oper) (q:IncI):c.regionIK id pr σ (some q)=if Qav (QR pr) σ then c.incK id pr q (c.ops pr 0 pr σ)else none:=rfl
theorem QtW (id n:Nat) (pr:List Oper) (o:Oper):c.lastK id n pr o (some σ)=if Qil pr σ (c.diff id)then c.closeK id (c.eff n o σ)else none:=rfl
theorem QW3 (id:Nat) (pr:List Oper) (q:IncI):c.incK id pr q (some σ)=if Qil pr σ (c.diff id)then c.closeK id (c.incS q σ)else none:=rfl
theorem QqV (id:Nat):c.closeK id none=none:=rfl
theorem Qux (g:Operand) (ps:Array Tmp) (a b:Code):c.code (.rangeFunc g ps a b) σ=c.rangeK ps.toList a b σ (c.iterOf (σ.ev g)):=by
 simp only[Cx.code,Cx.rangeK]; cases c.iterOf (σ.ev g)<;>rfl
theorem QqQ (ps:List Nat) (a b:Code) (l:List (List Value)):c.rangeK ps a b σ (some l)=if Qcz ps&&ps.all (fun p=>decide (p < c.N))then c.rounds a b ps (QF a++QF b) (Qds (QF a++QF b) σ.tmps) l (QcH (QF a++QF b) (Qds (QF a++QF b) σ.tmps) σ)else none:=rfl
theorem QEH (al:List Nat) (t0:List (Nat×X)):Qvk al t0 (some (.normal,σ))=some (.normal,QcH al t0 σ):=rfl
theorem QEd (al:List Nat) (t0:List (Nat×X)) (i:Nat):Qvk al t0 (some (.exit i,σ))=some (.exit i,QcH al t0 σ):=rfl
theorem QFz (al:List Nat) (t0:List (Nat×X)):Qvk al t0 (some (.ret,σ))=some (.ret,QcH al t0 σ):=rfl
theorem QBC (b:Code) (al:List Nat) (t0:List (Nat×X)):c.roundK b al t0 (some (.normal,σ))=Qvk al t0 (c.code b σ):=rfl
theorem Quz (a b:Code) (ps al:List Nat) (t0:List (Nat×X)) (xs:List Value):QjD (c.code a) (c.code b) ps al t0 xs σ=if xs.length=ps.length then c.roundK b al t0 (c.code a { σ with tmps:=Qva ps xs++t0})else none:=by
 unfold QjD;split
 ·cases c.code a { σ with tmps:=Qva ps xs++t0} with
  | none=>rfl
  | some p=>
   obtain⟨e,σ1⟩:=p;cases e with
   | normal=>simp only[Cx.roundK]; cases c.code b σ1<;>rfl
   | _=>rfl
 ·rfl
theorem QpL (hp:c.pan=false) (id:Nat) (ops:Array Oper):c.code (.region id ops false) σ=QIj (c.regionE id ops.toList σ):=by
 simp only[Cx.code,QIj,hp]; cases c.regionE id ops.toList σ<;>rfl
def Cx.runPK (c:Cx) (id:Nat) (ops:List Oper) (i:Nat) (o:Oper) (t:List Oper) (σ:St):Option St→Option (AEx×St)
 | some σ'=>c.runP id ops (i+1) t σ'
 | none=>(match Qa5 ops σ o with
   | some true=>(match c.panAt o σ with
    | some v=>some (.pan v,σ)
    | none=>none)
   | _=>none)
def QM4 (σ:St):Option Value→Option (AEx×St)
 | some v=>some (.pan v,σ)
 | none=>none
def Cx.panW (c:Cx) (o:Oper) (σ:St):Option Bool→Option (AEx×St)
 | some true=>QM4 σ (c.panAt o σ)
 | _=>none
def Cx.regQ (c:Cx) (id:Nat) (ops:List Oper) (σ:St):Option St→Option (AEx×St)
 | some σ'=>some (.normal,σ')
 | none=>c.tryQ ops σ (c.pq id)
def Cx.tryK (c:Cx) (ops:List Oper) (σ:St) (t:List (Nat×List Nat)):Option Value→Option (AEx×St)
 | some v=>some (.pan v,{ σ with tmps:=Qfi (QhL ops) σ.tmps})
 | none=>c.tryQ ops σ t
def Cx.lastQ (c:Cx) (σ:St) (t0:List (Nat×X)):Option Oper→Option (List (Nat×Nat×X))→Option Value
 | some o,some L=>c.panAt o { σ with tmps:=qT L t0}
 | _,_=>none
def Cx.opsQK (c:Cx) (σ:St) (t0:List (Nat×X)) (p:Nat) (bh:List Nat) (j d:Nat) (t:List Oper) (L:List (Nat×Nat×X)):Option X→Option (List (Nat×Nat×X))
 | some x=>if Qh0 c.N (some d)then c.opsQ σ t0 p bh (j+1) t ((j,d,x)::L)else none
 | none=>none
def QO9:Option Res→Option X
 | some r=>QzR r
 | none=>none
theorem Qni (hp:c.pan=true) (id:Nat) (ops:Array Oper):c.code (.region id ops true) σ=c.regQ id ops.toList σ (c.regionM id ops.toList σ (c.md id)):=by
 have e:c.regionD id ops.toList σ=c.regionM id ops.toList σ (c.md id):=by
  unfold Cx.regionD;generalize c.md id=k
  match k with
  | 0=>rfl
  | 1=>rfl
  | 2=>rfl
  | m+3=>rfl
 simp only[Cx.code,Cx.regQ,e,hp,if_true]; cases c.regionM id ops.toList σ (c.md id)<;>rfl
theorem Qzy (id:Nat) (ops:List Oper) (σ':St):c.regQ id ops σ (some σ')=some (.normal,σ'):=rfl
theorem QxI (id:Nat) (ops:List Oper):c.regQ id ops σ none=c.tryQ ops σ (c.pq id):=rfl
theorem QAJ (ops:List Oper):c.tryQ ops σ []=none:=rfl
theorem Qx4 (ops:List Oper) (p:Nat) (bh:List Nat) (t:List (Nat×List Nat)):c.tryQ ops σ ((p,bh)::t)=c.tryK ops σ t (c.oneQ ops p bh σ):=by
 simp only[Cx.tryQ,Cx.tryK]; cases c.oneQ ops p bh σ<;>rfl
theorem Qxo (ops:List Oper) (t:List (Nat×List Nat)) (v:Value):c.tryK ops σ t (some v)=some (.pan v,⟨Qfi (QhL ops) σ.tmps,σ.boxes,σ.toks,σ.maps⟩):=rfl
theorem QyC (ops:List Oper) (t:List (Nat×List Nat)):c.tryK ops σ t none=c.tryQ ops σ t:=rfl
theorem QGc (ops:List Oper) (p:Nat) (bh:List Nat):c.oneQ ops p bh σ=if Qav (QR ops) σ then c.lastQ σ (Qfi (Qfm bh 0 ops) σ.tmps) ops[p]? (c.opsQ σ (Qfi (Qfm bh 0 ops) σ.tmps) p bh 0 ops [])else none:=by
 unfold Cx.oneQ;split
 ·cases c.opsQ σ (Qfi (Qfm bh 0 ops) σ.tmps) p bh 0 ops []<;>cases ops[p]?<;>rfl
 ·rfl
theorem Qug (t0:List (Nat×X)) (o:Oper) (L:List (Nat×Nat×X)):c.lastQ σ t0 (some o) (some L)=c.panAt o ⟨qT L t0,σ.boxes,σ.toks,σ.maps⟩:=rfl
theorem QtY (t0:List (Nat×X)) (o:Oper):c.lastQ σ t0 (some o) none=none:=rfl
theorem QBL (t0:List (Nat×X)) (p:Nat) (bh:List Nat) (j:Nat) (L:List (Nat×Nat×X)):c.opsQ σ t0 p bh j [] L=some L:=rfl
theorem Qxg (t0:List (Nat×X)) (p:Nat) (bh:List Nat) (j d:Nat) (op:Op) (ty:TypeId) (pos:String) (after:Array Edge) (guard:Option (Nat×Bool)) (t:List Oper) (L:List (Nat×Nat×X)):c.opsQ σ t0 p bh j (⟨some d,op,ty,pos,after,guard⟩::t) L=if(j==p||bh.contains j)=true then c.opsQ σ t0 p bh (j+1) t L else c.opsQK σ t0 p bh j d t L (QO9 (aop c.Γ c.eqs c.Δ op (St.mk (qT L t0) σ.boxes σ.toks σ.maps).ev σ.boxes σ.toks)):=by
 simp only[Cx.opsQ];split
 ·rfl
 ·cases aop c.Γ c.eqs c.Δ op (St.mk (qT L t0) σ.boxes σ.toks σ.maps).ev σ.boxes σ.toks with
  | none=>rfl
  | some r=>
   simp only[QO9];cases hr:QzR r with
   | none=>simp only[Cx.opsQK]; split<;>rfl
   | some x=>rfl
theorem QwL (t0:List (Nat×X)) (p:Nat) (bh:List Nat) (j:Nat) (op:Op) (ty:TypeId) (pos:String) (after:Array Edge) (guard:Option (Nat×Bool)) (t:List Oper) (L:List (Nat×Nat×X)):c.opsQ σ t0 p bh j (⟨none,op,ty,pos,after,guard⟩::t) L=if(j==p||bh.contains j)=true then c.opsQ σ t0 p bh (j+1) t L else none:=by
 simp only[Cx.opsQ];split
 ·rfl
 ·cases aop c.Γ c.eqs c.Δ op (St.mk (qT L t0) σ.boxes σ.toks σ.maps).ev σ.boxes σ.toks<;>rfl
theorem Qtx (t0:List (Nat×X)) (p:Nat) (bh:List Nat) (j d:Nat) (t:List Oper) (L:List (Nat×Nat×X)) (x:X):c.opsQK σ t0 p bh j d t L (some x)=if Qh0 c.N (some d)then c.opsQ σ t0 p bh (j+1) t ((j,d,x)::L)else none:=rfl
theorem Qwj (r:Res):QO9 (some r)=QzR r:=rfl
theorem QmG (hp:c.pan=true) (id:Nat) (ops:Array Oper):c.code (.region id ops false) σ=if Qav (QR ops.toList) σ then c.runP id ops.toList 0 ops.toList σ else none:=by
 simp only[Cx.code,hp,if_true]
theorem QCt (id:Nat) (ops:List Oper) (i:Nat):c.runP id ops i [] σ=some (.normal,c.close id σ):=rfl
theorem Qvw (id:Nat) (ops:List Oper) (i:Nat) (o:Oper) (t:List Oper):c.runP id ops i (o::t) σ=c.runPK id ops i o t σ (c.stepEK ops i o σ (c.step ops i o σ)):=by
 have e:c.stepE ops i o σ=c.stepEK ops i o σ (c.step ops i o σ):=by
  simp only[Cx.stepE,Cx.stepEK];cases c.step ops i o σ with
  | some σ'=>rfl
  | none=>
   simp only;cases Qa5 ops σ o with
   | none=>rfl
   | some b=>cases b<;>rfl
 rw[←e];simp only[Cx.runP,Cx.runPK];cases c.stepE ops i o σ<;>rfl
theorem Qtv (id:Nat) (ops:List Oper) (i:Nat) (o:Oper) (t:List Oper) (σ':St):c.runPK id ops i o t σ (some σ')=c.runP id ops (i+1) t σ':=rfl
theorem Qub (id:Nat) (ops:List Oper) (i:Nat) (o:Oper) (t:List Oper):c.runPK id ops i o t σ none=c.panW o σ (Qa5 ops σ o):=by
 simp only[Cx.runPK,Cx.panW,QM4]
theorem QLl (o:Oper):c.panW o σ (some true)=QM4 σ (c.panAt o σ):=rfl
theorem Qvr (v:Value):QM4 σ (some v)=some (.pan v,σ):=rfl
theorem QML (b:Code) (v:Value):c.seqK b (some (.pan v,σ))=some (.pan v,σ):=rfl
theorem QMl (id:Nat) (v:Value):QIe id (some (.pan v,σ))=some (.pan v,σ):=rfl
theorem Qp5 (id:Nat) (ops:List Oper):c.closeD id ops none=none:=rfl
theorem QyJ:QIj (some σ)=some (.normal,σ):=rfl
theorem QzC:QIj none=none:=rfl
theorem Qvh (id:Nat) (ops:List Oper):c.region id ops σ=if Qav (QR ops) σ then c.closeD id ops (c.ops ops 0 ops σ)else none:=by
 unfold Cx.region Cx.closeD; cases c.ops ops 0 ops σ<;>rfl
theorem Qul (id:Nat) (ops:List Oper):c.regionE id ops σ=if Qav (QR ops) σ then c.closeK id (c.opsE ops 0 ops σ)else none:=by
 unfold Cx.regionE Cx.closeK; cases c.opsE ops 0 ops σ<;>rfl
theorem QCy (ops:List Oper) (i:Nat):c.opsE ops i [] σ=some σ:=rfl
theorem Qwu (ops:List Oper) (i:Nat) (o:Oper) (t:List Oper):c.opsE ops i (o::t) σ=c.opsEK ops i t (c.stepEK ops i o σ (c.step ops i o σ)):=by
 simp only[Cx.opsE,Cx.opsEK,Cx.stepE,Cx.stepEK];cases c.step ops i o σ with
 | some σ'=>rfl
 | none=>
  simp only;cases Qa5 ops σ o with
  | none=>rfl
  | some b=>
   cases b with
   | false=>rfl
   | true=>simp only[Cx.effK]; cases c.eff i o σ<;>rfl
theorem Qt5 (ops:List Oper) (i:Nat) (t:List Oper):c.opsEK ops i t (some σ)=c.opsE ops (i+1) t σ:=rfl
theorem QuU (ops:List Oper) (i:Nat) (t:List Oper):c.opsEK ops i t none=none:=rfl
theorem Qrt (ops:List Oper) (i:Nat) (o:Oper) (σ':St):c.stepEK ops i o σ (some σ')=some σ':=rfl
theorem QjA (ops:List Oper) (i:Nat) (o:Oper):c.stepEK ops i o σ none=c.effK i o σ (Qa5 ops σ o):=rfl
theorem QKu (i:Nat) (o:Oper):c.effK i o σ (some true)=c.eff i o σ:=rfl
theorem QwV (i:Nat) (d:Option Nat):c.putK i d σ none=none:=rfl
theorem QqT (id:Nat) (ops:List Oper):c.closeD id ops (some σ)=if Qil ops σ (c.diff id)then some (c.close id σ)else none:=rfl
theorem Qqe (id:Nat):c.closeK id (some σ)=some (c.close id σ):=rfl
theorem QG0 (ops:List Oper) (i:Nat):c.ops ops i [] σ=some σ:=rfl
theorem Qz7 (ops:List Oper) (i:Nat) (o:Oper) (t:List Oper):c.ops ops i (o::t) σ=c.opsK ops i t (c.step ops i o σ):=by
 simp only[Cx.ops,Cx.opsK]; cases c.step ops i o σ<;>rfl
theorem Qwp (ops:List Oper) (i:Nat) (t:List Oper):c.opsK ops i t (some σ)=c.ops ops (i+1) t σ:=rfl
theorem Qya (ops:List Oper) (i:Nat) (t:List Oper):c.opsK ops i t none=none:=rfl
theorem QGY (ops:List Oper) (i:Nat) (o:Oper):c.step ops i o σ=c.stepK i o σ (Qa5 ops σ o):=by
 unfold Cx.step Cx.stepK;cases Qa5 ops σ o with
 | none=>rfl
 | some b=>cases b<;>simp only[Cx.putK]<;>(try rfl)<;>(cases aop c.Γ c.eqs c.Δ o.op σ.ev σ.boxes σ.toks<;>rfl)
theorem QFE (i:Nat) (o:Oper):c.stepK i o σ (some true)=c.putK i o.dst σ (aop c.Γ c.eqs c.Δ o.op σ.ev σ.boxes σ.toks):=rfl
theorem QGk (i:Nat) (o:Oper):c.stepK i o σ (some false)=σ.put c.N i o.dst .skip:=rfl
theorem Qyj (i:Nat) (d:Option Nat) (r:Res):c.putK i d σ (some r)=σ.put c.N i d r:=rfl
theorem QBT (a b:Code):c.code (.seq a b) σ=c.seqK b (c.code a σ):=by
 simp only[Cx.code,Cx.seqK]; cases c.code a σ with
 | none=>rfl
 | some p=>obtain⟨e,σ'⟩:=p; cases e<;>rfl
theorem QMw (b:Code):c.seqK b (some (.normal,σ))=c.code b σ:=rfl
theorem QK0 (b:Code) (j:Nat):c.seqK b (some (.exit j,σ))=some (.exit j,σ):=rfl
theorem QJF (b:Code):c.seqK b (some (.ret,σ))=some (.ret,σ):=rfl
theorem Qx5 (x:Operand) (a b:Code):c.code (.cond x a b) σ=c.condK a b σ (σ.ev x):=by
 simp only[Cx.code,Cx.condK]; rfl
theorem QGZ (a b:Code):c.condK a b σ (.d (.v (.bool true)))=c.code a σ:=rfl
theorem QGd (a b:Code):c.condK a b σ (.d (.v (.bool false)))=c.code b σ:=rfl
theorem Qup (id:Nat) (a:Code):c.code (.block id a) σ=QIe id (c.code a σ):=by
 simp only[Cx.code,QIe]; cases c.code a σ with
 | none=>rfl
 | some p=>obtain⟨e,σ'⟩:=p; cases e<;>rfl
theorem QIJ (id:Nat):QIe id (some (.normal,σ))=some (.normal,σ):=rfl
theorem QJ6 (id j:Nat):QIe id (some (.exit j,σ))=if j=id then some (.normal,σ)else some (.exit j,σ):=rfl
theorem QIA (id:Nat):QIe id (some (.ret,σ))=some (.ret,σ):=rfl
theorem QxH (a:Code):c.code (.loop a) σ=c.loop a σ:=rfl
theorem Qyk (id:Nat):c.code (.exit id) σ=some (.exit id,σ):=rfl
theorem QtB (a:Code):c.code (.scope a) σ=c.code a σ:=rfl
theorem QCl:c.code .ret σ=some (.ret,σ):=rfl
theorem QGH (cd:Code) (rs:List ResultVar) (ds:List D):c.call cd rs ds=c.callK rs (c.code cd ⟨Qqm 0 ds,[],[],[]⟩):=by
 unfold Cx.call Cx.callK;cases c.code cd ⟨Qqm 0 ds,[],[],[]⟩with
 | none=>rfl
 | some p=>obtain⟨e,σ'⟩:=p; cases e<;>rfl
theorem QGf (rs:List ResultVar):c.callK rs (some (.normal,σ))=(match Qgs c.Γ σ rs with | some r=>some (Qfd r) | none=>none):=rfl
theorem QGo (rs:List ResultVar):c.callK rs (some (.ret,σ))=(match Qgs c.Γ σ rs with | some r=>some (Qfd r) | none=>none):=rfl
theorem QB1 (cd:Code) (rs:List ResultVar) (xs:List X) (cs:List Cont) (tl:List Nat):c.callE cd rs xs cs tl=c.callEK rs cs (c.code cd ⟨QDu 0 xs,QcK 0 cs,tl,Qff 0 cs⟩):=by
 unfold Cx.callE Cx.callEK;cases c.code cd ⟨QDu 0 xs,QcK 0 cs,tl,Qff 0 cs⟩with
 | none=>rfl
 | some p=>obtain⟨e,σ'⟩:=p; cases e<;>rfl
theorem QA6 (rs:List ResultVar) (cs:List Cont):c.callEK rs cs (some (.normal,σ))=(match Qv5 c.Γ σ rs,QwC σ 0 cs with | some r,some ns=>some (Qfd r,ns,(Qtd σ.toks ns).toList) | _,_=>none):=rfl
theorem QBc (rs:List ResultVar) (cs:List Cont):c.callEK rs cs (some (.ret,σ))=(match Qv5 c.Γ σ rs,QwC σ 0 cs with | some r,some ns=>some (Qfd r,ns,(Qtd σ.toks ns).toList) | _,_=>none):=rfl
end
theorem Qr8 {f:St→Option (AEx×St)} (S:Nat→St) (e:AEx) (σ':St) (he:e≠ .normal):∀(n k F:Nat),(∀j,k≤j→j < k+n→f (S j)=some (.normal,S (j+1)))→f (S (k+n))=some (e,σ')→n < F→iter f F (S k)=some (e,σ')
 | 0,k,F,_,h,hF=>by
  obtain⟨F',rfl⟩:∃F',F=F'+1:=⟨F - 1,by omega⟩
  simp only[iter];rw[Nat.add_zero]at h;rw[h];cases e with
  | normal=>exact absurd rfl he
  | _=>rfl
 | n+1,k,F,hs,h,hF=>by
  obtain⟨F',rfl⟩:∃F',F=F'+1:=⟨F - 1,by omega⟩
  simp only[iter];rw[hs k (Nat.le_refl _) (by omega)]
  exact Qr8 S e σ' he n (k+1) F' (fun j h1 h2=>hs j (by omega) (by omega)) (by rw[show k+1+n=k+(n+1) by omega]; exact h) (by omega)
theorem Qec {c:Cx} {a:Code} (S:Nat→St) (e:AEx) (σ':St) (n:Nat) (he:e≠ .normal) (hs:∀j,j < n→c.code a (S j)=some (.normal,S (j+1))) (h:c.code a (S n)=some (e,σ')) (hF:n < c.F):c.loop a (S 0)=some (e,σ'):=
 Qr8 S e σ' he n 0 c.F (fun j _ h2=>hs j (by omega)) (by rw[Nat.zero_add]; exact h) hF
def QuZ:Option (AEx×St)→Option (AEx×St)
 | some (.normal,_)=>none
 | r=>r
theorem QHI (σ:St):QuZ (some (.normal,σ))=none:=rfl
theorem QF7 (j:Nat) (σ:St):QuZ (some (.exit j,σ))=some (.exit j,σ):=rfl
theorem QEX (σ:St):QuZ (some (.ret,σ))=some (.ret,σ):=rfl
theorem QDN (v:Value) (σ:St):QuZ (some (.pan v,σ))=some (.pan v,σ):=rfl
theorem Qi {c:Cx} {a:Code} {σ0:St} {β:Type} {r:β} {R:Option (AEx×St)} (hL:c.loop a σ0=R) (S:Nat→St) (n:Nat) (h0:σ0=S 0) (K:Option (AEx×St)→Option β) (hs:∀j,j < n→c.code a (S j)=some (.normal,S (j+1))) (hF:n < c.F) (hK:K none=none) (h:K (QuZ (c.code a (S n)))=some r):K R=some r:=by
 subst h0;cases hc:c.code a (S n)with
 | none=>rw[hc]at h; change K none=some r at h; rw[hK]at h; cases h
 | some p=>
  obtain⟨e,σ'⟩:=p;rw[hc]at h;cases e with
  | normal=>change K none=some r at h; rw[hK]at h; cases h
  | _=>rw[←hL,Qec S _ σ' n (by simp) hs hc hF]; exact h
theorem QlT {fa fb:St→Option (AEx×St)} {ps al:List Nat} {t0:List (Nat×X)} :∀(l:List (List Value)) (S:Nat→St) (k:Nat),(∀j x,l[j]?=some x→QjD fa fb ps al t0 x (S (k+j))=some (.normal,S (k+j+1)))→Qe1 fa fb ps al t0 l (S k)=some (.normal,S (k+l.length))
 | [],S,k,_=>rfl
 | x::t,S,k,h=>by
  have h0:=h 0 x rfl;unfold QjD at h0;simp only[Qe1];split at h0
  case isFalse=>cases h0
  rename_i hl;rw[if_pos hl];split at h0
  case h_2=>cases h0
  rename_i σ1 h1;split at h0
  case h_1=>cases h0
  case h_3=>cases h0
  rename_i e σ2 hnp h2;simp only[Nat.add_zero]at h1 h0;simp only[Option.some.injEq,Prod.mk.injEq]at h0;obtain⟨rfl,h3⟩:=h0;rw[h1];simp only[h2];rw[h3,QlT t S (k+1) fun j x hj=>by have:=h (j+1) x (by simpa using hj); rw[show k+1+j=k+(j+1) by omega]; exact this]
  simp only[List.length_cons];rw[show k+1+t.length=k+(t.length+1) by omega]
theorem Qbf (p:Nat→Bool) (n:Nat):(∀k,k < n→p k=true)∨∃k,k < n∧p k=false∧∀j,j < k→p j=true:=by
 induction n with
 | zero=>left; intro k h; omega
 | succ n ih=>
  rcases ih with h | ⟨k,h1,h2,h3⟩
  ·cases hp:p n with
   | true=>
    left;intro k hk;by_cases e:k=n
    ·subst e; exact hp
    ·exact h k (by omega)
   | false=>exact .inr ⟨n,by omega,hp,h⟩
  ·exact .inr ⟨k,by omega,h2,h3⟩
theorem QzZ:IntKind.i64.wrap 1=1:=by decide
theorem Qwc:IntKind.i64.wrap 0=0:=by decide
structure CodL (α:Type) where
 enc:α→List D
 dec:List D→Option α
 ed:∀d x,dec d=some x→LImp d (enc x)
def nilL:CodL Unit:=⟨fun _=>[],fun d=>match d with | []=>some () | _=>none,fun d x h=>by
 split at h
 ·exact LImp.refl _
 ·cases h⟩
def QIE {α β:Type} (A:Cod α) (L:CodL β):CodL (α×β):=⟨fun x=>A.enc x.1::L.enc x.2,fun d=>match d with | d::ds=>(match A.dec d,L.dec ds with | some x,some y=>some (x,y) | _,_=>none) | _=>none,fun d x h=>by
 split at h
 ·split at h
  ·rename_i p q h1 h2; cases h; exact⟨_,_,rfl,A.ed _ _ h1,L.ed _ _ h2⟩
  ·cases h
 ·cases h⟩
def QIF {α:Type} (L:CodL α):Cod α:=⟨fun x=> .tup (L.enc x),fun d=>match d with | .tup ds=>L.dec ds | _=>none,fun d x h=>by
 split at h
 ·exact LImp.tup (L.ed _ _ h)
 ·cases h⟩
def Qj2 {α:Type} (A:Cod α):List D→Option (List α)
 | []=>some []
 | d::t=>match A.dec d,Qj2 A t with
  | some x,some y=>some (x::y)
  | _,_=>none
theorem Qpk {α:Type} (A:Cod α):∀(ds:List D) (l:List α),Qj2 A ds=some l→LImp ds (l.map A.enc)
 | [],l,h=>by simp only[Qj2,Option.some.injEq]at h; subst h; rfl
 | d::t,l,h=>by
  simp only[Qj2]at h;split at h
  ·rename_i x y h1 h2;cases h;exact⟨_,_,rfl,A.ed _ _ h1,Qpk A t y h2⟩
  ·cases h
def Qzb {α:Type} (A:Cod α):Cod (List α):=⟨fun l=> .agg (l.map A.enc),fun d=>match d with | .agg cs=>Qj2 A cs | _=>none,fun d x h=>by
 split at h
 ·exact(Qpk A _ _ h).agg
 ·cases h⟩
theorem QB3:nilL.dec []=some ():=rfl
theorem QCs (x:Unit):nilL.enc x=[]:=rfl
theorem Qvj {α β:Type} (A:Cod α) (L:CodL β) (d:D) (ds:List D):(QIE A L).dec (d::ds)=(match A.dec d,L.dec ds with | some x,some y=>some (x,y) | _,_=>none):=rfl
theorem QwJ {α β:Type} (A:Cod α) (L:CodL β) (x:α) (y:β):(QIE A L).enc (x,y)=A.enc x::L.enc y:=rfl
theorem QvF {α:Type} (L:CodL α) (ds:List D):(QIF L).dec (.tup ds)=L.dec ds:=rfl
theorem Qwr {α:Type} (L:CodL α) (x:α):(QIF L).enc x= .tup (L.enc x):=rfl
theorem QtN {α:Type} (A:Cod α) (l:List α):(Qzb A).enc l= .agg (l.map A.enc):=rfl
theorem Qmj {α:Type} (A:Cod α) (h:∀x,A.dec (A.enc x)=some x) (l:List α):Qj2 A (l.map A.enc)=some l:=by
 induction l with
 | nil=>rfl
 | cons x t ih=>simp only[List.map_cons,Qj2,h,ih]
theorem QoA (l:List Bool):(Qzb QaW).dec (.agg (l.map DB))=some l:=Qmj QaW (fun _=>rfl) l
theorem Qp8 (l:List Int):(Qzb QaY).dec (.agg (l.map DI))=some l:=Qmj QaY (fun _=>rfl) l
section
variable {P:Program} {f:Nat}
end
abbrev QfF:=List X→List Cont→List Nat→Option (D×List Cont×List Nat)
def Qj6 (l:List (Nat×QfF)) (f:Nat):QfF:=fun xs cs tl=>match Qt l f with | some s=>s xs cs tl | none=>none
def Qdl (P:Program) (f:Nat) (s:QfF):Prop:=∀xs cs tl d ns tl',s xs cs tl=some (d,ns,tl')→QNt P f xs cs tl d ns tl'
section
variable {P:Program} {f:Nat}
theorem Qb6:Qnm P (Qj6 []):=fun f xs cs tl d ns tl' h=>by cases h
theorem QeK {l:List (Nat×QfF)} {s:QfF} (hl:Qnm P (Qj6 l)) (he:∀xs w,(callFunc f xs).run P w= .ok (.enter f xs) w) (hs:Qdl P f s):Qnm P (Qj6 ((f,s)::l)):=by
 intro g xs cs tl d ns tl' h;unfold Qj6 at h;simp only[Qt]at h;by_cases e:g=f
 ·subst e; rw[if_pos rfl]at h; exact⟨he,hs xs cs tl d ns tl' h⟩
 ·rw[if_neg e]at h; exact hl g xs cs tl d ns tl' h
open Classical in
noncomputable def Qns {α:Type} (enc:α→List X×List Cont×List Nat) (res:α→Option (D×List Cont×List Nat)):QfF:=fun xs cs tl=>if h:∃p,enc p=(xs,cs,tl)then res h.choose else none
theorem Qgh {α:Type} {enc:α→List X×List Cont×List Nat} {res:α→Option (D×List Cont×List Nat)} (hinj:∀p q,enc p=enc q→res p=res q) (p:α) {xs:List X} {cs:List Cont} {tl:List Nat} (h:enc p=(xs,cs,tl)):Qns enc res xs cs tl=res p:=by
 have hex:∃p,enc p=(xs,cs,tl):=⟨p,h⟩;unfold Qns;rw[dif_pos hex];exact hinj _ _ (hex.choose_spec.trans h.symm)
theorem Qeb {α:Type} {enc:α→List X×List Cont×List Nat} {res:α→Option (D×List Cont×List Nat)} (h:∀p r,res p=some r→QNt P f (enc p).1 (enc p).2.1 (enc p).2.2 r.1 r.2.1 r.2.2):Qdl P f (Qns enc res):=by
 intro xs cs tl d ns tl' hr;unfold Qns at hr;split at hr
 ·rename_i hex;have hs:=hex.choose_spec;have:=h _ _ hr;rw[hs]at this;exact this
 ·cases hr
end
def QiT (l:List (Nat×(List D→Option (List (List Value))))) (f:Nat) (ds:List D):Option (List (List Value)):=match Qt l f with | some s=>s ds | none=>none
def QpD (P:Program) (s:Nat→List D→Option (List (List Value))):Prop:=∀gf caps l,s gf caps=some l→(∀xs w,(callFunc gf xs).run P w= .ok (.enter gf xs) w)∧QC4 P gf caps l
theorem Qcx {P:Program} :QpD P (QiT []):=fun gf caps l h=>by cases h
theorem QmV {P:Program} :QpD P (fun _ _=>none):=fun gf caps l h=>by cases h
theorem QAU {P:Program} {f:Nat} {l:List (Nat×(List D→Option (List (List Value))))} {s:List D→Option (List (List Value))} (hl:QpD P (QiT l)) (he:∀xs w,(callFunc f xs).run P w= .ok (.enter f xs) w) (hs:∀ds r,s ds=some r→QC4 P f ds r):QpD P (QiT ((f,s)::l)):=by
 intro g ds r h;unfold QiT at h;simp only[Qt]at h;by_cases e:g=f
 ·subst e; rw[if_pos rfl]at h; exact⟨he,hs ds r h⟩
 ·rw[if_neg e]at h; exact hl g ds r h
end Go.Proofs.YticoemblgkemiaaGreatDoor
namespace Go.Proofs.YticoemblgkemiaaGreatDoor
open Go.RowKit
structure FnI where
 fn:Func
 kp:Nat→List (Nat×Option Nat)
 kb:List (Nat×Nat×Nat):=[]
 df:Nat→List (Nat×Nat):=fun _=>[]
 md:Nat→Nat:=fun _=>0
 pq:Nat→List (Nat×List Nat):=fun _=>[]
def FnI.cd (i:FnI):Code:=match i.fn.body with | some c=>c | none=> .skip
def FnI.cx (i:FnI) (c:Cx):Cx:= { c with N:=i.fn.ntmps,kp:=i.kp,kb:=i.kb,diff:=i.df,md:=i.md,pq:=i.pq}
def Cx.runs (c:Cx) (T:List (Nat×FnI)):Nat→Cx
 | 0=>c
 | n+1=> { c with
   Δ:=fun f ds=>match c.Δ f ds with
    | some d=>some d
    | none=>match Qt T f with
     | none=>none
     | some i=>if ds.length≤i.fn.ntmps then(i.cx (c.runs T n)).call i.cd i.fn.results.toList ds else none
   Δe:=fun f xs cs tl=>match c.Δe f xs cs tl with
    | some d=>some d
    | none=>match Qt T f with
     | none=>none
     | some i=>if xs.length≤i.fn.ntmps then(i.cx (c.runs T n)).callE i.cd i.fn.results.toList xs cs tl else none}
structure FnI.Ok (P:Program) (f:Nat) (i:FnI):Prop where
 fn:P.funcs[f]?=some i.fn
 body:i.fn.body.isSome=true
 draws:QaO i.df i.md i.pq i.cd=true
 names:QxD i.cd=true
 call:∀xs w,(callFunc f xs).run P w= .ok (.enter f xs) w
 fre:QIi.contains f=false
theorem FnI.cd_eq {i:FnI} (h:i.fn.body.isSome=true):i.fn.body=some i.cd:=by
 unfold FnI.cd;cases e:i.fn.body with
 | none=>rw[e]at h; cases h
 | some c=>rfl
theorem FnI.cx_ok {P:Program} {c:Cx} (h:CxOk P c) (i:FnI):CxOk P (i.cx c):=⟨h.ty,h.eq,h.del,h.eff,h.mix,h.keys,h.pan,h.seq⟩
def Qt9 (P:Program) (T:List (Nat×FnI)):Prop:=∀f i,Qt T f=some i→i.Ok P f
theorem QFN {P:Program} :Qt9 P []:=fun _ _ h=>by cases h
theorem QP {P:Program} {T:List (Nat×FnI)} {f:Nat} {i:FnI} (h:i.Ok P f) (hT:Qt9 P T):Qt9 P ((f,i)::T):=by
 intro g j hg;simp only[Qt]at hg;split at hg
 ·rename_i e; cases hg; subst e; exact h
 ·exact hT g j hg
theorem QwX {P:Program} {c:Cx} (hc:CxOk P c) {T:List (Nat×FnI)} (hT:Qt9 P T):∀n,CxOk P (c.runs T n)
 | 0=>hc
 | n+1=>by
  have ih:=QwX hc hT n;refine⟨hc.ty,hc.eq,?_,?_,hc.mix,hc.keys,hc.pan,hc.seq⟩
  ·intro f ds d h;simp only[Cx.runs]at h;split at h
   ·rename_i d' hd; cases h; exact hc.del f ds d hd
   ·split at h
    ·cases h
    ·rename_i i hi;have ok:=hT f i hi;split at h
     ·rename_i hl;exact⟨ok.call,Qf (FnI.cx_ok ih i) ok.fn (FnI.cd_eq ok.body) rfl hl ok.draws h,fun hf=>absurd hf (by rw[ok.fre]; decide)⟩
     ·cases h
  ·intro f xs cs tl d ns tl' h;simp only[Cx.runs]at h;split at h
   ·rename_i d' hd; cases h; exact hc.eff f xs cs tl d ns tl' hd
   ·split at h
    ·cases h
    ·rename_i i hi;have ok:=hT f i hi;split at h
     ·rename_i hl;exact⟨ok.call,QbO (FnI.cx_ok ih i) ok.fn (FnI.cd_eq ok.body) rfl hl ok.draws ok.names h⟩
     ·cases h
theorem QvV {P:Program} {c:Cx} (hc:CxOk P c) {T:List (Nat×FnI)} (hT:Qt9 P T) (n:Nat) {f:Nat} {ds:List D} {d:D} (h:(c.runs T n).Δ f ds=some d):PureC P f ds d:=((QwX hc hT n).del f ds d h).2.1
end Go.Proofs.YticoemblgkemiaaGreatDoor
namespace Go.Proofs.YticoemblgkemiaaGreatDoor
open Go.RowKit
def QqW (w:World):Nat→Nat→Prop:=fun b _=>b < w.heap.size
structure Reads {α:Type} (P:Program) (t:TypeId) (r:Row α) (G:α→Prop):Prop where
 size:P.cellsOf t=r.k
 read:∀{H:Type} (enc:TypeId×Value→H) (w:World) (QbK:Nat) (cs:List Value) (d:DataW H) (ps:List MemPlace),DataW.trod enc P w 0 (fun _=>true) true QbK t cs=some (d,ps)→(∀n∈d.weights P t,n≤reachBytes)→
  ∃x,G x∧cs.length=r.k∧RelL (QqW w) w (r.enc x) cs∧∀v∈cs,v.oneCell'=true
section
variable {P:Program} {t:TypeId}
theorem Qqn {k:IntKind} (hu:P.underlying t=some (.int k)) (hc:P.cellsOf t=1):Reads P t (rK k) (fun n=>(Lit.int k n).wf=true):=by
 refine⟨hc,fun enc w QbK cs d ps h hw=>?_⟩;cases QbK with
 | zero=>simp[DataW.trod]at h
 | succ QbK=>
  simp only[DataW.trod,hu]at h;split at h<;>simp_all;rename_i k' n h1;obtain⟨⟨rfl,hwf⟩,_⟩:=h;exact⟨n,hwf,rfl,⟨_,_,rfl,by simp[Rel],rfl⟩,rfl⟩
theorem QE2 (hu:P.underlying t=some (.int .i64)) (hc:P.cellsOf t=1):Reads P t QH (fun n=>(Lit.int .i64 n).wf=true):=by
 have h:=Qqn hu hc;refine⟨hc,fun enc w QbK cs d ps h1 hw=>?_⟩;obtain⟨x,h1,h2,h3,h4⟩:=h.read enc w QbK cs d ps h1 hw;exact⟨x,h1,h2,h3,h4⟩
theorem QHg (hu:P.underlying t=some .string) (hc:P.cellsOf t=1):Reads P t Qg0 (fun s=>s.size≤reachBytes):=by
 refine⟨hc,fun enc w QbK cs d ps h hw=>?_⟩;cases QbK with
 | zero=>simp[DataW.trod]at h
 | succ QbK=>
  simp only[DataW.trod,hu]at h;split at h<;>simp_all;rename_i cs0 s;obtain⟨hwf,rfl,_⟩:=h;refine⟨s,?_,rfl,⟨_,_,rfl,by simp[Rel],rfl⟩,rfl⟩
  have:=hw s.data.toList.length (by simp[DataW.weights])
  simpa using this
theorem QnN {α β:Type} (f:α→Option β):∀(l:List α) (ys:List β),l.mapM f=some ys→ys.length=l.length∧∀(i:Nat) (x:α),l[i]?=some x→∃y,ys[i]?=some y∧f x=some y
 | [],ys,h=>by simp at h; subst h; simp
 | a::t,ys,h=>by
  rw[List.mapM_cons]at h;simp only[Option.pure_def,Option.bind_eq_bind,Option.bind_eq_some_iff,Option.some.injEq]at h;obtain⟨y,hy,zs,hz,rfl⟩:=h;obtain⟨h1,h2⟩:=QnN f t zs hz;refine⟨by simp[h1],fun i x hx=>?_⟩
  cases i with
  | zero=>simp at hx; subst hx; exact⟨y,rfl,hy⟩
  | succ i=>exact h2 i x (by simpa using hx)
theorem Qw7 {w:World} {a:Addr} {n:Nat} {cs:List Value} (h:w.cells? 0 a n=some cs):cs.length=n∧∀i v,cs[i]?=some v→w.cell? (a.add i)=some v:=by
 unfold World.cells? at h;rw[if_pos (Nat.zero_le _)]at h;obtain⟨h1,h2⟩:=QnN _ _ _ h;rw[List.length_range]at h1;refine⟨h1,fun i v hv=>?_⟩;have hi:i < n:=by have:=(List.getElem?_eq_some_iff.1 hv).1; omega
 obtain⟨y,hy,he⟩:=h2 i i (by simp[hi])
 rw[hy]at hv; cases hv; exact he
theorem QkU {H:Type} (e:TypeId):∀(l:List (DataW H)) (d:DataW H),d∈l→∀n∈d.weights P e,n∈DataW.weightsAll P e l
 | a::l,d,hd,n,hn=>by
  simp only[DataW.weightsAll,List.mem_append];rcases List.mem_cons.1 hd with rfl | hd
  ·exact .inl hn
  ·exact .inr (QkU e l d hd n hn)
theorem Qk0 {w:World} {b:Nat} :∀(ds:List D) (cs:List Value) (o:Nat),RelL (QqW w) w ds cs→(∀v∈cs,v.oneCell'=true)→(∀i v,cs[i]?=some v→w.cell? ⟨b,o+i,none⟩=some v)→(0 < ds.length→b < w.heap.size)→RelCells (QqW w) w ds b o
 | [],cs,o,_,_,_,_=>trivial
 | d::ds,cs,o,hr,h1,hc,hb=>by
  simp only[RelL]at hr;obtain⟨v,t,rfl,h2,h3⟩:=hr;refine⟨⟨v,hb (by simp),by simpa using hc 0 v rfl,h1 v (by simp),h2⟩,Qk0 ds t (o+1) h3 (fun v hv=>h1 v (by simp[hv])) (fun i v hv=>?_) (fun _=>hb (by simp))⟩
  have:=hc (i+1) v (by simpa using hv)
  rw[show o+1+i=o+(i+1) by omega]; exact this
def QwY {α:Type} (r:Row α):Row (List α):=⟨1,fun l=>[D.sl r.k (l.map r.enc)],fun d=>match d with | [x]=>(QJ r).dec x | _=>none,fun x=>by simp only[Qbd r x r.k rfl],fun d x h=>by
 split at h
 ·rename_i y; exact⟨_,_,rfl,(QJ r).ed _ _ h,rfl⟩
 ·cases h⟩
theorem Reads.mono {α:Type} {r:Row α} {G G':α→Prop} (h:Reads P t r G) (hg:∀x,G x→G' x):Reads P t r G':=
 ⟨h.size,fun enc w QbK cs d ps h1 h2=>let ⟨x,g1,g2,g3,g4⟩:=h.read enc w QbK cs d ps h1 h2; ⟨x,hg x g1,g2,g3,g4⟩⟩
theorem QhQ {e:TypeId} {α:Type} {r:Row α} {G:α→Prop} (B:Nat) (hB:B≤140737488355328) (hu:P.underlying t=some (.slice e)) (hc:P.cellsOf t=1) (he:Reads P e r G) (hk:0 < r.k) (hb:∀n,n*P.bytesOf e≤reachBytes→n≤B):
  Reads P t (QwY r) (fun l=>(∀x∈l,G x)∧l.length≤B):=by
 refine⟨hc,fun enc w QbK cs d ps h hw=>?_⟩;cases QbK with
 | zero=>simp[DataW.trod]at h
 | succ QbK=>
  simp only[DataW.trod,hu]at h;split at h<;>try (simp_all; done)
  ·simp only[Option.some.injEq,Prod.mk.injEq]at h;obtain⟨rfl,_⟩:=h;refine⟨[],by simp,rfl,⟨_,_,rfl,?_,rfl⟩,by simp[Value.oneCell']⟩
   simp[Rel]
  ·rename_i e' a len cap heq;simp only[Option.some.injEq,TypeDesc.slice.injEq]at heq;subst heq;split at h
   ·rename_i hcond;obtain⟨_,hlc,hcm⟩:=hcond;simp only[if_true,Option.bind_eq_some_iff,Option.map_eq_some_iff,Prod.mk.injEq]at h;obtain⟨elems,hel,rest,hre,rfl,_⟩:=h;obtain⟨l1,l2⟩:=QnN _ _ _ hel;rw[List.length_range]at l1;have hwt:∀n∈(DataW.slice (elems.map (·.1)) (rest.map (·.1))).weights P t,n≤reachBytes:=hw;simp only[DataW.weights,hu,List.mem_cons,List.mem_append]at hwt;have hlen:(elems.length+rest.length)*P.bytesOf e≤reachBytes:=by simpa using hwt _ (.inl rfl)
    have hl44:len≤B:=Nat.le_trans (by omega) (hb _ hlen)
    have hat:∀i,i < len→∃x cs,G x∧cs.length=r.k∧RelL (QqW w) w (r.enc x) cs∧(∀v∈cs,v.oneCell'=true)∧∀j v,cs[j]?=some v→w.cell? ((a.add (i*r.k)).add j)=some v:=by
     intro i hi;obtain⟨y,hy,hf⟩:=l2 i i (by simp[hi])
     simp only[Option.bind_eq_some_iff]at hf;obtain⟨cs,hcs,ht⟩:=hf;rw[he.size]at hcs;obtain⟨c1,c2⟩:=Qw7 hcs;have hmem:y.1∈elems.map (·.1):=List.mem_map.2 ⟨y,List.mem_of_getElem? hy,rfl⟩;obtain⟨x,g1,g2,g3,g4⟩:=he.read enc w QbK cs y.1 y.2 ht (fun n hn=>hwt n (.inr (.inl (QkU e _ _ hmem n hn))));exact⟨x,cs,g1,g2,g3,g4,c2⟩
    obtain⟨l,hl,hrel⟩:∃l:List α,l.length=len∧∀i x,l[i]?=some x→∃cs,G x∧cs.length=r.k∧RelL (QqW w) w (r.enc x) cs∧(∀v∈cs,v.oneCell'=true)∧∀j v,cs[j]?=some v→w.cell? ((a.add (i*r.k)).add j)=some v:=by
     clear hcm hlc hlen hwt hel hre l1 l2 hl44 hw
     induction len with
     | zero=>exact⟨[],rfl,fun i x h=>by simp at h⟩
     | succ n ih=>
      obtain⟨l,h1,h2⟩:=ih (fun i hi=>hat i (by omega))
      obtain⟨x,cs,hx⟩:=hat n (by omega)
      refine⟨l++[x],by simp[h1],fun i y hy=>?_⟩
      rw[List.getElem?_append]at hy;split at hy
      ·exact h2 i y hy
      ·rename_i hlt;have:i - l.length=0:=by have:=(List.getElem?_eq_some_iff.1 hy).1; simp at this; omega
       rw[this]at hy;simp at hy; subst hy;have:i=n:=by omega
       subst this;exact⟨cs,hx⟩
    refine⟨l,⟨fun x hx=>?_,by omega⟩,rfl,⟨_,_,rfl,?_,rfl⟩,by simp[Value.oneCell']⟩
    ·obtain⟨i,hi,rfl⟩:=List.getElem_of_mem hx;obtain⟨cs,h1,_⟩:=hrel i _ (List.getElem?_eq_getElem hi);exact h1
    ·simp only[Rel,List.length_map,hl];refine⟨Nat.le_trans hl44 hB,some a,cap,rfl,hlc,?_⟩;by_cases h0:len=0
     ·left; simp; exact List.length_eq_zero_iff.1 (by omega)
     ·right;obtain⟨b,off,spot⟩:=a;obtain⟨x,cs,_,g2,_,_,g5⟩:=hat 0 (by omega)
      have hc0:=g5 0 cs[0] (List.getElem?_eq_getElem (by omega))
      have hspot:spot=none:=by simpa[Addr.add]using World.cell?_spot hc0
      subst hspot;refine⟨b,off,rfl,RelRows.of fun i rr hr=>?_⟩;rw[List.getElem?_map]at hr;obtain⟨x,hx,rfl⟩:=Option.map_eq_some_iff.1 hr;obtain⟨cs,q1,q2,q3,q4,q5⟩:=hrel i x hx;refine⟨by rw[←q3.length]; exact q2,Qk0 _ cs _ q3 q4 (fun j v hv=>?_) (fun h=>?_)⟩
      ·have:=q5 j v hv;rw[Addr.add_lit,Addr.add_lit]at this; exact this
      ·have:=q5 0 cs[0] (List.getElem?_eq_getElem (by omega))
       rw[Addr.add_lit,Addr.add_lit]at this;exact block_lt_of_cell this
   ·cases h
theorem QSz {e:TypeId} {α:Type} {r:Row α} {G:α→Prop} (hu:P.underlying t=some (.slice e)) (hc:P.cellsOf t=1) (he:Reads P e r G) (hk:0 < r.k) (hb:8≤P.bytesOf e):
  Reads P t (QwY r) (fun l=>(∀x∈l,G x)∧l.length≤17592186044416):=
 QhQ 17592186044416 (by omega) hu hc he hk fun n hn=>by
  have:n*8≤reachBytes:=Nat.le_trans (Nat.mul_le_mul_left _ hb) hn;unfold reachBytes at this; omega
theorem RelL.app {m:Nat→Nat→Prop} {w:World} :∀{as bs:List D} {vs us:List Value},RelL m w as vs→RelL m w bs us→RelL m w (as++bs) (vs++us)
 | [],bs,vs,us,h,k=>by simp only[RelL]at h; subst h; exact k
 | a::as,bs,vs,us,h,k=>by
  simp only[RelL]at h;obtain⟨v,t,rfl,h1,h2⟩:=h;exact⟨v,_,rfl,h1,RelL.app h2 k⟩
theorem Qfw {H:Type} {n:Nat} {T:TypeId} {Ts:List TypeId} {d:DataW H} {ds:List (DataW H)} :n∈DataW.weightsEach P (T::Ts) (d::ds)↔n∈d.weights P T∨n∈DataW.weightsEach P Ts ds:=by
 simp[DataW.weightsEach]
structure Fields {α:Type} (P:Program) (fs:List Field) (off:Nat) (enc:α→List D) (k:Nat) (G:α→Prop):Prop where
 read:∀{H:Type} (e:TypeId×Value→H) (w:World) (QbK:Nat) (cs:List Value) (xs:List (DataW H×List MemPlace)),cs.length=off+k→fs.mapM (fun f=>DataW.trod e P w 0 (fun _=>true) true QbK f.type ((cs.drop f.offset).take (P.cellsOf f.type)))=some xs→(∀n∈DataW.weightsEach P (fs.map (·.type)) (xs.map (·.1)),n≤reachBytes)→
  ∃x,G x∧RelL (QqW w) w (enc x) (cs.drop off)∧∀v∈cs.drop off,v.oneCell'=true
theorem Qf0 (off:Nat):Fields P [] off (fun _:Unit=>[]) 0 (fun _=>True):=
 ⟨fun e w QbK cs xs hl h hw=>⟨(),trivial,by rw[List.drop_of_length_le (by omega)]; rfl,by rw[List.drop_of_length_le (by omega)]; simp⟩⟩
theorem QaV {α β:Type} {f:Field} {fs:List Field} {off k:Nat} {r:Row α} {G:α→Prop} {enc:β→List D} {G':β→Prop} (h0:Reads P f.type r G) (ho:f.offset=off) (h1:Fields P fs (off+r.k) enc k G'):
  Fields P (f::fs) off (fun x:α×β=>r.enc x.1++enc x.2) (r.k+k) (fun x=>G x.1∧G' x.2):=by
 refine⟨fun e w QbK cs xs hl h hw=>?_⟩;rw[List.mapM_cons]at h;simp only[Option.pure_def,Option.bind_eq_bind,Option.bind_eq_some_iff,Option.some.injEq]at h;obtain⟨y,hy,zs,hz,rfl⟩:=h;simp only[List.map_cons]at hw;rw[ho,h0.size]at hy;obtain⟨x,g1,g2,g3,g4⟩:=h0.read e w QbK _ y.1 y.2 hy (fun n hn=>hw n (Qfw.2 (.inl hn)));obtain⟨x',q1,q3,q4⟩:=h1.read e w QbK cs zs (by omega) hz (fun n hn=>hw n (Qfw.2 (.inr hn)))
 have hs:cs.drop off=(cs.drop off).take r.k++cs.drop (off+r.k):=by
  rw[←List.drop_drop,List.take_append_drop]
 refine⟨(x,x'),⟨g1,q1⟩,?_,?_⟩
 ·rw[hs]; exact g3.app q3
 ·rw[hs]; intro v hv;rcases List.mem_append.1 hv with hv | hv
  ·exact g4 v hv
  ·exact q4 v hv
theorem Qjl {α β:Type} {fs:Array Field} {enc:α→List D} {k:Nat} {G:α→Prop} (r:Row β) (mk:α→β) (hu:P.underlying t=some (.struct fs)) (hf:Fields P fs.toList 0 enc k G) (hc:P.cellsOf t=k) (hr:r.k=k) (he:∀x,r.enc (mk x)=enc x):
  Reads P t r (fun y=>∃x,y=mk x∧G x):=by
 refine⟨by rw[hc,hr],fun e w QbK cs d ps h hw=>?_⟩
 cases QbK with
 | zero=>simp[DataW.trod]at h
 | succ QbK=>
  have hcl:cs.length=P.cellsOf t∧∃xs,fs.toList.mapM (fun f=>DataW.trod e P w 0 (fun _=>true) true QbK f.type ((cs.drop f.offset).take (P.cellsOf f.type)))=some xs∧d= .agg (xs.map (·.1)):=by
   simp only[DataW.trod,hu]at h;split at h
   ·rename_i hl;simp only[Option.map_eq_some_iff,Prod.mk.injEq]at h;obtain⟨xs,hx,rfl,_⟩:=h;exact⟨hl,xs,hx,rfl⟩
   ·cases h
  obtain⟨hl,xs,hx,rfl⟩:=hcl;simp only[DataW.weights,hu]at hw;obtain⟨x,g1,g2,g3⟩:=hf.read e w QbK cs xs (by omega) hx hw
  exact⟨mk x,⟨x,rfl,g1⟩,by omega,by rw[he]; simpa using g2,by simpa using g3⟩
theorem QEu {α:Type} {r:Row α} {G:α→Prop} (h:Reads P t r G) (hk:r.k≠1) {H:Type} {enc:TypeId×Value→H} {w:World} {v:Value} {d:DataW H} {p:List MemPlace} (ht:DataW.Trod enc P w 0 (fun _=>true) true t v d p) (hw:∀n∈d.weights P t,n≤reachBytes):
  ∃x,G x∧Rel (QqW w) w ((Qcf r).enc x) v:=by
 obtain⟨QbK,hf⟩:=ht;obtain⟨x,h1,h2,h3,h4⟩:=h.read enc w QbK _ d p hf hw;refine⟨x,h1,?_⟩;rw[QmL];simp only[Rel];refine⟨v.cells.toList,?_,h4,h3⟩;cases v<;>simp[Value.cells]at h2⊢ <;>omega
theorem Qxi {f:Nat} {ds:List D} (h:PureC P f ds (DB true)) {w:World} {vs:List Value} (hG:GlobIn (QqW w) w) (hr:RelL (QqW w) w ds vs):Calls P f vs.toArray w fun e w'=>e= .returned (.bool true)∧Below w.heap.size w w':=
 (h (QqW w) w vs (fun _ _ h=>h) hG hr).mono fun e w' ⟨v,m',h1,h2,_,h3⟩=>by
  simp only[Rel]at h3;subst h3;exact⟨h1,h2⟩
end
end Go.Proofs.YticoemblgkemiaaGreatDoor
