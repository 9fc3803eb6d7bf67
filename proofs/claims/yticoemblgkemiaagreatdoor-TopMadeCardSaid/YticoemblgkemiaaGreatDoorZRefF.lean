/-
  Cells of a block, told by a function. For any program. Conditions: none.
-/
import Derived.Test.YticoemblgkemiaaGreatDoorZMay
import Derived.Test.YticoemblgkemiaaGreatDoorZRefE
import Derived.Test.YticoemblgkemiaaGreatDoorZAmF
set_option linter.unusedSimpArgs false
set_option linter.unusedVariables false
namespace Go.Proofs.YticoemblgkemiaaGreatDoor
open Go.RowKit
def Qk (n:Nat) (g:Nat->D):List X:=(List.range n).map λt=>X.d (g t)
theorem Qb (n:Nat) (g:Nat->D):(Qk n g).length=n:=by simp[Qk]
theorem Qc {n:Nat} {g:Nat->D} {p:Nat} (h:p < n):(Qk n g)[p]?=some (.d (g p)):=by simp[Qk,h]
theorem Qg {n:Nat} {g:Nat->D} {p:Nat} (h:p < (Qk n g).length):(Qk n g)[p]= .d (g p):=by simp[Qk]
theorem Qo {n:Nat} {g:Nat->D} {p:Nat} {v:D} (h:p < n):(Qk n g).take p++X.d v::(Qk n g).drop (p+1)=Qk n (QZ g p v):=by
 refine List.ext_getElem? λq=>?_;have e:(Qk n g).take p++X.d v::(Qk n g).drop (p+1)=(Qk n g).set p (.d v):=by
  rw[List.set_eq_take_append_cons_drop,if_pos (by rw[Qb]; exact h)]
 rw[e,List.getElem?_set];by_cases hq:p=q
 .subst hq;rw[if_pos rfl,if_pos (by rw[Qb]; exact h),Qc h,Qac]
 .rw[if_neg hq];by_cases hn:q < n
  .rw[Qc hn,Qc hn,Q2 _ _ (λh=>hq h.symm)]
  .rw[List.getElem?_eq_none (by rw[Qb]; omega),List.getElem?_eq_none (by rw[Qb]; omega)]
theorem QbJ {n:Nat} {g:Nat->D} :∀c∈Qk n g,∃d,c= .d d:=by
 intro c hc;obtain⟨d,_,rfl⟩:=List.mem_map.1 hc;exact⟨_,rfl⟩
theorem Qaj (n:Nat) (g:Nat->D) (P:X->Prop) (h:∀d,P (.d d)):(∀c,c∈Qk n g->P c)=True:=by
 refine eq_true λc hc=>?_;obtain⟨d,rfl⟩:=QbJ c hc;exact h d
theorem QbM (kb:List (Nat×Nat×Nat)) (b:Nat):∀(cs:List X) (i:Nat) (av nw:List Nat),(∀j,Qeu kb b j=none)->(∀c∈cs,∃d,c= .d d)->Qaz kb b i cs av nw=(cs,av,nw)
 | [],_,_,_,_,_=>rfl
 | c::t,i,av,nw,hk,h=>by
  obtain⟨d,rfl⟩:=h c (by simp)
  unfold Qaz;rw[hk];simp only[QbM kb b t _ _ _ hk λc hc=>h c (by simp[hc])]
  rfl
theorem QeM (b j:Nat):Qeu [] b j=none:=rfl
theorem Qd3 {a o k b:Nat} {t:List (Nat×Nat×Nat)} (h:(b==a)=false) (ht:∀j,Qeu t b j=none) (j:Nat):Qeu ((a,o,k)::t) b j=none:=by
 unfold Qeu;rw[if_neg (λe=>by rw[e.1]at h; simp at h)]
 exact ht j
theorem QA (n:Nat) (g:Nat->D) (b i:Nat) (av nw:List Nat):Qaz [] b i (Qk n g) av nw=(Qk n g,av,nw):=QbM [] b _ i av nw (QeM b) QbJ
theorem QIp (g:Nat->D):∀l:List Nat,Qbp (l.map λt=>X.d (g t))=some (l.map g)
 | []=>rfl
 | a::t=>by simp only[List.map_cons,Qbp,X.data,QIp g t]
theorem Qv (n:Nat) (g:Nat->D):Qbp (Qk n g)=some ((List.range n).map g):=QIp g _
theorem QaG (n:Nat) (g:Nat->D):(Qk n g).take n=Qk n g:=List.take_of_length_le (by rw[Qb]; exact Zr _)
theorem QO7 (n:Nat) (d:D):List.replicate n (X.d d)=Qk n (λ_=>d):=by
 refine List.ext_getElem (by simp[Qk]) λi h1 h2=>?_
 simp[Qk]
theorem Qfy (f:Nat->Bool) (p:Nat) (v:Bool):QZ (λt=>DB (f t)) p (DB v)=λt=>DB (QZ f p v t):=by
 funext t; unfold QZ; split<;>rfl
theorem Qdc {n:Nat} {f g:Nat->D} (h:∀t,t < n->f t=g t):Qk n f=Qk n g:=
 List.map_congr_left λt ht=>by rw[h t (Zm.1 ht)]
theorem QDs {l:List Int} :(l.map QH.enc).flatten.map X.d=Qk l.length (λj=>DI (l.getD j 0)):=by
 have e:∀l:List Int,(l.map QH.enc).flatten=l.map DI:=λl=>by
  induction l with
  | nil=>rfl
  | cons a t ih=>simp only[List.map_cons,List.flatten_cons,ih]; rfl
 rw[e];refine List.ext_getElem (by simp[Qk]) λi h1 h2=>?_
 have hi:i < l.length:=by simpa using h1
 simp[Qk,Zd,hi]
def rBl:Row Bool:=⟨1,λx=>[DB x],λd=>match d with | [.v (.bool b)]=>some b | _=>none,λ_=>rfl,λd x h=>by
 split at h
 .cases h; exact LImp.refl _
 .cases h⟩
theorem Qa9 (x:Bool):rBl.enc x=[DB x]:=rfl
theorem Qd0:rBl.k=1:=rfl
theorem QeB {c:Cx} {a:Code} {σ0:St} {R:Option (AEx×St)} (hL:c.loop a σ0=R) (S:Nat->St) (n:Nat) (eI:Nat->Bool) (T X:AEx×St) (h0:σ0=S 0) (hF:n < c.F) (hT:T.1≠ .normal) (hX:X.1≠ .normal)
  (hs:∀j,j < n->c.code a (S j)=some (if eI j=true then(.normal,S (j+1))else T)) (hx:c.code a (S n)=some X):R=some (if(List.range n).all eI=true then X else T):=by
 subst h0;obtain⟨t1,t2⟩:=T;obtain⟨x1,x2⟩:=X;rcases Qbf eI n with hall | ⟨k,hk,aM,aT⟩
 .have e:(List.range n).all eI=true:=Zl.2 λi hi=>hall i (Zm.1 hi);rw[e,if_pos rfl,<-hL];exact Qec S x1 x2 n hX (λj hj=>by rw[hs j hj,if_pos (hall j hj)]) hx hF
 .have e:(List.range n).all eI=false:=by
   rw[List.all_eq_false]; exact⟨k,Zm.2 hk,by rw[aM]; simp⟩
  rw[e,if_neg (by simp),<-hL]
  exact Qec S t1 t2 k hT (λj hj=>by rw[hs j (by omega),if_pos (aT j hj)]) (by rw[hs k hk,aM,if_neg (by simp)]) (by omega)
theorem Qn0 {L:List Int} {x:Nat} {v:Int} (h:x < L.length):QZ (λj=>DI (L.getD j 0)) x (DI v)=λj=>DI ((L.set x v).getD j 0):=by
 funext j;unfold QZ;simp only[Zd,List.getElem?_set];by_cases e:j=x
 .subst e; simp[h]
 .rw[if_neg e,if_neg (λq=>e q.symm)]
def Qyc (r:Nat):List (Nat×Option Nat):=match r with
 | 0=>kpn [0,1,2]
 | 1=>kpn [0,1,2,7]
 | 2=>kpn [0,1,2,7]
 | 3=>kpn [0,2,7,8]
 | 4=>kpn [0,2,7,8,22]
 | 5=>kpn [0,2,7,8]
 | 6=>kpn [0,2,7,8,9]
 | 7=>kpn [0,2,7,8,9,32]
 | 8=>kpn [0,2,7,8,9]
 | 9=>kpn [0,2,7,8,9]
 | 10=>kpn [0,2,7,8,10]
 | 11=>kpn [0,2,7,8,10,59]
 | 12=>kpn [0,2,7,8,10]
 | 13=>kpn [0,2,7,8,10]
 | 14=>[(6,none)]
 | _=>[]
theorem QkZ {α:Type} {p q:α->Bool} :∀{l:List α},(∀x∈l,p x=q x)->l.any p=l.any q
 | [],_=>rfl
 | a::t,h=>by rw[List.any_cons,List.any_cons,h a (by simp),QkZ λx hx=>h x (by simp[hx])]
theorem QCI {b:List Bat} {i:Nat} {more:List Edg} (h:EdgOk b more) {t m:Nat} (ht:t < m):Qam b i more m t=(decide (t=i)||(b.getD t default).takes.any (λk=>Qam b i more m k.fr.toNat)||more.any (λe=>e.to==(t:Int)&&Qam b i more m e.fr.toNat)):=by
 rw[QbE b i more (show t < t+1 by omega) (by omega:t+1<=m),Qam,Qac]
 congr 1
 .congr 1;refine QkZ λk hk=>?_;have:=h.tk t k hk;exact(QbE b i more (by omega:k.fr.toNat < t) (by omega:t<=m)).symm
 .refine QkZ λe he=>?_;have:=h.ed e he;by_cases hq:e.to=(t:Int)
  .rw[QbE b i more (by omega:e.fr.toNat < t) (by omega:t<=m)]
  .have:(e.to==(t:Int))=false:=by simpa using hq
   rw[this]; rfl
theorem QvI {b:List Bat} {i:Nat} {more:List Edg} (h:EdgOk b more) {m:Nat} :∀{t:Nat},t < m->t < i->Qam b i more m t=false:=by
 intro t
 induction t using Nat.strongRecOn with
 | _ t ih=>
  intro ht hi;cases q:Qam b i more m t with
  | false=>rfl
  | true=>
   rcases(Qne h ht).1 q with e | ⟨x,h1,h2⟩
   .omega
   .have:=(QnI h h1).1;rw[ih x this (by omega) (by omega)]at h2; cases h2
theorem QtZ {b:List Bat} {i:Nat} {more:List Edg} (h:EdgOk b more) {m:Nat} (hi:i < m):Qam b i more m i=true:=(Qne h hi).2 (.inl rfl)
def mid (R:Nat->Bool) (i:Nat) (v:Bool):Nat->D:=λt=>DB (if t < i then R t else if t=i then v else false)
theorem QjR (R:Nat->Bool) (i:Nat) (v v':Bool):QZ (mid R i v) i (DB v')=mid R i v':=by
 funext t;unfold QZ mid;by_cases h:t=i
 .subst h; simp
 .simp[h]
theorem QwS {R:Nat->Bool} {i:Nat} {v:Bool} {p:Nat} (h:p < i):mid R i v p=DB (R p):=by simp[mid,h]
theorem Qow (R:Nat->Bool) (i:Nat) (v:Bool):mid R i v i=DB v:=by simp[mid]
theorem QAR (R:Nat->Bool) (i:Nat):mid R i (R i)=mid R (i+1) false:=by
 funext t;unfold mid;by_cases h:t < i
 .rw[if_pos h,if_pos (by omega)]
 .rw[if_neg h];by_cases e:t=i
  .subst e; rw[if_pos rfl,if_pos (by omega)]
  .rw[if_neg e,if_neg (by omega)]
   split<;>rfl
theorem QFv (R:Nat->Bool) (n:Nat):Qk n (mid R n false)=Qk n (λt=>DB (R t)):=Qdc λt ht=>QwS ht
noncomputable instance (b:List Bat) (more:List Edg):Decidable (EdgOk b more):=Classical.propDecidable _
noncomputable def s38:List D->Option D:=sp3 (QJ QQ) QaY (QJ Qci) (QJ rBl) λb n more=>if 0<=n/\n < b.length/\b.length<=8/\bkB b=true/\more.length<=1000/\EdgOk b more then some ((List.range b.length).map (Qam b n.toNat more b.length))else none
set_option maxHeartbeats 2000000 in
theorem ok38:∀ds d,s38 ds=some d->PureC Tryz.prog 17 ds d:=QcN λb n more r hr=>by
 split at hr
 .rename_i hc;obtain⟨h0,h1,h8,cL,hm,dM⟩:=hc;obtain⟨i,rfl⟩:∃i:Nat,n=i:=⟨n.toNat,by omega⟩
  cases hr;have hi:i < b.length:=by omega
  rw[Int.toNat_natCast];have kZ:∀t,t < b.length->t < i->Qam b i more b.length t=false:=λt h1 h2=>QvI dM h1 h2;have wI:=QtZ dM (i:=i) hi;have heq:∀t,t < b.length->Qam b i more b.length t=(decide (t=i)||(b.getD t default).takes.any (λk=>Qam b i more b.length k.fr.toNat)||more.any (λe=>e.to==(t:Int)&&Qam b i more b.length e.fr.toNat)):=λt ht=>QCI dM ht
  generalize hR:Qam b i more b.length=R at*;have sU:Qk b.length (QZ (λ_=>DB false) i (DB true))=Qk b.length (mid R (i+1) false):=Qdc λt ht=>by
   unfold QZ mid;by_cases e:t=i
   .subst e; simp[wI]
   .by_cases e2:t < i
    .rw[if_neg e,if_pos (by omega),kZ t ht e2]
    .rw[if_neg e,if_neg (by omega)]; simp
  have w1:=Qa ((i:Int)+1) (by omega) (by omega)
  have dW:(i:Int) < b.length:=by omega
  have o9:i+1<=b.length:=hi;have fZ:b.length<=140737488355328:=by omega
  have m7:((b.length:Int))<=140737488355328:=by omega
  refine Qf (Qw Qs 89 Qyc []) Tryz.func17 rfl rfl (Zb rfl) (by kernel_rfl) ?_
  simp[Qyc,Qj,QO7,Qaj,QA,Qb,Qo,hi,o9,dW,m7,sU,w1,Qz]
  (generalize aC:Cx.loop _ _ _=aE; apply Qi aC (λk=>⟨[(0,.d (.sl 5 (b.map QQ.enc))),(2,.d (.sl 2 (more.map Qci.enc))),(7,.bs 13 0 b.length 1),(8,.d (DI ((i+1+k:Nat):Int)))],[(13,Qk b.length (mid R (i+1+k) false))],[],[]⟩) (b.length - (i+1)) (by first | (simp; done) | (simp; rfl) | (simp; simp[*])); rotate_left; (show _ < 281474976710656; omega); rfl; rotate_left; all_goals clear aC)
  .intro k hk;obtain⟨t,ht⟩:∃t,t=i+1+k:=⟨_,rfl⟩;rw[show i+1+(k+1)=t+1 by omega,<-ht]
   have dG:t < b.length:=by omega
   have jV:(t:Int) < b.length:=by omega
   have lX:t+1<=b.length:=dG;have w2:=Qa ((t:Int)+1) (by omega) (by omega)
   have t8:=heq t dG;have hg:b.getD t default=b[t]:=Ql b t _ dG;rw[hg,decide_eq_false (show ¬t=i by omega),Bool.false_or]at t8
   have yS:=Qvs cL dG;have gN:∀q∈b[t].takes,0<=q.fr/\q.fr < t:=λq hq=>dM.tk t q (by rw[hg]; exact hq)
   simp[Qyc,Qaj,QA,jV]
   (generalize aC:Cx.loop _ _ _=aE; apply Qi aC (λj=>⟨[(0,.d (.sl 5 (b.map QQ.enc))),(2,.d (.sl 2 (more.map Qci.enc))),(7,.bs 13 0 b.length 1),(8,.d (DI t)),(9,.d (DI j))],[(13,Qk b.length (mid R t ((b[t].takes.take j).any λq=>R q.fr.toNat)))],[],[]⟩) b[t].takes.length (by first | (simp; done) | (simp; rfl) | (simp; simp[*])); rotate_left; (show _ < 281474976710656; omega); rfl; rotate_left; all_goals clear aC)
   .intro j hj;have aO:(j:Int) < b[t].takes.length:=by omega
    have w3:=Qa ((j:Int)+1) (by omega) (by omega)
    have hf:=gN b[t].takes[j] (Ze hj);have gJ:b[t].takes[j].fr.toNat < b.length:=by omega
    have lR:b[t].takes[j].fr < b.length:=by omega
    have kM:=QwS (R:=R) (v:=(b[t].takes.take j).any λq=>R q.fr.toNat) (show b[t].takes[j].fr.toNat < t by omega)
    rw[List.take_succ_eq_append_getElem hj,List.any_append];generalize hV:((b[t].takes.take j).any λq=>R q.fr.toNat)=V at*;cases V with
    | true=>simp[Qyc,Qe,Qaj,QA,Qb,Qg,Qo,Qow,QjR,dG,jV,lX,aO,w3]
    | false=>simp[Qyc,Qe,Qr,Qaj,QA,Qb,Qg,Qo,Qow,QjR,dG,jV,lX,hj,aO,w3,hf.1,gJ,lR,kM]
   .simp[Qyc,Qe,Qaj,QA,dG,jV];generalize hA:(b[t].takes.any λq=>R q.fr.toNat)=A at*
    (generalize aC:Cx.loop _ _ _=aE; apply Qi aC (λj=>⟨[(0,.d (.sl 5 (b.map QQ.enc))),(2,.d (.sl 2 (more.map Qci.enc))),(7,.bs 13 0 b.length 1),(8,.d (DI t)),(10,.d (DI j))],[(13,Qk b.length (mid R t (A||(more.take j).any λe=>e.to==(t:Int)&&R e.fr.toNat)))],[],[]⟩) more.length (by first | (simp; done) | (simp; rfl) | (simp; simp[*])); rotate_left; (show _ < 281474976710656; omega); rfl; rotate_left; all_goals clear aC)
    .intro j hj;have aO:(j:Int) < more.length:=by omega
     have w3:=Qa ((j:Int)+1) (by omega) (by omega)
     have hf:=dM.ed more[j] (Ze hj);rw[List.take_succ_eq_append_getElem hj,List.any_append,<-Bool.or_assoc];generalize hV:(A||(more.take j).any λe=>e.to==(t:Int)&&R e.fr.toNat)=V at*
     cases V with
     | true=>simp[Qyc,Qaj,QA,Qb,Qg,Qo,Qow,QjR,dG,jV,lX,aO,w3]
     | false=>
      by_cases he:more[j].to=(t:Int)
      .have gJ:more[j].fr.toNat < b.length:=by omega
       have lR:more[j].fr < b.length:=by omega
       have kM:=QwS (R:=R) (v:=false) (show more[j].fr.toNat < t by omega)
       simp[Qyc,QI,Qaj,QA,Qb,Qg,Qo,Qow,QjR,dG,jV,lX,hj,aO,w3,he,hf.1,gJ,lR,kM]
      .have mI:(more[j].to==(t:Int))=false:=by simpa using he
       simp[Qyc,QI,Qaj,QA,Qb,Qg,Qo,Qow,QjR,dG,jV,lX,hj,aO,w3,mI]
    .simp[Qyc,Qaj,QA,<-t8,QAR,w2]
  .have e:i+1+(b.length - (i+1))=b.length:=by omega
   rw[e,QFv];simp[Qyc,Qaj,QA,Qb,Qv,QaG,Qd0,Qa9,fZ,Function.comp_def]
 .cases hr
theorem QJw (xs:Array Value) (w:World):(callFunc 17 xs).run Tryz.prog w= .ok (.enter 17 xs) w:=by kernel_rfl
end Go.Proofs.YticoemblgkemiaaGreatDoor
namespace Go.Proofs.YticoemblgkemiaaGreatDoor
open Go.RowKit
def Qwf (r:Nat):List (Nat×Option Nat):=match r with
 | 0=>[(0,none)]
 | 1=>[(0,none),(3,some 1001)]
 | 2=>[(0,none),(3,some 1001),(4,none)]
 | 3=>[(0,none),(3,some 1001),(4,none),(11,none)]
 | 4=>[(0,none),(3,some 1001),(4,none)]
 | 5=>[(0,none),(3,some 1001),(4,none)]
 | 6=>[(0,none),(3,some 1001),(5,none)]
 | 7=>[(0,none),(3,some 1001),(5,none),(25,none)]
 | 8=>[(0,none),(3,some 1001),(5,none)]
 | 9=>[(0,none),(3,some 1001),(5,none),(6,none)]
 | 10=>[(0,none),(3,some 1001),(5,none),(6,none),(35,none)]
 | 11=>[(0,none),(3,some 1001),(5,none),(6,none)]
 | 12=>[(0,none),(3,some 1001),(5,none),(6,none),(7,none)]
 | 13=>[(0,none),(3,some 1001),(5,none),(6,none)]
 | 14=>[(2,some 1)]
 | _=>[]
theorem QEF {L:List Int} {t:Tak} (h0:0<=t.fr) (hl:t.fr < L.length):QZ (λj=>DI (L.getD j 0)) t.fr.toNat (DI (L.getD t.fr.toNat 0 - t.gr))=λj=>DI ((Qob L t).getD j 0):=by
 funext j;rw[QmC L t h0 hl j];unfold QZ;by_cases h:j=t.fr.toNat
 .subst h;rw[if_pos rfl,if_pos (by omega)]
 .rw[if_neg h,if_neg (by omega),Int.sub_zero]
def Qe5 (b:List Bat):List Int:=b.map (·.grams)
theorem Qu2 {b:List Bat} {j:Nat} (h:j < b.length):Qe5 (b.take (j+1))=Qe5 (b.take j)++[b[j].grams]:=by
 rw[List.take_succ_eq_append_getElem h]; simp only[Qe5,List.map_append,List.map_cons,List.map_nil]
theorem QMq {l:List Tak} (h:Qp0 l=true):∀(k:Nat) (hk:k < l.length),∀(j:Nat) (hj:j < k),(l[j]'(by omega)).fr < l[k].fr:=by
 unfold Qp0 at h;rw[decide_eq_true_eq]at h;intro k
 induction k with
 | zero=>intro _ j hj; omega
 | succ k ih=>
  intro hk j hj;have h1:=h (k+1) hk (by omega)
  rw[Ql _ _ _ hk,Ql _ _ _ (by omega:k+1 - 1 < l.length)]at h1
  simp only[Nat.add_sub_cancel]at h1;by_cases e:j=k
  .subst e; exact h1
  .exact Int.lt_trans (ih (by omega) j (by omega)) h1
theorem QeX {l:List Tak} {i:Nat} (h:Qp0 l=true) (hf:∀t∈l,0<=t.fr/\t.fr < i):l.length<=i:=by
 have key:∀(k:Nat) (hk:k < l.length),(k:Int)<=l[k].fr:=by
  intro k
  induction k with
  | zero=>intro hk; exact(hf _ (Ze hk)).1
  | succ k ih=>
   intro hk;have h1:=ih (by omega)
   have h2:=QMq h (k+1) hk k (by omega)
   omega
 by_cases h0:l.length=0
 .omega
 .have h1:=key (l.length - 1) (by omega)
  have h2:=(hf _ (Ze (by omega:l.length - 1 < l.length))).2
  omega
noncomputable instance (b:List Bat):Decidable (BookOk b):=Classical.propDecidable _
set_option maxHeartbeats 2000000 in
theorem QDL {b:List Bat} (h:BookOk b) {m:Nat->Nat->Prop} {w:World} {a:Act} (I:Inv 59 m (Qed w []) (Qzh m) ⟨Qqm 0 [(QJ QQ).enc b],[],[],[]⟩ a w) {cd:Code} (vI:Tryz.f15.body=some cd) {Q:Exit->Act->World->Prop}
  (hQ:∀g' a' w' tk,Inv 59 m (Qed w []) g' ⟨[(2,.bs 100 0 b.length 1)],[(100,Qk b.length (λj=>DI ((QT b).getD j 0)))],tk,[]⟩ a' w'->Q .ret a' w'):cd.wpIn Fence.wide 0 Tryz.prog Q a w:=by
 cases vI;have bE:=h.le;have gD:=h.pos;have bU:=Qw Qs 59 Qwf [];refine Qdm bU 2 _ rfl (by kernel_rfl) (by kernel_rfl) (λ_ _=>rfl) _ _ _ _ I ?_
 simp[Qeh,Qwf,Qj]
 (generalize aC:Cx.loop _ _ _=aE; apply QcQ aC (λk=>⟨[(0,.d (.sl 5 (b.map QQ.enc))),(3,.sl 1 ((Qe5 (b.take k)).map QH.enc) (.own 3)),(4,.d (DI k))],[],[3],[]⟩) b.length rfl; rotate_left; (show _ < 281474976710656; omega); (exact λh=>h); rotate_left; all_goals clear aC)
 .intro j hj;have w1:=Qa ((j:Int)+1) (by omega) (by omega)
  have aO:(j:Int) < b.length:=by omega
  rw[Qu2 hj];have aI:(Qe5 (b.take j)).length=j:=by simp[Qe5]; omega
  have h1:j+1<=140737488355328:=by omega
  have h2:(j+1)*8<=140737488355328:=by omega
  simp[Qwf,hj,aO,w1,Qe,Qd,aI,h1,h2]
 .simp[Qwf,QG];intro g1 a1 w1 I1;show Code.wpIn _ _ _ (QiP 2 _) _ _ _;have aS:(Qe5 b).map QH.enc≠[]:=by
   intro h0;have:((Qe5 b).map QH.enc).length=0:=by rw[h0]; rfl
   simp[Qe5]at this;rw[this]at gD; simp at gD
  have hgl:(Qe5 b).length=b.length:=by simp[Qe5]
  obtain⟨g2,I2⟩:=QCF bU (t:=3) (d:=100) (k:=1) (tk:=3) (rows:=(Qe5 b).map QH.enc) rfl (by simp) aS (by simp[Qav,Qcz]) rfl I1
  simp only[QDs,List.length_map,hgl]at I2;refine Qdk bU (by kernel_rfl) (by kernel_rfl) I2 (λ_ _=>rfl) ?_
  simp[QiP,Qwf,Qaj,QA,Qt];have aX:∀i,i<=b.length->(Qhh b i).length=b.length:=Qev b;have nZ:=λi hi=>QhU h i hi
  (generalize aC:Cx.loop _ _ _=aE; apply QcQ aC (λi=>⟨[(0,.d (.sl 5 (b.map QQ.enc))),(3,.bs 100 0 b.length 1),(5,.d (DI i))],[(100,Qk b.length (λj=>DI ((Qhh b i).getD j 0)))],[],[]⟩) b.length rfl; rotate_left; (show _ < 281474976710656; omega); (exact λh=>h); rotate_left; all_goals clear aC)
  .intro i hi;have w1:=Qa ((i:Int)+1) (by omega) (by omega)
   have dW:(i:Int) < b.length:=by omega
   have hb:=h.at hi;have hL:=aX i (by omega)
   have jU:=nZ i (by omega)
   rw[Qei hi];generalize Qhh b i=L at*;generalize hx:b[i]=x at*;have dG:x.takes.length<=8:=by
    have:=QeX (l:=x.takes) hb.asc hb.fr;omega
   simp[Qwf,Qaj,QA,dW]
   (generalize aC:Cx.loop _ _ _=aE; apply Qi aC (λk=>⟨[(0,.d (.sl 5 (b.map QQ.enc))),(3,.bs 100 0 b.length 1),(5,.d (DI i)),(6,.d (DI k))],[(100,Qk b.length (λj=>DI (((x.takes.take k).foldl Qob L).getD j 0)))],[],[]⟩) x.takes.length (by first | (simp; done) | (simp; rfl) | (simp; simp[*])); rotate_left; (show _ < 281474976710656; omega); rfl; rotate_left; all_goals clear aC)
   .intro k hk;have aX:(k:Int) < x.takes.length:=by omega
    have w3:=Qa ((k:Int)+1) (by omega) (by omega)
    have hf:=hb.fr x.takes[k] (Ze hk);have hg:=hb.gr x.takes[k] (Ze hk);have gJ:x.takes[k].fr.toNat < b.length:=by omega
    have lR:x.takes[k].fr < b.length:=by omega
    have kM:x.takes[k].fr.toNat+1<=b.length:=by omega
    have hbd2:=Qnv jU (x.takes.take k) (λt ht=>by have:=hb.fr t (List.mem_of_mem_take ht); omega) (λt ht=>hb.gr t (List.mem_of_mem_take ht)) x.takes[k].fr.toNat
    have pC:=QjI hb.gr k;have qP:=hb.sum_le;have tO:((x.takes.take k).foldl Qob L).length=b.length:=by rw[QnY]; exact hL
    rw[List.take_succ_eq_append_getElem hk,List.foldl_append,List.foldl_cons,List.foldl_nil];generalize(x.takes.take k).foldl Qob L=M at*;have zI:=QEF (L:=M) (t:=x.takes[k]) hf.1 (by omega)
    have w4:=Qa (M.getD x.takes[k].fr.toNat 0 - x.takes[k].gr) (by omega) (by omega)
    simp only[Zd]at zI w4;simp[Qwf,Qe,Qr,Qaj,QA,Qb,Qg,Qo,hi,dW,hx,hk,aX,w3,hf.1,gJ,lR,kM,w4,zI]
   .simp[Qwf,Qe,Qaj,QA,hi,dW,hx,w1]
  .rw[Qhf h];simp[Qwf,Qaj,QA,QG];intro g3 a3 w3 I3;have:=hQ g3 a3 w3 _ (by simpa using I3)
   exact this
noncomputable def s40:List D->Option D:=sp1 (QJ QQ) (QJ QH) λb=>if BookOk b then some (QT b)else none
theorem QHk (l:List Int):((List.range l.length).map λj=>[DI (l.getD j 0)])=l.map QH.enc:=by
 refine List.ext_getElem (by simp) λi h1 h2=>?_
 have hi:i < l.length:=by simpa using h1
 simp[Qd,Zd,hi]
theorem ok40:∀ds d,s40 ds=some d->PureC Tryz.prog 15 ds d:=Qbr λb r hr=>by
 split at hr
 .rename_i h;cases hr;have bE:=h.le;refine QcR Tryz.func15 rfl rfl (Zb rfl) λm w a I uA=>QDL h I rfl λg' a' w' tk I'=>?_;refine Qdq (Qw Qs 59 Qwf []) I' (r:=[(QJ QH).enc (QT b)]) ?_ rfl;have fZ:b.length<=140737488355328:=by omega
  have e:=QHk (QT b);rw[QU]at e;rw[Tryz.results15];simp only[QbL,<-e];simp[Qb,Qv,QaG,fZ,Function.comp_def,Qn]
 .cases hr
theorem Qxx (xs:Array Value) (w:World):(callFunc 15 xs).run Tryz.prog w= .ok (.enter 15 xs) w:=by kernel_rfl
end Go.Proofs.YticoemblgkemiaaGreatDoor
