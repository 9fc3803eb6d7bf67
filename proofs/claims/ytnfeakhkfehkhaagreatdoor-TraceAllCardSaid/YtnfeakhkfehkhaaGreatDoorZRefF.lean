/-
  Cells of a block, told by a function. For any program. Conditions: none.
-/
import Derived.Test.YtnfeakhkfehkhaaGreatDoorZMay
import Derived.Test.YtnfeakhkfehkhaaGreatDoorZRefE
import Derived.Test.YtnfeakhkfehkhaaGreatDoorZAmF
set_option linter.unusedSimpArgs false
set_option linter.unusedVariables false
namespace Go.Proofs.YtnfeakhkfehkhaaGreatDoor
open Go.RowKit
def QPw (n:Nat) (g:Nat->D):List X:=(List.range n).map λt=>X.d (g t)
theorem Qb (n:Nat) (g:Nat->D):(QPw n g).length=n:=by simp[QPw]
theorem Qd {n:Nat} {g:Nat->D} {p:Nat} (h:p < n):(QPw n g)[p]?=some (.d (g p)):=by simp[QPw,h]
theorem Qf {n:Nat} {g:Nat->D} {p:Nat} (h:p < (QPw n g).length):(QPw n g)[p]= .d (g p):=by simp[QPw]
theorem Qp {n:Nat} {g:Nat->D} {p:Nat} {v:D} (h:p < n):(QPw n g).take p++X.d v::(QPw n g).drop (p+1)=QPw n (Q2 g p v):=by
 refine List.ext_getElem? λq=>?_;have e:(QPw n g).take p++X.d v::(QPw n g).drop (p+1)=(QPw n g).set p (.d v):=by
  rw[List.set_eq_take_append_cons_drop,if_pos (by rw[Qb]; exact h)]
 rw[e,List.getElem?_set];by_cases hq:p=q
 .subst hq;rw[if_pos rfl,if_pos (by rw[Qb]; exact h),Qd h,Qae]
 .rw[if_neg hq];by_cases hn:q < n
  .rw[Qd hn,Qd hn,Q3 _ _ (λh=>hq h.symm)]
  .rw[List.getElem?_eq_none (by rw[Qb]; omega),List.getElem?_eq_none (by rw[Qb]; omega)]
theorem Qbr {n:Nat} {g:Nat->D} :∀c∈QPw n g,∃d,c= .d d:=by
 intro c hc;obtain⟨d,_,rfl⟩:=List.mem_map.1 hc;exact⟨_,rfl⟩
theorem Qaf (n:Nat) (g:Nat->D) (P:X->Prop) (h:∀d,P (.d d)):(∀c,c∈QPw n g->P c)=True:=by
 refine eq_true λc hc=>?_;obtain⟨d,rfl⟩:=Qbr c hc;exact h d
theorem Qbv (kb:List (Nat×Nat×Nat)) (b:Nat):∀(cs:List X) (i:Nat) (av nw:List Nat),(∀j,QfB kb b j=none)->(∀c∈cs,∃d,c= .d d)->Qaw kb b i cs av nw=(cs,av,nw)
 | [],_,_,_,_,_=>rfl
 | c::t,i,av,nw,hk,h=>by
  obtain⟨d,rfl⟩:=h c (by simp)
  unfold Qaw;rw[hk];simp only[Qbv kb b t _ _ _ hk λc hc=>h c (by simp[hc])]
  rfl
theorem Qeb (b j:Nat):QfB [] b j=none:=rfl
theorem Qeh {a o k b:Nat} {t:List (Nat×Nat×Nat)} (h:(b==a)=false) (ht:∀j,QfB t b j=none) (j:Nat):QfB ((a,o,k)::t) b j=none:=by
 unfold QfB;rw[if_neg (λe=>by rw[e.1]at h; simp at h)]
 exact ht j
theorem Qz (n:Nat) (g:Nat->D) (b i:Nat) (av nw:List Nat):Qaw [] b i (QPw n g) av nw=(QPw n g,av,nw):=Qbv [] b _ i av nw (Qeb b) Qbr
theorem QEo (g:Nat->D):∀l:List Nat,Qa9 (l.map λt=>X.d (g t))=some (l.map g)
 | []=>rfl
 | a::t=>by simp only[List.map_cons,Qa9,X.data,QEo g t]
theorem Qx (n:Nat) (g:Nat->D):Qa9 (QPw n g)=some ((List.range n).map g):=QEo g _
theorem QaG (n:Nat) (g:Nat->D):(QPw n g).take n=QPw n g:=List.take_of_length_le (by rw[Qb]; exact Zr _)
theorem QHN (n:Nat) (d:D):List.replicate n (X.d d)=QPw n (λ_=>d):=by
 refine List.ext_getElem (by simp[QPw]) λi h1 h2=>?_
 simp[QPw]
theorem QeY (f:Nat->Bool) (p:Nat) (v:Bool):Q2 (λt=>DB (f t)) p (DB v)=λt=>DB (Q2 f p v t):=by
 funext t; unfold Q2; split<;>rfl
theorem Qdp {n:Nat} {f g:Nat->D} (h:∀t,t < n->f t=g t):QPw n f=QPw n g:=
 List.map_congr_left λt ht=>by rw[h t (Zm.1 ht)]
theorem Qu6 {l:List Int} :(l.map Qt.enc).flatten.map X.d=QPw l.length (λj=>DI (l.getD j 0)):=by
 have e:∀l:List Int,(l.map Qt.enc).flatten=l.map DI:=λl=>by
  induction l with
  | nil=>rfl
  | cons a t ih=>simp only[List.map_cons,List.flatten_cons,ih]; rfl
 rw[e];refine List.ext_getElem (by simp[QPw]) λi h1 h2=>?_
 have hi:i < l.length:=by simpa using h1
 simp[QPw,Zd,hi]
def rBl:Row Bool:=⟨1,λx=>[DB x],λd=>match d with | [.v (.bool b)]=>some b | _=>none,λ_=>rfl,λd x h=>by
 split at h
 .cases h; exact LImp.refl _
 .cases h⟩
theorem QpG (x:Bool):rBl.enc x=[DB x]:=rfl
theorem Qxy:rBl.k=1:=rfl
theorem Qa7 {c:Cx} {a:Code} {σ0:St} {R:Option (AEx×St)} (hL:c.loop a σ0=R) (S:Nat->St) (n:Nat) (good:Nat->Bool) (T X:AEx×St) (h0:σ0=S 0) (hF:n < c.F) (hT:T.1≠ .normal) (hX:X.1≠ .normal)
  (hs:∀j,j < n->c.code a (S j)=some (if good j=true then(.normal,S (j+1))else T)) (hx:c.code a (S n)=some X):R=some (if(List.range n).all good=true then X else T):=by
 subst h0;obtain⟨t1,t2⟩:=T;obtain⟨x1,x2⟩:=X;rcases QaK good n with hall | ⟨k,hk,aL,aM⟩
 .have e:(List.range n).all good=true:=Zl.2 λi hi=>hall i (Zm.1 hi);rw[e,if_pos rfl,<-hL];exact Qdv S x1 x2 n hX (λj hj=>by rw[hs j hj,if_pos (hall j hj)]) hx hF
 .have e:(List.range n).all good=false:=by
   rw[List.all_eq_false]; exact⟨k,Zm.2 hk,by rw[aL]; simp⟩
  rw[e,if_neg (by simp),<-hL]
  exact Qdv S t1 t2 k hT (λj hj=>by rw[hs j (by omega),if_pos (aM j hj)]) (by rw[hs k hk,aL,if_neg (by simp)]) (by omega)
def QuN (r:Nat):List (Nat×Option Nat):=match r with
 | 0=>kpn [0,1,2]
 | 1=>kpn [0,1,2,7]
 | 2=>kpn [0,1,2,7]
 | 3=>kpn [0,2,7,8]
 | 4=>kpn [0,2,7,8,22]
 | 5=>kpn [0,2,7,8]
 | 6=>kpn [0,2,7,8,9]
 | 7=>kpn [0,2,7,8,9,32]
 | 8=>kpn [0,2,7,8,9]
 | 9=>kpn [0,2,7,8,9]
 | 10=>kpn [0,2,7,8,10]
 | 11=>kpn [0,2,7,8,10,59]
 | 12=>kpn [0,2,7,8,10]
 | 13=>kpn [0,2,7,8,10]
 | 14=>[(6,none)]
 | _=>[]
theorem Qi2 {α:Type} {p q:α->Bool} :∀{l:List α},(∀x∈l,p x=q x)->l.any p=l.any q
 | [],_=>rfl
 | a::t,h=>by rw[List.any_cons,List.any_cons,h a (by simp),Qi2 λx hx=>h x (by simp[hx])]
theorem Qwo {b:List Bat} {i:Nat} {more:List Edg} (h:EdgOk b more) {t m:Nat} (ht:t < m):Qao b i more m t=(decide (t=i)||(b.getD t default).takes.any (λk=>Qao b i more m k.fr.toNat)||more.any (λe=>e.to==(t:Int)&&Qao b i more m e.fr.toNat)):=by
 rw[Qbn b i more (show t < t+1 by omega) (by omega:t+1<=m),Qao,Qae]
 congr 1
 .congr 1;refine Qi2 λk hk=>?_;have:=h.tk t k hk;exact(Qbn b i more (by omega:k.fr.toNat < t) (by omega:t<=m)).symm
 .refine Qi2 λe he=>?_;have:=h.ed e he;by_cases hq:e.to=(t:Int)
  .rw[Qbn b i more (by omega:e.fr.toNat < t) (by omega:t<=m)]
  .have:(e.to==(t:Int))=false:=by simpa using hq
   rw[this]; rfl
theorem QuM {b:List Bat} {i:Nat} {more:List Edg} (h:EdgOk b more) {m:Nat} :∀{t:Nat},t < m->t < i->Qao b i more m t=false:=by
 intro t
 induction t using Nat.strongRecOn with
 | _ t ih=>
  intro ht hi;cases q:Qao b i more m t with
  | false=>rfl
  | true=>
   rcases(QlM h ht).1 q with e | ⟨x,h1,h2⟩
   .omega
   .have:=(Qlx h h1).1;rw[ih x this (by omega) (by omega)]at h2; cases h2
theorem QrS {b:List Bat} {i:Nat} {more:List Edg} (h:EdgOk b more) {m:Nat} (hi:i < m):Qao b i more m i=true:=(QlM h hi).2 (.inl rfl)
def mid (R:Nat->Bool) (i:Nat) (v:Bool):Nat->D:=λt=>DB (if t < i then R t else if t=i then v else false)
theorem QaJ (R:Nat->Bool) (i:Nat) (v v':Bool):Q2 (mid R i v) i (DB v')=mid R i v':=by
 funext t;unfold Q2 mid;by_cases h:t=i
 .subst h; simp
 .simp[h]
theorem Qkp {R:Nat->Bool} {i:Nat} {v:Bool} {p:Nat} (h:p < i):mid R i v p=DB (R p):=by simp[mid,h]
theorem QbB (R:Nat->Bool) (i:Nat) (v:Bool):mid R i v i=DB v:=by simp[mid]
theorem Qlg (R:Nat->Bool) (i:Nat):mid R i (R i)=mid R (i+1) false:=by
 funext t;unfold mid;by_cases h:t < i
 .rw[if_pos h,if_pos (by omega)]
 .rw[if_neg h];by_cases e:t=i
  .subst e; rw[if_pos rfl,if_pos (by omega)]
  .rw[if_neg e,if_neg (by omega)]
   split<;>rfl
theorem QBf (R:Nat->Bool) (n:Nat):QPw n (mid R n false)=QPw n (λt=>DB (R t)):=Qdp λt ht=>Qkp ht
noncomputable instance (b:List Bat) (more:List Edg):Decidable (EdgOk b more):=Classical.propDecidable _
noncomputable def s38:List D->Option D:=sp3 (Qy QO) Qbh (Qy Qcg) (Qy rBl) λb n more=>if 0<=n/\n < b.length/\b.length<=8/\bkB b=true/\more.length<=1000/\EdgOk b more then some ((List.range b.length).map (Qao b n.toNat more b.length))else none
set_option maxHeartbeats 2000000 in
theorem QRN:∀ds d,s38 ds=some d->PureC Tryz.prog 38 ds d:=QcG λb n more r hr=>by
 split at hr
 .rename_i hc;obtain⟨h0,h1,h8,cO,hm,dN⟩:=hc;obtain⟨i,rfl⟩:∃i:Nat,n=i:=⟨n.toNat,by omega⟩
  cases hr;have hi:i < b.length:=by omega
  rw[Int.toNat_natCast];have kW:∀t,t < b.length->t < i->Qao b i more b.length t=false:=λt h1 h2=>QuM dN h1 h2;have vW:=QrS dN (i:=i) hi;have heq:∀t,t < b.length->Qao b i more b.length t=(decide (t=i)||(b.getD t default).takes.any (λk=>Qao b i more b.length k.fr.toNat)||more.any (λe=>e.to==(t:Int)&&Qao b i more b.length e.fr.toNat)):=λt ht=>Qwo dN ht
  generalize hR:Qao b i more b.length=R at*;have sC:QPw b.length (Q2 (λ_=>DB false) i (DB true))=QPw b.length (mid R (i+1) false):=Qdp λt ht=>by
   unfold Q2 mid;by_cases e:t=i
   .subst e; simp[vW]
   .by_cases e2:t < i
    .rw[if_neg e,if_pos (by omega),kW t ht e2]
    .rw[if_neg e,if_neg (by omega)]; simp
  have w1:=Qa ((i:Int)+1) (by omega) (by omega)
  have dC:(i:Int) < b.length:=by omega
  have pY:i+1<=b.length:=hi;have fV:b.length<=140737488355328:=by omega
  have mP:((b.length:Int))<=140737488355328:=by omega
  refine Qm (QE QB 89 QuN []) Tryz.func38 rfl rfl (Zb rfl) (by kernel_rfl) ?_
  simp[QuN,Qe,QHN,Qaf,Qz,Qb,Qp,hi,pY,dC,mP,sC,w1,Qw]
  (generalize aC:Cx.loop _ _ _=aE; apply Qi aC (λk=>⟨[(0,.d (.sl 5 (b.map QO.enc))),(2,.d (.sl 2 (more.map Qcg.enc))),(7,.bs 13 0 b.length 1),(8,.d (DI ((i+1+k:Nat):Int)))],[(13,QPw b.length (mid R (i+1+k) false))],[],[]⟩) (b.length - (i+1)) (by first | (simp; done) | (simp; rfl) | (simp; simp[*])); rotate_left; (show _ < 281474976710656; omega); rfl; rotate_left; all_goals clear aC)
  .intro k hk;obtain⟨t,ht⟩:∃t,t=i+1+k:=⟨_,rfl⟩;rw[show i+1+(k+1)=t+1 by omega,<-ht]
   have dJ:t < b.length:=by omega
   have jL:(t:Int) < b.length:=by omega
   have nO:t+1<=b.length:=dJ;have w2:=Qa ((t:Int)+1) (by omega) (by omega)
   have tL:=heq t dJ;have hg:b.getD t default=b[t]:=Qj b t _ dJ;rw[hg,decide_eq_false (show ¬t=i by omega),Bool.false_or]at tL
   have hbt:=QuP cO dJ;have htk:∀q∈b[t].takes,0<=q.fr/\q.fr < t:=λq hq=>dN.tk t q (by rw[hg]; exact hq)
   simp[QuN,Qaf,Qz,jL]
   (generalize aC:Cx.loop _ _ _=aE; apply Qi aC (λj=>⟨[(0,.d (.sl 5 (b.map QO.enc))),(2,.d (.sl 2 (more.map Qcg.enc))),(7,.bs 13 0 b.length 1),(8,.d (DI t)),(9,.d (DI j))],[(13,QPw b.length (mid R t ((b[t].takes.take j).any λq=>R q.fr.toNat)))],[],[]⟩) b[t].takes.length (by first | (simp; done) | (simp; rfl) | (simp; simp[*])); rotate_left; (show _ < 281474976710656; omega); rfl; rotate_left; all_goals clear aC)
   .intro j hj;have aO:(j:Int) < b[t].takes.length:=by omega
    have w3:=Qa ((j:Int)+1) (by omega) (by omega)
    have hf:=htk b[t].takes[j] (Ze hj);have hf1:b[t].takes[j].fr.toNat < b.length:=by omega
    have lD:b[t].takes[j].fr < b.length:=by omega
    have kE:=Qkp (R:=R) (v:=(b[t].takes.take j).any λq=>R q.fr.toNat) (show b[t].takes[j].fr.toNat < t by omega)
    rw[List.take_succ_eq_append_getElem hj,List.any_append];generalize hV:((b[t].takes.take j).any λq=>R q.fr.toNat)=V at*;cases V with
    | true=>simp[QuN,Qh,Qaf,Qz,Qb,Qf,Qp,QbB,QaJ,dJ,jL,nO,aO,w3]
    | false=>simp[QuN,Qh,Qo,Qaf,Qz,Qb,Qf,Qp,QbB,QaJ,dJ,jL,nO,hj,aO,w3,hf.1,hf1,lD,kE]
   .simp[QuN,Qh,Qaf,Qz,dJ,jL];generalize hA:(b[t].takes.any λq=>R q.fr.toNat)=A at*
    (generalize aC:Cx.loop _ _ _=aE; apply Qi aC (λj=>⟨[(0,.d (.sl 5 (b.map QO.enc))),(2,.d (.sl 2 (more.map Qcg.enc))),(7,.bs 13 0 b.length 1),(8,.d (DI t)),(10,.d (DI j))],[(13,QPw b.length (mid R t (A||(more.take j).any λe=>e.to==(t:Int)&&R e.fr.toNat)))],[],[]⟩) more.length (by first | (simp; done) | (simp; rfl) | (simp; simp[*])); rotate_left; (show _ < 281474976710656; omega); rfl; rotate_left; all_goals clear aC)
    .intro j hj;have aO:(j:Int) < more.length:=by omega
     have w3:=Qa ((j:Int)+1) (by omega) (by omega)
     have hf:=dN.ed more[j] (Ze hj);rw[List.take_succ_eq_append_getElem hj,List.any_append,<-Bool.or_assoc];generalize hV:(A||(more.take j).any λe=>e.to==(t:Int)&&R e.fr.toNat)=V at*
     cases V with
     | true=>simp[QuN,Qaf,Qz,Qb,Qf,Qp,QbB,QaJ,dJ,jL,nO,aO,w3]
     | false=>
      by_cases he:more[j].to=(t:Int)
      .have hf1:more[j].fr.toNat < b.length:=by omega
       have lD:more[j].fr < b.length:=by omega
       have kE:=Qkp (R:=R) (v:=false) (show more[j].fr.toNat < t by omega)
       simp[QuN,QJ,Qaf,Qz,Qb,Qf,Qp,QbB,QaJ,dJ,jL,nO,hj,aO,w3,he,hf.1,hf1,lD,kE]
      .have kU:(more[j].to==(t:Int))=false:=by simpa using he
       simp[QuN,QJ,Qaf,Qz,Qb,Qf,Qp,QbB,QaJ,dJ,jL,nO,hj,aO,w3,kU]
    .simp[QuN,Qaf,Qz,<-tL,Qlg,w2]
  .have e:i+1+(b.length - (i+1))=b.length:=by omega
   rw[e,QBf];simp[QuN,Qaf,Qz,Qb,Qx,QaG,Qxy,QpG,fV,Function.comp_def]
 .cases hr
theorem QDU (xs:Array Value) (w:World):(callFunc 38 xs).run Tryz.prog w= .ok (.enter 38 xs) w:=by kernel_rfl
end Go.Proofs.YtnfeakhkfehkhaaGreatDoor
namespace Go.Proofs.YtnfeakhkfehkhaaGreatDoor
open Go.RowKit
def Quu (r:Nat):List (Nat×Option Nat):=match r with
 | 0=>[(0,none)]
 | 1=>[(0,none),(3,some 1001)]
 | 2=>[(0,none),(3,some 1001),(4,none)]
 | 3=>[(0,none),(3,some 1001),(4,none),(11,none)]
 | 4=>[(0,none),(3,some 1001),(4,none)]
 | 5=>[(0,none),(3,some 1001),(4,none)]
 | 6=>[(0,none),(3,some 1001),(5,none)]
 | 7=>[(0,none),(3,some 1001),(5,none),(25,none)]
 | 8=>[(0,none),(3,some 1001),(5,none)]
 | 9=>[(0,none),(3,some 1001),(5,none),(6,none)]
 | 10=>[(0,none),(3,some 1001),(5,none),(6,none),(35,none)]
 | 11=>[(0,none),(3,some 1001),(5,none),(6,none)]
 | 12=>[(0,none),(3,some 1001),(5,none),(6,none),(7,none)]
 | 13=>[(0,none),(3,some 1001),(5,none),(6,none)]
 | 14=>[(2,some 1)]
 | _=>[]
theorem QBo {L:List Int} {t:Tak} (h0:0<=t.fr) (hl:t.fr < L.length):Q2 (λj=>DI (L.getD j 0)) t.fr.toNat (DI (L.getD t.fr.toNat 0 - t.gr))=λj=>DI ((QmJ L t).getD j 0):=by
 funext j;rw[QlV L t h0 hl j];unfold Q2;by_cases h:j=t.fr.toNat
 .subst h;rw[if_pos rfl,if_pos (by omega)]
 .rw[if_neg h,if_neg (by omega),Int.sub_zero]
def Qeg (b:List Bat):List Int:=b.map (·.grams)
theorem Qry {b:List Bat} {j:Nat} (h:j < b.length):Qeg (b.take (j+1))=Qeg (b.take j)++[b[j].grams]:=by
 rw[List.take_succ_eq_append_getElem h]; simp only[Qeg,List.map_append,List.map_cons,List.map_nil]
theorem QDQ {l:List Tak} (h:QpK l=true):∀(k:Nat) (hk:k < l.length),∀(j:Nat) (hj:j < k),(l[j]'(by omega)).fr < l[k].fr:=by
 unfold QpK at h;rw[decide_eq_true_eq]at h;intro k
 induction k with
 | zero=>intro _ j hj; omega
 | succ k ih=>
  intro hk j hj;have h1:=h (k+1) hk (by omega)
  rw[Qj _ _ _ hk,Qj _ _ _ (by omega:k+1 - 1 < l.length)]at h1
  simp only[Nat.add_sub_cancel]at h1;by_cases e:j=k
  .subst e; exact h1
  .exact Int.lt_trans (ih (by omega) j (by omega)) h1
theorem Qdy {l:List Tak} {i:Nat} (h:QpK l=true) (hf:∀t∈l,0<=t.fr/\t.fr < i):l.length<=i:=by
 have key:∀(k:Nat) (hk:k < l.length),(k:Int)<=l[k].fr:=by
  intro k
  induction k with
  | zero=>intro hk; exact(hf _ (Ze hk)).1
  | succ k ih=>
   intro hk;have h1:=ih (by omega)
   have h2:=QDQ h (k+1) hk k (by omega)
   omega
 by_cases h0:l.length=0
 .omega
 .have h1:=key (l.length - 1) (by omega)
  have h2:=(hf _ (Ze (by omega:l.length - 1 < l.length))).2
  omega
noncomputable instance (b:List Bat):Decidable (BookOk b):=Classical.propDecidable _
set_option maxHeartbeats 2000000 in
theorem QyX {b:List Bat} (h:BookOk b) {m:Nat->Nat->Prop} {w:World} {a:Act} (I:Inv 59 m (Qdz w []) (Qts m) ⟨QoD 0 [(Qy QO).enc b],[],[],[]⟩ a w) {cd:Code} (vC:Tryz.f40.body=some cd) {Q:Exit->Act->World->Prop}
  (hQ:∀g' a' w' tk,Inv 59 m (Qdz w []) g' ⟨[(2,.bs 100 0 b.length 1)],[(100,QPw b.length (λj=>DI ((QI b).getD j 0)))],tk,[]⟩ a' w'->Q .ret a' w'):cd.wpIn Fence.wide 0 Tryz.prog Q a w:=by
 cases vC;have aX:=h.le;have gW:=h.pos;have cS:=QE QB 59 Quu [];refine QgG cS 2 _ rfl (by kernel_rfl) (by kernel_rfl) (λ_ _=>rfl) _ _ _ _ I ?_
 simp[QeQ,Quu,Qe]
 (generalize aC:Cx.loop _ _ _=aE; apply Qc2 aC (λk=>⟨[(0,.d (.sl 5 (b.map QO.enc))),(3,.sl 1 ((Qeg (b.take k)).map Qt.enc) (.own 3)),(4,.d (DI k))],[],[3],[]⟩) b.length rfl; rotate_left; (show _ < 281474976710656; omega); (exact λh=>h); rotate_left; all_goals clear aC)
 .intro j hj;have w1:=Qa ((j:Int)+1) (by omega) (by omega)
  have aO:(j:Int) < b.length:=by omega
  rw[Qry hj];have aI:(Qeg (b.take j)).length=j:=by simp[Qeg]; omega
  have h1:j+1<=140737488355328:=by omega
  have h2:(j+1)*8<=140737488355328:=by omega
  simp[Quu,hj,aO,w1,Qh,Qc,aI,h1,h2]
 .simp[Quu,QT];intro g1 a1 w1 I1;show Code.wpIn _ _ _ (Qon 2 _) _ _ _;have aS:(Qeg b).map Qt.enc≠[]:=by
   intro h0;have:((Qeg b).map Qt.enc).length=0:=by rw[h0]; rfl
   simp[Qeg]at this;rw[this]at gW; simp at gW
  have vX:(Qeg b).length=b.length:=by simp[Qeg]
  obtain⟨g2,I2⟩:=Qxs cS (t:=3) (d:=100) (k:=1) (tk:=3) (rows:=(Qeg b).map Qt.enc) rfl (by simp) aS (by simp[Qan,QcP]) rfl I1
  simp only[Qu6,List.length_map,vX]at I2;refine QfO cS (by kernel_rfl) (by kernel_rfl) I2 (λ_ _=>rfl) ?_
  simp[Qon,Quu,Qaf,Qz,Qv];have bB:∀i,i<=b.length->(Qg1 b i).length=b.length:=QdE b;have oO:=λi hi=>QgV h i hi
  (generalize aC:Cx.loop _ _ _=aE; apply Qc2 aC (λi=>⟨[(0,.d (.sl 5 (b.map QO.enc))),(3,.bs 100 0 b.length 1),(5,.d (DI i))],[(100,QPw b.length (λj=>DI ((Qg1 b i).getD j 0)))],[],[]⟩) b.length rfl; rotate_left; (show _ < 281474976710656; omega); (exact λh=>h); rotate_left; all_goals clear aC)
  .intro i hi;have w1:=Qa ((i:Int)+1) (by omega) (by omega)
   have dC:(i:Int) < b.length:=by omega
   have hb:=h.at hi;have hL:=bB i (by omega)
   have jU:=oO i (by omega)
   rw[QdG hi];generalize Qg1 b i=L at*;generalize hx:b[i]=x at*;have dJ:x.takes.length<=8:=by
    have:=Qdy (l:=x.takes) hb.asc hb.fr;omega
   simp[Quu,Qaf,Qz,dC]
   (generalize aC:Cx.loop _ _ _=aE; apply Qi aC (λk=>⟨[(0,.d (.sl 5 (b.map QO.enc))),(3,.bs 100 0 b.length 1),(5,.d (DI i)),(6,.d (DI k))],[(100,QPw b.length (λj=>DI (((x.takes.take k).foldl QmJ L).getD j 0)))],[],[]⟩) x.takes.length (by first | (simp; done) | (simp; rfl) | (simp; simp[*])); rotate_left; (show _ < 281474976710656; omega); rfl; rotate_left; all_goals clear aC)
   .intro k hk;have bB:(k:Int) < x.takes.length:=by omega
    have w3:=Qa ((k:Int)+1) (by omega) (by omega)
    have hf:=hb.fr x.takes[k] (Ze hk);have hg:=hb.gr x.takes[k] (Ze hk);have hf1:x.takes[k].fr.toNat < b.length:=by omega
    have lD:x.takes[k].fr < b.length:=by omega
    have kE:x.takes[k].fr.toNat+1<=b.length:=by omega
    have hbd2:=Ql9 jU (x.takes.take k) (λt ht=>by have:=hb.fr t (List.mem_of_mem_take ht); omega) (λt ht=>hb.gr t (List.mem_of_mem_take ht)) x.takes[k].fr.toNat
    have oP:=QiW hb.gr k;have sD:=hb.sum_le;have uH:((x.takes.take k).foldl QmJ L).length=b.length:=by rw[Qml]; exact hL
    rw[List.take_succ_eq_append_getElem hk,List.foldl_append,List.foldl_cons,List.foldl_nil];generalize(x.takes.take k).foldl QmJ L=M at*;have yS:=QBo (L:=M) (t:=x.takes[k]) hf.1 (by omega)
    have w4:=Qa (M.getD x.takes[k].fr.toNat 0 - x.takes[k].gr) (by omega) (by omega)
    simp only[Zd]at yS w4;simp[Quu,Qh,Qo,Qaf,Qz,Qb,Qf,Qp,hi,dC,hx,hk,bB,w3,hf.1,hf1,lD,kE,w4,yS]
   .simp[Quu,Qh,Qaf,Qz,hi,dC,hx,w1]
  .rw[Qgg h];simp[Quu,Qaf,Qz,QT];intro g3 a3 w3 I3;have:=hQ g3 a3 w3 _ (by simpa using I3)
   exact this
noncomputable def s40:List D->Option D:=sp1 (Qy QO) (Qy Qt) λb=>if BookOk b then some (QI b)else none
theorem QzN (l:List Int):((List.range l.length).map λj=>[DI (l.getD j 0)])=l.map Qt.enc:=by
 refine List.ext_getElem (by simp) λi h1 h2=>?_
 have hi:i < l.length:=by simpa using h1
 simp[Qc,Zd,hi]
theorem QRE:∀ds d,s40 ds=some d->PureC Tryz.prog 40 ds d:=Qb2 λb r hr=>by
 split at hr
 .rename_i h;cases hr;have aX:=h.le;refine QdD Tryz.func40 rfl rfl (Zb rfl) λm w a I tV=>QyX h I rfl λg' a' w' tk I'=>?_;refine Qim (QE QB 59 Quu []) I' (r:=[(Qy Qt).enc (QI b)]) ?_ rfl;have fV:b.length<=140737488355328:=by omega
  have e:=QzN (QI b);rw[QN]at e;rw[Tryz.results40];simp only[Qbk,<-e];simp[Qb,Qx,QaG,fV,Function.comp_def,Qg]
 .cases hr
theorem Qzm (xs:Array Value) (w:World):(callFunc 40 xs).run Tryz.prog w= .ok (.enter 40 xs) w:=by kernel_rfl
end Go.Proofs.YtnfeakhkfehkhaaGreatDoor
