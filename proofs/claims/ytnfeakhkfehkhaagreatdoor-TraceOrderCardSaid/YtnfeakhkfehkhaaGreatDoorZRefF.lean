/-
  Cells of a block, told by a function. For any program. Conditions: none.
-/
import Derived.Test.YtnfeakhkfehkhaaGreatDoorZMay
import Derived.Test.YtnfeakhkfehkhaaGreatDoorZRefE
import Derived.Test.YtnfeakhkfehkhaaGreatDoorZAmF
set_option linter.unusedSimpArgs false
set_option linter.unusedVariables false
namespace Go.Proofs.YtnfeakhkfehkhaaGreatDoor
open Go.RowKit
def QPw (n:Nat) (g:Nat->D):List X:=(List.range n).map λt=>X.d (g t)
theorem Qb (n:Nat) (g:Nat->D):(QPw n g).length=n:=by simp[QPw]
theorem Qd {n:Nat} {g:Nat->D} {p:Nat} (h:p < n):(QPw n g)[p]?=some (.d (g p)):=by simp[QPw,h]
theorem Qf {n:Nat} {g:Nat->D} {p:Nat} (h:p < (QPw n g).length):(QPw n g)[p]= .d (g p):=by simp[QPw]
theorem Qp {n:Nat} {g:Nat->D} {p:Nat} {v:D} (h:p < n):(QPw n g).take p++X.d v::(QPw n g).drop (p+1)=QPw n (Q2 g p v):=by
 refine List.ext_getElem? λq=>?_;have e:(QPw n g).take p++X.d v::(QPw n g).drop (p+1)=(QPw n g).set p (.d v):=by
  rw[List.set_eq_take_append_cons_drop,if_pos (by rw[Qb]; exact h)]
 rw[e,List.getElem?_set];by_cases hq:p=q
 .subst hq;rw[if_pos rfl,if_pos (by rw[Qb]; exact h),Qd h,Qae]
 .rw[if_neg hq];by_cases hn:q < n
  .rw[Qd hn,Qd hn,Q3 _ _ (λh=>hq h.symm)]
  .rw[List.getElem?_eq_none (by rw[Qb]; omega),List.getElem?_eq_none (by rw[Qb]; omega)]
theorem Qbr {n:Nat} {g:Nat->D} :∀c∈QPw n g,∃d,c= .d d:=by
 intro c hc;obtain⟨d,_,rfl⟩:=List.mem_map.1 hc;exact⟨_,rfl⟩
theorem Qaf (n:Nat) (g:Nat->D) (P:X->Prop) (h:∀d,P (.d d)):(∀c,c∈QPw n g->P c)=True:=by
 refine eq_true λc hc=>?_;obtain⟨d,rfl⟩:=Qbr c hc;exact h d
theorem Qbv (kb:List (Nat×Nat×Nat)) (b:Nat):∀(cs:List X) (i:Nat) (av nw:List Nat),(∀j,QfB kb b j=none)->(∀c∈cs,∃d,c= .d d)->Qaw kb b i cs av nw=(cs,av,nw)
 | [],_,_,_,_,_=>rfl
 | c::t,i,av,nw,hk,h=>by
  obtain⟨d,rfl⟩:=h c (by simp)
  unfold Qaw;rw[hk];simp only[Qbv kb b t _ _ _ hk λc hc=>h c (by simp[hc])]
  rfl
theorem Qeb (b j:Nat):QfB [] b j=none:=rfl
theorem Qeh {a o k b:Nat} {t:List (Nat×Nat×Nat)} (h:(b==a)=false) (ht:∀j,QfB t b j=none) (j:Nat):QfB ((a,o,k)::t) b j=none:=by
 unfold QfB;rw[if_neg (λe=>by rw[e.1]at h; simp at h)]
 exact ht j
theorem Qz (n:Nat) (g:Nat->D) (b i:Nat) (av nw:List Nat):Qaw [] b i (QPw n g) av nw=(QPw n g,av,nw):=Qbv [] b _ i av nw (Qeb b) Qbr
theorem QEo (g:Nat->D):∀l:List Nat,Qa9 (l.map λt=>X.d (g t))=some (l.map g)
 | []=>rfl
 | a::t=>by simp only[List.map_cons,Qa9,X.data,QEo g t]
theorem Qx (n:Nat) (g:Nat->D):Qa9 (QPw n g)=some ((List.range n).map g):=QEo g _
theorem QaG (n:Nat) (g:Nat->D):(QPw n g).take n=QPw n g:=List.take_of_length_le (by rw[Qb]; exact Zr _)
theorem QeY (f:Nat->Bool) (p:Nat) (v:Bool):Q2 (λt=>DB (f t)) p (DB v)=λt=>DB (Q2 f p v t):=by
 funext t; unfold Q2; split<;>rfl
theorem Qdp {n:Nat} {f g:Nat->D} (h:∀t,t < n->f t=g t):QPw n f=QPw n g:=
 List.map_congr_left λt ht=>by rw[h t (Zm.1 ht)]
theorem Qu6 {l:List Int} :(l.map Qt.enc).flatten.map X.d=QPw l.length (λj=>DI (l.getD j 0)):=by
 have e:∀l:List Int,(l.map Qt.enc).flatten=l.map DI:=λl=>by
  induction l with
  | nil=>rfl
  | cons a t ih=>simp only[List.map_cons,List.flatten_cons,ih]; rfl
 rw[e];refine List.ext_getElem (by simp[QPw]) λi h1 h2=>?_
 have hi:i < l.length:=by simpa using h1
 simp[QPw,Zd,hi]
theorem Qa7 {c:Cx} {a:Code} {σ0:St} {R:Option (AEx×St)} (hL:c.loop a σ0=R) (S:Nat->St) (n:Nat) (good:Nat->Bool) (T X:AEx×St) (h0:σ0=S 0) (hF:n < c.F) (hT:T.1≠ .normal) (hX:X.1≠ .normal)
  (hs:∀j,j < n->c.code a (S j)=some (if good j=true then(.normal,S (j+1))else T)) (hx:c.code a (S n)=some X):R=some (if(List.range n).all good=true then X else T):=by
 subst h0;obtain⟨t1,t2⟩:=T;obtain⟨x1,x2⟩:=X;rcases QaK good n with hall | ⟨k,hk,aL,aM⟩
 .have e:(List.range n).all good=true:=Zl.2 λi hi=>hall i (Zm.1 hi);rw[e,if_pos rfl,<-hL];exact Qdv S x1 x2 n hX (λj hj=>by rw[hs j hj,if_pos (hall j hj)]) hx hF
 .have e:(List.range n).all good=false:=by
   rw[List.all_eq_false]; exact⟨k,Zm.2 hk,by rw[aL]; simp⟩
  rw[e,if_neg (by simp),<-hL]
  exact Qdv S t1 t2 k hT (λj hj=>by rw[hs j (by omega),if_pos (aM j hj)]) (by rw[hs k hk,aL,if_neg (by simp)]) (by omega)
def mid (R:Nat->Bool) (i:Nat) (v:Bool):Nat->D:=λt=>DB (if t < i then R t else if t=i then v else false)
noncomputable instance (b:List Bat) (more:List Edg):Decidable (EdgOk b more):=Classical.propDecidable _
def Quu (r:Nat):List (Nat×Option Nat):=match r with
 | 0=>[(0,none)]
 | 1=>[(0,none),(3,some 1001)]
 | 2=>[(0,none),(3,some 1001),(4,none)]
 | 3=>[(0,none),(3,some 1001),(4,none),(11,none)]
 | 4=>[(0,none),(3,some 1001),(4,none)]
 | 5=>[(0,none),(3,some 1001),(4,none)]
 | 6=>[(0,none),(3,some 1001),(5,none)]
 | 7=>[(0,none),(3,some 1001),(5,none),(25,none)]
 | 8=>[(0,none),(3,some 1001),(5,none)]
 | 9=>[(0,none),(3,some 1001),(5,none),(6,none)]
 | 10=>[(0,none),(3,some 1001),(5,none),(6,none),(35,none)]
 | 11=>[(0,none),(3,some 1001),(5,none),(6,none)]
 | 12=>[(0,none),(3,some 1001),(5,none),(6,none),(7,none)]
 | 13=>[(0,none),(3,some 1001),(5,none),(6,none)]
 | 14=>[(2,some 1)]
 | _=>[]
theorem QBo {L:List Int} {t:Tak} (h0:0<=t.fr) (hl:t.fr < L.length):Q2 (λj=>DI (L.getD j 0)) t.fr.toNat (DI (L.getD t.fr.toNat 0 - t.gr))=λj=>DI ((QmJ L t).getD j 0):=by
 funext j;rw[QlV L t h0 hl j];unfold Q2;by_cases h:j=t.fr.toNat
 .subst h;rw[if_pos rfl,if_pos (by omega)]
 .rw[if_neg h,if_neg (by omega),Int.sub_zero]
def Qeg (b:List Bat):List Int:=b.map (·.grams)
theorem Qry {b:List Bat} {j:Nat} (h:j < b.length):Qeg (b.take (j+1))=Qeg (b.take j)++[b[j].grams]:=by
 rw[List.take_succ_eq_append_getElem h]; simp only[Qeg,List.map_append,List.map_cons,List.map_nil]
theorem QDQ {l:List Tak} (h:QpK l=true):∀(k:Nat) (hk:k < l.length),∀(j:Nat) (hj:j < k),(l[j]'(by omega)).fr < l[k].fr:=by
 unfold QpK at h;rw[decide_eq_true_eq]at h;intro k
 induction k with
 | zero=>intro _ j hj; omega
 | succ k ih=>
  intro hk j hj;have h1:=h (k+1) hk (by omega)
  rw[Qj _ _ _ hk,Qj _ _ _ (by omega:k+1 - 1 < l.length)]at h1
  simp only[Nat.add_sub_cancel]at h1;by_cases e:j=k
  .subst e; exact h1
  .exact Int.lt_trans (ih (by omega) j (by omega)) h1
theorem Qdy {l:List Tak} {i:Nat} (h:QpK l=true) (hf:∀t∈l,0<=t.fr/\t.fr < i):l.length<=i:=by
 have key:∀(k:Nat) (hk:k < l.length),(k:Int)<=l[k].fr:=by
  intro k
  induction k with
  | zero=>intro hk; exact(hf _ (Ze hk)).1
  | succ k ih=>
   intro hk;have h1:=ih (by omega)
   have h2:=QDQ h (k+1) hk k (by omega)
   omega
 by_cases h0:l.length=0
 .omega
 .have h1:=key (l.length - 1) (by omega)
  have h2:=(hf _ (Ze (by omega:l.length - 1 < l.length))).2
  omega
noncomputable instance (b:List Bat):Decidable (BookOk b):=Classical.propDecidable _
set_option maxHeartbeats 2000000 in
theorem QyX {b:List Bat} (h:BookOk b) {m:Nat->Nat->Prop} {w:World} {a:Act} (I:Inv 59 m (Qdz w []) (Qts m) ⟨QoD 0 [(Qy QO).enc b],[],[],[]⟩ a w) {cd:Code} (vC:Tryz.f40.body=some cd) {Q:Exit->Act->World->Prop}
  (hQ:∀g' a' w' tk,Inv 59 m (Qdz w []) g' ⟨[(2,.bs 100 0 b.length 1)],[(100,QPw b.length (λj=>DI ((QI b).getD j 0)))],tk,[]⟩ a' w'->Q .ret a' w'):cd.wpIn Fence.wide 0 Tryz.prog Q a w:=by
 cases vC;have aX:=h.le;have gW:=h.pos;have cS:=QE QB 59 Quu [];refine QgG cS 2 _ rfl (by kernel_rfl) (by kernel_rfl) (λ_ _=>rfl) _ _ _ _ I ?_
 simp[QeQ,Quu,Qe]
 (generalize aC:Cx.loop _ _ _=aE; apply Qc2 aC (λk=>⟨[(0,.d (.sl 5 (b.map QO.enc))),(3,.sl 1 ((Qeg (b.take k)).map Qt.enc) (.own 3)),(4,.d (DI k))],[],[3],[]⟩) b.length rfl; rotate_left; (show _ < 281474976710656; omega); (exact λh=>h); rotate_left; all_goals clear aC)
 .intro j hj;have w1:=Qa ((j:Int)+1) (by omega) (by omega)
  have aO:(j:Int) < b.length:=by omega
  rw[Qry hj];have aI:(Qeg (b.take j)).length=j:=by simp[Qeg]; omega
  have h1:j+1<=140737488355328:=by omega
  have h2:(j+1)*8<=140737488355328:=by omega
  simp[Quu,hj,aO,w1,Qh,Qc,aI,h1,h2]
 .simp[Quu,QT];intro g1 a1 w1 I1;show Code.wpIn _ _ _ (Qon 2 _) _ _ _;have aS:(Qeg b).map Qt.enc≠[]:=by
   intro h0;have:((Qeg b).map Qt.enc).length=0:=by rw[h0]; rfl
   simp[Qeg]at this;rw[this]at gW; simp at gW
  have vX:(Qeg b).length=b.length:=by simp[Qeg]
  obtain⟨g2,I2⟩:=Qxs cS (t:=3) (d:=100) (k:=1) (tk:=3) (rows:=(Qeg b).map Qt.enc) rfl (by simp) aS (by simp[Qan,QcP]) rfl I1
  simp only[Qu6,List.length_map,vX]at I2;refine QfO cS (by kernel_rfl) (by kernel_rfl) I2 (λ_ _=>rfl) ?_
  simp[Qon,Quu,Qaf,Qz,Qv];have bB:∀i,i<=b.length->(Qg1 b i).length=b.length:=QdE b;have oO:=λi hi=>QgV h i hi
  (generalize aC:Cx.loop _ _ _=aE; apply Qc2 aC (λi=>⟨[(0,.d (.sl 5 (b.map QO.enc))),(3,.bs 100 0 b.length 1),(5,.d (DI i))],[(100,QPw b.length (λj=>DI ((Qg1 b i).getD j 0)))],[],[]⟩) b.length rfl; rotate_left; (show _ < 281474976710656; omega); (exact λh=>h); rotate_left; all_goals clear aC)
  .intro i hi;have w1:=Qa ((i:Int)+1) (by omega) (by omega)
   have dC:(i:Int) < b.length:=by omega
   have hb:=h.at hi;have hL:=bB i (by omega)
   have jU:=oO i (by omega)
   rw[QdG hi];generalize Qg1 b i=L at*;generalize hx:b[i]=x at*;have dJ:x.takes.length<=8:=by
    have:=Qdy (l:=x.takes) hb.asc hb.fr;omega
   simp[Quu,Qaf,Qz,dC]
   (generalize aC:Cx.loop _ _ _=aE; apply Qi aC (λk=>⟨[(0,.d (.sl 5 (b.map QO.enc))),(3,.bs 100 0 b.length 1),(5,.d (DI i)),(6,.d (DI k))],[(100,QPw b.length (λj=>DI (((x.takes.take k).foldl QmJ L).getD j 0)))],[],[]⟩) x.takes.length (by first | (simp; done) | (simp; rfl) | (simp; simp[*])); rotate_left; (show _ < 281474976710656; omega); rfl; rotate_left; all_goals clear aC)
   .intro k hk;have bB:(k:Int) < x.takes.length:=by omega
    have w3:=Qa ((k:Int)+1) (by omega) (by omega)
    have hf:=hb.fr x.takes[k] (Ze hk);have hg:=hb.gr x.takes[k] (Ze hk);have hf1:x.takes[k].fr.toNat < b.length:=by omega
    have lD:x.takes[k].fr < b.length:=by omega
    have kE:x.takes[k].fr.toNat+1<=b.length:=by omega
    have hbd2:=Ql9 jU (x.takes.take k) (λt ht=>by have:=hb.fr t (List.mem_of_mem_take ht); omega) (λt ht=>hb.gr t (List.mem_of_mem_take ht)) x.takes[k].fr.toNat
    have oP:=QiW hb.gr k;have sD:=hb.sum_le;have uH:((x.takes.take k).foldl QmJ L).length=b.length:=by rw[Qml]; exact hL
    rw[List.take_succ_eq_append_getElem hk,List.foldl_append,List.foldl_cons,List.foldl_nil];generalize(x.takes.take k).foldl QmJ L=M at*;have yS:=QBo (L:=M) (t:=x.takes[k]) hf.1 (by omega)
    have w4:=Qa (M.getD x.takes[k].fr.toNat 0 - x.takes[k].gr) (by omega) (by omega)
    simp only[Zd]at yS w4;simp[Quu,Qh,Qo,Qaf,Qz,Qb,Qf,Qp,hi,dC,hx,hk,bB,w3,hf.1,hf1,lD,kE,w4,yS]
   .simp[Quu,Qh,Qaf,Qz,hi,dC,hx,w1]
  .rw[Qgg h];simp[Quu,Qaf,Qz,QT];intro g3 a3 w3 I3;have:=hQ g3 a3 w3 _ (by simpa using I3)
   exact this
noncomputable def s40:List D->Option D:=sp1 (Qy QO) (Qy Qt) λb=>if BookOk b then some (QI b)else none
theorem QzN (l:List Int):((List.range l.length).map λj=>[DI (l.getD j 0)])=l.map Qt.enc:=by
 refine List.ext_getElem (by simp) λi h1 h2=>?_
 have hi:i < l.length:=by simpa using h1
 simp[Qc,Zd,hi]
theorem QRE:∀ds d,s40 ds=some d->PureC Tryz.prog 40 ds d:=Qb2 λb r hr=>by
 split at hr
 .rename_i h;cases hr;have aX:=h.le;refine QdD Tryz.func40 rfl rfl (Zb rfl) λm w a I tV=>QyX h I rfl λg' a' w' tk I'=>?_;refine Qim (QE QB 59 Quu []) I' (r:=[(Qy Qt).enc (QI b)]) ?_ rfl;have fV:b.length<=140737488355328:=by omega
  have e:=QzN (QI b);rw[QN]at e;rw[Tryz.results40];simp only[Qbk,<-e];simp[Qb,Qx,QaG,fV,Function.comp_def,Qg]
 .cases hr
theorem Qzm (xs:Array Value) (w:World):(callFunc 40 xs).run Tryz.prog w= .ok (.enter 40 xs) w:=by kernel_rfl
end Go.Proofs.YtnfeakhkfehkhaaGreatDoor
