/-
  The program's supply (what there is, what is needed, who may never take of whom) as plain data. Conditions: none.
-/
import Derived.Test.YticoemblgkemiaaGreatDoorZPrC
set_option linter.unusedSimpArgs false
set_option linter.unusedVariables false
namespace Go.Proofs.YticoemblgkemiaaGreatDoor
open Go.RowKit
noncomputable def QCf {α:Type} (k:Nat) (enc:α->List D) (inj:∀x y,enc x=enc y->x=y):Row α:=⟨k,enc,λd=> @dite _ (∃x,enc x=d) (Classical.propDecidable _) (λh=>some h.choose) (λ_=>none),λx=>by
 have h:∃y,enc y=enc x:=⟨x,rfl⟩;rw[dif_pos h]; exact congrArg some (inj _ _ h.choose_spec),λd x h=>by
 split at h
 .rename_i hd;cases h;rw[hd.choose_spec]; exact LImp.refl _
 .cases h⟩
def QbA (h n:Nat->Int) (v:Nat->Nat->Bool) (k:Nat):D:=if k < 8 then DI (h k)else if k < 16 then DI (n (k - 8))else DB (v ((k - 16) / 8) ((k - 16) % 8))
def QdW (h n:Nat->Int) (v:Nat->Nat->Bool):List D:=(List.range 80).map (QbA h n v)
theorem QX (h n:Nat->Int) (v:Nat->Nat->Bool):(QdW h n v).length=80:=by simp[QdW]
abbrev Sup:= {cs:List D // ∃h n v,cs=QdW h n v}
def Sup.of (h n:Nat->Int) (v:Nat->Nat->Bool):Sup:=⟨QdW h n v,h,n,v,rfl⟩
def QPK:D->Int
 | .v (.int .i64 x)=>x
 | _=>0
def QGK:D->Bool
 | .v (.bool x)=>x
 | _=>false
def Sup.h (s:Sup) (k:Nat):Int:=if k < 8 then QPK (s.1.getD k (DI 0))else 0
def Sup.n (s:Sup) (k:Nat):Int:=if k < 8 then QPK (s.1.getD (8+k) (DI 0))else 0
def Sup.v (s:Sup) (x t:Nat):Bool:=if x < 8/\t < 8 then QGK (s.1.getD (16+x*8+t) (DB false))else false
theorem Qol {h n:Nat->Int} {v:Nat->Nat->Bool} {k:Nat} (hk:k < 8):QbA h n v k=DI (h k):=by simp[QbA,hk]
theorem QpH {h n:Nat->Int} {v:Nat->Nat->Bool} {k:Nat} (hk:k < 8):QbA h n v (8+k)=DI (n k):=by
 unfold QbA; rw[if_neg (by omega),if_pos (by omega),show 8+k - 8=k by omega]
theorem QDl {h n:Nat->Int} {v:Nat->Nat->Bool} {x t:Nat} (hx:x < 8) (ht:t < 8):QbA h n v (16+x*8+t)=DB (v x t):=by
 unfold QbA; rw[if_neg (by omega),if_neg (by omega),show(16+x*8+t - 16) / 8=x by omega,show(16+x*8+t - 16) % 8=t by omega]
theorem Qqo {h n:Nat->Int} {v:Nat->Nat->Bool} {k:Nat} (hk:k < 80) (d:D):(QdW h n v).getD k d=QbA h n v k:=by
 simp[QdW,Zd,hk]
theorem QFc (h n:Nat->Int) (v:Nat->Nat->Bool) (k:Nat):(Sup.of h n v).h k=if k < 8 then h k else 0:=by
 unfold Sup.h Sup.of;split
 .rename_i hk; dsimp only; rw[Qqo (by omega),Qol hk]; rfl
 .rfl
theorem QGA (h n:Nat->Int) (v:Nat->Nat->Bool) (k:Nat):(Sup.of h n v).n k=if k < 8 then n k else 0:=by
 unfold Sup.n Sup.of;split
 .rename_i hk; dsimp only; rw[Qqo (by omega),QpH hk]; rfl
 .rfl
theorem QHT (h n:Nat->Int) (v:Nat->Nat->Bool) (x t:Nat):(Sup.of h n v).v x t=if x < 8/\t < 8 then v x t else false:=by
 unfold Sup.v Sup.of;split
 .rename_i hk; dsimp only; rw[Qqo (by omega),QDl hk.1 hk.2]; rfl
 .rfl
theorem QtF {h n h' n':Nat->Int} {v v':Nat->Nat->Bool} (e1:∀k,k < 8->h k=h' k) (e2:∀k,k < 8->n k=n' k) (e3:∀x t,x < 8->t < 8->v x t=v' x t):∀k,k < 80->QbA h n v k=QbA h' n' v' k:=by
 intro k hk;unfold QbA;split
 .rename_i h1; rw[e1 k h1]
 .split
  .rw[e2 _ (by omega)]
  .rw[e3 _ _ (by omega) (by omega)]
theorem Qt1 {h n h' n':Nat->Int} {v v':Nat->Nat->Bool} (e1:∀k,k < 8->h k=h' k) (e2:∀k,k < 8->n k=n' k) (e3:∀x t,x < 8->t < 8->v x t=v' x t):QdW h n v=QdW h' n' v':=
 List.map_congr_left λk hk=>QtF e1 e2 e3 k (Zm.1 hk)
theorem Sup.eq (s:Sup):s.1=QdW s.h s.n s.v:=by
 obtain⟨cs,h,n,v,rfl⟩:=s;refine Qt1 (λk hk=>?_) (λk hk=>?_) (λx t hx ht=>?_)
 .exact(((QFc h n v k)).trans (if_pos hk)).symm
 .exact(((QGA h n v k)).trans (if_pos hk)).symm
 .exact(((QHT h n v x t)).trans (if_pos ⟨hx,ht⟩)).symm
noncomputable def Qtl:Row Sup:=QCf 80 (λs=>s.1) λ_ _ h=>Subtype.ext h
theorem Qcu (s:Sup):Qtl.enc s=QdW s.h s.n s.v:=s.eq
theorem QmA (h n:Nat->Int) (v:Nat->Nat->Bool):Qtl.dec (QdW h n v)=some (Sup.of h n v):=Qtl.de (Sup.of h n v)
structure Bx where
 sup:Sup
 bats:List Bat
 lost:List Int
theorem QgI {α:Type} (r:Row α) {l l':List α} (h:l.map r.enc=l'.map r.enc):l=l':=by
 have h1:=Qbd r l r.k rfl;rw[h,Qbd r l' r.k rfl]at h1;exact(Option.some.inj h1).symm
noncomputable def rBx:Row Bx:=QCf 82 (λx=>x.sup.1++[.sl 5 (x.bats.map QQ.enc),.sl 1 (x.lost.map QH.enc)]) λx y h=>by
 obtain⟨s,b,l⟩:=x;obtain⟨s',b',l'⟩:=y;dsimp only at h;have hs:s.1.length=s'.1.length:=by rw[s.eq,s'.eq,QX,QX]
 obtain⟨h1,h2⟩:=List.append_inj h hs;simp only[List.cons.injEq,D.sl.injEq,true_and,and_true]at h2;rw[Subtype.ext h1,QgI QQ h2.1,QgI QH h2.2]
theorem QkY (x:Bx):rBx.enc x=QdW x.sup.h x.sup.n x.sup.v++[.sl 5 (x.bats.map QQ.enc),.sl 1 (x.lost.map QH.enc)]:=by rw[<-x.sup.eq]; rfl
theorem Qg7 (h n:Nat->Int) (v:Nat->Nat->Bool) (b:List Bat) (l:List Int):rBx.enc ⟨Sup.of h n v,b,l⟩=QdW h n v++[.sl 5 (b.map QQ.enc),.sl 1 (l.map QH.enc)]:=rfl
def c87 (h n:Nat->Int) (v:Nat->Nat->Bool) (bs lo:X):List X:=Qk 80 (QbA h n v)++[bs,lo]
theorem QE {h n:Nat->Int} {v:Nat->Nat->Bool} {bs lo:X} :(c87 h n v bs lo).length=82:=by simp[c87,Qb]
theorem Qa3 {h n:Nat->Int} {v:Nat->Nat->Bool} {bs lo:X} {p:Nat} (hp:p < 80):(c87 h n v bs lo)[p]?=some (.d (QbA h n v p)):=by
 unfold c87; rw[List.getElem?_append_left (by rw[Qb]; exact hp),Qc hp]
theorem Qyv {h n:Nat->Int} {v:Nat->Nat->Bool} {bs lo:X} {i:Nat} (hi:i < 8):(c87 h n v bs lo)[i]?=some (.d (DI (h i))):=by
 rw[Qa3 (by omega),Qol hi]
theorem Qwm {h n:Nat->Int} {v:Nat->Nat->Bool} {bs lo:X} {i:Nat} (hi:i < 8):(c87 h n v bs lo)[8+i]?=some (.d (DI (n i))):=by
 rw[Qa3 (by omega),QpH hi]
theorem QW {h n:Nat->Int} {v:Nat->Nat->Bool} {bs lo:X} :(c87 h n v bs lo)[80]?=some bs:=by
 unfold c87; rw[List.getElem?_append_right (by rw[Qb]; omega),Qb]; rfl
theorem QY {h n:Nat->Int} {v:Nat->Nat->Bool} {bs lo:X} :(c87 h n v bs lo)[81]?=some lo:=by
 unfold c87; rw[List.getElem?_append_right (by rw[Qb]; omega),Qb]; rfl
theorem QnF {cs:List X} {p:Nat} {x:X} (h:cs[p]?=some x) (hp:p < cs.length):cs[p]=x:=by
 rw[Zg hp]at h; exact Option.some.inj h
theorem QN {h n:Nat->Int} {v:Nat->Nat->Bool} {bs lo:X} (hp:81 < (c87 h n v bs lo).length):(c87 h n v bs lo)[81]=lo:=QnF QY hp
theorem QO {h n:Nat->Int} {v:Nat->Nat->Bool} {bs lo:X} (hp:80 < (c87 h n v bs lo).length):(c87 h n v bs lo)[80]=bs:=QnF QW hp
theorem Qth {h n:Nat->Int} {v:Nat->Nat->Bool} {bs lo:X} {i:Nat} (hi:i < 8) (hp:8+i < (c87 h n v bs lo).length):(c87 h n v bs lo)[8+i]= .d (DI (n i)):=QnF (Qwm hi) hp
theorem Qst {h n:Nat->Int} {v:Nat->Nat->Bool} {i:Nat} {z:Int} (hi:i < 8):QZ (QbA h n v) i (DI z)=QbA (QZ h i z) n v:=by
 funext k;unfold QZ QbA;by_cases e:k=i
 .subst e; simp[hi]
 .rw[if_neg e]; simp only[e,if_false]
theorem QCP {h n:Nat->Int} {v:Nat->Nat->Bool} {i:Nat} {z:Int} (hi:i < 8):QZ (QbA h n v) (8+i) (DI z)=QbA h (QZ n i z) v:=by
 funext k;by_cases e:k=8+i
 .subst e; rw[Qac,QpH hi,Qac]
 .rw[Q2 _ _ e];unfold QbA;split
  .rfl
  .split
   .rw[Q2 _ _ (by omega)]
   .rfl
def QgC {α:Type} (f:Nat->Nat->α) (x t:Nat) (a:α):Nat->Nat->α:=λy=>if y=x then QZ (f y) t a else f y
theorem QCR {h n:Nat->Int} {v:Nat->Nat->Bool} {x t:Nat} {z:Bool} (hx:x < 8) (ht:t < 8):QZ (QbA h n v) (16+x*8+t) (DB z)=QbA h n (QgC v x t z):=by
 funext k;unfold QZ QbA QgC;by_cases e:k=16+x*8+t
 .subst e;rw[if_pos rfl,if_neg (by omega),if_neg (by omega),show(16+x*8+t - 16) / 8=x by omega,show(16+x*8+t - 16) % 8=t by omega,if_pos rfl]
  unfold QZ; rw[if_pos rfl]
 .rw[if_neg e];split
  .rfl
  .split
   .rfl
   .by_cases h1:(k - 16) / 8=x
    .rw[if_pos h1]; unfold QZ; rw[if_neg (by omega)]
    .rw[if_neg h1]
theorem QsF {cs:List X} {p:Nat} {x:X} (h:p < cs.length):cs.take p++x::cs.drop (p+1)=cs.set p x:=by
 rw[List.set_eq_take_append_cons_drop,if_pos h]
theorem QDC {h n:Nat->Int} {v:Nat->Nat->Bool} {bs lo:X} {p:Nat} {d:D} (hp:p < 80):(c87 h n v bs lo).take p++X.d d::(c87 h n v bs lo).drop (p+1)=Qk 80 (QZ (QbA h n v) p d)++[bs,lo]:=by
 rw[QsF (by rw[QE]; omega),c87,List.set_append_left _ _ (by rw[Qb]; exact hp),<-QsF (by rw[Qb]; exact hp),Qo hp]
theorem Qtk {h n:Nat->Int} {v:Nat->Nat->Bool} {bs lo:X} {i:Nat} {z:Int} (hi:i < 8):(c87 h n v bs lo).take i++X.d (DI z)::(c87 h n v bs lo).drop (i+1)=c87 (QZ h i z) n v bs lo:=by
 rw[QDC (by omega),Qst hi]; rfl
theorem Qyq {h n:Nat->Int} {v:Nat->Nat->Bool} {bs lo:X} {i:Nat} {z:Int} (hi:i < 8):(c87 h n v bs lo).take (8+i)++X.d (DI z)::(c87 h n v bs lo).drop (8+i+1)=c87 h (QZ n i z) v bs lo:=by
 rw[QDC (by omega),QCP hi]; rfl
theorem QgY {h n:Nat->Int} {v:Nat->Nat->Bool} {bs lo x:X} :(c87 h n v bs lo).take 80++x::(c87 h n v bs lo).drop 81=c87 h n v x lo:=by
 rw[QsF (by rw[QE]; omega),c87,List.set_append_right _ _ (by rw[Qb]; omega),Qb]; rfl
theorem QgO {h n:Nat->Int} {v:Nat->Nat->Bool} {bs lo x:X} :(c87 h n v bs lo).take 81++x::(c87 h n v bs lo).drop 82=c87 h n v bs x:=by
 rw[QsF (by rw[QE]; omega),c87,List.set_append_right _ _ (by rw[Qb]; omega),Qb]; rfl
theorem Qas (h n:Nat->Int) (v:Nat->Nat->Bool) (bs lo:X) (P:X->Prop) (hd:∀d,P (.d d)):(∀c,c∈c87 h n v bs lo->P c)=(P bs/\P lo):=by
 refine propext ⟨λH=>⟨H _ (by simp[c87]),H _ (by simp[c87])⟩,λH c hc=>?_⟩
 unfold c87 at hc;rcases Zp.1 hc with hc | hc
 .obtain⟨d,rfl⟩:=QbJ c hc; exact hd d
 .simp only[List.mem_cons,List.not_mem_nil,or_false]at hc;rcases hc with rfl | rfl
  .exact H.1
  .exact H.2
theorem Qmk {kb:List (Nat×Nat×Nat)} {b:Nat} :∀(cs:List X) (i:Nat) (rest:List X) (av nw:List Nat),(∀j,i<=j->j < i+cs.length->Qeu kb b j=none)->(∀c∈cs,∃d,c= .d d)->Qaz kb b i (cs++rest) av nw=(cs++(Qaz kb b (i+cs.length) rest av nw).1,(Qaz kb b (i+cs.length) rest av nw).2)
 | [],i,rest,av,nw,_,_=>by simp
 | c::t,i,rest,av,nw,hk,h=>by
  obtain⟨d,rfl⟩:=h c (by simp)
  have ih:=Qmk (kb:=kb) (b:=b) t (i+1) rest av nw (λj h1 h2=>hk j (by omega) (by simp only[List.length_cons]; omega)) λc hc=>h c (by simp[hc])
  have e:i+1+t.length=i+(X.d d::t).length:=by simp only[List.length_cons]; omega
  rw[e]at ih;rw[List.cons_append]
  conv=>lhs; unfold Qaz
  rw[hk i (Zr _) (by simp)]
  simp only[ih];rfl
theorem Qrj {kb:List (Nat×Nat×Nat)} {b:Nat} (hk:∀j,j < 80->Qeu kb b j=none) {h n:Nat->Int} {v:Nat->Nat->Bool} {bs lo:X} {av nw:List Nat} :Qaz kb b 0 (c87 h n v bs lo) av nw=(Qk 80 (QbA h n v)++(Qaz kb b 80 [bs,lo] av nw).1,(Qaz kb b 80 [bs,lo] av nw).2):=by
 have:=Qmk (kb:=kb) (b:=b) (Qk 80 (QbA h n v)) 0 [bs,lo] av nw (λj _ h2=>hk j (by simpa[Qb]using h2)) QbJ
 rw[Qb,Nat.zero_add]at this;exact this
theorem QsP:∀(l r:List X) {ds es:List D},Qbp l=some ds->Qbp r=some es->Qbp (l++r)=some (ds++es)
 | [],r,ds,es,h,g=>by simp only[Qbp,Zs]at h; subst h; exact g
 | a::t,r,ds,es,h,g=>by
  rw[List.cons_append];unfold Qbp at h|-;cases h1:a.data with
  | none=>rw[h1]at h; cases h2:Qbp t<;>rw[h2]at h<;>cases h
  | some d=>
   cases h2:Qbp t with
   | none=>rw[h1,h2]at h; cases h
   | some cS=>
    rw[h1,h2]at h;cases h;rw[QsP t r h2 g]; rfl
theorem QCQ {h n:Nat->Int} {v:Nat->Nat->Bool} {bs lo:X} {d e:D} (h1:bs.data=some d) (h2:lo.data=some e):Qbp (c87 h n v bs lo)=some (QdW h n v++[d,e]):=
 QsP _ _ (Qv 80 _) (by simp only[Qbp,h1,h2])
theorem QaA {h n:Nat->Int} {v:Nat->Nat->Bool} {bs lo:X} :(c87 h n v bs lo).take 82=c87 h n v bs lo:=List.take_of_length_le (by rw[QE]; exact Zr _)
theorem QaU {h n:Nat->Int} {v:Nat->Nat->Bool} {x y:X} :(QdW h n v).map X.d++[x,y]=c87 h n v x y:=by
 rw[QdW,List.map_map]; rfl
theorem QaZ {h n:Nat->Int} {v:Nat->Nat->Bool} {bs lo:X} :(c87 h n v bs lo).drop 82=[]:=List.drop_of_length_le (by rw[QE]; exact Zr _)
theorem QFX {h n:Nat->Int} {v:Nat->Nat->Bool} {d e:D} :(QdW h n v++[d,e]).length=82:=by
 rw[List.length_append,QX]; rfl
theorem QEt {h n:Nat->Int} {v:Nat->Nat->Bool} {d:D} {k:Nat} {rows:List (List D)} {t:Nat} :Qbp (c87 h n v (.d d) (.sl k rows (.tok t)))=some (QdW h n v++[d,.sl k rows]):=QCQ rfl rfl
theorem Qag {h n:Nat->Int} {v:Nat->Nat->Bool} {d e:D} :Qbp (c87 h n v (.d d) (.d e))=some (QdW h n v++[d,e]):=QCQ rfl rfl
abbrev Ql1:=Nat->Int->(Nat->Bool)->Fl->Qn3
structure Nrm (seen:Nat->Bool) (s:Fl):Prop where
 seen:∀x,8<=x->seen x=false
 has:∀x,8<=x->s.has x=0
 g:∀x y,8<=x\/8<=y->s.g x y=0
def QiE (rec:Ql1):Prop:=∀o most seen s,o < 8->Nrm seen s->Nrm (rec o most seen s).2.1 (rec o most seen s).2.2
theorem Nrm.more {seen:Nat->Bool} {s:Fl} (h:Nrm seen s) {x t:Nat} (hx:x < 8) (ht:t < 8) (n:Int):Nrm seen (s.more x t n):=
 ⟨h.seen,h.has,λa b nQ=>by rw[QdC,if_neg (by omega)]; exact h.g a b nQ⟩
theorem Nrm.turn {seen:Nat->Bool} {s:Fl} (h:Nrm seen s) {x o t:Nat} (hx:x < 8) (ho:o < 8) (ht:t < 8) (n:Int):Nrm seen (s.turn x o t n):=(h.more hx ho _).more hx ht _
theorem Nrm.mark {seen:Nat->Bool} {s:Fl} (h:Nrm seen s) {x:Nat} (hx:x < 8):Nrm (QZ seen x true) s:=
 ⟨λy hy=>by rw[Q2 _ _ (by omega)]; exact h.seen y hy,h.has,h.g⟩
theorem Nrm.take {seen:Nat->Bool} {s:Fl} (h:Nrm seen s) {x t:Nat} (hx:x < 8) (ht:t < 8) (n:Int):Nrm seen (s.take x t n):=by
 have h0:Nrm seen (⟨QZ s.has x (s.has x - n),s.g⟩:Fl):=⟨h.seen,λy hy=>by
  show QZ s.has x _ y=0;rw[Q2 _ _ (by omega)]; exact h.has y hy,h.g⟩
 exact h0.more hx ht n
theorem Qjh {rec:Ql1} (hr:QiE rec) {t x:Nat} (ht:t < 8) (hx:x < 8) (most:Int) (row:Nat->Int):∀(k:Nat) (seen:Nat->Bool) (s:Fl),Nrm seen s->Nrm (QhH rec t x most row k seen s).2.1 (QhH rec t x most row k seen s).2.2
 | 0,seen,s,h=>h
 | k+1,seen,s,h=>by
  rw[QhH];split
  .exact Qjh hr ht hx most row k seen s h
  .have h1:=hr (7 - k) (min most (row (7 - k))) seen s (by omega) h
   split
   .exact h1.turn hx (by omega) ht _
   .exact Qjh hr ht hx most row k _ _ h1
theorem Qnc {rec:Ql1} (hr:QiE rec) {nv:Nat->Nat->Bool} {t:Nat} (ht:t < 8) (most:Int):∀(k:Nat) (seen:Nat->Bool) (s:Fl),Nrm seen s->Nrm (Qoa rec nv t most k seen s).2.1 (Qoa rec nv t most k seen s).2.2
 | 0,seen,s,h=>h
 | k+1,seen,s,h=>by
  have hx:t - (k+1) < 8:=by omega
  rw[Qoa];split
  .exact Qnc hr ht most k seen s h
  .split
   .exact(h.mark hx).take hx ht _
   .have h1:=Qjh hr ht hx most (s.g (t - (k+1))) 8 _ s (h.mark hx);split
    .exact h1
    .exact Qnc hr ht most k _ _ h1
theorem Qj9 (nv:Nat->Nat->Bool):∀f,QiE (Q1 nv f)
 | 0=>λo most seen s _ h=>h
 | f+1=>λo most seen s ho h=>by
  rw[Q1]; exact Qnc (Qj9 nv f) ho most o seen s h
def oJ (rec:Ql1) (t:Nat) (most:Int) (row:Nat->Int) (s:Fl) (seen:Nat->Bool):Nat->(Nat->Bool)
 | 0=>seen
 | j+1=>if j=t\/row j=0 then oJ rec t most row s seen j else(rec j (min most (row j)) (oJ rec t most row s seen j) s).2.1
def Qgv (rec:Ql1) (t:Nat) (most:Int) (row:Nat->Int) (s:Fl) (seen:Nat->Bool) (j:Nat):Qn3:=rec j (min most (row j)) (oJ rec t most row s seen j) s
def Qca (rec:Ql1) (t:Nat) (most:Int) (row:Nat->Int) (s:Fl) (seen:Nat->Bool) (j:Nat):Bool:=decide (j=t\/row j=0)||!decide (0 < (Qgv rec t most row s seen j).1)
theorem Qn7 {rec:Ql1} {t x:Nat} {most:Int} {row:Nat->Int} {s:Fl} {seen:Nat->Bool} (bC:∀j,j < 8->(∀i,i < j->Qca rec t most row s seen i=true)->¬(j=t\/row j=0)->¬0 < (Qgv rec t most row s seen j).1->(Qgv rec t most row s seen j).2.2=s):∀j,j<=8->(∀i,i < j->Qca rec t most row s seen i=true)->QhH rec t x most row 8 seen s=QhH rec t x most row (8 - j) (oJ rec t most row s seen j) s
 | 0,_,_=>rfl
 | j+1,hj,hg=>by
  rw[Qn7 bC j (by omega) λi hi=>hg i (by omega)]
  have e:8 - j=(8 - (j+1))+1:=by omega
  have e7:7 - (8 - (j+1))=j:=by omega
  rw[e,QhH,e7];have lH:=hg j (by omega)
  unfold Qca at lH;by_cases h1:j=t\/row j=0
  .rw[if_pos h1,oJ,if_pos h1]
  .rw[if_neg h1,oJ,if_neg h1];have h2:¬0 < (Qgv rec t most row s seen j).1:=by simpa[h1]using lH
   have h3:=bC j (by omega) (λi hi=>hg i (by omega)) h1 h2
   unfold Qgv at h2 h3;rw[if_neg h2,h3]
theorem QBb {rec:Ql1} {t x:Nat} {most:Int} {row:Nat->Int} {s:Fl} {seen:Nat->Bool} (bC:∀j,j < 8->(∀i,i < j->Qca rec t most row s seen i=true)->¬(j=t\/row j=0)->¬0 < (Qgv rec t most row s seen j).1->(Qgv rec t most row s seen j).2.2=s) (hg:∀i,i < 8->Qca rec t most row s seen i=true):QhH rec t x most row 8 seen s=(0,oJ rec t most row s seen 8,s):=by
 rw[Qn7 bC 8 (Zr _) hg]; rfl
theorem QBP {rec:Ql1} {t x:Nat} {most:Int} {row:Nat->Int} {s:Fl} {seen:Nat->Bool} (bC:∀j,j < 8->(∀i,i < j->Qca rec t most row s seen i=true)->¬(j=t\/row j=0)->¬0 < (Qgv rec t most row s seen j).1->(Qgv rec t most row s seen j).2.2=s) {j:Nat} (hj:j < 8) (hg:∀i,i < j->Qca rec t most row s seen i=true) (hb:Qca rec t most row s seen j=false):QhH rec t x most row 8 seen s=((Qgv rec t most row s seen j).1,(Qgv rec t most row s seen j).2.1,(Qgv rec t most row s seen j).2.2.turn x j t (Qgv rec t most row s seen j).1):=by
 rw[Qn7 bC j (by omega) hg]
 have e:8 - j=(8 - (j+1))+1:=by omega
 have e7:7 - (8 - (j+1))=j:=by omega
 rw[e,QhH,e7];unfold Qca at hb;simp only[Bool.or_eq_false_iff,decide_eq_false_iff_not,Bool.not_eq_false',decide_eq_true_eq]at hb;rw[if_neg hb.1];have h2:=hb.2;unfold Qgv at h2|-;rw[if_pos h2]
def xJ (rec:Ql1) (nv:Nat->Nat->Bool) (t:Nat) (most:Int) (s:Fl) (seen:Nat->Bool):Nat->(Nat->Bool)
 | 0=>seen
 | j+1=>if xJ rec nv t most s seen j j=true\/nv j t=true then xJ rec nv t most s seen j else(QhH rec t j most (s.g j) 8 (QZ (xJ rec nv t most s seen j) j true) s).2.1
def QkG (rec:Ql1) (nv:Nat->Nat->Bool) (t:Nat) (most:Int) (s:Fl) (seen:Nat->Bool) (j:Nat):Qn3:=QhH rec t j most (s.g j) 8 (QZ (xJ rec nv t most s seen j) j true) s
def Qcb (rec:Ql1) (nv:Nat->Nat->Bool) (t:Nat) (most:Int) (s:Fl) (seen:Nat->Bool) (j:Nat):Bool:=decide (xJ rec nv t most s seen j j=true\/nv j t=true)||(!decide (0 < min most (s.has j))&&!decide (0 < (QkG rec nv t most s seen j).1))
theorem Qm2 {rec:Ql1} {nv:Nat->Nat->Bool} {t:Nat} {most:Int} {s:Fl} {seen:Nat->Bool} (bC:∀j,j < t->(∀i,i < j->Qcb rec nv t most s seen i=true)->¬(xJ rec nv t most s seen j j=true\/nv j t=true)->¬0 < (QkG rec nv t most s seen j).1->(QkG rec nv t most s seen j).2.2=s):∀j,j<=t->(∀i,i < j->Qcb rec nv t most s seen i=true)->Qoa rec nv t most t seen s=Qoa rec nv t most (t - j) (xJ rec nv t most s seen j) s
 | 0,_,_=>rfl
 | j+1,hj,hg=>by
  rw[Qm2 bC j (by omega) λi hi=>hg i (by omega)]
  have e:t - j=(t - (j+1))+1:=by omega
  have e7:t - (t - (j+1)+1)=j:=by omega
  rw[e,Qoa,e7];have lH:=hg j (by omega)
  unfold Qcb at lH;by_cases h1:xJ rec nv t most s seen j j=true\/nv j t=true
  .rw[if_pos h1,xJ,if_pos h1]
  .rw[if_neg h1,xJ,if_neg h1];have h2:¬0 < min most (s.has j)/\¬0 < (QkG rec nv t most s seen j).1:=by simpa[h1]using lH
   have h3:=bC j (by omega) (λi hi=>hg i (by omega)) h1 h2.2
   unfold QkG at h2 h3;rw[if_neg h2.1,if_neg h2.2,h3]
theorem QAx {rec:Ql1} {nv:Nat->Nat->Bool} {t:Nat} {most:Int} {s:Fl} {seen:Nat->Bool} (bC:∀j,j < t->(∀i,i < j->Qcb rec nv t most s seen i=true)->¬(xJ rec nv t most s seen j j=true\/nv j t=true)->¬0 < (QkG rec nv t most s seen j).1->(QkG rec nv t most s seen j).2.2=s) (hg:∀i,i < t->Qcb rec nv t most s seen i=true):Qoa rec nv t most t seen s=(0,xJ rec nv t most s seen t,s):=by
 rw[Qm2 bC t (Zr _) hg,Nat.sub_self]; rfl
theorem QAj {rec:Ql1} {nv:Nat->Nat->Bool} {t:Nat} {most:Int} {s:Fl} {seen:Nat->Bool} (bC:∀j,j < t->(∀i,i < j->Qcb rec nv t most s seen i=true)->¬(xJ rec nv t most s seen j j=true\/nv j t=true)->¬0 < (QkG rec nv t most s seen j).1->(QkG rec nv t most s seen j).2.2=s) {j:Nat} (hj:j < t) (hg:∀i,i < j->Qcb rec nv t most s seen i=true) (hb:Qcb rec nv t most s seen j=false):¬(xJ rec nv t most s seen j j=true\/nv j t=true)/\Qoa rec nv t most t seen s=if 0 < min most (s.has j)then(min most (s.has j),QZ (xJ rec nv t most s seen j) j true,s.take j t (min most (s.has j)))else QkG rec nv t most s seen j:=by
 rw[Qm2 bC j (by omega) hg]
 have e:t - j=(t - (j+1))+1:=by omega
 have e7:t - (t - (j+1)+1)=j:=by omega
 rw[e,Qoa,e7];unfold Qcb at hb;simp only[Bool.or_eq_false_iff,decide_eq_false_iff_not]at hb;refine⟨hb.1,?_⟩;rw[if_neg hb.1];by_cases h2:0 < min most (s.has j)
 .rw[if_pos h2,if_pos h2]
 .rw[if_neg h2,if_neg h2];have h3:0 < (QkG rec nv t most s seen j).1:=by simpa[h2]using hb.2
  unfold QkG at h3|-;rw[if_pos h3]
theorem QD0 {nv:Nat->Nat->Bool} {f:Int} {rec:Ql1} (hr:QpU nv f rec) (hn:QiE rec) {t x:Nat} {most:Int} (hm:0 < most) {s:Fl} (hs:FlOk nv s) {seen:Nat->Bool} (dU:Qi6 seen<=f) (hN:Nrm seen s):∀j,j<=8->(∀i,i < j->Qca rec t most (s.g x) s seen i=true)->(∀y,seen y=true->oJ rec t most (s.g x) s seen j y=true)/\Nrm (oJ rec t most (s.g x) s seen j) s
 | 0,_,_=>⟨λ_ h=>h,hN⟩
 | j+1,hj,hg=>by
  obtain⟨h1,h2⟩:=QD0 hr hn hm hs dU hN j (by omega) λi hi=>hg i (by omega)
  have lH:=hg j (by omega)
  unfold Qca at lH;rw[oJ];by_cases eX:j=t\/s.g x j=0
  .rw[if_pos eX]; exact⟨h1,h2⟩
  .rw[if_neg eX];have zJ:=hs.g x j;have F:=hr j (min most (s.g x j)) (oJ rec t most (s.g x) s seen j) s (by omega) (by omega) (by have:=Qgo h1; omega) hs
   have N:=hn j (min most (s.g x j)) (oJ rec t most (s.g x) s seen j) s (by omega) h2
   have h3:¬0 < (Qgv rec t most (s.g x) s seen j).1:=by simpa[eX]using lH
   unfold Qgv at h3;have e:=(F.no (by have:=F.pos; omega)).1
   rw[e]at N;exact⟨λy hy=>F.mono y (h1 y hy),N⟩
theorem QyO {nv:Nat->Nat->Bool} {f:Int} {rec:Ql1} (hr:QpU nv f rec) (hn:QiE rec) {t x:Nat} {most:Int} (hm:0 < most) {s:Fl} (hs:FlOk nv s) {seen:Nat->Bool} (dU:Qi6 seen<=f) (hN:Nrm seen s) {j:Nat} (hj:j < 8) (hg:∀i,i < j->Qca rec t most (s.g x) s seen i=true) (eX:¬(j=t\/s.g x j=0)):Qi6 (oJ rec t most (s.g x) s seen j)<=f/\0 < min most (s.g x j)/\Found nv j (min most (s.g x j)) (oJ rec t most (s.g x) s seen j) s (Qgv rec t most (s.g x) s seen j):=by
 obtain⟨h1,h2⟩:=QD0 hr hn hm hs dU hN j (by omega) hg
 have zJ:=hs.g x j;have hc:Qi6 (oJ rec t most (s.g x) s seen j)<=f:=by have:=Qgo h1; omega
 exact⟨hc,by omega,hr j (min most (s.g x j)) (oJ rec t most (s.g x) s seen j) s hj (by omega) hc hs⟩
theorem Qqg {nv:Nat->Nat->Bool} {f:Int} {rec:Ql1} (hr:QpU nv f rec) (hn:QiE rec) {t x:Nat} {most:Int} (hm:0 < most) {s:Fl} (hs:FlOk nv s) {seen:Nat->Bool} (dU:Qi6 seen<=f) (hN:Nrm seen s):∀j,j < 8->(∀i,i < j->Qca rec t most (s.g x) s seen i=true)->¬(j=t\/s.g x j=0)->¬0 < (Qgv rec t most (s.g x) s seen j).1->(Qgv rec t most (s.g x) s seen j).2.2=s:=λj hj hg eX h=>by
 have F:=(QyO hr hn hm hs dU hN hj hg eX).2.2;exact(F.no (by have:=F.pos; omega)).1
theorem QKe {nv:Nat->Nat->Bool} {f:Int} {rec:Ql1} (hr:QpU nv f rec) (hn:QiE rec) {t:Nat} {most:Int} (hm:0 < most) (ht:t < 8) {s:Fl} (hs:FlOk nv s) {seen:Nat->Bool} (dU:Qi6 seen<=f+1) (hN:Nrm seen s):∀j,j<=t->(∀i,i < j->Qcb rec nv t most s seen i=true)->(∀y,seen y=true->xJ rec nv t most s seen j y=true)/\Nrm (xJ rec nv t most s seen j) s
 | 0,_,_=>⟨λ_ h=>h,hN⟩
 | j+1,hj,hg=>by
  obtain⟨h1,h2⟩:=QKe hr hn hm ht hs dU hN j (by omega) λi hi=>hg i (by omega)
  have lH:=hg j (by omega)
  unfold Qcb at lH;rw[xJ];by_cases eX:xJ rec nv t most s seen j j=true\/nv j t=true
  .rw[if_pos eX]; exact⟨h1,h2⟩
  .rw[if_neg eX];have f9:j < 8:=by omega
   have hx:¬xJ rec nv t most s seen j j=true:=λh=>eX (.inl h);have hc:Qi6 (QZ (xJ rec nv t most s seen j) j true)<=f:=by
    have:=Qgo h1;rw[Qm5 f9 hx]; omega
   have F:=Qku hr hm ht (x:=j) ⟨by omega,by simpa using λh=>eX (.inr h)⟩ hs 8 (Zr _) (QZ (xJ rec nv t most s seen j) j true) (Qac _ _ _) hc
   have N:=Qjh hn ht f9 most (s.g j) 8 _ s (h2.mark f9);have h3:¬0 < min most (s.has j)/\¬0 < (QkG rec nv t most s seen j).1:=by simpa[eX]using lH
   unfold QkG at h3;have e:=(F.no (by have:=F.pos; omega)).1
   rw[e]at N;refine⟨λy hy=>F.mono y ?_,N⟩;by_cases e:y=j
   .subst e; exact Qac _ _ _
   .rw[Q2 _ _ e]; exact h1 y hy
theorem Qzl {nv:Nat->Nat->Bool} {f:Int} {rec:Ql1} (hr:QpU nv f rec) (hn:QiE rec) {t:Nat} {most:Int} (hm:0 < most) (ht:t < 8) {s:Fl} (hs:FlOk nv s) {seen:Nat->Bool} (dU:Qi6 seen<=f+1) (hN:Nrm seen s) {j:Nat} (hj:j < t) (hg:∀i,i < j->Qcb rec nv t most s seen i=true) (eX:¬(xJ rec nv t most s seen j j=true\/nv j t=true)):Qi6 (QZ (xJ rec nv t most s seen j) j true)<=f/\Nrm (QZ (xJ rec nv t most s seen j) j true) s/\FoundO nv t j most (s.g j) 8 (QZ (xJ rec nv t most s seen j) j true) s (QkG rec nv t most s seen j):=by
 obtain⟨h1,h2⟩:=QKe hr hn hm ht hs dU hN j (by omega) hg
 have f9:j < 8:=by omega
 have hx:¬xJ rec nv t most s seen j j=true:=λh=>eX (.inl h);have hc:Qi6 (QZ (xJ rec nv t most s seen j) j true)<=f:=by
  have:=Qgo h1;rw[Qm5 f9 hx]; omega
 exact⟨hc,h2.mark f9,Qku hr hm ht (x:=j) ⟨by omega,by simpa using λh=>eX (.inr h)⟩ hs 8 (Zr _) (QZ (xJ rec nv t most s seen j) j true) (Qac _ _ _) hc⟩
theorem Qh8 {c:Cx} {a:Code} {σ0:St} {R:Option (AEx×St)} (hL:c.loop a σ0=R) (S:Nat->St) (n:Nat) (eI:Nat->Bool) (T:Nat->AEx×St) (X:AEx×St) (h0:σ0=S 0) (hF:n < c.F) (hT:∀j,(T j).1≠ .normal) (hX:X.1≠ .normal)
  (hs:∀j,j < n->(∀i,i < j->eI i=true)->c.code a (S j)=some (if eI j=true then(.normal,S (j+1))else T j)) (hx:(∀i,i < n->eI i=true)->c.code a (S n)=some X):((∀j,j < n->eI j=true)/\R=some X)\/∃k,k < n/\eI k=false/\(∀j,j < k->eI j=true)/\R=some (T k):=by
 subst h0;rcases Qbf eI n with hall | ⟨k,hk,aM,aT⟩
 .refine .inl ⟨hall,?_⟩;rw[<-hL];exact Qec S X.1 X.2 n hX (λj hj=>by rw[hs j hj λi hi=>hall i (by omega),if_pos (hall j hj)]) (hx hall) hF
 .refine .inr ⟨k,hk,aM,aT,?_⟩;rw[<-hL];exact Qec S (T k).1 (T k).2 k (hT k) (λj hj=>by rw[hs j (by omega) λi hi=>aT i (by omega),if_pos (aT j hj)]) (by rw[hs k hk aT,aM,if_neg (by simp)]) (by omega)
def gG (g:Nat->Nat->Int) (k:Nat):D:=DI (g (k / 8) (k % 8))
theorem QqK {g:Nat->Nat->Int} {x t:Nat} (ht:t < 8):gG g (x*8+t)=DI (g x t):=by
 unfold gG; rw[show(x*8+t) / 8=x by omega,show(x*8+t) % 8=t by omega]
theorem Qr6 {g:Nat->Nat->Int} {x t:Nat} {z:Int} (ht:t < 8):QZ (gG g) (x*8+t) (DI z)=gG (QgC g x t z):=by
 funext k;unfold QZ gG QgC;by_cases e:k=x*8+t
 .rw[if_pos e,if_pos (by omega)]
  unfold QZ; rw[if_pos (by omega)]
 .rw[if_neg e];by_cases h1:k / 8=x
  .rw[if_pos h1]; unfold QZ; rw[if_neg (by omega)]
  .rw[if_neg h1]
theorem QmR (s:Fl) (x t:Nat) (n:Int):(s.more x t n).g=QgC s.g x t (s.g x t+n):=by
 funext y;unfold Fl.more QgC;by_cases e:y=x
 .subst e; simp
 .simp[e]
theorem QKT (s:Fl) {x o t:Nat} (n:Int) (h:¬o=t):(s.turn x o t n).g=QgC (QgC s.g x o (s.g x o - n)) x t (s.g x t+n):=by
 unfold Fl.turn;rw[QmR,QmR,show s.g x o+(0 - n)=s.g x o - n by omega]
 have:QgC s.g x o (s.g x o - n) x t=s.g x t:=by
  unfold QgC; rw[if_pos rfl,Q2 _ _ (λe=>h e.symm)]
 rw[this]
theorem QEe {g:Nat->Nat->Int} {x o t:Nat} {z:Int} (h:¬o=t):QgC g x o z x t=g x t:=by
 unfold QgC; rw[if_pos rfl,Q2 _ _ (λe=>h e.symm)]
theorem QjH {n m p:Nat} {G:Nat->D} (h:p+m<=n):((Qk n G).drop p).take m=Qk m (λj=>G (p+j)):=by
 refine List.ext_getElem (by simp[Qb]; omega) λi h1 h2=>?_
 simp[Qk]
def QDf (r:Nat):List (Nat×Option Nat):=match r with
 | 0=>kpn [0,2]
 | 1=>kpn [0,2]
 | 2=>kpn [2,9,10,11]
 | 3=>kpn [2,9,10,11,12]
 | 4=>kpn [2,3,4,9,10,11]
 | 5=>kpn [2,3,4,9,10,11]
 | 6=>kpn [2,3,4,9,10,11,28]
 | 7=>kpn [2,3,4,9,10,11]
 | 8=>kpn [2,4,9,10,11]
 | 9=>kpn [2,9,10,11,45,46,47]
 | 10=>kpn [2,9,10,11,45,46,47,48]
 | 11=>kpn [2,6,9,10,11,45,46,47]
 | 12=>kpn [2,9,10,11,45,46,47]
 | 13=>kpn [2,9,10,11,45,46,47]
 | 14=>kpn [2,9,10,11]
 | 15=>[(2,none)]
 | _=>[]
theorem Qq:Q7.desc= .struct #[{ name:= "supply",type:=126,offset:=0,embedded:=true,tag:= "",pkgPath:= "stearin/trace",byteOffset:=0},{ name:= "batches",type:=22,offset:=80,embedded:=false,tag:= "",pkgPath:= "stearin/trace",byteOffset:=192},{ name:= "lost",type:=34,offset:=81,embedded:=false,tag:= "",pkgPath:= "stearin/trace",byteOffset:=216}]:=rfl
theorem Qp:Q7.size=82:=rfl
theorem QMd {Γ:Tys} (hΓ:Γ 128=some Q7) (eqs:List (TypeId×Nat)) (Δ:Nat->List D->Option D) (ev:Operand->X) (boxes:List (Nat×List X)) (toks:List Nat):aop Γ eqs Δ (.alloc 128) ev boxes toks=some (.new ⟨c87 (λ_=>0) (λ_=>0) noN (.sl 0 [] .ex) (.sl 0 [] .ex),none⟩):=by
 simp only[aop,hΓ]; rfl
theorem QgX {h n:Nat->Int} {v:Nat->Nat->Bool} {bs lo:X} {av nw:List Nat} :Qaz [(2,81,1)] 2 0 (c87 h n v bs lo) av nw=(c87 h n v bs.strip (QgF 1 100281 lo av nw).1,(QgF 1 100281 lo av nw).2):=by
 rw[Qrj (λj hj=>by simp[Qeu]; omega)]
 rfl
def hmF (i:Nat) (L:List Int):Nat->Int:=λj=>if j < i then L.getD j 0 else 0
theorem QLI {i:Nat} {L:List Int} {g:Int} (h:L.getD i 0=g):QZ (hmF i L) i g=hmF (i+1) L:=by
 funext j;unfold QZ hmF;by_cases e:j=i
 .subst e; rw[if_pos rfl,if_pos (by omega),h]
 .rw[if_neg e];by_cases e2:j < i
  .rw[if_pos e2,if_pos (by omega)]
  .rw[if_neg e2,if_neg (by omega)]
theorem QOM (i:Nat) (L:List Int):hmF i L i=0:=by simp[hmF]
theorem QMK {i:Nat} {L:List Int} {t:Tak} (h0:0<=t.fr) (hi:t.fr < i) (hl:t.fr < L.length):QZ (hmF i L) t.fr.toNat (hmF i L t.fr.toNat - t.gr)=hmF i (Qob L t):=by
 funext j;have h:=QmC L t h0 hl j;unfold QZ hmF;by_cases e:j=t.fr.toNat
 .have e1:t.fr=(j:Int):=by omega
  rw[if_pos e,if_pos (by omega),if_pos (by omega),h,if_pos e1,e]
 .have e1:¬t.fr=(j:Int):=by omega
  rw[if_neg e];by_cases e2:j < i
  .rw[if_pos e2,if_pos e2,h,if_neg e1]; omega
  .rw[if_neg e2,if_neg e2]
theorem QLK {i:Nat} {L:List Int} (h:L.length<=i):hmF i L=λj=>L.getD j 0:=by
 funext j;unfold hmF;by_cases e:j < i
 .rw[if_pos e]
 .rw[if_neg e,Zd,List.getElem?_eq_none (by omega)]; rfl
theorem Qxp {b:List Bat} (h:BookOk b) {i:Nat} (hi:i < b.length):(Qhh b i).getD i 0=b[i].grams:=by
 rw[Qnu h i i (by omega)]
 have h1:((b.take i).map λx=>Qgu x.takes i).sum=0:=by
  have key:∀k,k<=i->((b.take k).map λx=>Qgu x.takes i).sum=0:=by
   intro k
   induction k with
   | zero=>intro _; simp
   | succ k ih=>
    intro hk;rw[List.take_succ_eq_append_getElem (by omega),List.map_append,List.sum_append,ih (by omega)]
    have h2:Qgu b[k].takes i=0:=by
     unfold Qgu;have:(b[k].takes.filter λt=>t.fr==(i:Int))=[]:=by
      rw[List.filter_eq_nil_iff];intro t ht;have:=(h.at (i:=k) (by omega)).fr t ht
      simp only[beq_iff_eq]; omega
     rw[this]; rfl
    simp[h2]
  exact key i (Zr _)
 rw[h1,Zd,List.getElem?_map,Zg hi];simp
def nmF (b:List Bat) (i:Nat):Nat->Int:=λj=>if j < i then Qdt b j else 0
theorem QDP {b:List Bat} {i:Nat} {x:Bat} (hi:i < b.length) (hx:b[i]=x) (h:x.lost=true):QZ (nmF b i) i (x.grams - x.fresh)=nmF b (i+1):=by
 funext j;unfold QZ nmF;by_cases e:j=i
 .subst e; rw[if_pos rfl,if_pos (by omega),Qdt,Ql b j _ hi,hx,if_pos h]
 .rw[if_neg e];by_cases e2:j < i
  .rw[if_pos e2,if_pos (by omega)]
  .rw[if_neg e2,if_neg (by omega)]
theorem QEz {b:List Bat} {i:Nat} {x:Bat} (hi:i < b.length) (hx:b[i]=x) (h:x.lost=false):nmF b i=nmF b (i+1):=by
 funext j;unfold nmF;by_cases e:j=i
 .subst e; rw[if_neg (by omega),if_pos (by omega),Qdt,Ql b j _ hi,hx,h]; rfl
 .by_cases e2:j < i
  .rw[if_pos e2,if_pos (by omega)]
  .rw[if_neg e2,if_neg (by omega)]
theorem QKr (b:List Bat):nmF b b.length=λj=>(QaD b).getD j 0:=by
 funext j;unfold nmF QaD;by_cases e:j < b.length
 .rw[if_pos e]; simp[Zd,e]
 .rw[if_neg e]; simp[Zd,e]
def loI (b:List Bat) (i:Nat):List Int:=((List.range i).filter λi=>(b.getD i default).lost).map λ(i:Nat)=>(i:Int)
theorem QEY {b:List Bat} {i:Nat} {x:Bat} (hi:i < b.length) (hx:b[i]=x) (h:x.lost=true):loI b (i+1)=loI b i++[(i:Int)]:=by
 unfold loI;rw[List.range_succ,List.filter_append,List.map_append];have:(b.getD i default).lost=true:=by rw[Ql b i _ hi,hx]; exact h
 rw[List.filter_cons,if_pos this]; rfl
theorem QHU {b:List Bat} {i:Nat} {x:Bat} (hi:i < b.length) (hx:b[i]=x) (h:x.lost=false):loI b (i+1)=loI b i:=by
 unfold loI;rw[List.range_succ,List.filter_append,List.map_append];have:(b.getD i default).lost=false:=by rw[Ql b i _ hi,hx]; exact h
 rw[List.filter_cons,if_neg (by rw[this]; simp)]; simp
theorem QJD (b:List Bat) (i:Nat):(loI b i).length<=i:=by
 unfold loI;rw[List.length_map];exact Nat.le_trans (List.length_filter_le _ _) (by simp)
def Qek (b:List Bat):Bx:=⟨Sup.of (λj=>(QT b).getD j 0) (λj=>(QaD b).getD j 0) noN,b,Qae b⟩
noncomputable def s50:List D->Option D:=sp1 (QJ QQ) (Qcf rBx) λb=>if BookOk b then some (Qek b)else none
theorem QDy (xs:Array Value) (w:World):(callFunc 134 xs).run Tryz.prog w= .ok (.enter 134 xs) w:=by kernel_rfl
set_option maxHeartbeats 4000000 in
theorem ok50:∀ds d,s50 ds=some d->PureC Tryz.prog 134 ds d:=Qbr λb r hr=>by
 split at hr
 .rename_i h;cases hr;have bE:=h.le;refine Qf (Qw Qs 66 QDf [(2,81,1)]) Tryz.func134 rfl rfl (Zb rfl) (by kernel_rfl) ?_
  rw[Tryz.results134];have hz:=QMd (Γ:=tys) rfl [] (λ_ _=>none) (λ_=> .d .top) [] [];simp[-Q7]at hz;simp[-Q7,Qq,hz,QDf,Qj,QgX,QE,QgY,Qas];have fZ:b.length<=140737488355328:=by omega
  (generalize aC:Cx.loop _ _ _=aE; apply Qi aC (λi=>⟨[(2,.loc 2 0),(9,.d (.sl 5 (b.map QQ.enc))),(10,.d (DI b.length)),(11,.d (DI i))],[(2,c87 (hmF i (Qhh b i)) (nmF b i) noN (.d (.sl 5 (b.map QQ.enc))) (.sl 1 ((loI b i).map QH.enc) (.tok 100281)))],[100281],[]⟩) b.length (by first | (simp; done) | (simp; rfl) | (simp; simp[*])); rotate_left; (show _ < 281474976710656; omega); rfl; rotate_left; all_goals clear aC)
  .intro i hi;have dW:(i:Int) < b.length:=by omega
   have h8i:i < 8:=by omega
   have w1:=Qa ((i:Int)+1) (by omega) (by omega)
   have hb:=h.at hi;have hL:=Qev b i (by omega)
   have jU:=QhU h i (by omega)
   have hg:=Qxp h hi;rw[Qei hi];generalize Qhh b i=L at*;generalize hx:b[i]=x at*;have h8I:(i:Int) < 8:=by omega
   have h82:i+1<=82:=by omega
   have pA:=hb.grams;have cE:=hb.fresh;have w2:=Qa (0+x.grams) (by omega) (by omega)
   have w3:=Qa (x.grams - x.fresh) (by omega) (by omega)
   rw[Int.zero_add]at w2;have wJ:=QLI hg;have bV:=QOM i L;cases hl:x.lost with
   | true=>
    have gN:=hb.lost hl;rw[<-QDP hi hx hl,QEY hi hx hl,gN,List.foldl_nil];have aI:=QJD b i;have m8:(loI b i).length+1<=140737488355328:=by omega
    have wK:((loI b i).length+1)*8<=140737488355328:=by omega
    have h881:8+i<=81:=by omega
    simp[-Q7,Qq,QDf,Qe,QgX,QE,QN,QgO,Qas,hi,dW,hx,h8i,h8I,h82,h881,hl,gN,Qyv,Qtk,Qyq,bV,wJ,w2,w3,m8,wK,Qd]
    (generalize aC:Cx.loop _ _ _=aE; apply Qi aC (λk=>⟨[(2,.loc 2 0),(9,.d (.sl 5 (b.map QQ.enc))),(10,.d (DI b.length)),(11,.d (DI i)),(45,.d (.sl 2 [])),(46,.d (DI 0)),(47,.d (DI k))],[(2,c87 (hmF (i+1) L) (QZ (nmF b i) i (x.grams - x.fresh)) noN (.d (.sl 5 (b.map QQ.enc))) (.sl 1 ((loI b i).map QH.enc++[[DI i]]) (.tok 100281)))],[100281],[]⟩) 0 (by first | (simp; done) | (simp; rfl) | (simp; simp[*])); rotate_left; (show _ < 281474976710656; omega); rfl; rotate_left; all_goals clear aC)
    .intro k hk; omega
    .simp[-Q7,QDf,QgX,Qas,w1];done
   | false=>
    rw[<-QEz hi hx hl,QHU hi hx hl];have dG:x.takes.length<=8:=by
     have:=QeX (l:=x.takes) hb.asc hb.fr;omega
    simp[-Q7,Qq,QDf,Qe,QgX,QE,Qas,hi,dW,hx,h8i,h8I,h82,hl,Qyv,Qtk,bV,wJ,w2]
    (generalize aC:Cx.loop _ _ _=aE; apply Qi aC (λk=>⟨[(2,.loc 2 0),(9,.d (.sl 5 (b.map QQ.enc))),(10,.d (DI b.length)),(11,.d (DI i)),(45,.d (.sl 2 (x.takes.map Qce.enc))),(46,.d (DI x.takes.length)),(47,.d (DI k))],[(2,c87 (hmF (i+1) ((x.takes.take k).foldl Qob L)) (nmF b i) noN (.d (.sl 5 (b.map QQ.enc))) (.sl 1 ((loI b i).map QH.enc) (.tok 100281)))],[100281],[]⟩) x.takes.length (by first | (simp; done) | (simp; rfl) | (simp; simp[*])); rotate_left; (show _ < 281474976710656; omega); rfl; rotate_left; all_goals clear aC)
    .intro k hk;have aX:(k:Int) < x.takes.length:=by omega
     have w4:=Qa ((k:Int)+1) (by omega) (by omega)
     have hf:=hb.fr x.takes[k] (Ze hk);have hgt:=hb.gr x.takes[k] (Ze hk);have gJ:x.takes[k].fr.toNat < 8:=by omega
     have lR:x.takes[k].fr < 8:=by omega
     have kM:x.takes[k].fr.toNat+1<=82:=by omega
     have hbd2:=Qnv jU (x.takes.take k) (λt ht=>by have:=hb.fr t (List.mem_of_mem_take ht); omega) (λt ht=>hb.gr t (List.mem_of_mem_take ht)) x.takes[k].fr.toNat
     have pC:=QjI hb.gr k;have qP:=hb.sum_le;have tO:((x.takes.take k).foldl Qob L).length=b.length:=by rw[QnY]; exact hL
     rw[List.take_succ_eq_append_getElem hk,List.foldl_append,List.foldl_cons,List.foldl_nil];generalize(x.takes.take k).foldl Qob L=M at*;have zI:=QMK (i:=i+1) (L:=M) (t:=x.takes[k]) hf.1 (by omega) (by omega)
     have wL:hmF (i+1) M x.takes[k].fr.toNat=M.getD x.takes[k].fr.toNat 0:=by unfold hmF; rw[if_pos (by omega)]
     have w5:=Qa (hmF (i+1) M x.takes[k].fr.toNat - x.takes[k].gr) (by rw[wL]; omega) (by rw[wL]; omega)
     simp[-Q7,Qq,QDf,QgX,QE,Qas,Qr,hk,aX,hf.1,gJ,lR,kM,Qyv,Qtk,w4,w5,zI];done
    .simp[-Q7,QDf,QgX,Qas,w1];done
  .rw[Qhf h,QLK (by rw[QU]; exact Zr _),QKr,show loI b b.length=Qae b from rfl]
   simp only[Qek,Qg7];simp[-Q7,Qq,Qp,QDf,QgX,QE,Qas,QaA,QaU,QaZ,QEt,Qag];done
 .cases hr
end Go.Proofs.YticoemblgkemiaaGreatDoor
