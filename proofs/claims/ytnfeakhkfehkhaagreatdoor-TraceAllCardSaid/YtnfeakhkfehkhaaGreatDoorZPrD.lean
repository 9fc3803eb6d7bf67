/-
  The program's supply (what there is, what is needed, who may never take of whom) as plain data. Conditions: none.
-/
import Derived.Test.YtnfeakhkfehkhaaGreatDoorZPrC
set_option linter.unusedSimpArgs false
set_option linter.unusedVariables false
namespace Go.Proofs.YtnfeakhkfehkhaaGreatDoor
open Go.RowKit
noncomputable def QwG {α:Type} (k:Nat) (enc:α->List D) (inj:∀x y,enc x=enc y->x=y):Row α:=⟨k,enc,λd=> @dite _ (∃x,enc x=d) (Classical.propDecidable _) (λh=>some h.choose) (λ_=>none),λx=>by
 have h:∃y,enc y=enc x:=⟨x,rfl⟩;rw[dif_pos h]; exact congrArg some (inj _ _ h.choose_spec),λd x h=>by
 split at h
 .rename_i hd;cases h;rw[hd.choose_spec]; exact LImp.refl _
 .cases h⟩
def Qbi (h n:Nat->Int) (v:Nat->Nat->Bool) (k:Nat):D:=if k < 8 then DI (h k)else if k < 16 then DI (n (k - 8))else DB (v ((k - 16) / 8) ((k - 16) % 8))
def Qdk (h n:Nat->Int) (v:Nat->Nat->Bool):List D:=(List.range 80).map (Qbi h n v)
theorem QX (h n:Nat->Int) (v:Nat->Nat->Bool):(Qdk h n v).length=80:=by simp[Qdk]
abbrev Sup:= {cs:List D // ∃h n v,cs=Qdk h n v}
def Sup.of (h n:Nat->Int) (v:Nat->Nat->Bool):Sup:=⟨Qdk h n v,h,n,v,rfl⟩
def dInt:D->Int
 | .v (.int .i64 x)=>x
 | _=>0
def QAp:D->Bool
 | .v (.bool x)=>x
 | _=>false
def Sup.h (s:Sup) (k:Nat):Int:=if k < 8 then dInt (s.1.getD k (DI 0))else 0
def Sup.n (s:Sup) (k:Nat):Int:=if k < 8 then dInt (s.1.getD (8+k) (DI 0))else 0
def Sup.v (s:Sup) (x t:Nat):Bool:=if x < 8/\t < 8 then QAp (s.1.getD (16+x*8+t) (DB false))else false
theorem Qnk {h n:Nat->Int} {v:Nat->Nat->Bool} {k:Nat} (hk:k < 8):Qbi h n v k=DI (h k):=by simp[Qbi,hk]
theorem Qoh {h n:Nat->Int} {v:Nat->Nat->Bool} {k:Nat} (hk:k < 8):Qbi h n v (8+k)=DI (n k):=by
 unfold Qbi; rw[if_neg (by omega),if_pos (by omega),show 8+k - 8=k by omega]
theorem QyM {h n:Nat->Int} {v:Nat->Nat->Bool} {x t:Nat} (hx:x < 8) (ht:t < 8):Qbi h n v (16+x*8+t)=DB (v x t):=by
 unfold Qbi; rw[if_neg (by omega),if_neg (by omega),show(16+x*8+t - 16) / 8=x by omega,show(16+x*8+t - 16) % 8=t by omega]
theorem Qpa {h n:Nat->Int} {v:Nat->Nat->Bool} {k:Nat} (hk:k < 80) (d:D):(Qdk h n v).getD k d=Qbi h n v k:=by
 simp[Qdk,Zd,hk]
theorem QA5 (h n:Nat->Int) (v:Nat->Nat->Bool) (k:Nat):(Sup.of h n v).h k=if k < 8 then h k else 0:=by
 unfold Sup.h Sup.of;split
 .rename_i hk; dsimp only; rw[Qpa (by omega),Qnk hk]; rfl
 .rfl
theorem Qzw (h n:Nat->Int) (v:Nat->Nat->Bool) (k:Nat):(Sup.of h n v).n k=if k < 8 then n k else 0:=by
 unfold Sup.n Sup.of;split
 .rename_i hk; dsimp only; rw[Qpa (by omega),Qoh hk]; rfl
 .rfl
theorem Qzy (h n:Nat->Int) (v:Nat->Nat->Bool) (x t:Nat):(Sup.of h n v).v x t=if x < 8/\t < 8 then v x t else false:=by
 unfold Sup.v Sup.of;split
 .rename_i hk; dsimp only; rw[Qpa (by omega),QyM hk.1 hk.2]; rfl
 .rfl
theorem QsB {h n h' n':Nat->Int} {v v':Nat->Nat->Bool} (e1:∀k,k < 8->h k=h' k) (e2:∀k,k < 8->n k=n' k) (e3:∀x t,x < 8->t < 8->v x t=v' x t):∀k,k < 80->Qbi h n v k=Qbi h' n' v' k:=by
 intro k hk;unfold Qbi;split
 .rename_i h1; rw[e1 k h1]
 .split
  .rw[e2 _ (by omega)]
  .rw[e3 _ _ (by omega) (by omega)]
theorem Qsn {h n h' n':Nat->Int} {v v':Nat->Nat->Bool} (e1:∀k,k < 8->h k=h' k) (e2:∀k,k < 8->n k=n' k) (e3:∀x t,x < 8->t < 8->v x t=v' x t):Qdk h n v=Qdk h' n' v':=
 List.map_congr_left λk hk=>QsB e1 e2 e3 k (Zm.1 hk)
theorem Sup.eq (s:Sup):s.1=Qdk s.h s.n s.v:=by
 obtain⟨cs,h,n,v,rfl⟩:=s;refine Qsn (λk hk=>?_) (λk hk=>?_) (λx t hx ht=>?_)
 .exact(((QA5 h n v k)).trans (if_pos hk)).symm
 .exact(((Qzw h n v k)).trans (if_pos hk)).symm
 .exact(((Qzy h n v x t)).trans (if_pos ⟨hx,ht⟩)).symm
noncomputable def QqI:Row Sup:=QwG 80 (λs=>s.1) λ_ _ h=>Subtype.ext h
theorem Qcc (s:Sup):QqI.enc s=Qdk s.h s.n s.v:=s.eq
theorem Qlp (h n:Nat->Int) (v:Nat->Nat->Bool):QqI.dec (Qdk h n v)=some (Sup.of h n v):=QqI.de (Sup.of h n v)
structure Bx where
 sup:Sup
 bats:List Bat
 lost:List Int
theorem QfR {α:Type} (r:Row α) {l l':List α} (h:l.map r.enc=l'.map r.enc):l=l':=by
 have h1:=QaY r l r.k rfl;rw[h,QaY r l' r.k rfl]at h1;exact(Option.some.inj h1).symm
noncomputable def rBx:Row Bx:=QwG 82 (λx=>x.sup.1++[.sl 5 (x.bats.map QO.enc),.sl 1 (x.lost.map Qt.enc)]) λx y h=>by
 obtain⟨s,b,l⟩:=x;obtain⟨s',b',l'⟩:=y;dsimp only at h;have hs:s.1.length=s'.1.length:=by rw[s.eq,s'.eq,QX,QX]
 obtain⟨h1,h2⟩:=List.append_inj h hs;simp only[List.cons.injEq,D.sl.injEq,true_and,and_true]at h2;rw[Subtype.ext h1,QfR QO h2.1,QfR Qt h2.2]
theorem QiI (x:Bx):rBx.enc x=Qdk x.sup.h x.sup.n x.sup.v++[.sl 5 (x.bats.map QO.enc),.sl 1 (x.lost.map Qt.enc)]:=by rw[<-x.sup.eq]; rfl
theorem Qgz (h n:Nat->Int) (v:Nat->Nat->Bool) (b:List Bat) (l:List Int):rBx.enc ⟨Sup.of h n v,b,l⟩=Qdk h n v++[.sl 5 (b.map QO.enc),.sl 1 (l.map Qt.enc)]:=rfl
def c87 (h n:Nat->Int) (v:Nat->Nat->Bool) (bs lo:X):List X:=QPw 80 (Qbi h n v)++[bs,lo]
theorem QC {h n:Nat->Int} {v:Nat->Nat->Bool} {bs lo:X} :(c87 h n v bs lo).length=82:=by simp[c87,Qb]
theorem QaH {h n:Nat->Int} {v:Nat->Nat->Bool} {bs lo:X} {p:Nat} (hp:p < 80):(c87 h n v bs lo)[p]?=some (.d (Qbi h n v p)):=by
 unfold c87; rw[List.getElem?_append_left (by rw[Qb]; exact hp),Qd hp]
theorem QsP {h n:Nat->Int} {v:Nat->Nat->Bool} {bs lo:X} {i:Nat} (hi:i < 8):(c87 h n v bs lo)[i]?=some (.d (DI (h i))):=by
 rw[QaH (by omega),Qnk hi]
theorem QvH {h n:Nat->Int} {v:Nat->Nat->Bool} {bs lo:X} {i:Nat} (hi:i < 8):(c87 h n v bs lo)[8+i]?=some (.d (DI (n i))):=by
 rw[QaH (by omega),Qoh hi]
theorem QW {h n:Nat->Int} {v:Nat->Nat->Bool} {bs lo:X} :(c87 h n v bs lo)[80]?=some bs:=by
 unfold c87; rw[List.getElem?_append_right (by rw[Qb]; omega),Qb]; rfl
theorem QZ {h n:Nat->Int} {v:Nat->Nat->Bool} {bs lo:X} :(c87 h n v bs lo)[81]?=some lo:=by
 unfold c87; rw[List.getElem?_append_right (by rw[Qb]; omega),Qb]; rfl
theorem Qmf {cs:List X} {p:Nat} {x:X} (h:cs[p]?=some x) (hp:p < cs.length):cs[p]=x:=by
 rw[Zg hp]at h; exact Option.some.inj h
theorem QM {h n:Nat->Int} {v:Nat->Nat->Bool} {bs lo:X} (hp:81 < (c87 h n v bs lo).length):(c87 h n v bs lo)[81]=lo:=Qmf QZ hp
theorem QL {h n:Nat->Int} {v:Nat->Nat->Bool} {bs lo:X} (hp:80 < (c87 h n v bs lo).length):(c87 h n v bs lo)[80]=bs:=Qmf QW hp
theorem Qq5 {h n:Nat->Int} {v:Nat->Nat->Bool} {bs lo:X} {i:Nat} (hi:i < 8) (hp:8+i < (c87 h n v bs lo).length):(c87 h n v bs lo)[8+i]= .d (DI (n i)):=Qmf (QvH hi) hp
theorem QqV {h n:Nat->Int} {v:Nat->Nat->Bool} {i:Nat} {z:Int} (hi:i < 8):Q2 (Qbi h n v) i (DI z)=Qbi (Q2 h i z) n v:=by
 funext k;unfold Q2 Qbi;by_cases e:k=i
 .subst e; simp[hi]
 .rw[if_neg e]; simp only[e,if_false]
theorem Qzi {h n:Nat->Int} {v:Nat->Nat->Bool} {i:Nat} {z:Int} (hi:i < 8):Q2 (Qbi h n v) (8+i) (DI z)=Qbi h (Q2 n i z) v:=by
 funext k;by_cases e:k=8+i
 .subst e; rw[Qae,Qoh hi,Qae]
 .rw[Q3 _ _ e];unfold Qbi;split
  .rfl
  .split
   .rw[Q3 _ _ (by omega)]
   .rfl
def QhG {α:Type} (f:Nat->Nat->α) (x t:Nat) (a:α):Nat->Nat->α:=λy=>if y=x then Q2 (f y) t a else f y
theorem Qy5 {h n:Nat->Int} {v:Nat->Nat->Bool} {x t:Nat} {z:Bool} (hx:x < 8) (ht:t < 8):Q2 (Qbi h n v) (16+x*8+t) (DB z)=Qbi h n (QhG v x t z):=by
 funext k;unfold Q2 Qbi QhG;by_cases e:k=16+x*8+t
 .subst e;rw[if_pos rfl,if_neg (by omega),if_neg (by omega),show(16+x*8+t - 16) / 8=x by omega,show(16+x*8+t - 16) % 8=t by omega,if_pos rfl]
  unfold Q2; rw[if_pos rfl]
 .rw[if_neg e];split
  .rfl
  .split
   .rfl
   .by_cases h1:(k - 16) / 8=x
    .rw[if_pos h1]; unfold Q2; rw[if_neg (by omega)]
    .rw[if_neg h1]
theorem QqW {cs:List X} {p:Nat} {x:X} (h:p < cs.length):cs.take p++x::cs.drop (p+1)=cs.set p x:=by
 rw[List.set_eq_take_append_cons_drop,if_pos h]
theorem Qzf {h n:Nat->Int} {v:Nat->Nat->Bool} {bs lo:X} {p:Nat} {d:D} (hp:p < 80):(c87 h n v bs lo).take p++X.d d::(c87 h n v bs lo).drop (p+1)=QPw 80 (Q2 (Qbi h n v) p d)++[bs,lo]:=by
 rw[QqW (by rw[QC]; omega),c87,List.set_append_left _ _ (by rw[Qb]; exact hp),<-QqW (by rw[Qb]; exact hp),Qp hp]
theorem Qqh {h n:Nat->Int} {v:Nat->Nat->Bool} {bs lo:X} {i:Nat} {z:Int} (hi:i < 8):(c87 h n v bs lo).take i++X.d (DI z)::(c87 h n v bs lo).drop (i+1)=c87 (Q2 h i z) n v bs lo:=by
 rw[Qzf (by omega),QqV hi]; rfl
theorem QtG {h n:Nat->Int} {v:Nat->Nat->Bool} {bs lo:X} {i:Nat} {z:Int} (hi:i < 8):(c87 h n v bs lo).take (8+i)++X.d (DI z)::(c87 h n v bs lo).drop (8+i+1)=c87 h (Q2 n i z) v bs lo:=by
 rw[Qzf (by omega),Qzi hi]; rfl
theorem QfS {h n:Nat->Int} {v:Nat->Nat->Bool} {bs lo x:X} :(c87 h n v bs lo).take 80++x::(c87 h n v bs lo).drop 81=c87 h n v x lo:=by
 rw[QqW (by rw[QC]; omega),c87,List.set_append_right _ _ (by rw[Qb]; omega),Qb]; rfl
theorem QfY {h n:Nat->Int} {v:Nat->Nat->Bool} {bs lo x:X} :(c87 h n v bs lo).take 81++x::(c87 h n v bs lo).drop 82=c87 h n v bs x:=by
 rw[QqW (by rw[QC]; omega),c87,List.set_append_right _ _ (by rw[Qb]; omega),Qb]; rfl
theorem Qah (h n:Nat->Int) (v:Nat->Nat->Bool) (bs lo:X) (P:X->Prop) (hd:∀d,P (.d d)):(∀c,c∈c87 h n v bs lo->P c)=(P bs/\P lo):=by
 refine propext ⟨λH=>⟨H _ (by simp[c87]),H _ (by simp[c87])⟩,λH c hc=>?_⟩
 unfold c87 at hc;rcases Zp.1 hc with hc | hc
 .obtain⟨d,rfl⟩:=Qbr c hc; exact hd d
 .simp only[List.mem_cons,List.not_mem_nil,or_false]at hc;rcases hc with rfl | rfl
  .exact H.1
  .exact H.2
theorem Qki {kb:List (Nat×Nat×Nat)} {b:Nat} :∀(cs:List X) (i:Nat) (rest:List X) (av nw:List Nat),(∀j,i<=j->j < i+cs.length->QfB kb b j=none)->(∀c∈cs,∃d,c= .d d)->Qaw kb b i (cs++rest) av nw=(cs++(Qaw kb b (i+cs.length) rest av nw).1,(Qaw kb b (i+cs.length) rest av nw).2)
 | [],i,rest,av,nw,_,_=>by simp
 | c::t,i,rest,av,nw,hk,h=>by
  obtain⟨d,rfl⟩:=h c (by simp)
  have ih:=Qki (kb:=kb) (b:=b) t (i+1) rest av nw (λj h1 h2=>hk j (by omega) (by simp only[List.length_cons]; omega)) λc hc=>h c (by simp[hc])
  have e:i+1+t.length=i+(X.d d::t).length:=by simp only[List.length_cons]; omega
  rw[e]at ih;rw[List.cons_append]
  conv=>lhs; unfold Qaw
  rw[hk i (Zr _) (by simp)]
  simp only[ih];rfl
theorem QoF {kb:List (Nat×Nat×Nat)} {b:Nat} (hk:∀j,j < 80->QfB kb b j=none) {h n:Nat->Int} {v:Nat->Nat->Bool} {bs lo:X} {av nw:List Nat} :Qaw kb b 0 (c87 h n v bs lo) av nw=(QPw 80 (Qbi h n v)++(Qaw kb b 80 [bs,lo] av nw).1,(Qaw kb b 80 [bs,lo] av nw).2):=by
 have:=Qki (kb:=kb) (b:=b) (QPw 80 (Qbi h n v)) 0 [bs,lo] av nw (λj _ h2=>hk j (by simpa[Qb]using h2)) Qbr
 rw[Qb,Nat.zero_add]at this;exact this
theorem Qrh:∀(l r:List X) {ds es:List D},Qa9 l=some ds->Qa9 r=some es->Qa9 (l++r)=some (ds++es)
 | [],r,ds,es,h,g=>by simp only[Qa9,Zs]at h; subst h; exact g
 | a::t,r,ds,es,h,g=>by
  rw[List.cons_append];unfold Qa9 at h|-;cases h1:a.data with
  | none=>rw[h1]at h; cases h2:Qa9 t<;>rw[h2]at h<;>cases h
  | some d=>
   cases h2:Qa9 t with
   | none=>rw[h1,h2]at h; cases h
   | some cT=>
    rw[h1,h2]at h;cases h;rw[Qrh t r h2 g]; rfl
theorem Qzo {h n:Nat->Int} {v:Nat->Nat->Bool} {bs lo:X} {d e:D} (h1:bs.data=some d) (h2:lo.data=some e):Qa9 (c87 h n v bs lo)=some (Qdk h n v++[d,e]):=
 Qrh _ _ (Qx 80 _) (by simp only[Qa9,h1,h2])
theorem Qak {h n:Nat->Int} {v:Nat->Nat->Bool} {bs lo:X} :(c87 h n v bs lo).take 82=c87 h n v bs lo:=List.take_of_length_le (by rw[QC]; exact Zr _)
theorem Qax {h n:Nat->Int} {v:Nat->Nat->Bool} {x y:X} :(Qdk h n v).map X.d++[x,y]=c87 h n v x y:=by
 rw[Qdk,List.map_map]; rfl
theorem QaA {h n:Nat->Int} {v:Nat->Nat->Bool} {bs lo:X} :(c87 h n v bs lo).drop 82=[]:=List.drop_of_length_le (by rw[QC]; exact Zr _)
theorem QAs {h n:Nat->Int} {v:Nat->Nat->Bool} {d e:D} :(Qdk h n v++[d,e]).length=82:=by
 rw[List.length_append,QX]; rfl
theorem QAM {h n:Nat->Int} {v:Nat->Nat->Bool} {d:D} {k:Nat} {rows:List (List D)} {t:Nat} :Qa9 (c87 h n v (.d d) (.sl k rows (.tok t)))=some (Qdk h n v++[d,.sl k rows]):=Qzo rfl rfl
theorem Q8 {h n:Nat->Int} {v:Nat->Nat->Bool} {d e:D} :Qa9 (c87 h n v (.d d) (.d e))=some (Qdk h n v++[d,e]):=Qzo rfl rfl
abbrev Qkm:=Nat->Int->(Nat->Bool)->Fl->Qms
structure Nrm (seen:Nat->Bool) (s:Fl):Prop where
 seen:∀x,8<=x->seen x=false
 has:∀x,8<=x->s.has x=0
 g:∀x y,8<=x\/8<=y->s.g x y=0
def QhB (rec:Qkm):Prop:=∀o most seen s,o < 8->Nrm seen s->Nrm (rec o most seen s).2.1 (rec o most seen s).2.2
theorem Nrm.more {seen:Nat->Bool} {s:Fl} (h:Nrm seen s) {x t:Nat} (hx:x < 8) (ht:t < 8) (n:Int):Nrm seen (s.more x t n):=
 ⟨h.seen,h.has,λa b tG=>by rw[Qdf,if_neg (by omega)]; exact h.g a b tG⟩
theorem Nrm.turn {seen:Nat->Bool} {s:Fl} (h:Nrm seen s) {x o t:Nat} (hx:x < 8) (ho:o < 8) (ht:t < 8) (n:Int):Nrm seen (s.turn x o t n):=(h.more hx ho _).more hx ht _
theorem Nrm.mark {seen:Nat->Bool} {s:Fl} (h:Nrm seen s) {x:Nat} (hx:x < 8):Nrm (Q2 seen x true) s:=
 ⟨λy hy=>by rw[Q3 _ _ (by omega)]; exact h.seen y hy,h.has,h.g⟩
theorem Nrm.take {seen:Nat->Bool} {s:Fl} (h:Nrm seen s) {x t:Nat} (hx:x < 8) (ht:t < 8) (n:Int):Nrm seen (s.take x t n):=by
 have h0:Nrm seen (⟨Q2 s.has x (s.has x - n),s.g⟩:Fl):=⟨h.seen,λy hy=>by
  show Q2 s.has x _ y=0;rw[Q3 _ _ (by omega)]; exact h.has y hy,h.g⟩
 exact h0.more hx ht n
theorem Qh9 {rec:Qkm} (hr:QhB rec) {t x:Nat} (ht:t < 8) (hx:x < 8) (most:Int) (row:Nat->Int):∀(k:Nat) (seen:Nat->Bool) (s:Fl),Nrm seen s->Nrm (Qgh rec t x most row k seen s).2.1 (Qgh rec t x most row k seen s).2.2
 | 0,seen,s,h=>h
 | k+1,seen,s,h=>by
  rw[Qgh];split
  .exact Qh9 hr ht hx most row k seen s h
  .have h1:=hr (7 - k) (min most (row (7 - k))) seen s (by omega) h
   split
   .exact h1.turn hx (by omega) ht _
   .exact Qh9 hr ht hx most row k _ _ h1
theorem QlE {rec:Qkm} (hr:QhB rec) {nv:Nat->Nat->Bool} {t:Nat} (ht:t < 8) (most:Int):∀(k:Nat) (seen:Nat->Bool) (s:Fl),Nrm seen s->Nrm (QmP rec nv t most k seen s).2.1 (QmP rec nv t most k seen s).2.2
 | 0,seen,s,h=>h
 | k+1,seen,s,h=>by
  have hx:t - (k+1) < 8:=by omega
  rw[QmP];split
  .exact QlE hr ht most k seen s h
  .split
   .exact(h.mark hx).take hx ht _
   .have h1:=Qh9 hr ht hx most (s.g (t - (k+1))) 8 _ s (h.mark hx);split
    .exact h1
    .exact QlE hr ht most k _ _ h1
theorem Qjr (nv:Nat->Nat->Bool):∀f,QhB (Q1 nv f)
 | 0=>λo most seen s _ h=>h
 | f+1=>λo most seen s ho h=>by
  rw[Q1]; exact QlE (Qjr nv f) ho most o seen s h
def oJ (rec:Qkm) (t:Nat) (most:Int) (row:Nat->Int) (s:Fl) (seen:Nat->Bool):Nat->(Nat->Bool)
 | 0=>seen
 | j+1=>if j=t\/row j=0 then oJ rec t most row s seen j else(rec j (min most (row j)) (oJ rec t most row s seen j) s).2.1
def QfC (rec:Qkm) (t:Nat) (most:Int) (row:Nat->Int) (s:Fl) (seen:Nat->Bool) (j:Nat):Qms:=rec j (min most (row j)) (oJ rec t most row s seen j) s
def QbP (rec:Qkm) (t:Nat) (most:Int) (row:Nat->Int) (s:Fl) (seen:Nat->Bool) (j:Nat):Bool:=decide (j=t\/row j=0)||!decide (0 < (QfC rec t most row s seen j).1)
theorem Qlj {rec:Qkm} {t x:Nat} {most:Int} {row:Nat->Int} {s:Fl} {seen:Nat->Bool} (bA:∀j,j < 8->(∀i,i < j->QbP rec t most row s seen i=true)->¬(j=t\/row j=0)->¬0 < (QfC rec t most row s seen j).1->(QfC rec t most row s seen j).2.2=s):∀j,j<=8->(∀i,i < j->QbP rec t most row s seen i=true)->Qgh rec t x most row 8 seen s=Qgh rec t x most row (8 - j) (oJ rec t most row s seen j) s
 | 0,_,_=>rfl
 | j+1,hj,hg=>by
  rw[Qlj bA j (by omega) λi hi=>hg i (by omega)]
  have e:8 - j=(8 - (j+1))+1:=by omega
  have e7:7 - (8 - (j+1))=j:=by omega
  rw[e,Qgh,e7];have k7:=hg j (by omega)
  unfold QbP at k7;by_cases h1:j=t\/row j=0
  .rw[if_pos h1,oJ,if_pos h1]
  .rw[if_neg h1,oJ,if_neg h1];have h2:¬0 < (QfC rec t most row s seen j).1:=by simpa[h1]using k7
   have h3:=bA j (by omega) (λi hi=>hg i (by omega)) h1 h2
   unfold QfC at h2 h3;rw[if_neg h2,h3]
theorem Qxa {rec:Qkm} {t x:Nat} {most:Int} {row:Nat->Int} {s:Fl} {seen:Nat->Bool} (bA:∀j,j < 8->(∀i,i < j->QbP rec t most row s seen i=true)->¬(j=t\/row j=0)->¬0 < (QfC rec t most row s seen j).1->(QfC rec t most row s seen j).2.2=s) (hg:∀i,i < 8->QbP rec t most row s seen i=true):Qgh rec t x most row 8 seen s=(0,oJ rec t most row s seen 8,s):=by
 rw[Qlj bA 8 (Zr _) hg]; rfl
theorem Qwr {rec:Qkm} {t x:Nat} {most:Int} {row:Nat->Int} {s:Fl} {seen:Nat->Bool} (bA:∀j,j < 8->(∀i,i < j->QbP rec t most row s seen i=true)->¬(j=t\/row j=0)->¬0 < (QfC rec t most row s seen j).1->(QfC rec t most row s seen j).2.2=s) {j:Nat} (hj:j < 8) (hg:∀i,i < j->QbP rec t most row s seen i=true) (hb:QbP rec t most row s seen j=false):Qgh rec t x most row 8 seen s=((QfC rec t most row s seen j).1,(QfC rec t most row s seen j).2.1,(QfC rec t most row s seen j).2.2.turn x j t (QfC rec t most row s seen j).1):=by
 rw[Qlj bA j (by omega) hg]
 have e:8 - j=(8 - (j+1))+1:=by omega
 have e7:7 - (8 - (j+1))=j:=by omega
 rw[e,Qgh,e7];unfold QbP at hb;simp only[Bool.or_eq_false_iff,decide_eq_false_iff_not,Bool.not_eq_false',decide_eq_true_eq]at hb;rw[if_neg hb.1];have h2:=hb.2;unfold QfC at h2|-;rw[if_pos h2]
def xJ (rec:Qkm) (nv:Nat->Nat->Bool) (t:Nat) (most:Int) (s:Fl) (seen:Nat->Bool):Nat->(Nat->Bool)
 | 0=>seen
 | j+1=>if xJ rec nv t most s seen j j=true\/nv j t=true then xJ rec nv t most s seen j else(Qgh rec t j most (s.g j) 8 (Q2 (xJ rec nv t most s seen j) j true) s).2.1
def Qjk (rec:Qkm) (nv:Nat->Nat->Bool) (t:Nat) (most:Int) (s:Fl) (seen:Nat->Bool) (j:Nat):Qms:=Qgh rec t j most (s.g j) 8 (Q2 (xJ rec nv t most s seen j) j true) s
def QbO (rec:Qkm) (nv:Nat->Nat->Bool) (t:Nat) (most:Int) (s:Fl) (seen:Nat->Bool) (j:Nat):Bool:=decide (xJ rec nv t most s seen j j=true\/nv j t=true)||(!decide (0 < min most (s.has j))&&!decide (0 < (Qjk rec nv t most s seen j).1))
theorem Qlo {rec:Qkm} {nv:Nat->Nat->Bool} {t:Nat} {most:Int} {s:Fl} {seen:Nat->Bool} (bA:∀j,j < t->(∀i,i < j->QbO rec nv t most s seen i=true)->¬(xJ rec nv t most s seen j j=true\/nv j t=true)->¬0 < (Qjk rec nv t most s seen j).1->(Qjk rec nv t most s seen j).2.2=s):∀j,j<=t->(∀i,i < j->QbO rec nv t most s seen i=true)->QmP rec nv t most t seen s=QmP rec nv t most (t - j) (xJ rec nv t most s seen j) s
 | 0,_,_=>rfl
 | j+1,hj,hg=>by
  rw[Qlo bA j (by omega) λi hi=>hg i (by omega)]
  have e:t - j=(t - (j+1))+1:=by omega
  have e7:t - (t - (j+1)+1)=j:=by omega
  rw[e,QmP,e7];have k7:=hg j (by omega)
  unfold QbO at k7;by_cases h1:xJ rec nv t most s seen j j=true\/nv j t=true
  .rw[if_pos h1,xJ,if_pos h1]
  .rw[if_neg h1,xJ,if_neg h1];have h2:¬0 < min most (s.has j)/\¬0 < (Qjk rec nv t most s seen j).1:=by simpa[h1]using k7
   have h3:=bA j (by omega) (λi hi=>hg i (by omega)) h1 h2.2
   unfold Qjk at h2 h3;rw[if_neg h2.1,if_neg h2.2,h3]
theorem Qx8 {rec:Qkm} {nv:Nat->Nat->Bool} {t:Nat} {most:Int} {s:Fl} {seen:Nat->Bool} (bA:∀j,j < t->(∀i,i < j->QbO rec nv t most s seen i=true)->¬(xJ rec nv t most s seen j j=true\/nv j t=true)->¬0 < (Qjk rec nv t most s seen j).1->(Qjk rec nv t most s seen j).2.2=s) (hg:∀i,i < t->QbO rec nv t most s seen i=true):QmP rec nv t most t seen s=(0,xJ rec nv t most s seen t,s):=by
 rw[Qlo bA t (Zr _) hg,Nat.sub_self]; rfl
theorem QxA {rec:Qkm} {nv:Nat->Nat->Bool} {t:Nat} {most:Int} {s:Fl} {seen:Nat->Bool} (bA:∀j,j < t->(∀i,i < j->QbO rec nv t most s seen i=true)->¬(xJ rec nv t most s seen j j=true\/nv j t=true)->¬0 < (Qjk rec nv t most s seen j).1->(Qjk rec nv t most s seen j).2.2=s) {j:Nat} (hj:j < t) (hg:∀i,i < j->QbO rec nv t most s seen i=true) (hb:QbO rec nv t most s seen j=false):¬(xJ rec nv t most s seen j j=true\/nv j t=true)/\QmP rec nv t most t seen s=if 0 < min most (s.has j)then(min most (s.has j),Q2 (xJ rec nv t most s seen j) j true,s.take j t (min most (s.has j)))else Qjk rec nv t most s seen j:=by
 rw[Qlo bA j (by omega) hg]
 have e:t - j=(t - (j+1))+1:=by omega
 have e7:t - (t - (j+1)+1)=j:=by omega
 rw[e,QmP,e7];unfold QbO at hb;simp only[Bool.or_eq_false_iff,decide_eq_false_iff_not]at hb;refine⟨hb.1,?_⟩;rw[if_neg hb.1];by_cases h2:0 < min most (s.has j)
 .rw[if_pos h2,if_pos h2]
 .rw[if_neg h2,if_neg h2];have h3:0 < (Qjk rec nv t most s seen j).1:=by simpa[h2]using hb.2
  unfold Qjk at h3|-;rw[if_pos h3]
theorem QBr {nv:Nat->Nat->Bool} {f:Int} {rec:Qkm} (hr:Qnx nv f rec) (hn:QhB rec) {t x:Nat} {most:Int} (hm:0 < most) {s:Fl} (hs:FlOk nv s) {seen:Nat->Bool} (dS:Qil seen<=f) (hN:Nrm seen s):∀j,j<=8->(∀i,i < j->QbP rec t most (s.g x) s seen i=true)->(∀y,seen y=true->oJ rec t most (s.g x) s seen j y=true)/\Nrm (oJ rec t most (s.g x) s seen j) s
 | 0,_,_=>⟨λ_ h=>h,hN⟩
 | j+1,hj,hg=>by
  obtain⟨h1,h2⟩:=QBr hr hn hm hs dS hN j (by omega) λi hi=>hg i (by omega)
  have k7:=hg j (by omega)
  unfold QbP at k7;rw[oJ];by_cases eY:j=t\/s.g x j=0
  .rw[if_pos eY]; exact⟨h1,h2⟩
  .rw[if_neg eY];have y7:=hs.g x j;have F:=hr j (min most (s.g x j)) (oJ rec t most (s.g x) s seen j) s (by omega) (by omega) (by have:=Qfd h1; omega) hs
   have N:=hn j (min most (s.g x j)) (oJ rec t most (s.g x) s seen j) s (by omega) h2
   have h3:¬0 < (QfC rec t most (s.g x) s seen j).1:=by simpa[eY]using k7
   unfold QfC at h3;have e:=(F.no (by have:=F.pos; omega)).1
   rw[e]at N;exact⟨λy hy=>F.mono y (h1 y hy),N⟩
theorem Qv1 {nv:Nat->Nat->Bool} {f:Int} {rec:Qkm} (hr:Qnx nv f rec) (hn:QhB rec) {t x:Nat} {most:Int} (hm:0 < most) {s:Fl} (hs:FlOk nv s) {seen:Nat->Bool} (dS:Qil seen<=f) (hN:Nrm seen s) {j:Nat} (hj:j < 8) (hg:∀i,i < j->QbP rec t most (s.g x) s seen i=true) (eY:¬(j=t\/s.g x j=0)):Qil (oJ rec t most (s.g x) s seen j)<=f/\0 < min most (s.g x j)/\Found nv j (min most (s.g x j)) (oJ rec t most (s.g x) s seen j) s (QfC rec t most (s.g x) s seen j):=by
 obtain⟨h1,h2⟩:=QBr hr hn hm hs dS hN j (by omega) hg
 have y7:=hs.g x j;have hc:Qil (oJ rec t most (s.g x) s seen j)<=f:=by have:=Qfd h1; omega
 exact⟨hc,by omega,hr j (min most (s.g x j)) (oJ rec t most (s.g x) s seen j) s hj (by omega) hc hs⟩
theorem Qpl {nv:Nat->Nat->Bool} {f:Int} {rec:Qkm} (hr:Qnx nv f rec) (hn:QhB rec) {t x:Nat} {most:Int} (hm:0 < most) {s:Fl} (hs:FlOk nv s) {seen:Nat->Bool} (dS:Qil seen<=f) (hN:Nrm seen s):∀j,j < 8->(∀i,i < j->QbP rec t most (s.g x) s seen i=true)->¬(j=t\/s.g x j=0)->¬0 < (QfC rec t most (s.g x) s seen j).1->(QfC rec t most (s.g x) s seen j).2.2=s:=λj hj hg eY h=>by
 have F:=(Qv1 hr hn hm hs dS hN hj hg eY).2.2;exact(F.no (by have:=F.pos; omega)).1
theorem QEm {nv:Nat->Nat->Bool} {f:Int} {rec:Qkm} (hr:Qnx nv f rec) (hn:QhB rec) {t:Nat} {most:Int} (hm:0 < most) (ht:t < 8) {s:Fl} (hs:FlOk nv s) {seen:Nat->Bool} (dS:Qil seen<=f+1) (hN:Nrm seen s):∀j,j<=t->(∀i,i < j->QbO rec nv t most s seen i=true)->(∀y,seen y=true->xJ rec nv t most s seen j y=true)/\Nrm (xJ rec nv t most s seen j) s
 | 0,_,_=>⟨λ_ h=>h,hN⟩
 | j+1,hj,hg=>by
  obtain⟨h1,h2⟩:=QEm hr hn hm ht hs dS hN j (by omega) λi hi=>hg i (by omega)
  have k7:=hg j (by omega)
  unfold QbO at k7;rw[xJ];by_cases eY:xJ rec nv t most s seen j j=true\/nv j t=true
  .rw[if_pos eY]; exact⟨h1,h2⟩
  .rw[if_neg eY];have kN:j < 8:=by omega
   have hx:¬xJ rec nv t most s seen j j=true:=λh=>eY (.inl h);have hc:Qil (Q2 (xJ rec nv t most s seen j) j true)<=f:=by
    have:=Qfd h1;rw[QlU kN hx]; omega
   have F:=QjB hr hm ht (x:=j) ⟨by omega,by simpa using λh=>eY (.inr h)⟩ hs 8 (Zr _) (Q2 (xJ rec nv t most s seen j) j true) (Qae _ _ _) hc
   have N:=Qh9 hn ht kN most (s.g j) 8 _ s (h2.mark kN);have h3:¬0 < min most (s.has j)/\¬0 < (Qjk rec nv t most s seen j).1:=by simpa[eY]using k7
   unfold Qjk at h3;have e:=(F.no (by have:=F.pos; omega)).1
   rw[e]at N;refine⟨λy hy=>F.mono y ?_,N⟩;by_cases e:y=j
   .subst e; exact Qae _ _ _
   .rw[Q3 _ _ e]; exact h1 y hy
theorem Qu4 {nv:Nat->Nat->Bool} {f:Int} {rec:Qkm} (hr:Qnx nv f rec) (hn:QhB rec) {t:Nat} {most:Int} (hm:0 < most) (ht:t < 8) {s:Fl} (hs:FlOk nv s) {seen:Nat->Bool} (dS:Qil seen<=f+1) (hN:Nrm seen s) {j:Nat} (hj:j < t) (hg:∀i,i < j->QbO rec nv t most s seen i=true) (eY:¬(xJ rec nv t most s seen j j=true\/nv j t=true)):Qil (Q2 (xJ rec nv t most s seen j) j true)<=f/\Nrm (Q2 (xJ rec nv t most s seen j) j true) s/\FoundO nv t j most (s.g j) 8 (Q2 (xJ rec nv t most s seen j) j true) s (Qjk rec nv t most s seen j):=by
 obtain⟨h1,h2⟩:=QEm hr hn hm ht hs dS hN j (by omega) hg
 have kN:j < 8:=by omega
 have hx:¬xJ rec nv t most s seen j j=true:=λh=>eY (.inl h);have hc:Qil (Q2 (xJ rec nv t most s seen j) j true)<=f:=by
  have:=Qfd h1;rw[QlU kN hx]; omega
 exact⟨hc,h2.mark kN,QjB hr hm ht (x:=j) ⟨by omega,by simpa using λh=>eY (.inr h)⟩ hs 8 (Zr _) (Q2 (xJ rec nv t most s seen j) j true) (Qae _ _ _) hc⟩
theorem Qhn {c:Cx} {a:Code} {σ0:St} {R:Option (AEx×St)} (hL:c.loop a σ0=R) (S:Nat->St) (n:Nat) (good:Nat->Bool) (T:Nat->AEx×St) (X:AEx×St) (h0:σ0=S 0) (hF:n < c.F) (hT:∀j,(T j).1≠ .normal) (hX:X.1≠ .normal)
  (hs:∀j,j < n->(∀i,i < j->good i=true)->c.code a (S j)=some (if good j=true then(.normal,S (j+1))else T j)) (hx:(∀i,i < n->good i=true)->c.code a (S n)=some X):((∀j,j < n->good j=true)/\R=some X)\/∃k,k < n/\good k=false/\(∀j,j < k->good j=true)/\R=some (T k):=by
 subst h0;rcases QaK good n with hall | ⟨k,hk,aL,aM⟩
 .refine .inl ⟨hall,?_⟩;rw[<-hL];exact Qdv S X.1 X.2 n hX (λj hj=>by rw[hs j hj λi hi=>hall i (by omega),if_pos (hall j hj)]) (hx hall) hF
 .refine .inr ⟨k,hk,aL,aM,?_⟩;rw[<-hL];exact Qdv S (T k).1 (T k).2 k (hT k) (λj hj=>by rw[hs j (by omega) λi hi=>aM i (by omega),if_pos (aM j hj)]) (by rw[hs k hk aM,aL,if_neg (by simp)]) (by omega)
def gG (g:Nat->Nat->Int) (k:Nat):D:=DI (g (k / 8) (k % 8))
theorem Qpc {g:Nat->Nat->Int} {x t:Nat} (ht:t < 8):gG g (x*8+t)=DI (g x t):=by
 unfold gG; rw[show(x*8+t) / 8=x by omega,show(x*8+t) % 8=t by omega]
theorem Qrs {g:Nat->Nat->Int} {x t:Nat} {z:Int} (ht:t < 8):Q2 (gG g) (x*8+t) (DI z)=gG (QhG g x t z):=by
 funext k;unfold Q2 gG QhG;by_cases e:k=x*8+t
 .rw[if_pos e,if_pos (by omega)]
  unfold Q2; rw[if_pos (by omega)]
 .rw[if_neg e];by_cases h1:k / 8=x
  .rw[if_pos h1]; unfold Q2; rw[if_neg (by omega)]
  .rw[if_neg h1]
theorem Qlf (s:Fl) (x t:Nat) (n:Int):(s.more x t n).g=QhG s.g x t (s.g x t+n):=by
 funext y;unfold Fl.more QhG;by_cases e:y=x
 .subst e; simp
 .simp[e]
theorem QEf (s:Fl) {x o t:Nat} (n:Int) (h:¬o=t):(s.turn x o t n).g=QhG (QhG s.g x o (s.g x o - n)) x t (s.g x t+n):=by
 unfold Fl.turn;rw[Qlf,Qlf,show s.g x o+(0 - n)=s.g x o - n by omega]
 have:QhG s.g x o (s.g x o - n) x t=s.g x t:=by
  unfold QhG; rw[if_pos rfl,Q3 _ _ (λe=>h e.symm)]
 rw[this]
theorem QAl {g:Nat->Nat->Int} {x o t:Nat} {z:Int} (h:¬o=t):QhG g x o z x t=g x t:=by
 unfold QhG; rw[if_pos rfl,Q3 _ _ (λe=>h e.symm)]
theorem QjK {n m p:Nat} {G:Nat->D} (h:p+m<=n):((QPw n G).drop p).take m=QPw m (λj=>G (p+j)):=by
 refine List.ext_getElem (by simp[Qb]; omega) λi h1 h2=>?_
 simp[QPw]
def Qy2 (r:Nat):List (Nat×Option Nat):=match r with
 | 0=>kpn [0,2]
 | 1=>kpn [0,2]
 | 2=>kpn [2,9,10,11]
 | 3=>kpn [2,9,10,11,12]
 | 4=>kpn [2,3,4,9,10,11]
 | 5=>kpn [2,3,4,9,10,11]
 | 6=>kpn [2,3,4,9,10,11,28]
 | 7=>kpn [2,3,4,9,10,11]
 | 8=>kpn [2,4,9,10,11]
 | 9=>kpn [2,9,10,11,45,46,47]
 | 10=>kpn [2,9,10,11,45,46,47,48]
 | 11=>kpn [2,6,9,10,11,45,46,47]
 | 12=>kpn [2,9,10,11,45,46,47]
 | 13=>kpn [2,9,10,11,45,46,47]
 | 14=>kpn [2,9,10,11]
 | 15=>[(2,none)]
 | _=>[]
theorem Qr:Qa8.desc= .struct #[{ name:= "supply",type:=85,offset:=0,embedded:=true,tag:= "",pkgPath:= "stearin/trace",byteOffset:=0},{ name:= "batches",type:=22,offset:=80,embedded:=false,tag:= "",pkgPath:= "stearin/trace",byteOffset:=192},{ name:= "lost",type:=26,offset:=81,embedded:=false,tag:= "",pkgPath:= "stearin/trace",byteOffset:=216}]:=rfl
theorem Qs:Qa8.size=82:=rfl
theorem QEH {Γ:Tys} (hΓ:Γ 87=some Qa8) (eqs:List (TypeId×Nat)) (Δ:Nat->List D->Option D) (ev:Operand->X) (boxes:List (Nat×List X)) (toks:List Nat):aop Γ eqs Δ (.alloc 87) ev boxes toks=some (.new ⟨c87 (λ_=>0) (λ_=>0) noN (.sl 0 [] .ex) (.sl 0 [] .ex),none⟩):=by
 simp only[aop,hΓ]; rfl
theorem Qf3 {h n:Nat->Int} {v:Nat->Nat->Bool} {bs lo:X} {av nw:List Nat} :Qaw [(2,81,1)] 2 0 (c87 h n v bs lo) av nw=(c87 h n v bs.strip (QfG 1 100281 lo av nw).1,(QfG 1 100281 lo av nw).2):=by
 rw[QoF (λj hj=>by simp[QfB]; omega)]
 rfl
def hmF (i:Nat) (L:List Int):Nat->Int:=λj=>if j < i then L.getD j 0 else 0
theorem QDu {i:Nat} {L:List Int} {g:Int} (h:L.getD i 0=g):Q2 (hmF i L) i g=hmF (i+1) L:=by
 funext j;unfold Q2 hmF;by_cases e:j=i
 .subst e; rw[if_pos rfl,if_pos (by omega),h]
 .rw[if_neg e];by_cases e2:j < i
  .rw[if_pos e2,if_pos (by omega)]
  .rw[if_neg e2,if_neg (by omega)]
theorem QHj (i:Nat) (L:List Int):hmF i L i=0:=by simp[hmF]
theorem QC6 {i:Nat} {L:List Int} {t:Tak} (h0:0<=t.fr) (hi:t.fr < i) (hl:t.fr < L.length):Q2 (hmF i L) t.fr.toNat (hmF i L t.fr.toNat - t.gr)=hmF i (QmJ L t):=by
 funext j;have h:=QlV L t h0 hl j;unfold Q2 hmF;by_cases e:j=t.fr.toNat
 .have e1:t.fr=(j:Int):=by omega
  rw[if_pos e,if_pos (by omega),if_pos (by omega),h,if_pos e1,e]
 .have e1:¬t.fr=(j:Int):=by omega
  rw[if_neg e];by_cases e2:j < i
  .rw[if_pos e2,if_pos e2,h,if_neg e1]; omega
  .rw[if_neg e2,if_neg e2]
theorem QFq {i:Nat} {L:List Int} (h:L.length<=i):hmF i L=λj=>L.getD j 0:=by
 funext j;unfold hmF;by_cases e:j < i
 .rw[if_pos e]
 .rw[if_neg e,Zd,List.getElem?_eq_none (by omega)]; rfl
theorem QvX {b:List Bat} (h:BookOk b) {i:Nat} (hi:i < b.length):(Qg1 b i).getD i 0=b[i].grams:=by
 rw[Ql1 h i i (by omega)]
 have h1:((b.take i).map λx=>Qlt x.takes i).sum=0:=by
  have key:∀k,k<=i->((b.take k).map λx=>Qlt x.takes i).sum=0:=by
   intro k
   induction k with
   | zero=>intro _; simp
   | succ k ih=>
    intro hk;rw[List.take_succ_eq_append_getElem (by omega),List.map_append,List.sum_append,ih (by omega)]
    have h2:Qlt b[k].takes i=0:=by
     unfold Qlt;have:(b[k].takes.filter λt=>t.fr==(i:Int))=[]:=by
      rw[List.filter_eq_nil_iff];intro t ht;have:=(h.at (i:=k) (by omega)).fr t ht
      simp only[beq_iff_eq]; omega
     rw[this]; rfl
    simp[h2]
  exact key i (Zr _)
 rw[h1,Zd,List.getElem?_map,Zg hi];simp
def nmF (b:List Bat) (i:Nat):Nat->Int:=λj=>if j < i then QfA b j else 0
theorem QCh {b:List Bat} {i:Nat} {x:Bat} (hi:i < b.length) (hx:b[i]=x) (h:x.lost=true):Q2 (nmF b i) i (x.grams - x.fresh)=nmF b (i+1):=by
 funext j;unfold Q2 nmF;by_cases e:j=i
 .subst e; rw[if_pos rfl,if_pos (by omega),QfA,Qj b j _ hi,hx,if_pos h]
 .rw[if_neg e];by_cases e2:j < i
  .rw[if_pos e2,if_pos (by omega)]
  .rw[if_neg e2,if_neg (by omega)]
theorem QCo {b:List Bat} {i:Nat} {x:Bat} (hi:i < b.length) (hx:b[i]=x) (h:x.lost=false):nmF b i=nmF b (i+1):=by
 funext j;unfold nmF;by_cases e:j=i
 .subst e; rw[if_neg (by omega),if_pos (by omega),QfA,Qj b j _ hi,hx,h]; rfl
 .by_cases e2:j < i
  .rw[if_pos e2,if_pos (by omega)]
  .rw[if_neg e2,if_neg (by omega)]
theorem QDr (b:List Bat):nmF b b.length=λj=>(QV b).getD j 0:=by
 funext j;unfold nmF QV;by_cases e:j < b.length
 .rw[if_pos e]; simp[Zd,e]
 .rw[if_neg e]; simp[Zd,e]
def loI (b:List Bat) (i:Nat):List Int:=((List.range i).filter λi=>(b.getD i default).lost).map λ(i:Nat)=>(i:Int)
theorem QCq {b:List Bat} {i:Nat} {x:Bat} (hi:i < b.length) (hx:b[i]=x) (h:x.lost=true):loI b (i+1)=loI b i++[(i:Int)]:=by
 unfold loI;rw[List.range_succ,List.filter_append,List.map_append];have:(b.getD i default).lost=true:=by rw[Qj b i _ hi,hx]; exact h
 rw[List.filter_cons,if_pos this]; rfl
theorem QzR {b:List Bat} {i:Nat} {x:Bat} (hi:i < b.length) (hx:b[i]=x) (h:x.lost=false):loI b (i+1)=loI b i:=by
 unfold loI;rw[List.range_succ,List.filter_append,List.map_append];have:(b.getD i default).lost=false:=by rw[Qj b i _ hi,hx]; exact h
 rw[List.filter_cons,if_neg (by rw[this]; simp)]; simp
theorem QFn (b:List Bat) (i:Nat):(loI b i).length<=i:=by
 unfold loI;rw[List.length_map];exact Nat.le_trans (List.length_filter_le _ _) (by simp)
def QdP (b:List Bat):Bx:=⟨Sup.of (λj=>(QI b).getD j 0) (λj=>(QV b).getD j 0) noN,b,QU b⟩
noncomputable def s50:List D->Option D:=sp1 (Qy QO) (QeC rBx) λb=>if BookOk b then some (QdP b)else none
theorem QyB (xs:Array Value) (w:World):(callFunc 50 xs).run Tryz.prog w= .ok (.enter 50 xs) w:=by kernel_rfl
set_option maxHeartbeats 4000000 in
theorem ok50:∀ds d,s50 ds=some d->PureC Tryz.prog 50 ds d:=Qb2 λb r hr=>by
 split at hr
 .rename_i h;cases hr;have aX:=h.le;refine Qm (QE QB 66 Qy2 [(2,81,1)]) Tryz.func50 rfl rfl (Zb rfl) (by kernel_rfl) ?_
  rw[Tryz.results50];have hz:=QEH (Γ:=tys) rfl [] (λ_ _=>none) (λ_=> .d .top) [] [];simp[-Qa8]at hz;simp[-Qa8,Qr,hz,Qy2,Qe,Qf3,QC,QfS,Qah];have fV:b.length<=140737488355328:=by omega
  (generalize aC:Cx.loop _ _ _=aE; apply Qi aC (λi=>⟨[(2,.loc 2 0),(9,.d (.sl 5 (b.map QO.enc))),(10,.d (DI b.length)),(11,.d (DI i))],[(2,c87 (hmF i (Qg1 b i)) (nmF b i) noN (.d (.sl 5 (b.map QO.enc))) (.sl 1 ((loI b i).map Qt.enc) (.tok 100281)))],[100281],[]⟩) b.length (by first | (simp; done) | (simp; rfl) | (simp; simp[*])); rotate_left; (show _ < 281474976710656; omega); rfl; rotate_left; all_goals clear aC)
  .intro i hi;have dC:(i:Int) < b.length:=by omega
   have h8i:i < 8:=by omega
   have w1:=Qa ((i:Int)+1) (by omega) (by omega)
   have hb:=h.at hi;have hL:=QdE b i (by omega)
   have jU:=QgV h i (by omega)
   have hg:=QvX h hi;rw[QdG hi];generalize Qg1 b i=L at*;generalize hx:b[i]=x at*;have h8I:(i:Int) < 8:=by omega
   have h82:i+1<=82:=by omega
   have oQ:=hb.grams;have cH:=hb.fresh;have w2:=Qa (0+x.grams) (by omega) (by omega)
   have w3:=Qa (x.grams - x.fresh) (by omega) (by omega)
   rw[Int.zero_add]at w2;have wP:=QDu hg;have bW:=QHj i L;cases hl:x.lost with
   | true=>
    have htk:=hb.lost hl;rw[<-QCh hi hx hl,QCq hi hx hl,htk,List.foldl_nil];have aI:=QFn b i;have rF:(loI b i).length+1<=140737488355328:=by omega
    have hk2:((loI b i).length+1)*8<=140737488355328:=by omega
    have h881:8+i<=81:=by omega
    simp[-Qa8,Qr,Qy2,Qh,Qf3,QC,QM,QfY,Qah,hi,dC,hx,h8i,h8I,h82,h881,hl,htk,QsP,Qqh,QtG,bW,wP,w2,w3,rF,hk2,Qc]
    (generalize aC:Cx.loop _ _ _=aE; apply Qi aC (λk=>⟨[(2,.loc 2 0),(9,.d (.sl 5 (b.map QO.enc))),(10,.d (DI b.length)),(11,.d (DI i)),(45,.d (.sl 2 [])),(46,.d (DI 0)),(47,.d (DI k))],[(2,c87 (hmF (i+1) L) (Q2 (nmF b i) i (x.grams - x.fresh)) noN (.d (.sl 5 (b.map QO.enc))) (.sl 1 ((loI b i).map Qt.enc++[[DI i]]) (.tok 100281)))],[100281],[]⟩) 0 (by first | (simp; done) | (simp; rfl) | (simp; simp[*])); rotate_left; (show _ < 281474976710656; omega); rfl; rotate_left; all_goals clear aC)
    .intro k hk; omega
    .simp[-Qa8,Qy2,Qf3,Qah,w1];done
   | false=>
    rw[<-QCo hi hx hl,QzR hi hx hl];have dJ:x.takes.length<=8:=by
     have:=Qdy (l:=x.takes) hb.asc hb.fr;omega
    simp[-Qa8,Qr,Qy2,Qh,Qf3,QC,Qah,hi,dC,hx,h8i,h8I,h82,hl,QsP,Qqh,bW,wP,w2]
    (generalize aC:Cx.loop _ _ _=aE; apply Qi aC (λk=>⟨[(2,.loc 2 0),(9,.d (.sl 5 (b.map QO.enc))),(10,.d (DI b.length)),(11,.d (DI i)),(45,.d (.sl 2 (x.takes.map Qb1.enc))),(46,.d (DI x.takes.length)),(47,.d (DI k))],[(2,c87 (hmF (i+1) ((x.takes.take k).foldl QmJ L)) (nmF b i) noN (.d (.sl 5 (b.map QO.enc))) (.sl 1 ((loI b i).map Qt.enc) (.tok 100281)))],[100281],[]⟩) x.takes.length (by first | (simp; done) | (simp; rfl) | (simp; simp[*])); rotate_left; (show _ < 281474976710656; omega); rfl; rotate_left; all_goals clear aC)
    .intro k hk;have bB:(k:Int) < x.takes.length:=by omega
     have w4:=Qa ((k:Int)+1) (by omega) (by omega)
     have hf:=hb.fr x.takes[k] (Ze hk);have hgt:=hb.gr x.takes[k] (Ze hk);have hf1:x.takes[k].fr.toNat < 8:=by omega
     have lD:x.takes[k].fr < 8:=by omega
     have kE:x.takes[k].fr.toNat+1<=82:=by omega
     have hbd2:=Ql9 jU (x.takes.take k) (λt ht=>by have:=hb.fr t (List.mem_of_mem_take ht); omega) (λt ht=>hb.gr t (List.mem_of_mem_take ht)) x.takes[k].fr.toNat
     have oP:=QiW hb.gr k;have sD:=hb.sum_le;have uH:((x.takes.take k).foldl QmJ L).length=b.length:=by rw[Qml]; exact hL
     rw[List.take_succ_eq_append_getElem hk,List.foldl_append,List.foldl_cons,List.foldl_nil];generalize(x.takes.take k).foldl QmJ L=M at*;have yS:=QC6 (i:=i+1) (L:=M) (t:=x.takes[k]) hf.1 (by omega) (by omega)
     have wQ:hmF (i+1) M x.takes[k].fr.toNat=M.getD x.takes[k].fr.toNat 0:=by unfold hmF; rw[if_pos (by omega)]
     have w5:=Qa (hmF (i+1) M x.takes[k].fr.toNat - x.takes[k].gr) (by rw[wQ]; omega) (by rw[wQ]; omega)
     simp[-Qa8,Qr,Qy2,Qf3,QC,Qah,Qo,hk,bB,hf.1,hf1,lD,kE,QsP,Qqh,w4,w5,yS];done
    .simp[-Qa8,Qy2,Qf3,Qah,w1];done
  .rw[Qgg h,QFq (by rw[QN]; exact Zr _),QDr,show loI b b.length=QU b from rfl]
   simp only[QdP,Qgz];simp[-Qa8,Qr,Qs,Qy2,Qf3,QC,Qah,Qak,Qax,QaA,QAM,Q8];done
 .cases hr
end Go.Proofs.YtnfeakhkfehkhaaGreatDoor
