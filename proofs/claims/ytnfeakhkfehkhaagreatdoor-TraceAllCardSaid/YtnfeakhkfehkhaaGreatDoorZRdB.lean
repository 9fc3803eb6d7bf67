/-
  The program's Read as a plain function. No program here. Conditions: none.
-/
import Derived.Test.YtnfeakhkfehkhaaGreatDoorZBld
set_option linter.unusedSimpArgs false
set_option linter.unusedVariables false
namespace Go.Proofs.YtnfeakhkfehkhaaGreatDoor
open Go.RowKit Go.Lib
def Ql2 (s:ByteArray):ByteArray:=⟨(Lib.cut s.data.toList nlB.data.toList).1.toArray⟩
def Qub (s:ByteArray):ByteArray:=⟨(Lib.cut s.data.toList nlB.data.toList).2.1.toArray⟩
def QwW (s:ByteArray):Bool:=(Lib.cut s.data.toList nlB.data.toList).2.2
def Qag (s:ByteArray):List ByteArray:=QhF (Ql2 s) spB
def QiJ (L:List Bat) (w:ByteArray):Nat->Option Nat
 | 0=>none
 | n+1=>if(L.getD n default).name=w then some n else QiJ L w n
def mapM (L:List Bat):Nat->List (Value×Value)
 | 0=>[]
 | n+1=>(.string (L.getD n default).name,.int .i64 n)::mapM L n
theorem QqX (L:List Bat) (x:Bat):∀n,n<=L.length->mapM (L++[x]) n=mapM L n
 | 0,_=>rfl
 | n+1,h=>by
  rw[mapM,mapM,QqX L x n (by omega)]
  have:(L++[x]).getD n default=L.getD n default:=by simp[List.getD,List.getElem?_append_left (show n < L.length by omega)]
  rw[this]
theorem QtS (L:List Bat) (x:Bat):mapM (L++[x]) (L.length+1)=(.string x.name,.int .i64 L.length)::mapM L L.length:=by
 rw[mapM,QqX L x _ (Zr _)];have:(L++[x]).getD L.length default=x:=by simp[List.getD]
 rw[this]
theorem Qmj (L:List Bat) (w:ByteArray):∀n,Qch (mapM L n) (.string w)=(QiJ L w n).map λ(i:Nat)=>Value.int .i64 (i:Int)
 | 0=>rfl
 | n+1=>by
  rw[mapM,QiJ];split
  .rename_i h;rw[h]; simp[Qch,eqK,eq1]
  .rename_i h;rw[QgR (λe=>h (by injection e))]
   exact Qmj L w n
def QeJ (ws:List ByteArray):Bool:=ws.length==4&&(ws.getD 3 ⟨#[]⟩).toList==QjI.toList
def Qet (ws:List ByteArray):List ByteArray:=if QeJ ws=true then []else ws.drop 3
def QnQ (L:List Bat) (W:List ByteArray):Nat->Option (List Tak)
 | 0=>some []
 | k+1=>match QnQ L W k,QiJ L (W.getD (2*k) ⟨#[]⟩) L.length,QeZ (W.getD (2*k+1) ⟨#[]⟩)with
  | some l,some n,some q=>some (l++[⟨(n:Int),q⟩])
  | _,_,_=>none
@[simp] theorem takO_zero (L : List Bat) (W : List ByteArray) : QnQ L W 0 = some [] := rfl
def Qsa (L:List Bat) (W:List ByteArray) (k:Nat):List Tak:=(QnQ L W k).getD []
@[simp] theorem takP_zero (L : List Bat) (W : List ByteArray) : Qsa L W 0 = [] := rfl
theorem QjA (L:List Bat) (W:List ByteArray):∀m,∃n,n<=m/\(∀k,k<=n->QnQ L W k=some (Qsa L W k))/\(n=m\/(n < m/\(QiJ L (W.getD (2*n) ⟨#[]⟩) L.length=none\/(∃i,QiJ L (W.getD (2*n) ⟨#[]⟩) L.length=some i)/\QeZ (W.getD (2*n+1) ⟨#[]⟩)=none)/\QnQ L W m=none))
 | 0=>⟨0,Zr _,λk hk=>by rw[show k=0 by omega]; rfl,.inl rfl⟩
 | m+1=>by
  obtain⟨n,h1,h2,h3⟩:=QjA L W m;rcases h3 with rfl | ⟨h3,h4,h5⟩
  .have hn:=h2 n (Zr _);cases hl:QiJ L (W.getD (2*n) ⟨#[]⟩) L.length with
   | none=>exact⟨n,by omega,h2,.inr ⟨by omega,.inl hl,by rw[QnQ,hn,hl]⟩⟩
   | some i=>
    cases hq:QeZ (W.getD (2*n+1) ⟨#[]⟩)with
    | none=>exact⟨n,by omega,h2,.inr ⟨by omega,.inr ⟨⟨i,hl⟩,hq⟩,by rw[QnQ,hn,hl,hq]⟩⟩
    | some q=>
     have hr:QnQ L W (n+1)=some (Qsa L W n++[⟨(i:Int),q⟩]):=by rw[QnQ,hn,hl,hq]
     refine⟨n+1,Zr _,λk hk=>?_,.inl rfl⟩;by_cases e:k=n+1
     .subst e; rw[Qsa,hr]; rfl
     .exact h2 k (by omega)
  .exact⟨n,by omega,h2,.inr ⟨by omega,h4,by rw[QnQ,h5]⟩⟩
theorem Qp2 {L:List Bat} {W:List ByteArray} {n:Nat} (h:∀k,k<=n->QnQ L W k=some (Qsa L W k)) {j:Nat} (hj:j < n):∃i q,QiJ L (W.getD (2*j) ⟨#[]⟩) L.length=some i/\QeZ (W.getD (2*j+1) ⟨#[]⟩)=some q/\Qsa L W (j+1)=Qsa L W j++[⟨(i:Int),q⟩]:=by
 have h1:=h (j+1) (by omega)
 rw[QnQ,h j (by omega)]at h1
 cases hl:QiJ L (W.getD (2*j) ⟨#[]⟩) L.length with
 | none=>rw[hl]at h1; cases h1
 | some i=>
  cases hq:QeZ (W.getD (2*j+1) ⟨#[]⟩)with
  | none=>rw[hl,hq]at h1; cases h1
  | some q=>
   rw[hl,hq]at h1;exact⟨i,q,rfl,rfl,(Option.some.inj h1).symm⟩
theorem QgE {L:List Bat} {W:List ByteArray} :∀{k:Nat} {l:List Tak},QnQ L W k=some l->l.length=k
 | 0,l,h=>by cases h; rfl
 | k+1,l,h=>by
  rw[QnQ]at h;split at h
  .rename_i h1 _ _; cases h; rw[List.length_append,QgE h1]; rfl
  .cases h
def Qjq (L:List Bat) (s:ByteArray):Option (Bat×ByteArray):=
 if QwW s=true/\3<=(Qag s).length then
  (match QeZ ((Qag s).getD 1 ⟨#[]⟩),QeZ ((Qag s).getD 2 ⟨#[]⟩)with
  | some g,some f=>if(Qet (Qag s)).length % 2=0 then(QnQ L (Qet (Qag s)) ((Qet (Qag s)).length / 2)).map λts=>(⟨(Qag s).getD 0 ⟨#[]⟩,g,f,QeJ (Qag s),ts⟩,Qub s)else none
  | _,_=>none)
 else none
def runP (t:ByteArray):Nat->Option (ByteArray×List Bat)
 | 0=>some (t,[])
 | k+1=>match runP t k with
  | some (s,l)=>if s.size=0 then none else(match Qjq l s with
   | some (d,r)=>some (r,l++[d])
   | none=>none)
  | none=>none
theorem Qqu (t:ByteArray):∀(k:Nat) (s:ByteArray) (l:List Bat),runP t k=some (s,l)->l.length=k
 | 0,s,l,h=>by simp only[runP,Zs,Prod.mk.injEq]at h; rw[<-h.2]; rfl
 | k+1,s,l,h=>by
  simp only[runP]at h;split at h
  .rename_i s' l' h';split at h
   .cases h
   .split at h
    .simp only[Zs,Prod.mk.injEq]at h;rw[<-h.2,List.length_append,Qqu t k s' l' h']; rfl
    .cases h
  .cases h
theorem Qg5 {L:List Bat} {s:ByteArray} {d:Bat} {r:ByteArray} (h:Qjq L s=some (d,r)):QwW s=true/\3<=(Qag s).length/\∃g f ts,QeZ ((Qag s).getD 1 ⟨#[]⟩)=some g/\QeZ ((Qag s).getD 2 ⟨#[]⟩)=some f/\(Qet (Qag s)).length % 2=0/\QnQ L (Qet (Qag s)) ((Qet (Qag s)).length / 2)=some ts/\d=⟨(Qag s).getD 0 ⟨#[]⟩,g,f,QeJ (Qag s),ts⟩/\r=Qub s:=by
 unfold Qjq at h;split at h
 .rename_i hc;split at h
  .rename_i a b ha hb;split at h
   .rename_i hd;obtain⟨ts,ht,he⟩:=Option.map_eq_some_iff.1 h;simp only[Prod.mk.injEq]at he;exact⟨hc.1,hc.2,a,b,ts,ha,hb,hd,ht,he.1.symm,he.2.symm⟩
   .cases h
  .cases h
 .cases h
theorem Qsv {L:List Bat} {s:ByteArray} (h:Qjq L s=none):QwW s=false\/(QwW s=true/\(Qag s).length < 3)\/(QwW s=true/\3<=(Qag s).length/\(QeZ ((Qag s).getD 1 ⟨#[]⟩)=none\/(∃a,QeZ ((Qag s).getD 1 ⟨#[]⟩)=some a)/\QeZ ((Qag s).getD 2 ⟨#[]⟩)=none\/
  ∃a b,QeZ ((Qag s).getD 1 ⟨#[]⟩)=some a/\QeZ ((Qag s).getD 2 ⟨#[]⟩)=some b/\((Qet (Qag s)).length % 2=1\/(Qet (Qag s)).length % 2=0/\QnQ L (Qet (Qag s)) ((Qet (Qag s)).length / 2)=none))):=by
 unfold Qjq at h;cases h1:QwW s with
 | false=>exact .inl rfl
 | true=>
  by_cases h2:3<=(Qag s).length
  .refine .inr (.inr ⟨rfl,h2,?_⟩);rw[h1,if_pos ⟨rfl,h2⟩]at h;cases h3:QeZ ((Qag s).getD 1 ⟨#[]⟩)with
   | none=>exact .inl rfl
   | some a=>
    cases h4:QeZ ((Qag s).getD 2 ⟨#[]⟩)with
    | none=>exact .inr (.inl ⟨⟨a,rfl⟩,rfl⟩)
    | some b=>
     rw[h3,h4]at h;simp only at h;refine .inr (.inr ⟨a,b,rfl,rfl,?_⟩);split at h
     .rename_i hc;exact .inr ⟨hc,Option.map_eq_none_iff.1 h⟩
     .rename_i hc;exact .inl (by omega)
  .exact .inr (.inl ⟨rfl,by omega⟩)
theorem QmB (s bJ:List UInt8):(Lib.cut s bJ).1.length<=s.length/\(Lib.cut s bJ).2.1.length<=s.length:=by
 unfold Lib.cut;split
 .simp only[List.length_take,List.length_drop]; omega
 .simp
theorem Qqz (s:ByteArray):∃A B:List UInt8,Lib.cut s.data.toList [10]=(A,B,QwW s)/\Qub s=⟨B.toArray⟩/\QhF ⟨A.toArray⟩ ⟨#[32]⟩=Qag s/\A.length<=s.size/\B.length<=s.size:=by
 refine⟨(Lib.cut s.data.toList [10]).1,(Lib.cut s.data.toList [10]).2.1,rfl,rfl,rfl,?_,?_⟩
 .have:=(QmB s.data.toList [10]).1; simpa using this
 .have:=(QmB s.data.toList [10]).2; simpa using this
theorem Qjx (l:List UInt8):(⟨l.toArray⟩:ByteArray).size=l.length:=by simp[ByteArray.size]
theorem QAd {s:ByteArray} (h0:¬s.size=0) (h:QwW s=true):(Qub s).size < s.size:=by
 unfold QwW Lib.cut at h;unfold Qub Lib.cut;split at h
 .rename_i hi;rw[if_pos hi];simp only;rw[Qjx,List.length_drop];have e1:s.data.toList.length=s.size:=Array.length_toList;have e2:nlB.data.toList.length=1:=rfl;omega
 .cases h
theorem QeN (t:ByteArray):∀(k:Nat) (s:ByteArray) (l:List Bat),runP t k=some (s,l)->s.size+k<=t.size
 | 0,s,l,h=>by simp only[runP,Zs,Prod.mk.injEq]at h; rw[<-h.1]; exact Zr _
 | k+1,s,l,h=>by
  simp only[runP]at h;split at h
  .rename_i s' l' h';have ih:=QeN t k s' l' h';split at h
   .cases h
   .rename_i hs;split at h
    .rename_i d r bV;simp only[Zs,Prod.mk.injEq]at h;obtain⟨h1,_,_,_,_,_,_,_,_,_,hr⟩:=Qg5 bV;have:=QAd hs h1;rw[<-h.1,hr]; omega
    .cases h
  .cases h
theorem QjE {t:ByteArray} {k:Nat} {s:ByteArray} {l:List Bat} (h:runP t (k+1)=some (s,l)):∃s' l' d,runP t k=some (s',l')/\¬s'.size=0/\Qjq l' s'=some (d,s)/\l=l'++[d]:=by
 simp only[runP]at h;split at h
 .rename_i s' l' h';split at h
  .cases h
  .rename_i hs;split at h
   .rename_i d r bV;simp only[Zs,Prod.mk.injEq]at h;obtain⟨rfl,rfl⟩:=h;exact⟨s',l',d,h',hs,bV,rfl⟩
   .cases h
 .cases h
theorem Qh1 (t:ByteArray):∃n s l,runP t n=some (s,l)/\(s.size=0\/(¬s.size=0/\Qjq l s=none))/\runP t (n+1)=none:=by
 have key:∀j k s l,runP t k=some (s,l)->k+j=t.size+1->∃n s l,runP t n=some (s,l)/\(s.size=0\/(¬s.size=0/\Qjq l s=none))/\runP t (n+1)=none:=by
  intro j
  induction j with
  | zero=>intro k s l h hk; have:=QeN t k s l h; omega
  | succ j ih=>
   intro k s l h hk;by_cases hs:s.size=0
   .exact⟨k,s,l,h,.inl hs,by simp only[runP,h,hs,if_true]⟩
   .cases bV:Qjq l s with
    | none=>exact⟨k,s,l,h,.inr ⟨hs,bV⟩,by simp only[runP,h,if_neg hs,bV]⟩
    | some p=>exact ih (k+1) p.2 (l++[p.1]) (by simp only[runP,h,if_neg hs,bV]) (by omega)
 exact key (t.size+1) 0 t [] rfl (by omega)
theorem QvM {t:ByteArray} :∀{n:Nat} {s:ByteArray} {l:List Bat},runP t n=some (s,l)->∃(T:Nat->ByteArray) (L:Nat->List Bat) (dd:Nat->Bat),T 0=t/\L 0=[]/\T n=s/\L n=l/\∀j,j < n->¬(T j).size=0/\Qjq (L j) (T j)=some (dd j,T (j+1))/\L (j+1)=L j++[dd j]:=by
 intro n s l h;have all:∀j,j<=n->∃p,runP t j=some p:=by
  intro j hj;have:∀i,j+i<=n->∀p,runP t (j+i)=some p->∃p,runP t j=some p:=by
   intro i
   induction i with
   | zero=>intro _ p hp; exact⟨p,hp⟩
   | succ i ih=>
    intro hi p hp;obtain⟨s',l',d,h1,_⟩:=QjE (s:=p.1) (l:=p.2) (show runP t (j+i+1)=some (p.1,p.2)from hp);exact ih (by omega) _ h1
  exact this (n - j) (by omega) (s,l) (by rw[show j+(n - j)=n by omega]; exact h)
 refine⟨λj=>((runP t j).getD (⟨#[]⟩,[])).1,λj=>((runP t j).getD (⟨#[]⟩,[])).2,λj=>((Qjq ((runP t j).getD (⟨#[]⟩,[])).2 ((runP t j).getD (⟨#[]⟩,[])).1).getD (default,⟨#[]⟩)).1,rfl,rfl,by simp[h],by simp[h],λj hj=>?_⟩
 obtain⟨p,hp⟩:=all (j+1) (by omega)
 obtain⟨s',l',d,h1,h2,h3,h4⟩:=QjE (s:=p.1) (l:=p.2) hp;refine⟨by simpa[h1]using h2,?_,?_⟩
 .simp[h1,h3,hp]
 .simp[h1,h3,hp,h4]
noncomputable def Qir (t:ByteArray):List Bat×Int:=
 if 3000 < t.size then([],3)else
 match runP t (Classical.choose (Qh1 t))with
 | some (s,l)=>if s.size=0/\(Q5 l).2.2=0 then(l,0)else([],6)
 | none=>([],6)
theorem Qnp {t:ByteArray} {n:Nat} (h:runP t (n+1)=none):∀m,n < m->runP t m=none:=by
 intro m hm;obtain⟨i,rfl⟩:∃i,m=n+1+i:=⟨m - (n+1),by omega⟩
 clear hm
 induction i with
 | zero=>exact h
 | succ i ih=>
  show runP t (n+1+i+1)=none;simp only[runP,ih]
theorem QqT {t:ByteArray} {n:Nat} {s:ByteArray} {l:List Bat} (h2:¬3000 < t.size) (h:runP t n=some (s,l)) (hn:runP t (n+1)=none):Qir t=if s.size=0/\(Q5 l).2.2=0 then(l,0)else([],6):=by
 obtain⟨s',l',h3,_,h4⟩:=Classical.choose_spec (Qh1 t);unfold Qir;rw[if_neg h2];generalize Classical.choose (Qh1 t)=m at*;have:m=n:=by
  rcases Nat.lt_trichotomy m n with aR | he | hgt
  .rw[Qnp h4 n aR]at h; cases h
  .exact he
  .rw[Qnp hn m hgt]at h3; cases h3
 subst this;rw[h]
theorem QkX (bJ:ByteArray) (oU:Nat):∀(k:Nat) (s:ByteArray),∀p∈Lib.splitB bJ oU k s,p.size<=s.size
 | 0,s,p,h=>by simp only[Lib.splitB_zero,List.mem_singleton]at h; subst h; exact Zr _
 | k+1,s,p,h=>by
  rcases Lib.indexB_cases s bJ with h1 | ⟨i,h1,h2⟩
  .rw[Lib.splitB_miss bJ oU (k+1) s h1,List.mem_singleton]at h; subst h; exact Zr _
  .rw[Lib.splitB_hit bJ oU k s i h1]at h;rcases List.mem_cons.1 h with rfl | h
   .rw[ByteArray.size_extract]; omega
   .have:=QkX bJ oU k _ p h;rw[ByteArray.size_extract]at this; omega
theorem QjG (s:ByteArray):∀p∈Qag s,p.size<=s.size:=by
 intro p hp;have h1:=QkX spB 0 _ _ p hp;have h2:=(QmB s.data.toList nlB.data.toList).1;have h3:(Ql2 s).size<=s.size:=by unfold Ql2; rw[Qjx]; simpa using h2
 omega
theorem Qjf (s:ByteArray):1<=(Qag s).length/\(Qag s).length<=s.size+1:=by
 have h1:1<=spB.size:=by decide
 have aI:(Qag s).length=countB (Ql2 s) spB+1:=splitB_all spB h1 0 _ (Ql2 s) rfl;have aX:=countB_le spB h1 (Ql2 s).size (Ql2 s) (Zr _);have h2:=(QmB s.data.toList nlB.data.toList).1;have h3:(Ql2 s).size<=s.size:=by unfold Ql2; rw[Qjx]; simpa using h2
 omega
theorem Qt8 (ws:List ByteArray):(Qet ws).length<=ws.length:=by
 unfold Qet;split
 .exact Nat.zero_le _
 .rw[List.length_drop]; omega
theorem QkH (t:ByteArray) (ht:t.size<=3000):∀(k:Nat) (s:ByteArray) (l:List Bat),runP t k=some (s,l)->∀x∈l,x.name.size<=3000/\x.takes.length<=3001
 | 0,s,l,h=>by
  simp only[runP,Zs,Prod.mk.injEq]at h;intro x hx; rw[<-h.2]at hx; cases hx
 | k+1,s,l,h=>by
  obtain⟨s',l',d,h1,h2,h3,rfl⟩:=QjE h;have ih:=QkH t ht k s' l' h1;have hs:=QeN t k s' l' h1;obtain⟨_,h4,g,f,ts,_,_,_,oP,rfl,_⟩:=Qg5 h3;intro x hx;rcases Zp.1 hx with hx | hx
  .exact ih x hx
  .rw[List.mem_singleton.1 hx];refine⟨?_,?_⟩
   .show((Qag s').getD 0 ⟨#[]⟩).size<=3000;rw[Qj _ _ _ (by omega)]
    have:=QjG s' _ (Ze (by omega:0 < (Qag s').length))
    omega
   .show ts.length<=3001;have h5:=QgE oP;have h6:=Qt8 (Qag s');have h7:=(Qjf s').2;omega
def QIb (r:Nat):List (Nat×Option Nat):=match r with
 | 0=>kpn [0,1,2]
 | 1=>kpn [0,1,2,5]
 | 2=>kpn [0,1]
 | _=>[]
def QyI (b4 b5:Nat):Nat->Option Nat:=λi=>if i=2 then some b4 else if i=3 then some b5 else none
theorem QyD (xs:Array Value) (w:World):(callFunc 78 xs).run Tryz.prog w= .ok (.enter 78 xs) w:=by kernel_rfl
theorem QCL (p4 p5:Value) (w:World):CallsD Tryz.prog 78 #[p4,p5] .returning w λe u' w'=>e= .returned (.tuple #[])/\u'= .returning/\w'=w:=by
 refine callsD_of_wpS Tryz.func78 rfl λc₀ cs hu=>?_;apply wpS_seq;apply wpS_region;simp[wpOpsS,go_sem,recoverD,hu,Tryz.ntmps78,Exit.thenS];refine wpS_of_wp ?_
 go_wp2
 refine⟨rfl,.returning,by cases c₀; simp_all,.tuple #[],results_none rfl _ _ _,rfl,rfl,rfl⟩
set_option maxRecDepth 100000 in
theorem QAP {m:Nat->Nat->Prop} {W:World} {b4 b5:Nat} {l:List Deferred} {g:Gh} {σ:St} {a:Act} {w:World} {x4 x5:X} (I:Inv 109 m (Ql0 W (QyI b4 b5) l) g σ a w) (hl:a.defers=l) (t4:Qv σ.tmps 2=some (.loc 2 0)) (t5:Qv σ.tmps 3=some (.loc 3 0)) (hx4:Qv σ.boxes 2=some [x4]) (hx5:Qv σ.boxes 3=some [x5]):
  CallsD Tryz.prog 78 #[.pointer (some ⟨b4,0,none⟩),.pointer (some ⟨b5,0,none⟩)] (.panicking [{ v:=QjV,recovered:=false}]) w λe u w'=>e= .returned (.tuple #[])/\u= .panicking [{ v:=QjV,recovered:=true}]/\∃g',Inv 109 m (Ql0 W (QyI b4 b5) l) g' ⟨[(2,.loc 2 0),(3,.loc 3 0)],[(2,[.d (.sl 0 [])]),(3,[.d (DI 6)])],[],[]⟩ a w':=by
 have o4:g.box 2=some b4:=I.out 2 b4 rfl;have o5:g.box 3=some b5:=I.out 3 b5 rfl;have p4:a.tmps.getD 2 undef= .pointer (some ⟨b4,0,none⟩):=by
  obtain⟨blk,h1,h2⟩:=I.tmps 2 _ t4;rw[o4]at h1; cases h1; exact h2
 have p5:a.tmps.getD 3 undef= .pointer (some ⟨b5,0,none⟩):=by
  obtain⟨blk,h1,h2⟩:=I.tmps 3 _ t5;rw[o5]at h1; cases h1; exact h2
 refine callsD_of_wpS Tryz.func78 rfl λc₀ cs hu=>?_;apply wpS_seq;apply wpS_region;simp[wpOpsS,go_sem,recoverD,hu,Tryz.ntmps78,Exit.thenS];simp only[QjV];refine wpS_of_wp ?_
 go_wp2_with fail
 refine(wpIn_wide (n:=0)).1 ?_;refine QfO (QE QB 8 QIb []) (by kernel_rfl) (by kernel_rfl) ((I.bare [(2,1),(3,1)] (by
  intro p hp;simp only[List.mem_cons,List.not_mem_nil,or_false]at hp;rcases hp with rfl | rfl
  .exact⟨_,hx4,rfl⟩
  .exact⟨_,hx5,rfl⟩)).reframe (N2:=8) (l2:=[]) (T:=[(0,.loc 2 0),(1,.loc 3 0),(2,.d (.v (.iface 23 (.int .i64 6))))]) rfl rfl ?_) (QDa (by kernel_rfl)) ?_
 .intro t x hx;simp only[Qv]at hx;split at hx
  .rename_i e; cases hx; subst e; exact⟨b4,o4,rfl⟩
  .split at hx
   .rename_i e; cases hx; subst e; exact⟨b5,o5,rfl⟩
   .split at hx
    .rename_i e; cases hx; subst e;simp only[RelX,Rel];rfl
    .cases hx
 .simp[QIb,QT];intro g' a' w' I';have hd:a'.defers=[]:=I'.noMark (c:=QDF [] 8 QIb []) (λh=>h);have o4':g'.box 2=some b4:=I'.out 2 b4 rfl;have o5':g'.box 3=some b5:=I'.out 3 b5 rfl;refine⟨hd,.panicking [{ v:= .iface 23 (.int .i64 6),recovered:=true}],rfl,.tuple #[],results_none rfl _ _ _,rfl,rfl,g',?_⟩;refine I'.reframe (N2:=109) (l2:=l) (T:=[(2,.loc 2 0),(3,.loc 3 0)]) I.size hl λt x hx=>?_;simp only[Qv]at hx;split at hx
  .rename_i e; cases hx; subst e; exact⟨b4,o4',p4⟩
  .split at hx
   .rename_i e; cases hx; subst e; exact⟨b5,o5',p5⟩
   .cases hx
end Go.Proofs.YtnfeakhkfehkhaaGreatDoor
