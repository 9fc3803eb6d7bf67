/-
  The program's Read as a plain function. No program here. Conditions: none.
-/
import Derived.Test.YticoemblgkemiaaGreatDoorZBld
set_option linter.unusedSimpArgs false
set_option linter.unusedVariables false
namespace Go.Proofs.YticoemblgkemiaaGreatDoor
open Go.RowKit Go.Lib
def QmM (s:ByteArray):ByteArray:=⟨(Lib.cut s.data.toList nlB.data.toList).1.toArray⟩
def Qym (s:ByteArray):ByteArray:=⟨(Lib.cut s.data.toList nlB.data.toList).2.1.toArray⟩
def QCG (s:ByteArray):Bool:=(Lib.cut s.data.toList nlB.data.toList).2.2
def Qaq (s:ByteArray):List ByteArray:=QiO (QmM s) spB
def QkA (L:List Bat) (w:ByteArray):Nat->Option Nat
 | 0=>none
 | n+1=>if(L.getD n default).name=w then some n else QkA L w n
def mapM (L:List Bat):Nat->List (Value×Value)
 | 0=>[]
 | n+1=>(.string (L.getD n default).name,.int .i64 n)::mapM L n
theorem QrY (L:List Bat) (x:Bat):∀n,n<=L.length->mapM (L++[x]) n=mapM L n
 | 0,_=>rfl
 | n+1,h=>by
  rw[mapM,mapM,QrY L x n (by omega)]
  have:(L++[x]).getD n default=L.getD n default:=by simp[List.getD,List.getElem?_append_left (show n < L.length by omega)]
  rw[this]
theorem QyV (L:List Bat) (x:Bat):mapM (L++[x]) (L.length+1)=(.string x.name,.int .i64 L.length)::mapM L L.length:=by
 rw[mapM,QrY L x _ (Zr _)];have:(L++[x]).getD L.length default=x:=by simp[List.getD]
 rw[this]
theorem QmS (L:List Bat) (w:ByteArray):∀n,QcG (mapM L n) (.string w)=(QkA L w n).map λ(i:Nat)=>Value.int .i64 (i:Int)
 | 0=>rfl
 | n+1=>by
  rw[mapM,QkA];split
  .rename_i h;rw[h]; simp[QcG,eqK,eq1]
  .rename_i h;rw[Qhw (λe=>h (by injection e))]
   exact QmS L w n
def Qft (ws:List ByteArray):Bool:=ws.length==4&&(ws.getD 3 ⟨#[]⟩).toList==Qjz.toList
def Qfe (ws:List ByteArray):List ByteArray:=if Qft ws=true then []else ws.drop 3
def QoC (L:List Bat) (W:List ByteArray):Nat->Option (List Tak)
 | 0=>some []
 | k+1=>match QoC L W k,QkA L (W.getD (2*k) ⟨#[]⟩) L.length,Qgc (W.getD (2*k+1) ⟨#[]⟩)with
  | some l,some n,some q=>some (l++[⟨(n:Int),q⟩])
  | _,_,_=>none
@[simp] theorem takO_zero (L : List Bat) (W : List ByteArray) : QoC L W 0 = some [] := rfl
def QtL (L:List Bat) (W:List ByteArray) (k:Nat):List Tak:=(QoC L W k).getD []
@[simp] theorem takP_zero (L : List Bat) (W : List ByteArray) : QtL L W 0 = [] := rfl
theorem Qkn (L:List Bat) (W:List ByteArray):∀m,∃n,n<=m/\(∀k,k<=n->QoC L W k=some (QtL L W k))/\(n=m\/(n < m/\(QkA L (W.getD (2*n) ⟨#[]⟩) L.length=none\/(∃i,QkA L (W.getD (2*n) ⟨#[]⟩) L.length=some i)/\Qgc (W.getD (2*n+1) ⟨#[]⟩)=none)/\QoC L W m=none))
 | 0=>⟨0,Zr _,λk hk=>by rw[show k=0 by omega]; rfl,.inl rfl⟩
 | m+1=>by
  obtain⟨n,h1,h2,h3⟩:=Qkn L W m;rcases h3 with rfl | ⟨h3,h4,h5⟩
  .have hn:=h2 n (Zr _);cases hl:QkA L (W.getD (2*n) ⟨#[]⟩) L.length with
   | none=>exact⟨n,by omega,h2,.inr ⟨by omega,.inl hl,by rw[QoC,hn,hl]⟩⟩
   | some i=>
    cases hq:Qgc (W.getD (2*n+1) ⟨#[]⟩)with
    | none=>exact⟨n,by omega,h2,.inr ⟨by omega,.inr ⟨⟨i,hl⟩,hq⟩,by rw[QoC,hn,hl,hq]⟩⟩
    | some q=>
     have hr:QoC L W (n+1)=some (QtL L W n++[⟨(i:Int),q⟩]):=by rw[QoC,hn,hl,hq]
     refine⟨n+1,Zr _,λk hk=>?_,.inl rfl⟩;by_cases e:k=n+1
     .subst e; rw[QtL,hr]; rfl
     .exact h2 k (by omega)
  .exact⟨n,by omega,h2,.inr ⟨by omega,h4,by rw[QoC,h5]⟩⟩
theorem Qs6 {L:List Bat} {W:List ByteArray} {n:Nat} (h:∀k,k<=n->QoC L W k=some (QtL L W k)) {j:Nat} (hj:j < n):∃i q,QkA L (W.getD (2*j) ⟨#[]⟩) L.length=some i/\Qgc (W.getD (2*j+1) ⟨#[]⟩)=some q/\QtL L W (j+1)=QtL L W j++[⟨(i:Int),q⟩]:=by
 have h1:=h (j+1) (by omega)
 rw[QoC,h j (by omega)]at h1
 cases hl:QkA L (W.getD (2*j) ⟨#[]⟩) L.length with
 | none=>rw[hl]at h1; cases h1
 | some i=>
  cases hq:Qgc (W.getD (2*j+1) ⟨#[]⟩)with
  | none=>rw[hl,hq]at h1; cases h1
  | some q=>
   rw[hl,hq]at h1;exact⟨i,q,rfl,rfl,(Option.some.inj h1).symm⟩
theorem Qhu {L:List Bat} {W:List ByteArray} :∀{k:Nat} {l:List Tak},QoC L W k=some l->l.length=k
 | 0,l,h=>by cases h; rfl
 | k+1,l,h=>by
  rw[QoC]at h;split at h
  .rename_i h1 _ _; cases h; rw[List.length_append,Qhu h1]; rfl
  .cases h
def Qkj (L:List Bat) (s:ByteArray):Option (Bat×ByteArray):=
 if QCG s=true/\3<=(Qaq s).length then
  (match Qgc ((Qaq s).getD 1 ⟨#[]⟩),Qgc ((Qaq s).getD 2 ⟨#[]⟩)with
  | some g,some f=>if(Qfe (Qaq s)).length % 2=0 then(QoC L (Qfe (Qaq s)) ((Qfe (Qaq s)).length / 2)).map λts=>(⟨(Qaq s).getD 0 ⟨#[]⟩,g,f,Qft (Qaq s),ts⟩,Qym s)else none
  | _,_=>none)
 else none
def runP (t:ByteArray):Nat->Option (ByteArray×List Bat)
 | 0=>some (t,[])
 | k+1=>match runP t k with
  | some (s,l)=>if s.size=0 then none else(match Qkj l s with
   | some (d,r)=>some (r,l++[d])
   | none=>none)
  | none=>none
theorem Qsf (t:ByteArray):∀(k:Nat) (s:ByteArray) (l:List Bat),runP t k=some (s,l)->l.length=k
 | 0,s,l,h=>by simp only[runP,Zs,Prod.mk.injEq]at h; rw[<-h.2]; rfl
 | k+1,s,l,h=>by
  simp only[runP]at h;split at h
  .rename_i s' l' h';split at h
   .cases h
   .split at h
    .simp only[Zs,Prod.mk.injEq]at h;rw[<-h.2,List.length_append,Qsf t k s' l' h']; rfl
    .cases h
  .cases h
theorem Qih {L:List Bat} {s:ByteArray} {d:Bat} {r:ByteArray} (h:Qkj L s=some (d,r)):QCG s=true/\3<=(Qaq s).length/\∃g f ts,Qgc ((Qaq s).getD 1 ⟨#[]⟩)=some g/\Qgc ((Qaq s).getD 2 ⟨#[]⟩)=some f/\(Qfe (Qaq s)).length % 2=0/\QoC L (Qfe (Qaq s)) ((Qfe (Qaq s)).length / 2)=some ts/\d=⟨(Qaq s).getD 0 ⟨#[]⟩,g,f,Qft (Qaq s),ts⟩/\r=Qym s:=by
 unfold Qkj at h;split at h
 .rename_i hc;split at h
  .rename_i a b ha hb;split at h
   .rename_i hd;obtain⟨ts,ht,he⟩:=Option.map_eq_some_iff.1 h;simp only[Prod.mk.injEq]at he;exact⟨hc.1,hc.2,a,b,ts,ha,hb,hd,ht,he.1.symm,he.2.symm⟩
   .cases h
  .cases h
 .cases h
theorem QtI {L:List Bat} {s:ByteArray} (h:Qkj L s=none):QCG s=false\/(QCG s=true/\(Qaq s).length < 3)\/(QCG s=true/\3<=(Qaq s).length/\(Qgc ((Qaq s).getD 1 ⟨#[]⟩)=none\/(∃a,Qgc ((Qaq s).getD 1 ⟨#[]⟩)=some a)/\Qgc ((Qaq s).getD 2 ⟨#[]⟩)=none\/
  ∃a b,Qgc ((Qaq s).getD 1 ⟨#[]⟩)=some a/\Qgc ((Qaq s).getD 2 ⟨#[]⟩)=some b/\((Qfe (Qaq s)).length % 2=1\/(Qfe (Qaq s)).length % 2=0/\QoC L (Qfe (Qaq s)) ((Qfe (Qaq s)).length / 2)=none))):=by
 unfold Qkj at h;cases h1:QCG s with
 | false=>exact .inl rfl
 | true=>
  by_cases h2:3<=(Qaq s).length
  .refine .inr (.inr ⟨rfl,h2,?_⟩);rw[h1,if_pos ⟨rfl,h2⟩]at h;cases h3:Qgc ((Qaq s).getD 1 ⟨#[]⟩)with
   | none=>exact .inl rfl
   | some a=>
    cases h4:Qgc ((Qaq s).getD 2 ⟨#[]⟩)with
    | none=>exact .inr (.inl ⟨⟨a,rfl⟩,rfl⟩)
    | some b=>
     rw[h3,h4]at h;simp only at h;refine .inr (.inr ⟨a,b,rfl,rfl,?_⟩);split at h
     .rename_i hc;exact .inr ⟨hc,Option.map_eq_none_iff.1 h⟩
     .rename_i hc;exact .inl (by omega)
  .exact .inr (.inl ⟨rfl,by omega⟩)
theorem QnQ (s bH:List UInt8):(Lib.cut s bH).1.length<=s.length/\(Lib.cut s bH).2.1.length<=s.length:=by
 unfold Lib.cut;split
 .simp only[List.length_take,List.length_drop]; omega
 .simp
theorem QrX (s:ByteArray):∃A B:List UInt8,Lib.cut s.data.toList [10]=(A,B,QCG s)/\Qym s=⟨B.toArray⟩/\QiO ⟨A.toArray⟩ ⟨#[32]⟩=Qaq s/\A.length<=s.size/\B.length<=s.size:=by
 refine⟨(Lib.cut s.data.toList [10]).1,(Lib.cut s.data.toList [10]).2.1,rfl,rfl,rfl,?_,?_⟩
 .have:=(QnQ s.data.toList [10]).1; simpa using this
 .have:=(QnQ s.data.toList [10]).2; simpa using this
theorem QkS (l:List UInt8):(⟨l.toArray⟩:ByteArray).size=l.length:=by simp[ByteArray.size]
theorem QEQ {s:ByteArray} (h0:¬s.size=0) (h:QCG s=true):(Qym s).size < s.size:=by
 unfold QCG Lib.cut at h;unfold Qym Lib.cut;split at h
 .rename_i hi;rw[if_pos hi];simp only;rw[QkS,List.length_drop];have e1:s.data.toList.length=s.size:=Array.length_toList;have e2:nlB.data.toList.length=1:=rfl;omega
 .cases h
theorem QfG (t:ByteArray):∀(k:Nat) (s:ByteArray) (l:List Bat),runP t k=some (s,l)->s.size+k<=t.size
 | 0,s,l,h=>by simp only[runP,Zs,Prod.mk.injEq]at h; rw[<-h.1]; exact Zr _
 | k+1,s,l,h=>by
  simp only[runP]at h;split at h
  .rename_i s' l' h';have ih:=QfG t k s' l' h';split at h
   .cases h
   .rename_i hs;split at h
    .rename_i d r bT;simp only[Zs,Prod.mk.injEq]at h;obtain⟨h1,_,_,_,_,_,_,_,_,_,hr⟩:=Qih bT;have:=QEQ hs h1;rw[<-h.1,hr]; omega
    .cases h
  .cases h
theorem Qkq {t:ByteArray} {k:Nat} {s:ByteArray} {l:List Bat} (h:runP t (k+1)=some (s,l)):∃s' l' d,runP t k=some (s',l')/\¬s'.size=0/\Qkj l' s'=some (d,s)/\l=l'++[d]:=by
 simp only[runP]at h;split at h
 .rename_i s' l' h';split at h
  .cases h
  .rename_i hs;split at h
   .rename_i d r bT;simp only[Zs,Prod.mk.injEq]at h;obtain⟨rfl,rfl⟩:=h;exact⟨s',l',d,h',hs,bT,rfl⟩
   .cases h
 .cases h
theorem Qjj (t:ByteArray):∃n s l,runP t n=some (s,l)/\(s.size=0\/(¬s.size=0/\Qkj l s=none))/\runP t (n+1)=none:=by
 have key:∀j k s l,runP t k=some (s,l)->k+j=t.size+1->∃n s l,runP t n=some (s,l)/\(s.size=0\/(¬s.size=0/\Qkj l s=none))/\runP t (n+1)=none:=by
  intro j
  induction j with
  | zero=>intro k s l h hk; have:=QfG t k s l h; omega
  | succ j ih=>
   intro k s l h hk;by_cases hs:s.size=0
   .exact⟨k,s,l,h,.inl hs,by simp only[runP,h,hs,if_true]⟩
   .cases bT:Qkj l s with
    | none=>exact⟨k,s,l,h,.inr ⟨hs,bT⟩,by simp only[runP,h,if_neg hs,bT]⟩
    | some p=>exact ih (k+1) p.2 (l++[p.1]) (by simp only[runP,h,if_neg hs,bT]) (by omega)
 exact key (t.size+1) 0 t [] rfl (by omega)
theorem Qyg {t:ByteArray} :∀{n:Nat} {s:ByteArray} {l:List Bat},runP t n=some (s,l)->∃(T:Nat->ByteArray) (L:Nat->List Bat) (dd:Nat->Bat),T 0=t/\L 0=[]/\T n=s/\L n=l/\∀j,j < n->¬(T j).size=0/\Qkj (L j) (T j)=some (dd j,T (j+1))/\L (j+1)=L j++[dd j]:=by
 intro n s l h;have all:∀j,j<=n->∃p,runP t j=some p:=by
  intro j hj;have:∀i,j+i<=n->∀p,runP t (j+i)=some p->∃p,runP t j=some p:=by
   intro i
   induction i with
   | zero=>intro _ p hp; exact⟨p,hp⟩
   | succ i ih=>
    intro hi p hp;obtain⟨s',l',d,h1,_⟩:=Qkq (s:=p.1) (l:=p.2) (show runP t (j+i+1)=some (p.1,p.2)from hp);exact ih (by omega) _ h1
  exact this (n - j) (by omega) (s,l) (by rw[show j+(n - j)=n by omega]; exact h)
 refine⟨λj=>((runP t j).getD (⟨#[]⟩,[])).1,λj=>((runP t j).getD (⟨#[]⟩,[])).2,λj=>((Qkj ((runP t j).getD (⟨#[]⟩,[])).2 ((runP t j).getD (⟨#[]⟩,[])).1).getD (default,⟨#[]⟩)).1,rfl,rfl,by simp[h],by simp[h],λj hj=>?_⟩
 obtain⟨p,hp⟩:=all (j+1) (by omega)
 obtain⟨s',l',d,h1,h2,h3,h4⟩:=Qkq (s:=p.1) (l:=p.2) hp;refine⟨by simpa[h1]using h2,?_,?_⟩
 .simp[h1,h3,hp]
 .simp[h1,h3,hp,h4]
noncomputable def QkC (t:ByteArray):List Bat×Int:=
 if 3000 < t.size then([],3)else
 match runP t (Classical.choose (Qjj t))with
 | some (s,l)=>if s.size=0/\(Qaf l).2.2=0 then(l,0)else([],6)
 | none=>([],6)
theorem Qpb {t:ByteArray} {n:Nat} (h:runP t (n+1)=none):∀m,n < m->runP t m=none:=by
 intro m hm;obtain⟨i,rfl⟩:∃i,m=n+1+i:=⟨m - (n+1),by omega⟩
 clear hm
 induction i with
 | zero=>exact h
 | succ i ih=>
  show runP t (n+1+i+1)=none;simp only[runP,ih]
theorem QrO {t:ByteArray} {n:Nat} {s:ByteArray} {l:List Bat} (h2:¬3000 < t.size) (h:runP t n=some (s,l)) (hn:runP t (n+1)=none):QkC t=if s.size=0/\(Qaf l).2.2=0 then(l,0)else([],6):=by
 obtain⟨s',l',h3,_,h4⟩:=Classical.choose_spec (Qjj t);unfold QkC;rw[if_neg h2];generalize Classical.choose (Qjj t)=m at*;have:m=n:=by
  rcases Nat.lt_trichotomy m n with aQ | he | hgt
  .rw[Qpb h4 n aQ]at h; cases h
  .exact he
  .rw[Qpb hn m hgt]at h3; cases h3
 subst this;rw[h]
theorem Ql0 (bH:ByteArray) (pK:Nat):∀(k:Nat) (s:ByteArray),∀p∈Lib.splitB bH pK k s,p.size<=s.size
 | 0,s,p,h=>by simp only[Lib.splitB_zero,List.mem_singleton]at h; subst h; exact Zr _
 | k+1,s,p,h=>by
  rcases Lib.indexB_cases s bH with h1 | ⟨i,h1,h2⟩
  .rw[Lib.splitB_miss bH pK (k+1) s h1,List.mem_singleton]at h; subst h; exact Zr _
  .rw[Lib.splitB_hit bH pK k s i h1]at h;rcases List.mem_cons.1 h with rfl | h
   .rw[ByteArray.size_extract]; omega
   .have:=Ql0 bH pK k _ p h;rw[ByteArray.size_extract]at this; omega
theorem QkP (s:ByteArray):∀p∈Qaq s,p.size<=s.size:=by
 intro p hp;have h1:=Ql0 spB 0 _ _ p hp;have h2:=(QnQ s.data.toList nlB.data.toList).1;have h3:(QmM s).size<=s.size:=by unfold QmM; rw[QkS]; simpa using h2
 omega
theorem QkN (s:ByteArray):1<=(Qaq s).length/\(Qaq s).length<=s.size+1:=by
 have h1:1<=spB.size:=by decide
 have aI:(Qaq s).length=countB (QmM s) spB+1:=splitB_all spB h1 0 _ (QmM s) rfl;have bE:=countB_le spB h1 (QmM s).size (QmM s) (Zr _);have h2:=(QnQ s.data.toList nlB.data.toList).1;have h3:(QmM s).size<=s.size:=by unfold QmM; rw[QkS]; simpa using h2
 omega
theorem QxB (ws:List ByteArray):(Qfe ws).length<=ws.length:=by
 unfold Qfe;split
 .exact Nat.zero_le _
 .rw[List.length_drop]; omega
theorem Ql7 (t:ByteArray) (ht:t.size<=3000):∀(k:Nat) (s:ByteArray) (l:List Bat),runP t k=some (s,l)->∀x∈l,x.name.size<=3000/\x.takes.length<=3001
 | 0,s,l,h=>by
  simp only[runP,Zs,Prod.mk.injEq]at h;intro x hx; rw[<-h.2]at hx; cases hx
 | k+1,s,l,h=>by
  obtain⟨s',l',d,h1,h2,h3,rfl⟩:=Qkq h;have ih:=Ql7 t ht k s' l' h1;have hs:=QfG t k s' l' h1;obtain⟨_,h4,g,f,ts,_,_,_,pC,rfl,_⟩:=Qih h3;intro x hx;rcases Zp.1 hx with hx | hx
  .exact ih x hx
  .rw[List.mem_singleton.1 hx];refine⟨?_,?_⟩
   .show((Qaq s').getD 0 ⟨#[]⟩).size<=3000;rw[Ql _ _ _ (by omega)]
    have:=QkP s' _ (Ze (by omega:0 < (Qaq s').length))
    omega
   .show ts.length<=3001;have h5:=Qhu pC;have h6:=QxB (Qaq s');have h7:=(QkN s').2;omega
def QN4 (r:Nat):List (Nat×Option Nat):=match r with
 | 0=>kpn [0,1,2]
 | 1=>kpn [0,1,2,5]
 | 2=>kpn [0,1]
 | _=>[]
def QDm (b4 b5:Nat):Nat->Option Nat:=λi=>if i=2 then some b4 else if i=3 then some b5 else none
theorem QCV (xs:Array Value) (w:World):(callFunc 128 xs).run Tryz.prog w= .ok (.enter 128 xs) w:=by kernel_rfl
theorem QKZ (p4 p5:Value) (w:World):CallsD Tryz.prog 128 #[p4,p5] .returning w λe u' w'=>e= .returned (.tuple #[])/\u'= .returning/\w'=w:=by
 refine callsD_of_wpS Tryz.func128 rfl λc₀ cs hu=>?_;apply wpS_seq;apply wpS_region;simp[wpOpsS,go_sem,recoverD,hu,Tryz.ntmps128,Exit.thenS];refine wpS_of_wp ?_
 go_wp2
 refine⟨rfl,.returning,by cases c₀; simp_all,.tuple #[],results_none rfl _ _ _,rfl,rfl,rfl⟩
set_option maxRecDepth 100000 in
theorem QHS {m:Nat->Nat->Prop} {W:World} {b4 b5:Nat} {l:List Deferred} {g:Gh} {σ:St} {a:Act} {w:World} {x4 x5:X} (I:Inv 109 m (QnT W (QDm b4 b5) l) g σ a w) (hl:a.defers=l) (t4:Qt σ.tmps 2=some (.loc 2 0)) (t5:Qt σ.tmps 3=some (.loc 3 0)) (hx4:Qt σ.boxes 2=some [x4]) (hx5:Qt σ.boxes 3=some [x5]):
  CallsD Tryz.prog 128 #[.pointer (some ⟨b4,0,none⟩),.pointer (some ⟨b5,0,none⟩)] (.panicking [{ v:=Qlo,recovered:=false}]) w λe u w'=>e= .returned (.tuple #[])/\u= .panicking [{ v:=Qlo,recovered:=true}]/\∃g',Inv 109 m (QnT W (QDm b4 b5) l) g' ⟨[(2,.loc 2 0),(3,.loc 3 0)],[(2,[.d (.sl 0 [])]),(3,[.d (DI 6)])],[],[]⟩ a w':=by
 have o4:g.box 2=some b4:=I.out 2 b4 rfl;have o5:g.box 3=some b5:=I.out 3 b5 rfl;have p4:a.tmps.getD 2 undef= .pointer (some ⟨b4,0,none⟩):=by
  obtain⟨blk,h1,h2⟩:=I.tmps 2 _ t4;rw[o4]at h1; cases h1; exact h2
 have p5:a.tmps.getD 3 undef= .pointer (some ⟨b5,0,none⟩):=by
  obtain⟨blk,h1,h2⟩:=I.tmps 3 _ t5;rw[o5]at h1; cases h1; exact h2
 refine callsD_of_wpS Tryz.func128 rfl λc₀ cs hu=>?_;apply wpS_seq;apply wpS_region;simp[wpOpsS,go_sem,recoverD,hu,Tryz.ntmps128,Exit.thenS];simp only[Qlo];refine wpS_of_wp ?_
 go_wp2_with fail
 refine(wpIn_wide (n:=0)).1 ?_;refine Qdk (Qw Qs 8 QN4 []) (by kernel_rfl) (by kernel_rfl) ((I.bare [(2,1),(3,1)] (by
  intro p hp;simp only[List.mem_cons,List.not_mem_nil,or_false]at hp;rcases hp with rfl | rfl
  .exact⟨_,hx4,rfl⟩
  .exact⟨_,hx5,rfl⟩)).reframe (N2:=8) (l2:=[]) (T:=[(0,.loc 2 0),(1,.loc 3 0),(2,.d (.v (.iface 29 (.int .i64 6))))]) rfl rfl ?_) (QIS (by kernel_rfl)) ?_
 .intro t x hx;simp only[Qt]at hx;split at hx
  .rename_i e; cases hx; subst e; exact⟨b4,o4,rfl⟩
  .split at hx
   .rename_i e; cases hx; subst e; exact⟨b5,o5,rfl⟩
   .split at hx
    .rename_i e; cases hx; subst e;simp only[RelX,Rel];rfl
    .cases hx
 .simp[QN4,QG];intro g' a' w' I';have hd:a'.defers=[]:=I'.noMark (c:=QLp [] 8 QN4 []) (λh=>h);have o4':g'.box 2=some b4:=I'.out 2 b4 rfl;have o5':g'.box 3=some b5:=I'.out 3 b5 rfl;refine⟨hd,.panicking [{ v:= .iface 29 (.int .i64 6),recovered:=true}],rfl,.tuple #[],results_none rfl _ _ _,rfl,rfl,g',?_⟩;refine I'.reframe (N2:=109) (l2:=l) (T:=[(2,.loc 2 0),(3,.loc 3 0)]) I.size hl λt x hx=>?_;simp only[Qt]at hx;split at hx
  .rename_i e; cases hx; subst e; exact⟨b4,o4',p4⟩
  .split at hx
   .rename_i e; cases hx; subst e; exact⟨b5,o5',p5⟩
   .cases hx
end Go.Proofs.YticoemblgkemiaaGreatDoor
