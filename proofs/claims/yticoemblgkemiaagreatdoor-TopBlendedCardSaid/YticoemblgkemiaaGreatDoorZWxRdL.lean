/-
  The program's Read and the reference's are the same function. No walk here. Conditions: none.
-/
import Derived.Test.YticoemblgkemiaaGreatDoorZWxRdD
import Derived.Test.YticoemblgkemiaaGreatDoorZSpl
set_option linter.unusedSimpArgs false
set_option linter.unusedVariables false
namespace Go.Proofs.YticoemblgkemiaaGreatDoor
open Go.RowKit Go.Lib
/-! The reference's split and number. -/
theorem QSJ (s:ByteArray) (i:Nat) (h:i < s.size):∃y:UInt8,s.data.toList[i]?=some y∧QaL s i=(y.toNat:Int):=by
 have h2:i < s.data.toList.length:=by simpa using h
 refine⟨s.data.toList[i],List.getElem?_eq_getElem h2,?_⟩;rw[Qru,Ql _ _ _ h2]
theorem QVy (s:ByteArray):∀i,i≤s.size→(∀j,j < i→48≤QaL s j∧QaL s j≤57)→decFrom 0 (s.data.toList.take i)=some (Q0N s i).toNat∧0≤Q0N s i
 | 0,_,_=>by simp[Q0N,decFrom]
 | i+1,h,hd=>by
  obtain⟨h1,h2⟩:=QVy s i (by omega) fun j hj=>hd j (by omega)
  obtain⟨y,h3,h4⟩:=QSJ s i (by omega)
  obtain⟨h5,h6⟩:=hd i (by omega)
  rw[h4]at h5 h6;have hv:digitVal y=some (y.toNat - 48):=by unfold digitVal; rw[if_pos (by omega)]
  have:=decFrom_take s.data.toList i 0 _ y _ h1 h3 hv;rw[this];simp only[Q0N,h4,Option.some.injEq];omega
theorem QYi {n:Nat} (h:n < 1000000):QO3 (QDz n)=n:=by
 have hs:=Qxy (n:=n) (k:=6) (by omega) (by omega)
 have hne:=QSm n;have hsz:(QDz n).size=(decDigits n).length:=by simp[QDz,ByteArray.size]
 have hpos:1≤(QDz n).size:=by
  rw[hsz];cases hd:decDigits n with
  | nil=>exact absurd hd hne
  | cons a b=>simp
 have hdl:(QDz n).data.toList=decDigits n:=by simp[QDz]
 have hdig:∀j,j < (QDz n).size→48≤QaL (QDz n) j∧QaL (QDz n) j≤57:=by
  intro j hj;obtain⟨y,h1,h2⟩:=QSJ (QDz n) j hj;rw[hdl]at h1;have:=QSi n y (List.mem_of_getElem? h1);rw[h2]; omega
 unfold QO3;rw[if_neg (by rw[show inR (QDz n).size 1 6=true from Qal.2 (by omega)]; simp),if_pos]
 ·obtain⟨h1,h2⟩:=QVy (QDz n) (QDz n).size (Nat.le_refl _) hdig;rw[List.take_of_length_le (by simp),hdl,QRY]at h1
  simp only[Option.some.injEq]at h1;omega
 ·rw[List.all_eq_true];intro j hj;unfold digB;exact Qal.2 (hdig j (by simpa using hj))
theorem QXD {n:Nat} (h:n < 1000000):QQs (QDz n)=some (n:Int):=by
 have hdl:(QDz n).data.toList=decDigits n:=by simp[QDz]
 have h3:=QlH 6 n (by omega) (by omega)
 exact QUl (by rw[hdl]; exact QXF (by omega))
theorem QVP {s:ByteArray} (h:Qbz s=true) {c:UInt8} (hc:c.toNat < 45):c∉s.data.toList:=by
 intro hm;obtain⟨i,hi,he⟩:=List.getElem_of_mem hm;have his:i < s.size:=by simpa using hi
 obtain⟨y,h1,h2⟩:=QSJ s i his;rw[List.getElem?_eq_getElem hi,he]at h1;cases h1;have:=((QrW s i).1 (((Qrg s).1 h).2.2.2 i his)).1;rw[h2]at this;omega
theorem QWm (n:Nat) {c:UInt8} (hc:c.toNat < 48):c∉decDigits n:=fun hm=>by
 have:=QSi n c hm;omega
theorem QVk {c:UInt8} :∀{l:List (List UInt8)} {sep:List UInt8},c∈join l sep→c∈sep∨∃p∈l,c∈p
 | [],sep,h=>by rw[join_nil]at h; cases h
 | [a],sep,h=>by rw[join_one]at h; exact .inr ⟨a,by simp,h⟩
 | a::b::t,sep,h=>by
  rw[QTM _ _ _ (by simp),List.mem_append,List.mem_append]at h
  rcases h with(h | h) | h
  ·exact .inr ⟨a,by simp,h⟩
  ·exact .inl h
  ·rcases QVk h with h | ⟨p,h1,h2⟩
   ·exact .inl h
   ·exact .inr ⟨p,by simp[h1],h2⟩
def QQ0 (l:List ByteArray):List (List UInt8):=l.map (·.data.toList)
theorem QTf {a b:List ByteArray} (h:QQ0 a=QQ0 b):a=b:=by
 induction a generalizing b with
 | nil=>cases b with
  | nil=>rfl
  | cons y t=>cases h
 | cons x s ih=>
  cases b with
  | nil=>cases h
  | cons y t=>
   simp only[QQ0,List.map_cons,List.cons.injEq]at h;rw[QjV h.1,ih h.2]
theorem QWb (n:Nat):(QDz n).data.toList=decDigits n:=by simp[QDz]
end Go.Proofs.YticoemblgkemiaaGreatDoor
namespace Go.Proofs.YticoemblgkemiaaGreatDoor
open Go.RowKit Go.Lib
def Q0L:ByteArray:=⟨#[112,117,114,101]⟩
def QRk (x:Tbl) (k:Nat):List ByteArray:=(x.kinds.getD k default).name::QQE x k x.props.length
def QQG (x:Tbl) (k:Nat):List (List ByteArray):=(tsB::QQK x x.props.length)::[Q0L,QDz x.purity.toNat]::(List.range k).map (QRk x)
def QmM (ws:List ByteArray):List UInt8:=(Qfp ws spB).data.toList
def QSp (l:List (List UInt8)):List UInt8:=l.flatMap fun b=>b++[10]
theorem QWH (a b:List (List UInt8)):QSp (a++b)=QSp a++QSp b:=by simp[QSp]
theorem QUe (x:Tbl):∀k,k≤x.kinds.length→(QQC x k).data.toList=QSp ((QQG x k).map QmM)
 | 0,_=>by
  have h1:=QSh x x.props.length;have h2:(QQC x 0).data.toList=(QS7 x x.props.length).data.toList++puB.data.toList++(QDz x.purity.toNat).data.toList++nlB.data.toList:=by
   simp[QQC,ByteArray.data_append]
  rw[h2,←h1];have h3:(Qfp [Q0L,QDz x.purity.toNat] spB).data.toList=[112,117,114,101,32]++(QDz x.purity.toNat).data.toList:=by
   rw[QQN];simp[QTb,joinTail,ByteArray.data_append,Q0L]
  simp[QQG,QmM,QSp,h3,puB,nlB]
 | k+1,hk=>by
  have ih:=QUe x k (by omega)
  rw[QTs x (by omega)]
  have h1:QQG x (k+1)=QQG x k++[QRk x k]:=by simp[QQG,List.range_succ]
  rw[h1,List.map_append,QWH,←ih];have h2:QRk x k=x.kinds[k].name::QQE x k x.props.length:=by unfold QRk; rw[Ql _ _ _ (by omega)]
  rw[h2];simp[QSp,QmM,ByteArray.data_append,nlB]
theorem QUE:∀{l:List (List UInt8)},l≠[]→QSp l=join l [10]++[10]
 | [],h=>absurd rfl h
 | [a],_=>by simp[QSp,join_one]
 | a::b::t,_=>by
  have ih:=QUE (l:=b::t) (by simp)
  rw[QTM _ _ _ (by simp)]
  have:QSp (a::b::t)=a++[10]++QSp (b::t):=by simp[QSp]
  rw[this,ih]; simp
def QW9 (ws:List ByteArray):Prop:=ws≠[]∧∀c:UInt8,(c=10∨c=32)→∀p∈QQ0 ws,c∉p
theorem QSE (n:Nat) {c:UInt8} (hc:c=10∨c=32):c∉(QDz n).data.toList:=by
 rw[QWb]; exact QWm n (by rcases hc with rfl | rfl<;>decide)
theorem QTq {s:ByteArray} (h:Qbz s=true) {c:UInt8} (hc:c=10∨c=32):c∉s.data.toList:=QVP h (by rcases hc with rfl | rfl<;>decide)
theorem QTB {x:Tbl} (f:Fine x):∀k,k≤x.props.length→∀w∈QQK x k,Qbz w=true∨∃n,w=QDz n
 | 0,_,w,h=>by cases h
 | k+1,hk,w,h=>by
  rw[QQK]at h;rcases List.mem_append.1 h with h | h
  ·exact QTB f k (by omega) w h
  ·simp only[List.mem_cons,List.not_mem_nil,or_false]at h;rcases h with rfl | rfl
   ·rw[Ql _ _ _ (by omega)]
    exact .inl (QSy (QQJ (f.pr k (by omega))).1)
   ·exact .inr ⟨_,rfl⟩
theorem QTp (x:Tbl) (k:Nat):∀p,∀w∈QQE x k p,∃n,w=QDz n
 | 0,w,h=>by cases h
 | p+1,w,h=>by
  rw[QQE]at h;rcases List.mem_append.1 h with h | h
  ·exact QTp x k p w h
  ·simp only[List.mem_cons,List.not_mem_nil,or_false]at h;rcases h with rfl | rfl<;>exact⟨_,rfl⟩
theorem QSG {x:Tbl} (f:Fine x):∀ws∈QQG x x.kinds.length,QW9 ws:=fun ws hws=>by
 unfold QQG at hws;simp only[List.mem_cons,List.mem_map,List.mem_range]at hws;rcases hws with rfl | rfl | ⟨k,hk,rfl⟩
 ·refine⟨by simp,fun c hc p hp=>?_⟩
  simp only[QQ0,List.map_cons,List.mem_cons,List.mem_map]at hp;rcases hp with rfl | ⟨w,hw,rfl⟩
  ·rcases hc with rfl | rfl<;>decide
  ·rcases QTB f _ (Nat.le_refl _) w hw with h | ⟨n,rfl⟩
   ·exact QTq h hc
   ·exact QSE n hc
 ·refine⟨by simp,fun c hc p hp=>?_⟩
  simp only[QQ0,List.map_cons,List.map_nil,List.mem_cons,List.not_mem_nil,or_false]at hp;rcases hp with rfl | rfl
  ·rcases hc with rfl | rfl<;>decide
  ·exact QSE _ hc
 ·refine⟨by simp[QRk],fun c hc p hp=>?_⟩
  simp only[QRk,QQ0,List.map_cons,List.mem_cons,List.mem_map]at hp;rcases hp with rfl | ⟨w,hw,rfl⟩
  ·rw[Ql _ _ _ hk];exact QTq (QSy (QQ4 (f.kn k hk)).1) hc
  ·obtain⟨n,rfl⟩:=QTp x k _ w hw;exact QSE n hc
theorem QTj (ws:List ByteArray):QmM ws=join (QQ0 ws) [32]:=by
 simp[QmM,Qfp,QQ0,spB]
theorem QVW {ws:List ByteArray} (h:QW9 ws):(10:UInt8)∉QmM ws:=by
 rw[QTj];intro hm;rcases QVk hm with h1 | ⟨p,h1,h2⟩
 ·simp at h1
 ·exact h.2 10 (.inl rfl) p h1 h2
theorem QSl (s:ByteArray) (c:UInt8):QQ0 (QiO s ⟨#[c]⟩)=QQL c s.data.toList:=QVQ c s
theorem QYj {ws:List ByteArray} (h:ws≠[]):QQ0 ws≠[]:=by
 unfold QQ0; simpa using h
theorem QZ1 {ws:List ByteArray} (h:QW9 ws):QiO (Qfp ws spB) spB=ws:=by
 apply QTf;have h1:QQ0 (QiO (Qfp ws spB) spB)=QQL 32 (QmM ws):=QSl _ 32;rw[h1,QTj];exact QRT (QYj h.1) (h.2 32 (.inr rfl))
theorem QTd (l:List UInt8):trimSuffix (l++[10]) [10]=l:=by
 simp[trimSuffix,hasSuffix]
theorem Q0F {x:Tbl} (f:Fine x):QQa (QQy x)=(QQG x x.kinds.length).map fun ws=>Qfp ws spB:=by
 apply QTf;have h0:=QUe x x.kinds.length (Nat.le_refl _);have hne:(QQG x x.kinds.length).map QmM≠[]:=by simp[QQG]
 rw[QUE hne]at h0;have h1:QQ0 (QQa (QQy x))=QQL 10 (QTW (QQy x) nlB).data.toList:=QSl _ 10;have h2:(QTW (QQy x) nlB).data.toList=join ((QQG x x.kinds.length).map QmM) [10]:=by
  show(Lib.trimSuffix (QQy x).data.toList nlB.data.toList).toArray.toList=_;rw[show(QQy x).data.toList=_ from h0];exact QTd _
 rw[h1,h2,QRT hne fun p hp=>by
  obtain⟨ws,hws,rfl⟩:=List.mem_map.1 hp;exact QVW (QSG f ws hws)]
 simp[QQ0,QmM]
end Go.Proofs.YticoemblgkemiaaGreatDoor
namespace Go.Proofs.YticoemblgkemiaaGreatDoor
open Go.RowKit Go.Lib
theorem QWM {α:Type} (l:List α) (a b:α) {k:Nat} (h:l.length=2*k):(l++[a,b])[2*k]?=some a∧(l++[a,b])[2*k+1]?=some b:=by
 constructor
 ·rw[List.getElem?_append_right (by omega),show 2*k - l.length=0 by omega]; rfl
 ·rw[List.getElem?_append_right (by omega),show 2*k+1 - l.length=1 by omega]; rfl
theorem QTt (x:Tbl):∀k j,j < k→(QQK x k)[2*j]?=some (x.props.getD j default).name∧(QQK x k)[2*j+1]?=some (QDz (QQ5 x j).toNat)
 | 0,j,h=>by omega
 | k+1,j,h=>by
  have hl:=QQY x k;rw[QQK];by_cases e:j=k
  ·subst e; exact QWM _ _ _ hl
  ·obtain⟨h1,h2⟩:=QTt x k j (by omega)
   exact⟨by rw[List.getElem?_append_left (by omega)]; exact h1,by rw[List.getElem?_append_left (by omega)]; exact h2⟩
theorem QTn (x:Tbl) (i:Nat):∀k j,j < k→(QQE x i k)[2*j]?=some (QDz (QQe x i j).lo.toNat)∧(QQE x i k)[2*j+1]?=some (QDz (QQe x i j).hi.toNat)
 | 0,j,h=>by omega
 | k+1,j,h=>by
  have hl:=QQX x i k;rw[QQE];by_cases e:j=k
  ·subst e; exact QWM _ _ _ hl
  ·obtain⟨h1,h2⟩:=QTn x i k j (by omega)
   exact⟨by rw[List.getElem?_append_left (by omega)]; exact h1,by rw[List.getElem?_append_left (by omega)]; exact h2⟩
theorem QSI {α:Type} {l:List α} {i:Nat} {a d:α} (h:l[i]?=some a):l.getD i d=a:=by rw[List.getD,h]; rfl
theorem QR2 {α:Type} (a:α) (l:List α) (i:Nat) (d:α):(a::l).getD (i+1) d=l.getD i d:=by simp[List.getD]
def QS0 (x:Tbl):List ByteArray:=tsB::QQK x x.props.length
theorem Q1S (x:Tbl):QPj (QS0 x)=x.props.length:=by
 unfold QPj QS0;rw[List.length_cons,QQY]; omega
theorem Q1t (x:Tbl) (k:Nat):QPj (QRk x k)=x.props.length:=by
 unfold QPj QRk;rw[List.length_cons,QQX]; omega
theorem QY5 {n:Int} (h0:0≤n) (h1:n < 1000000):QQs (QDz n.toNat)=some n:=by
 rw[QXD (by omega),Int.toNat_of_nonneg h0]
theorem Q0A {n:Int} (h0:0≤n) (h1:n < 1000000):QO3 (QDz n.toNat)=n:=by
 rw[QYi (by omega),Int.toNat_of_nonneg h0]
theorem QRu {α:Type} {l:List α} {k:Nat} (h:k < l.length):l.take (k+1)=l.take k++[l[k]]:=by
 rw[List.take_add_one,List.getElem?_eq_getElem h]; rfl
theorem QWF {x:Tbl} (f:Fine x):∀k,k≤x.props.length→QQM (QS0 x) k=some (x.props.take k)∧QUF (QS0 x) k=x.props.take k
 | 0,_=>by simp
 | k+1,hk=>by
  obtain⟨h1,h2⟩:=QWF f k (by omega)
  obtain⟨g1,g2⟩:=QTt x x.props.length k (by omega)
  have e1:(QS0 x).getD (2*k+1) ⟨#[]⟩=x.props[k].name:=by
   unfold QS0; rw[QR2,QSI g1,Ql _ _ _ (by omega)]
  have e2:(QS0 x).getD (2*k+2) ⟨#[]⟩=QDz (QQ5 x k).toNat:=by
   unfold QS0; rw[QR2,QSI g2]
  have he:=f.errv (show k < x.props.length by omega)
  have e3:(⟨x.props[k].name,QQ5 x k⟩:Prp)=x.props[k]:=by rw[←QS5 (by omega)]
  constructor
  ·rw[QQM,h1,e1,e2,QY5 he.1 (by omega)]
   simp only;rw[e3,QRu (by omega)]
  ·rw[QUF,h2,e1,e2,Q0A he.1 (by omega),e3,QRu (by omega)]
theorem QW8 {x:Tbl} (f:Fine x) {i:Nat} (hi:i < x.kinds.length):∀k,k≤x.props.length→QQV (QRk x i) k=some (x.kinds[i].props.take k)∧QUg (QRk x i) k=x.kinds[i].props.take k
 | 0,_=>by simp
 | k+1,hk=>by
  obtain⟨h1,h2⟩:=QW8 f hi k (by omega)
  obtain⟨g1,g2⟩:=QTn x i x.props.length k (by omega)
  have e1:(QRk x i).getD (2*k+1) ⟨#[]⟩=QDz (QQe x i k).lo.toNat:=by
   unfold QRk; rw[QR2,QSI g1]
  have e2:(QRk x i).getD (2*k+2) ⟨#[]⟩=QDz (QQe x i k).hi.toNat:=by
   unfold QRk; rw[QR2,QSI g2]
  obtain⟨hp,e3,r1,r2,r3⟩:=f.rng hi (show k < x.props.length by omega)
  constructor
  ·rw[QQV,h1,e1,e2,QY5 r1 (by omega),QY5 (n:=(QQe x i k).hi) (by omega) (by omega)]
   simp only;rw[QRu hp,e3]
  ·rw[QUg,h2,e1,e2,Q0A r1 (by omega),Q0A (n:=(QQe x i k).hi) (by omega) (by omega),QRu hp,e3]
def QVK (x:Tbl):Nat→Tbl
 | 0=>noT
 | 1=>⟨x.props,[],0⟩
 | k+2=>⟨x.props,x.kinds.take k,x.purity⟩
def QSX (x:Tbl):List ByteArray:=(QQG x x.kinds.length).map fun ws=>Qfp ws spB
theorem QWf (x:Tbl):(QSX x).length=x.kinds.length+2:=by simp[QSX,QQG]
theorem QWY {x:Tbl} {i:Nat} (hi:i < x.kinds.length+2):∃ws,(QQG x x.kinds.length)[i]?=some ws∧(QSX x)[i]?=some (Qfp ws spB):=by
 have hl:i < (QQG x x.kinds.length).length:=by simp[QQG]; omega
 refine⟨_,List.getElem?_eq_getElem hl,?_⟩;unfold QSX;rw[List.getElem?_map,List.getElem?_eq_getElem hl]; rfl
theorem QWL (x:Tbl) (k:Nat):(QQG x k)[0]?=some (QS0 x):=rfl
theorem QYn (x:Tbl) (k:Nat):(QQG x k)[1]?=some [Q0L,QDz x.purity.toNat]:=rfl
theorem QWw (x:Tbl) {k i:Nat} (h:i < k):(QQG x k)[i+2]?=some (QRk x i):=by
 simp[QQG,List.getElem?_map,List.getElem?_range h]
theorem QVD {x:Tbl} (f:Fine x):∀k,k≤x.kinds.length+2→runP (QSX x) k=some (QVK x k)
 | 0,_=>rfl
 | k+1,hk=>by
  have ih:=QVD f k (by omega)
  obtain⟨ws,h1,h2⟩:=QWY (x:=x) (show k < x.kinds.length+2 by omega)
  have hw:QQF (QSX x) k=ws:=by
   unfold QQF;rw[QSI h2];exact QZ1 (QSG f ws (List.mem_of_getElem? h1))
  rw[runP,ih,hw];show Qkj k ws (QVK x k)=_
  match k,hk,h1 with
  | 0,_,h1=>
   rw[QWL]at h1;cases h1;unfold Qkj;have ho:¬(QS0 x).length % 2=0:=by
    unfold QS0; rw[List.length_cons,QQY]; omega
   rw[if_neg (by omega),if_neg ho,if_pos rfl,Q1S,(QWF f _ (Nat.le_refl _)).1]
   simp[QVK,noT]
  | 1,_,h1=>
   rw[QYn]at h1;cases h1;unfold Qkj;have hu1:=f.u1;have hu2:=f.u2;rw[if_pos rfl,if_pos (show [Q0L,QDz x.purity.toNat].length=2 from rfl),show [Q0L,QDz x.purity.toNat].getD 1 ⟨#[]⟩=QDz x.purity.toNat from rfl,QY5 (by omega) (by omega)]
   simp[QVK]
  | k+2,hk,h1=>
   have hkk:k < x.kinds.length:=by omega
   rw[QWw x hkk]at h1;cases h1;unfold Qkj;have ho:¬(QRk x k).length % 2=0:=by
    unfold QRk; rw[List.length_cons,QQX]; omega
   have hlen:=(f.span k hkk).1;have hs:=(QW8 f hkk _ (Nat.le_refl _)).1;rw[List.take_of_length_le (by omega)]at hs
   rw[if_neg (by omega),if_neg ho,if_neg (by omega),Q1t,hs]
   have e:(⟨(QRk x k).getD 0 ⟨#[]⟩,x.kinds[k].props⟩:Knd)=x.kinds[k]:=by
    unfold QRk;rw[show((x.kinds.getD k default).name::QQE x k x.props.length).getD 0 ⟨#[]⟩=(x.kinds.getD k default).name from rfl,Ql _ _ _ hkk]
   simp only[Option.map_some,QVK,e];rw[QRu hkk]
theorem QZ6 {x:Tbl} (h:okT x):QWP (QQy x)=some x:=by
 have f:=QQv h;have hl:QQa (QQy x)=QSX x:=Q0F f;unfold QWP;rw[hl,QWf,QVD f _ (Nat.le_refl _)];simp[QVK]
end Go.Proofs.YticoemblgkemiaaGreatDoor
