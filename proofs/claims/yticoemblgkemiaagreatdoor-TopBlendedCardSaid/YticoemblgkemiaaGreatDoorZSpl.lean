/-
  Splitting lists of bytes at a byte, and joining them. No program here. Conditions: none.
-/
import Derived.Lib.SplitLaws
import Derived.Lib.AtoiTie
import Derived.Lib.ItoaNum
import Derived.Lib.Join
set_option linter.unusedSimpArgs false
set_option linter.unusedVariables false
namespace Go.Proofs.YticoemblgkemiaaGreatDoor
open Go.Lib
def QW5 (x:UInt8):List (List UInt8)→List (List UInt8)
 | []=>[[x]]
 | h::r=>(x::h)::r
def QQL (c:UInt8):List UInt8→List (List UInt8)
 | []=>[[]]
 | x::t=>if x=c then []::QQL c t else QW5 x (QQL c t)
theorem QUY (c x:UInt8) (t:List UInt8):QQL c (x::t)=if x=c then []::QQL c t else QW5 x (QQL c t):=rfl
theorem QSF {c:UInt8} :∀{l:List UInt8},c∉l→QQL c l=[l]
 | [],_=>rfl
 | x::t,h=>by
  simp only[List.mem_cons,not_or]at h;unfold QQL;rw[if_neg (fun e=>h.1 e.symm),QSF h.2]; rfl
theorem QTx {c:UInt8} :∀{a:List UInt8} (b:List UInt8),c∉a→QQL c (a++c::b)=a::QQL c b
 | [],b,_=>by simp[QQL]
 | x::t,b,h=>by
  simp only[List.mem_cons,not_or]at h;rw[List.cons_append,QUY,if_neg (fun e=>h.1 e.symm),QTx b h.2]; rfl
theorem QTM (sep a:List UInt8) (r:List (List UInt8)) (h:r≠[]):join (a::r) sep=a++sep++join r sep:=by
 cases r with
 | nil=>exact absurd rfl h
 | cons b t=>simp[join,List.intercalate,List.intersperse]
theorem QRT {c:UInt8} :∀{l:List (List UInt8)},l≠[]→(∀p∈l,c∉p)→QQL c (join l [c])=l
 | [],h,_=>absurd rfl h
 | [a],_,h=>by rw[join_one]; exact QSF (h a (by simp))
 | a::b::t,_,h=>by
  rw[QTM _ _ _ (by simp),List.append_assoc]
  have:=QTx (join (b::t) [c]) (h a (by simp))
  rw[show a++([c]++join (b::t) [c])=a++c::join (b::t) [c]from rfl,this,QRT (by simp) fun p hp=>h p (by simp[hp])]
theorem QT5 (c:UInt8) (t:List UInt8):index (c::t) [c]=0:=by simp[index,List.isPrefixOf]
theorem QT2 {c x:UInt8} (t:List UInt8) (h:x≠c):index (x::t) [c]=if index t [c]= -1 then -1 else index t [c]+1:=by
 have:([c]:List UInt8).isPrefixOf (x::t)=false:=by simp[List.isPrefixOf,h.symm]
 simp[index,this]
theorem QVc {c x:UInt8} (h:x≠c) (t:List UInt8):∀k,splitK [c] 0 k (x::t)=QW5 x (splitK [c] 0 k t)
 | 0=>rfl
 | k+1=>by
  unfold splitK;rw[QT2 t h];have hge:=index_ge t [c];by_cases h1:index t [c]= -1
  ·simp[h1,QW5]
  ·rw[if_neg h1];have h2:¬(index t [c]+1== -1)=true:=by simp; omega
   have h3:¬(index t [c]== -1)=true:=by simpa using h1
   rw[if_neg h2,if_neg h3];obtain⟨i,hi⟩:∃i:Nat,index t [c]=i:=⟨(index t [c]).toNat,by omega⟩
   rw[hi];have e1:((i:Int)+1).toNat=i+1:=by omega
   simp[QW5,e1]
theorem QSM (c:UInt8):∀l,split l [c]=QQL c l
 | []=>rfl
 | x::t=>by
  unfold split;by_cases h:x=c
  ·subst h;rw[count_cons_eq,Nat.add_comm];unfold splitK;rw[QT5];have ih:=QSM x t;unfold split at ih;simp[QQL,ih]
  ·rw[count_cons_ne x c t h,QVc h];have ih:=QSM c t;unfold split at ih;rw[ih];simp[QQL,h]
theorem QVQ (c:UInt8) (s:ByteArray):(splitB ⟨#[c]⟩ 0 (countB s ⟨#[c]⟩) s).map (·.data.toList)=QQL c s.data.toList:=by
 rw[splitB_data];exact QSM c s.data.toList
theorem QSN (l2:List UInt8):∀(l1:List UInt8) (acc:Nat),decFrom acc (l1++l2)=(decFrom acc l1).bind fun a=>decFrom a l2
 | [],acc=>rfl
 | b::t,acc=>by
  simp only[List.cons_append,decFrom];cases digitVal b with
  | none=>rfl
  | some d=>exact QSN l2 t _
theorem QUH {n:Nat} (h:n < 10):digitVal (UInt8.ofNat (48+n))=some n:=by
 unfold digitVal;have:(UInt8.ofNat (48+n)).toNat=48+n:=by simp; omega
 rw[this,if_pos (by omega)]
 simp
theorem QRY (n:Nat):decFrom 0 (decDigits n)=some n:=by
 induction n using Nat.strongRecOn with
 | ind n ih=>
  by_cases h:n < 10
  ·rw[decDigits_one h];simp only[decFrom,QUH h,Nat.zero_mul,Nat.zero_add]
  ·rw[decDigits,dif_neg h,QSN,ih (n / 10) (by omega)]
   simp only[Option.bind_some,decFrom,QUH (show n % 10 < 10 by omega),Option.some.injEq]
   omega
theorem QSi (n:Nat):∀c∈decDigits n,48≤c.toNat∧c.toNat≤57:=by
 induction n using Nat.strongRecOn with
 | ind n ih=>
  have one:∀m,m < 10→48≤(UInt8.ofNat (48+m)).toNat∧(UInt8.ofNat (48+m)).toNat≤57:=fun m hm=>by
   have:(UInt8.ofNat (48+m)).toNat=48+m:=by simp; omega
   omega
  intro c hc;by_cases h:n < 10
  ·rw[decDigits_one h,List.mem_singleton]at hc;subst hc; exact one n h
  ·rw[decDigits,dif_neg h,List.mem_append,List.mem_singleton]at hc;rcases hc with hc | hc
   ·exact ih (n / 10) (by omega) c hc
   ·subst hc; exact one _ (by omega)
theorem QSm (n:Nat):decDigits n≠[]:=by
 intro h;have:=QRY n;by_cases h1:n < 10
 ·rw[decDigits_one h1]at h; cases h
 ·rw[decDigits,dif_neg h1]at h; simp at h
theorem QXF {n:Nat} (h:nDigits n≤18):atoiAll (decDigits n)= .ok (n:Int):=by
 rw[atoiAll_short _ (by rw[decDigits_length]; exact h)]
 have h1:=QRY n;have h2:=QSi n;have h3:=QSm n;cases hd:decDigits n with
 | nil=>exact absurd hd h3
 | cons b r=>
  rw[hd]at h1 h2;obtain⟨q1,q2⟩:=h2 b (by simp)
  have e1:(b==45)=false:=by
   cases hq:(b==45)with
   | false=>rfl
   | true=>rw[beq_iff_eq]at hq; subst hq; exact absurd q1 (by decide)
  have e2:(b==43)=false:=by
   cases hq:(b==43)with
   | false=>rfl
   | true=>rw[beq_iff_eq]at hq; subst hq; exact absurd q1 (by decide)
  have:decNat (b::r)=some n:=by unfold decNat; simpa using h1
  simp[atoi,e1,e2,this,NumEnd.ofOption]
end Go.Proofs.YticoemblgkemiaaGreatDoor
