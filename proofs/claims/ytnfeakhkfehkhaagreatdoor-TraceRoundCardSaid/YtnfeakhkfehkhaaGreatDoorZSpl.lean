/-
  Splitting lists of bytes at a byte, and joining them. No program here. Conditions: none.
-/
import Derived.Lib.SplitLaws
import Derived.Lib.AtoiTie
import Derived.Lib.ItoaNum
import Derived.Lib.Join
set_option linter.unusedSimpArgs false
set_option linter.unusedVariables false
namespace Go.Proofs.YtnfeakhkfehkhaaGreatDoor
open Go.Lib
def QIV (x:UInt8):List (List UInt8)->List (List UInt8)
 | []=>[[x]]
 | h::r=>(x::h)::r
def QIg (c:UInt8):List UInt8->List (List UInt8)
 | []=>[[]]
 | x::t=>if x=c then []::QIg c t else QIV x (QIg c t)
theorem QIu (c x:UInt8) (t:List UInt8):QIg c (x::t)=if x=c then []::QIg c t else QIV x (QIg c t):=rfl
theorem QIp (c:UInt8):∀l,QIg c l≠[]
 | []=>by simp[QIg]
 | x::t=>by
  unfold QIg;split
  .simp
  .cases QIg c t<;>simp[QIV]
theorem QIR {c:UInt8} :∀{l:List UInt8},c∉l->QIg c l=[l]
 | [],_=>rfl
 | x::t,h=>by
  simp only[List.mem_cons,not_or]at h;unfold QIg;rw[if_neg (λe=>h.1 e.symm),QIR h.2]; rfl
theorem QIE {c:UInt8} :∀{a:List UInt8} (b:List UInt8),c∉a->QIg c (a++c::b)=a::QIg c b
 | [],b,_=>by simp[QIg]
 | x::t,b,h=>by
  simp only[List.mem_cons,not_or]at h;rw[List.cons_append,QIu,if_neg (λe=>h.1 e.symm),QIE b h.2]; rfl
theorem QIJ (bJ a:List UInt8) (r:List (List UInt8)) (h:r≠[]):join (a::r) bJ=a++bJ++join r bJ:=by
 cases r with
 | nil=>exact absurd rfl h
 | cons b t=>simp[join,List.intercalate,List.intersperse]
theorem QIs (c:UInt8):∀l,join (QIg c l) [c]=l
 | []=>by simp[QIg,join_one]
 | x::t=>by
  unfold QIg;split
  .rename_i e;rw[QIJ _ _ _ (QIp c t),QIs c t,e]; rfl
  .have ih:=QIs c t;cases hs:QIg c t with
   | nil=>exact absurd hs (QIp c t)
   | cons q r=>
    rw[hs]at ih;simp only[QIV];cases r with
    | nil=>rw[join_one]at ih|-; rw[ih]
    | cons q2 r2=>
     rw[QIJ _ _ _ (by simp)]at ih|-
     rw[List.cons_append,List.cons_append,ih]
theorem QIP {c:UInt8} :∀{l:List (List UInt8)},l≠[]->(∀p∈l,c∉p)->QIg c (join l [c])=l
 | [],h,_=>absurd rfl h
 | [a],_,h=>by rw[join_one]; exact QIR (h a (by simp))
 | a::b::t,_,h=>by
  rw[QIJ _ _ _ (by simp),List.append_assoc]
  have:=QIE (join (b::t) [c]) (h a (by simp))
  rw[show a++([c]++join (b::t) [c])=a++c::join (b::t) [c]from rfl,this,QIP (by simp) λp hp=>h p (by simp[hp])]
theorem QIw (c:UInt8) (t:List UInt8):index (c::t) [c]=0:=by simp[index,List.isPrefixOf]
theorem QIm {c x:UInt8} (t:List UInt8) (h:x≠c):index (x::t) [c]=if index t [c]= -1 then -1 else index t [c]+1:=by
 have:([c]:List UInt8).isPrefixOf (x::t)=false:=by simp[List.isPrefixOf,h.symm]
 simp[index,this]
theorem QJl {c x:UInt8} (h:x≠c) (t:List UInt8):∀k,splitK [c] 0 k (x::t)=QIV x (splitK [c] 0 k t)
 | 0=>rfl
 | k+1=>by
  unfold splitK;rw[QIm t h];have hge:=index_ge t [c];by_cases h1:index t [c]= -1
  .simp[h1,QIV]
  .rw[if_neg h1];have h2:¬(index t [c]+1== -1)=true:=by simp; omega
   have h3:¬(index t [c]== -1)=true:=by simpa using h1
   rw[if_neg h2,if_neg h3];obtain⟨i,hi⟩:∃i:Nat,index t [c]=i:=⟨(index t [c]).toNat,by omega⟩
   rw[hi];have e1:((i:Int)+1).toNat=i+1:=by omega
   simp[QIV,e1]
theorem QIN (c:UInt8):∀l,split l [c]=QIg c l
 | []=>rfl
 | x::t=>by
  unfold split;by_cases h:x=c
  .subst h;rw[count_cons_eq,Nat.add_comm];unfold splitK;rw[QIw];have ih:=QIN x t;unfold split at ih;simp[QIg,ih]
  .rw[count_cons_ne x c t h,QJl h];have ih:=QIN c t;unfold split at ih;rw[ih];simp[QIg,h]
theorem QIZ (c:UInt8) (s:ByteArray):(splitB ⟨#[c]⟩ 0 (countB s ⟨#[c]⟩) s).map (·.data.toList)=QIg c s.data.toList:=by
 rw[splitB_data];exact QIN c s.data.toList
theorem QJP {c:UInt8} :∀{a:List UInt8} (b:List UInt8),c∉a->cut (a++c::b) [c]=(a,b,true)
 | [],b,_=>by simp[cut,QIw]
 | x::t,b,h=>by
  simp only[List.mem_cons,not_or]at h;have ih:=QJP b h.2;unfold cut at ih|-;simp only[List.cons_append];rw[QIm _ (λe=>h.1 e.symm)];have hge:=index_ge (t++c::b) [c];split at ih
  .rename_i h0;obtain⟨i,hi⟩:∃i:Nat,index (t++c::b) [c]=i:=⟨(index (t++c::b) [c]).toNat,by omega⟩
   rw[hi]at ih|-;have e1:((i:Int)+1).toNat=i+1:=by omega
   have e0:(if(i:Int)= -1 then(-1:Int)else i+1)=((i+1:Nat):Int):=by rw[if_neg (by omega)]; rfl
   rw[e0,if_pos (by omega),Int.toNat_natCast]
   simp only[Int.toNat_natCast,Prod.mk.injEq]at ih;obtain⟨q1,q2,_⟩:=ih;simp only[List.take_succ_cons,Prod.mk.injEq,and_true];refine⟨by rw[q1],?_⟩
   simpa using q2
  .simp at ih
theorem QJ0 {c:UInt8} {a:List UInt8} (h:c∉a):cut a [c]=(a,[],false):=by
 have:index a [c]= -1:=by
  induction a with
  | nil=>rfl
  | cons x t ih=>
   simp only[List.mem_cons,not_or]at h;rw[QIm _ (λe=>h.1 e.symm),ih h.2]; rfl
 unfold cut;rw[this]; rfl
theorem QJ3 {c:UInt8} {s a b:List UInt8} (h:cut s [c]=(a,b,true)):s=a++c::b/\c∉a:=by
 by_cases hc:c∈s
 .obtain⟨a',b',e1,e2⟩:=List.eq_append_cons_of_mem hc;subst e1;rw[QJP b' e2]at h;simp only[Prod.mk.injEq,and_true]at h;obtain⟨rfl,rfl⟩:=h;exact⟨rfl,e2⟩
 .rw[QJ0 hc]at h; cases h
def QJb (x:UInt8):List (List UInt8)->List (List UInt8)
 | []=>[[x]]
 | [h]=>[h++[x]]
 | h::t=>h::QJb x t
theorem QJc (x:UInt8):∀(P:List (List UInt8)) (q:List UInt8),QJb x (P++[q])=P++[q++[x]]
 | [],q=>rfl
 | [p],q=>rfl
 | p::p2::t,q=>by
  show p::QJb x (p2::t++[q])=_;rw[QJc x (p2::t) q]; rfl
theorem QJw {x:UInt8} (h:List UInt8) {t:List (List UInt8)} (ht:t≠[]):QJb x (h::t)=h::QJb x t:=by
 cases t with
 | nil=>exact absurd rfl ht
 | cons a b=>rfl
theorem QJk {x y:UInt8} {l:List (List UInt8)} (hl:l≠[]):QJb x (QIV y l)=QIV y (QJb x l):=by
 match l,hl with
 | [h],_=>rfl
 | h::a::t,_=>rfl
theorem QIO {c x:UInt8} :∀(l:List UInt8),QIg c (l++[x])=if x=c then QIg c l++[[]]else QJb x (QIg c l)
 | []=>by
  by_cases h:x=c
  .rw[if_pos h]; simp[QIg,h]
  .rw[if_neg h]; simp[QIg,h,QIV,QJb]
 | y::t=>by
  rw[List.cons_append,QIu,QIu,QIO t];by_cases hx:x=c<;>by_cases hy:y=c
  .simp[hx,hy]
  .simp only[if_pos hx,if_neg hy];cases hs:QIg c t with
   | nil=>exact absurd hs (QIp c t)
   | cons q r=>rfl
  .simp only[if_neg hx,if_pos hy];rw[QJw _ (QIp c t)]
  .simp only[if_neg hx,if_neg hy];exact(QJk (QIp c t)).symm
theorem QIT (l2:List UInt8):∀(l1:List UInt8) (acc:Nat),decFrom acc (l1++l2)=(decFrom acc l1).bind λa=>decFrom a l2
 | [],acc=>rfl
 | b::t,acc=>by
  simp only[List.cons_append,decFrom];cases digitVal b with
  | none=>rfl
  | some d=>exact QIT l2 t _
theorem QJf {n:Nat} (h:n < 10):digitVal (UInt8.ofNat (48+n))=some n:=by
 unfold digitVal;have:(UInt8.ofNat (48+n)).toNat=48+n:=by simp; omega
 rw[this,if_pos (by omega)]
 simp
theorem QIr (n:Nat):decFrom 0 (decDigits n)=some n:=by
 induction n using Nat.strongRecOn with
 | ind n ih=>
  by_cases h:n < 10
  .rw[decDigits_one h];simp only[decFrom,QJf h,Nat.zero_mul,Nat.zero_add]
  .rw[decDigits,dif_neg h,QIT,ih (n / 10) (by omega)]
   simp only[Option.bind_some,decFrom,QJf (show n % 10 < 10 by omega),Option.some.injEq]
   omega
theorem QIC (n:Nat):∀c∈decDigits n,48<=c.toNat/\c.toNat<=57:=by
 induction n using Nat.strongRecOn with
 | ind n ih=>
  have one:∀m,m < 10->48<=(UInt8.ofNat (48+m)).toNat/\(UInt8.ofNat (48+m)).toNat<=57:=λm hm=>by
   have:(UInt8.ofNat (48+m)).toNat=48+m:=by simp; omega
   omega
  intro c hc;by_cases h:n < 10
  .rw[decDigits_one h,List.mem_singleton]at hc;subst hc; exact one n h
  .rw[decDigits,dif_neg h,List.mem_append,List.mem_singleton]at hc;rcases hc with hc | hc
   .exact ih (n / 10) (by omega) c hc
   .subst hc; exact one _ (by omega)
theorem QIG (n:Nat):decDigits n≠[]:=by
 intro h;have:=QIr n;by_cases h1:n < 10
 .rw[decDigits_one h1]at h; cases h
 .rw[decDigits,dif_neg h1]at h; simp at h
theorem QJY {n:Nat} (h:nDigits n<=18):atoiAll (decDigits n)= .ok (n:Int):=by
 rw[atoiAll_short _ (by rw[decDigits_length]; exact h)]
 have h1:=QIr n;have h2:=QIC n;have h3:=QIG n;cases hd:decDigits n with
 | nil=>exact absurd hd h3
 | cons b r=>
  rw[hd]at h1 h2;obtain⟨q1,q2⟩:=h2 b (by simp)
  have e1:(b==45)=false:=by
   cases hq:(b==45)with
   | false=>rfl
   | true=>rw[beq_iff_eq]at hq; subst hq; exact absurd q1 (by decide)
  have e2:(b==43)=false:=by
   cases hq:(b==43)with
   | false=>rfl
   | true=>rw[beq_iff_eq]at hq; subst hq; exact absurd q1 (by decide)
  have:decNat (b::r)=some n:=by unfold decNat; simpa using h1
  simp[atoi,e1,e2,this,NumEnd.ofOption]
theorem QJ4 (n:Nat):itoa (n:Int)=decDigits n:=by
 unfold itoa;rw[if_neg (by omega),Int.toNat_natCast]
end Go.Proofs.YtnfeakhkfehkhaaGreatDoor
