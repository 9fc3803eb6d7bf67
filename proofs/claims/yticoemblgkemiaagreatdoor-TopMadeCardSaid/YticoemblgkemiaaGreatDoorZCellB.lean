/-
  A variable of the call's own that holds the batches of a book. Conditions: none.
-/
import Derived.Test.YticoemblgkemiaaGreatDoorZRefF
set_option linter.unusedSimpArgs false
set_option linter.unusedVariables false
namespace Go.Proofs.YticoemblgkemiaaGreatDoor
open Go.RowKit
def Qbl (L:List Bat) (m:Nat):List X:=(L.map QQ.enc).flatten.map X.d++List.replicate m (.d .top)
theorem QDZ:∀L:List Bat,(L.map QQ.enc).flatten.length=L.length*5
 | []=>rfl
 | a::t=>by
  rw[List.map_cons,List.flatten_cons,List.length_append,QDZ t,List.length_cons,Qe];simp; omega
theorem QiN {L:List Bat} {i:Nat} (h:i < L.length) (m:Nat):∃P Q,P.length=i*5/\(∀c∈P,∃d,c=X.d d)/\(∀c∈Q,∃d,c=X.d d)/\Qbl L m=P++((QQ.enc L[i]).map X.d++Q)/\∀x,Qbl (L.set i x) m=P++((QQ.enc x).map X.d++Q):=by
 have key:∀x,Qbl (L.set i x) m=(((L.take i).map QQ.enc).flatten.map X.d)++((QQ.enc x).map X.d++(((L.drop (i+1)).map QQ.enc).flatten.map X.d++List.replicate m (.d .top))):=λx=>by
  unfold Qbl;rw[List.set_eq_take_append_cons_drop,if_pos h];simp
 refine⟨_,_,?_,?_,?_,?_,key⟩
 .rw[List.length_map,QDZ,List.length_take,Nat.min_eq_left (by omega)]
 .intro c hc;obtain⟨d,_,rfl⟩:=List.mem_map.1 hc; exact⟨d,rfl⟩
 .intro c hc;rcases Zp.1 hc with h | h
  .obtain⟨d,_,rfl⟩:=List.mem_map.1 h; exact⟨d,rfl⟩
  .exact⟨_,List.eq_of_mem_replicate h⟩
 .have:=key L[i]
  rwa [List.set_getElem_self]at this
theorem QfS {L:List Bat} {m:Nat} :∀c∈Qbl L m,∃d,c= .d d:=by
 intro c hc;unfold Qbl at hc;rcases Zp.1 hc with h | h
 .obtain⟨d,_,rfl⟩:=List.mem_map.1 h; exact⟨d,rfl⟩
 .exact⟨_,List.eq_of_mem_replicate h⟩
theorem QuX (L:List Bat) (m:Nat) (P:X->Prop) (h:∀d,P (.d d)):(∀c,c∈Qbl L m->P c)=True:=by
 refine eq_true λc hc=>?_;obtain⟨d,rfl⟩:=QfS c hc;exact h d
theorem Qlv (L:List Bat) (m:Nat):(Qbl L m).length=L.length*5+m:=by
 unfold Qbl;rw[List.length_append,List.length_map,QDZ,List.length_replicate]
theorem QuK {L:List Bat} {i:Nat} (h:i < L.length) (m:Nat) {c:Nat} (hc:c < 5):(Qbl L m)[i*5+c]?=((QQ.enc L[i])[c]?).map X.d:=by
 obtain⟨P,Q,h1,_,_,h2,_⟩:=QiN h m;rw[h2,List.getElem?_append_right (by omega),h1,show i*5+c - i*5=c by omega,List.getElem?_append_left (by simp[Qe]; omega),List.getElem?_map]
theorem Qps {L:List Bat} {i:Nat} (h:i < L.length) (m:Nat) {c:Nat} (hc:c < 5) {v:D} {x:Bat} (hx:QQ.enc x=(QQ.enc L[i]).set c v):(Qbl L m).take (i*5+c)++X.d v::(Qbl L m).drop (i*5+(c+1))=Qbl (L.set i x) m:=by
 obtain⟨P,Q,h1,_,_,h2,h3⟩:=QiN h m;have hl:((QQ.enc L[i]).map X.d).length=5:=by simp[Qe]
 rw[h3,h2,hx,List.take_append,h1,List.take_of_length_le (by omega),show i*5+c - i*5=c by omega,List.drop_append,h1,List.drop_eq_nil_of_le (by omega),show i*5+(c+1) - i*5=c+1 by omega,List.take_append_of_le_length (by omega),List.drop_append_of_le_length (by omega),List.map_set,List.set_eq_take_append_cons_drop,if_pos (by omega)]
 simp
theorem Qrx (l:List X) (h:∀c∈l,∃d,c=X.d d):l.map X.strip=l:=by
 have:l.map X.strip=l.map id:=List.map_congr_left λc hc=>by
  obtain⟨d,rfl⟩:=h c hc; rfl
 rw[this,List.map_id]
theorem QfE (kb:List (Nat×Nat×Nat)) (b:Nat) (h:∀j,Qeu kb b j=none):∀(cs:List X) (i:Nat) (av nw:List Nat),Qaz kb b i cs av nw=(cs.map X.strip,av,nw)
 | [],_,_,_=>rfl
 | x::t,i,av,nw=>by
  unfold Qaz;rw[h i];simp only[QfE kb b h t,List.map_cons]
theorem QB6 {kb:List (Nat×Nat×Nat)} {b:Nat} (h:∀j,Qeu kb b j=none) (L:List Bat) (m i:Nat) (av nw:List Nat):Qaz kb b i (Qbl L m) av nw=(Qbl L m,av,nw):=by
 rw[QfE kb b h,Qrx _ QfS]
theorem Qzk {kb:List (Nat×Nat×Nat)} {b:Nat} (hk:∀j,Qeu kb b j=none) {L:List Bat} {i:Nat} (h:i < L.length) (m:Nat) {R:List (List D)} {x:Bat} (hx:QQ.enc x=(QQ.enc L[i]).set 4 (.sl 2 R)) (n j:Nat) (av nw:List Nat):
  Qaz kb b j ((Qbl L m).take (i*5+4)++X.sl 2 R (.tok n)::(Qbl L m).drop (i*5+4+1)) av nw=(Qbl (L.set i x) m,av,nw):=by
 rw[QfE kb b hk,List.map_append,List.map_cons,Qrx _ λc hc=>QfS c (List.mem_of_mem_take hc),Qrx _ λc hc=>QfS c (List.mem_of_mem_drop hc),<-Qps h m (c:=4) (by omega) hx]
 rfl
theorem QH4 (L:List Bat) (σ1:St) (d m:Nat):QxQ σ1 d 5 (L.map QQ.enc) m=⟨(d,.bs d 0 L.length 5)::σ1.tmps,(d,Qbl L m)::σ1.boxes,σ1.toks,σ1.maps⟩:=by
 unfold QxQ Qbl;rw[List.length_map]
end Go.Proofs.YticoemblgkemiaaGreatDoor
