/-
  A variable of the call's own that holds the batches of a book. Conditions: none.
-/
import Derived.Test.YtnfeakhkfehkhaaGreatDoorZRefF
set_option linter.unusedSimpArgs false
set_option linter.unusedVariables false
namespace Go.Proofs.YtnfeakhkfehkhaaGreatDoor
open Go.RowKit
def QLh (L:List Bat) (m:Nat):List X:=(L.map QO.enc).flatten.map X.d++List.replicate m (.d .top)
theorem QNr:∀L:List Bat,(L.map QO.enc).flatten.length=L.length*5
 | []=>rfl
 | a::t=>by
  rw[List.map_cons,List.flatten_cons,List.length_append,QNr t,List.length_cons,Qh];simp; omega
theorem QLG {L:List Bat} {i:Nat} (h:i < L.length) (m:Nat):∃P Q,P.length=i*5/\(∀c∈P,∃d,c=X.d d)/\(∀c∈Q,∃d,c=X.d d)/\QLh L m=P++((QO.enc L[i]).map X.d++Q)/\∀x,QLh (L.set i x) m=P++((QO.enc x).map X.d++Q):=by
 have key:∀x,QLh (L.set i x) m=(((L.take i).map QO.enc).flatten.map X.d)++((QO.enc x).map X.d++(((L.drop (i+1)).map QO.enc).flatten.map X.d++List.replicate m (.d .top))):=λx=>by
  unfold QLh;rw[List.set_eq_take_append_cons_drop,if_pos h];simp
 refine⟨_,_,?_,?_,?_,?_,key⟩
 .rw[List.length_map,QNr,List.length_take,Nat.min_eq_left (by omega)]
 .intro c hc;obtain⟨d,_,rfl⟩:=List.mem_map.1 hc; exact⟨d,rfl⟩
 .intro c hc;rcases Zp.1 hc with h | h
  .obtain⟨d,_,rfl⟩:=List.mem_map.1 h; exact⟨d,rfl⟩
  .exact⟨_,List.eq_of_mem_replicate h⟩
 .have:=key L[i]
  rwa [List.set_getElem_self]at this
theorem QLw {L:List Bat} {m:Nat} :∀c∈QLh L m,∃d,c= .d d:=by
 intro c hc;unfold QLh at hc;rcases Zp.1 hc with h | h
 .obtain⟨d,_,rfl⟩:=List.mem_map.1 h; exact⟨d,rfl⟩
 .exact⟨_,List.eq_of_mem_replicate h⟩
theorem QMC (L:List Bat) (m:Nat) (P:X->Prop) (h:∀d,P (.d d)):(∀c,c∈QLh L m->P c)=True:=by
 refine eq_true λc hc=>?_;obtain⟨d,rfl⟩:=QLw c hc;exact h d
theorem QLP (L:List Bat) (m:Nat):(QLh L m).length=L.length*5+m:=by
 unfold QLh;rw[List.length_append,List.length_map,QNr,List.length_replicate]
theorem QL8 {L:List Bat} {i:Nat} (h:i < L.length) (m:Nat) {c:Nat} (hc:c < 5) {v:D} {x:Bat} (hx:QO.enc x=(QO.enc L[i]).set c v):(QLh L m).take (i*5+c)++X.d v::(QLh L m).drop (i*5+(c+1))=QLh (L.set i x) m:=by
 obtain⟨P,Q,h1,_,_,h2,h3⟩:=QLG h m;have hl:((QO.enc L[i]).map X.d).length=5:=by simp[Qh]
 rw[h3,h2,hx,List.take_append,h1,List.take_of_length_le (by omega),show i*5+c - i*5=c by omega,List.drop_append,h1,List.drop_eq_nil_of_le (by omega),show i*5+(c+1) - i*5=c+1 by omega,List.take_append_of_le_length (by omega),List.drop_append_of_le_length (by omega),List.map_set,List.set_eq_take_append_cons_drop,if_pos (by omega)]
 simp
theorem QMg (l:List X) (h:∀c∈l,∃d,c=X.d d):l.map X.strip=l:=by
 have:l.map X.strip=l.map id:=List.map_congr_left λc hc=>by
  obtain⟨d,rfl⟩:=h c hc; rfl
 rw[this,List.map_id]
theorem QLt (kb:List (Nat×Nat×Nat)) (b:Nat) (h:∀j,QfB kb b j=none):∀(cs:List X) (i:Nat) (av nw:List Nat),Qaw kb b i cs av nw=(cs.map X.strip,av,nw)
 | [],_,_,_=>rfl
 | x::t,i,av,nw=>by
  unfold Qaw;rw[h i];simp only[QLt kb b h t,List.map_cons]
theorem QNj {kb:List (Nat×Nat×Nat)} {b:Nat} (h:∀j,QfB kb b j=none) (L:List Bat) (m i:Nat) (av nw:List Nat):Qaw kb b i (QLh L m) av nw=(QLh L m,av,nw):=by
 rw[QLt kb b h,QMg _ QLw]
theorem QNC (L:List Bat) (σ1:St) (d m:Nat):QMJ σ1 d 5 (L.map QO.enc) m=⟨(d,.bs d 0 L.length 5)::σ1.tmps,(d,QLh L m)::σ1.boxes,σ1.toks,σ1.maps⟩:=by
 unfold QMJ QLh;rw[List.length_map]
end Go.Proofs.YtnfeakhkfehkhaaGreatDoor
