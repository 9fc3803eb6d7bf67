/-
  Reference functions of the trace chapter: what is written. Conditions: none.
-/
import Derived.Test.YtnfeakhkfehkhaaGreatDoorZRefH
set_option linter.unusedSimpArgs false
set_option linter.unusedVariables false
namespace Go.Proofs.YtnfeakhkfehkhaaGreatDoor
open Go.RowKit
def QyQ (n:Nat):ByteArray:=⟨(Lib.decDigits n).toArray⟩
theorem Qks:∀(k u:Nat),1<=k->u < 10 ^ k->Lib.nDigits u<=k
 | 0,u,h,_=>by omega
 | k+1,u,_,h=>by
  rw[Lib.nDigits];split
  .omega
  .rename_i h10;have hk:1<=k:=by
    cases k with
    | zero=>simp at h; omega
    | succ k=>omega
   have:=Qks k (u / 10) hk (by rw[Nat.pow_succ]at h; omega)
   omega
theorem Qv0 {n k:Nat} (hk:1<=k) (h:n < 10 ^ k):(QyQ n).size<=k:=by
 have:=Qks k n hk h;unfold QyQ;simp only[ByteArray.size,List.size_toArray,Lib.decDigits_length];exact this
def QHE (n:Int) (k:Nat):Prop:=0<=n/\n.toNat < 10 ^ k
instance (n:Int) (k:Nat):Decidable (QHE n k):=inferInstanceAs (Decidable (_/\_))
def QnX (s:ByteArray) (b:Int):Nat->List ByteArray×Nat
 | 0=>([],0)
 | i+1=>if Qaq s i=b then((QnX s b i).1++[s.extract (QnX s b i).2 i],i+1)else QnX s b i
def QFk (s:ByteArray) (b:Int):List ByteArray:=(QnX s b s.size).1++[s.extract (QnX s b s.size).2 s.size]
def QKk (s:ByteArray) (i:Nat):Bool:=inR (Qaq s i) 48 57
def QJa (s:ByteArray):Nat->Int
 | 0=>0
 | i+1=>10*QJa s i+(Qaq s i - 48)
def QH4 (s:ByteArray):Int:=if inR s.size 1 6=false then -1 else if(List.range s.size).all (QKk s)=true then QJa s s.size else -1
def spB:ByteArray:=⟨#[32]⟩
def nlB:ByteArray:=⟨#[10]⟩
def ltB:ByteArray:=⟨#[32,108,111,115,116]⟩
theorem z_sp:spB.size=1:=rfl
theorem z_nl:nlB.size=1:=rfl
theorem z_lt:ltB.size=5:=rfl
def QjU (o:ByteArray) (x:Bat):ByteArray:=o++x.name++spB++QyQ x.grams.toNat++spB++QyQ x.fresh.toNat
def Qn3 (o:ByteArray) (x:Bat):ByteArray:=if x.lost=true then o++ltB else o
def QpI (b:List Bat) (x:Bat) (o:ByteArray):Nat->ByteArray
 | 0=>o
 | j+1=>QpI b x o j++spB++(b.getD (x.takes.getD j default).fr.toNat default).name++spB++QyQ (x.takes.getD j default).gr.toNat
def Qer (b:List Bat):Nat->ByteArray
 | 0=>⟨#[]⟩
 | k+1=>QpI b (b.getD k default) (Qn3 (QjU (Qer b k) (b.getD k default)) (b.getD k default)) (b.getD k default).takes.length++nlB
def Qeu (b:List Bat):ByteArray:=Qer b b.length
@[simp] theorem textT_zero (b : List Bat) (x : Bat) (o : ByteArray) : QpI b x o 0 = o := rfl
theorem QvR {s:ByteArray} (h:Qbe s=true):s.size<=20:=by
 unfold Qbe at h;simp only[Za,Qau]at h;omega
theorem QHs {n:Int} (h:n<=100000):(QyQ n.toNat).size<=6:=Qv0 (by omega) (by omega)
theorem Qk3 {b:List Bat} (h:BookOk b) {k:Nat} (hk:k < b.length) (o:ByteArray):(QjU o b[k]).size<=o.size+34:=by
 have hb:=h.at hk;have h1:=QvR hb.name;have h2:=QHs (n:=b[k].grams) (by have:=hb.grams; omega)
 have h3:=QHs (n:=b[k].fresh) (by have:=hb.grams; have:=hb.fresh; omega)
 simp only[QjU,ByteArray.size_append,z_sp];omega
theorem Qkt (o:ByteArray) (x:Bat):(Qn3 o x).size<=o.size+5:=by
 unfold Qn3;split
 .rw[ByteArray.size_append,z_lt]; exact Zr _
 .omega
theorem Qhm {b:List Bat} (h:BookOk b) {k:Nat} (hk:k < b.length) (o:ByteArray):∀j,j<=b[k].takes.length->(QpI b b[k] o j).size<=o.size+28*j
 | 0,_=>by simp
 | j+1,hj=>by
  have ih:=Qhm h hk o j (by omega)
  have hb:=h.at hk;have hm:=Ze (by omega:j < b[k].takes.length)
  have hf:=hb.fr _ hm;have hg:=hb.gr _ hm;have h2:=QHs (n:=b[k].takes[j].gr) (by omega)
  have lM:b[k].takes[j].fr.toNat < b.length:=by omega
  have h3:=QvR (h.at lM).name;rw[QpI,Qj _ j _ (by omega),Qj _ _ _ lM]
  simp only[ByteArray.size_append,z_sp];omega
theorem QkN {b:List Bat} (h:BookOk b):∀k,k<=b.length->(Qer b k).size<=264*k
 | 0,_=>by show(0:Nat)<=264*0; exact Nat.zero_le _
 | k+1,hk=>by
  have ih:=QkN h k (by omega)
  have hb:=h.at (i:=k) (by omega)
  have uP:b[k].takes.length<=8:=by have:=Qdy hb.asc hb.fr; have:=h.le; omega
  have h1:=Qk3 h (k:=k) (by omega) (Qer b k)
  have h2:=Qkt (QjU (Qer b k) b[k]) b[k];have h3:=Qhm h (k:=k) (by omega) (Qn3 (QjU (Qer b k) b[k]) b[k]) b[k].takes.length (Zr _)
  rw[Qer,Qj _ _ _ (by omega),ByteArray.size_append,z_nl]
  omega
noncomputable def QhL (b:List Bat):ByteArray×Int:=if(Q5 b).2.2=0 then(Qeu b,0)else(⟨#[]⟩,(Q5 b).2.2)
theorem QJ5 {b:List Bat} (h:bkB b=true):s18 [.sl 5 (b.map QO.enc)]=some (.tup [DI (Q5 b).1,DI (Q5 b).2.1,DI (Q5 b).2.2]):=by
 simp only[s18,sp1,QR];rw[if_pos h]; rfl
def QCf (b:List Bat) (w:ByteArray):Nat->Int
 | 0=> -1
 | n+1=>if(b.getD n default).name.toList=w.toList then(n:Int)else QCf b w n
def Qty (b:List Bat) (W:List ByteArray):Nat->List Tak
 | 0=>[]
 | j+1=>Qty b W j++[⟨QCf b (W.getD (2*j+3) ⟨#[]⟩) b.length,QH4 (W.getD (2*j+4) ⟨#[]⟩)⟩]
def QHS (W:List ByteArray):Nat:=(W.length - 3) / 2
def QKr (b:List Bat) (W:List ByteArray):Bat:=⟨W.getD 0 ⟨#[]⟩,if 3<=W.length then QH4 (W.getD 1 ⟨#[]⟩)else 0,if 3<=W.length then QH4 (W.getD 2 ⟨#[]⟩)else 0,decide (W.length=4),Qty b W (QHS W)⟩
def Qu1 (L:List ByteArray):Nat->List Bat
 | 0=>[]
 | i+1=>Qu1 L i++[QKr (Qu1 L i) (QFk (L.getD i ⟨#[]⟩) 32)]
@[simp] theorem takesW_zero (b : List Bat) (W : List ByteArray) : Qty b W 0 = [] := rfl
@[simp] theorem fromK_zero (b : List Bat) (w : ByteArray) : QCf b w 0 = -1 := rfl
@[simp] theorem parseK_zero (L : List ByteArray) : Qu1 L 0 = [] := rfl
end Go.Proofs.YtnfeakhkfehkhaaGreatDoor
