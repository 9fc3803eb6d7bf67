/-
  Reference functions of the trace chapter: what is written. Conditions: none.
-/
import Derived.Test.YticoemblgkemiaaGreatDoorZRefH
set_option linter.unusedSimpArgs false
set_option linter.unusedVariables false
namespace Go.Proofs.YticoemblgkemiaaGreatDoor
open Go.RowKit
def QDz (n:Nat):ByteArray:=⟨(Lib.decDigits n).toArray⟩
theorem QlH:∀(k u:Nat),1<=k->u < 10 ^ k->Lib.nDigits u<=k
 | 0,u,h,_=>by omega
 | k+1,u,_,h=>by
  rw[Lib.nDigits];split
  .omega
  .rename_i tQ;have hk:1<=k:=by
    cases k with
    | zero=>simp at h; omega
    | succ k=>omega
   have:=QlH k (u / 10) hk (by rw[Nat.pow_succ]at h; omega)
   omega
theorem Qxy {n k:Nat} (hk:1<=k) (h:n < 10 ^ k):(QDz n).size<=k:=by
 have:=QlH k n hk h;unfold QDz;simp only[ByteArray.size,List.size_toArray,Lib.decDigits_length];exact this
def Qpm (s:ByteArray) (b:Int):Nat->List ByteArray×Nat
 | 0=>([],0)
 | i+1=>if QaL s i=b then((Qpm s b i).1++[s.extract (Qpm s b i).2 i],i+1)else Qpm s b i
def QJM (s:ByteArray) (b:Int):List ByteArray:=(Qpm s b s.size).1++[s.extract (Qpm s b s.size).2 s.size]
def digB (s:ByteArray) (i:Nat):Bool:=inR (QaL s i) 48 57
def numS (s:ByteArray):Nat->Int
 | 0=>0
 | i+1=>10*numS s i+(QaL s i - 48)
def QO3 (s:ByteArray):Int:=if inR s.size 1 6=false then -1 else if(List.range s.size).all (digB s)=true then numS s s.size else -1
def spB:ByteArray:=⟨#[32]⟩
def nlB:ByteArray:=⟨#[10]⟩
def ltB:ByteArray:=⟨#[32,108,111,115,116]⟩
theorem z_sp:spB.size=1:=rfl
theorem z_nl:nlB.size=1:=rfl
theorem z_lt:ltB.size=5:=rfl
def Qls (o:ByteArray) (x:Bat):ByteArray:=o++x.name++spB++QDz x.grams.toNat++spB++QDz x.fresh.toNat
def Qo6 (o:ByteArray) (x:Bat):ByteArray:=if x.lost=true then o++ltB else o
def Qqx (b:List Bat) (x:Bat) (o:ByteArray):Nat->ByteArray
 | 0=>o
 | j+1=>Qqx b x o j++spB++(b.getD (x.takes.getD j default).fr.toNat default).name++spB++QDz (x.takes.getD j default).gr.toNat
def Qfh (b:List Bat):Nat->ByteArray
 | 0=>⟨#[]⟩
 | k+1=>Qqx b (b.getD k default) (Qo6 (Qls (Qfh b k) (b.getD k default)) (b.getD k default)) (b.getD k default).takes.length++nlB
def Qfg (b:List Bat):ByteArray:=Qfh b b.length
@[simp] theorem textT_zero (b : List Bat) (x : Bat) (o : ByteArray) : Qqx b x o 0 = o := rfl
theorem QvU {s:ByteArray} (h:Qbz s=true):s.size<=20:=by
 unfold Qbz at h;simp only[Za,Qal]at h;omega
theorem QOf {n:Int} (h:n<=100000):(QDz n.toNat).size<=6:=Qxy (by omega) (by omega)
theorem QlD {b:List Bat} (h:BookOk b) {k:Nat} (hk:k < b.length) (o:ByteArray):(Qls o b[k]).size<=o.size+34:=by
 have hb:=h.at hk;have h1:=QvU hb.name;have h2:=QOf (n:=b[k].grams) (by have:=hb.grams; omega)
 have h3:=QOf (n:=b[k].fresh) (by have:=hb.grams; have:=hb.fresh; omega)
 simp only[Qls,ByteArray.size_append,z_sp];omega
theorem Qmq (o:ByteArray) (x:Bat):(Qo6 o x).size<=o.size+5:=by
 unfold Qo6;split
 .rw[ByteArray.size_append,z_lt]; exact Zr _
 .omega
theorem Qh6 {b:List Bat} (h:BookOk b) {k:Nat} (hk:k < b.length) (o:ByteArray):∀j,j<=b[k].takes.length->(Qqx b b[k] o j).size<=o.size+28*j
 | 0,_=>by simp
 | j+1,hj=>by
  have ih:=Qh6 h hk o j (by omega)
  have hb:=h.at hk;have hm:=Ze (by omega:j < b[k].takes.length)
  have hf:=hb.fr _ hm;have hg:=hb.gr _ hm;have h2:=QOf (n:=b[k].takes[j].gr) (by omega)
  have kK:b[k].takes[j].fr.toNat < b.length:=by omega
  have h3:=QvU (h.at kK).name;rw[Qqx,Ql _ j _ (by omega),Ql _ _ _ kK]
  simp only[ByteArray.size_append,z_sp];omega
theorem QlV {b:List Bat} (h:BookOk b):∀k,k<=b.length->(Qfh b k).size<=264*k
 | 0,_=>by show(0:Nat)<=264*0; exact Nat.zero_le _
 | k+1,hk=>by
  have ih:=QlV h k (by omega)
  have hb:=h.at (i:=k) (by omega)
  have xO:b[k].takes.length<=8:=by have:=QeX hb.asc hb.fr; have:=h.le; omega
  have h1:=QlD h (k:=k) (by omega) (Qfh b k)
  have h2:=Qmq (Qls (Qfh b k) b[k]) b[k];have h3:=Qh6 h (k:=k) (by omega) (Qo6 (Qls (Qfh b k) b[k]) b[k]) b[k].takes.length (Zr _)
  rw[Qfh,Ql _ _ _ (by omega),ByteArray.size_append,z_nl]
  omega
noncomputable def QiQ (b:List Bat):ByteArray×Int:=if(Qaf b).2.2=0 then(Qfg b,0)else(⟨#[]⟩,(Qaf b).2.2)
def QEg (b:List Bat) (w:ByteArray):Nat->Int
 | 0=> -1
 | n+1=>if(b.getD n default).name.toList=w.toList then(n:Int)else QEg b w n
def QxU (b:List Bat) (W:List ByteArray):Nat->List Tak
 | 0=>[]
 | j+1=>QxU b W j++[⟨QEg b (W.getD (2*j+3) ⟨#[]⟩) b.length,QO3 (W.getD (2*j+4) ⟨#[]⟩)⟩]
def QPj (W:List ByteArray):Nat:=(W.length - 3) / 2
def batW (b:List Bat) (W:List ByteArray):Bat:=⟨W.getD 0 ⟨#[]⟩,if 3<=W.length then QO3 (W.getD 1 ⟨#[]⟩)else 0,if 3<=W.length then QO3 (W.getD 2 ⟨#[]⟩)else 0,decide (W.length=4),QxU b W (QPj W)⟩
def Qxc (L:List ByteArray):Nat->List Bat
 | 0=>[]
 | i+1=>Qxc L i++[batW (Qxc L i) (QJM (L.getD i ⟨#[]⟩) 32)]
@[simp] theorem takesW_zero (b : List Bat) (W : List ByteArray) : QxU b W 0 = [] := rfl
@[simp] theorem fromK_zero (b : List Bat) (w : ByteArray) : QEg b w 0 = -1 := rfl
@[simp] theorem parseK_zero (L : List ByteArray) : Qxc L 0 = [] := rfl
end Go.Proofs.YticoemblgkemiaaGreatDoor
