/-
  The book of the examples: what the reference says of it. No walk here. Conditions: none.
-/
import Derived.Test.YticoemblgkemiaaGreatDoorZRdD
import Derived.Test.YticoemblgkemiaaGreatDoorZPrS
set_option linter.unusedSimpArgs false
set_option linter.unusedVariables false
namespace Go.Proofs.YticoemblgkemiaaGreatDoor
open Go.RowKit
def Qcs (d:Int):List Bat:=[⟨⟨#[97]⟩,100,100,false,[]⟩,⟨⟨#[98]⟩,80,80,false,[]⟩,⟨⟨#[99]⟩,60,20,false,[⟨0,40⟩]⟩,⟨⟨#[100]⟩,d,10,true,[]⟩,⟨⟨#[101]⟩,40,0,false,[⟨2,30⟩,⟨3,10⟩]⟩]
theorem QCv:Qaf (Qcs 50)=(0,0,0):=by decide+kernel
theorem QJW:Qaf (Qcs 140)=(0,0,0):=by decide+kernel
theorem chk4:Qaf ((Qcs 50).take 4)=(0,0,0):=by decide+kernel
theorem Qnd {b:List Bat} (h:Qaf b=(0,0,0)) {i:Nat} (hi:i < b.length):QbB b i=0:=by
 unfold QbB;rw[h,if_pos rfl,if_pos (Qal.2 (by omega))]
theorem Qxz {b:List Bat} (h:Qaf b=(0,0,0)) {i:Nat} (hi:i < b.length):Qgz b i=(QcE (λk=>k != i&&Qlp b k i) b.length,QcE (λk=>k != i&&QCH b k i) b.length,0):=by
 have hv:=(QbQ b).1 (by rw[h])
 unfold Qgz;rw[if_pos (Qnd h hi),Int.toNat_natCast];have e1:QcE (Qe6 b i) b.length=QcE (λk=>k != i&&Qlp b k i) b.length:=Qcp λk hk=>by unfold Qe6; rw[QnC hv hk hi]
 have e2:QcE (Qb3 b i) b.length=QcE (λk=>k != i&&QCH b k i) b.length:=Qcp λk hk=>by unfold Qb3; rw[Qwq hv hk hi]
 rw[e1,e2]
theorem a2:Qgz (Qcs 50) 4=([0,2,3],[0,1,2,3],0):=by
 have:=Qxz QCv (i:=4) (by decide)
 rw[show((4:Nat):Int)=4 from rfl]at this;rw[this]; decide+kernel
theorem QCm {b:List Bat} (h:Qaf b=(0,0,0)) {i:Nat} (hi:i < b.length):Qnn b i=(QbH b i,0):=by
 unfold Qnn;rw[if_pos (Qnd h hi),Int.toNat_natCast]
theorem lv (b:List Bat) (i:Nat) (l h:Int) (h1:(QbH b i).lo=l) (h2:(QbH b i).hi=h):QbH b i=⟨l,h⟩:=by
 rw[<-h1,<-h2]
theorem a3:Qnn (Qcs 140) 1=(⟨0,40⟩,0):=by
 have:=QCm QJW (i:=1) (by decide)
 rw[lv (Qcs 140) 1 0 40 (by decide+kernel) (by decide+kernel)]at this
 exact this
def Qrf:ByteArray:=⟨#[97,32,49,48,48,32,49,48,48,10,98,32,56,48,32,56,48,10,99,32,54,48,32,50,48,32,97,32,52,48,10,100,32,53,48,32,49,48,32,108,111,115,116,10]⟩
theorem QBj:Qfg ((Qcs 50).take 4)=Qrf:=by decide+kernel
theorem a5:QiQ ((Qcs 50).take 4)=(Qrf,0):=by
 unfold QiQ;rw[chk4,if_pos rfl,QBj]
theorem Qys {t s:ByteArray} {l:List Bat} {k:Nat} (h:runP t k=some (s,l)) (hz:s.size=0):runP t (k+1)=none:=by
 simp only[runP,h,if_pos hz]
theorem a6:QkC Qrf=((Qcs 50).take 4,0):=by
 have h:runP Qrf 4=some (⟨#[]⟩,(Qcs 50).take 4):=by kernel_rfl
 have hz:(⟨#[]⟩:ByteArray).size=0:=rfl;rw[QrO (by decide) h (Qys h hz),if_pos ⟨hz,by rw[chk4]⟩]
end Go.Proofs.YticoemblgkemiaaGreatDoor
