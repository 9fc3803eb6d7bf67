/-
  The book of the examples: what the reference says of it. No walk here. Conditions: none.
-/
import Derived.Test.YtnfeakhkfehkhaaGreatDoorZRdD
import Derived.Test.YtnfeakhkfehkhaaGreatDoorZPrV
set_option linter.unusedSimpArgs false
set_option linter.unusedVariables false
namespace Go.Proofs.YtnfeakhkfehkhaaGreatDoor
open Go.RowKit
def Qb6 (d:Int):List Bat:=[⟨⟨#[97]⟩,100,100,false,[]⟩,⟨⟨#[98]⟩,80,80,false,[]⟩,⟨⟨#[99]⟩,60,20,false,[⟨0,40⟩]⟩,⟨⟨#[100]⟩,d,10,true,[]⟩,⟨⟨#[101]⟩,40,0,false,[⟨2,30⟩,⟨3,10⟩]⟩]
theorem Qyk:Q5 (Qb6 50)=(0,0,0):=by decide+kernel
theorem QEa:Q5 (Qb6 140)=(0,0,0):=by decide+kernel
theorem chk4:Q5 ((Qb6 50).take 4)=(0,0,0):=by decide+kernel
theorem Qme {b:List Bat} (h:Q5 b=(0,0,0)) {i:Nat} (hi:i < b.length):QbH b i=0:=by
 unfold QbH;rw[h,if_pos rfl,if_pos (Qau.2 (by omega))]
theorem Qtt {b:List Bat} (h:Q5 b=(0,0,0)) {i:Nat} (hi:i < b.length):QeU b i=(Qc6 (λk=>k != i&&Qjz b i k) b.length,Qc6 (λk=>k != i&&QvJ b i k) b.length,0):=by
 have hv:=(Qbl b).1 (by rw[h])
 unfold QeU;rw[if_pos (Qme h hi),Int.toNat_natCast];have e1:Qc6 (comesM b i) b.length=Qc6 (λk=>k != i&&Qjz b i k) b.length:=QbX λk hk=>by unfold comesM; rw[Qi6 hv hi hk]
 have e2:Qc6 (comesY b i) b.length=Qc6 (λk=>k != i&&QvJ b i k) b.length:=QbX λk hk=>by unfold comesY; rw[Qq9 hv hi hk]
 rw[e1,e2]
theorem Qtk {b:List Bat} (h:Q5 b=(0,0,0)) {i:Nat} (hi:i < b.length):QgQ b i=(Qc6 (λk=>k != i&&Qjz b k i) b.length,Qc6 (λk=>k != i&&QvJ b k i) b.length,0):=by
 have hv:=(Qbl b).1 (by rw[h])
 unfold QgQ;rw[if_pos (Qme h hi),Int.toNat_natCast];have e1:Qc6 (Qek b i) b.length=Qc6 (λk=>k != i&&Qjz b k i) b.length:=QbX λk hk=>by unfold Qek; rw[Qi6 hv hk hi]
 have e2:Qc6 (Qep b i) b.length=Qc6 (λk=>k != i&&QvJ b k i) b.length:=QbX λk hk=>by unfold Qep; rw[Qq9 hv hk hi]
 rw[e1,e2]
def QG5 (b:List Bat) (c g:List Int) (i:Nat):List Int:=if(g.all λk=>!Qjz b i k.toNat)=true then c.filter (λk=>QvJ b i k.toNat)else []
def QGl (b:List Bat) (c g:List Int):List Int×Bool:=QkD (λm=>QaV (QbA ((List.range b.length).map (QG5 b c g)) c) b.length m []) (b.length+1) 0
theorem QBY {b:List Bat} (h:Q5 b=(0,0,0)) {c g:List Int} (hc:Qnc b c=true) (hg:Qnc b g=true):QjZ b c g=if(QGl b c g).2=true then((QGl b c g).1,0)else([],9):=by
 have hv:=(Qbl b).1 (by rw[h])
 have hc':=Qe8.1 hc;have jT:=Qe8.1 hg;unfold QjZ;have e0:QmO b c g=0:=by unfold QmO; rw[h,if_pos rfl,hc,hg]; rfl
 rw[if_pos e0];have e1:QhN b c g=(List.range b.length).map (QG5 b c g):=by
  unfold QhN Qur;refine List.map_congr_left λi hi=>?_;have hi:=Zm.1 hi;have f1:QcW b g (i:Int)=g.all λk=>!Qjz b i k.toNat:=by
   unfold QcW;rw[Bool.eq_iff_iff,Zl,Zl];refine forall_congr' λk=>forall_congr' λhk=>?_;have:=jT k hk;rw[Int.toNat_natCast,Qi6 hv hi (by omega)]
  have f2:c.filter (QsN b i)=c.filter (λk=>QvJ b i k.toNat):=List.filter_congr λk hk=>by
   have:=hc' k hk;unfold QsN;rw[Qq9 hv hi (by omega)]
  unfold QsT QG5;rw[f1,f2]
 have e2:Qqq b c g=QGl b c g:=by unfold Qqq QGl; rw[e1]
 rw[e2]
theorem a1:QeU (Qb6 50) 0=([2,4],[2,3,4],0):=by
 have:=Qtt Qyk (i:=0) (by decide)
 rw[show((0:Nat):Int)=0 from rfl]at this;rw[this]; decide+kernel
theorem a2:QgQ (Qb6 50) 4=([0,2,3],[0,1,2,3],0):=by
 have:=Qtk Qyk (i:=4) (by decide)
 rw[show((4:Nat):Int)=4 from rfl]at this;rw[this]; decide+kernel
theorem Qxd {b:List Bat} (h:Q5 b=(0,0,0)) {i:Nat} (hi:i < b.length):Qo4 b i=(Qj7 b i,0):=by
 unfold Qo4;rw[if_pos (Qme h hi),Int.toNat_natCast]
theorem lv (b:List Bat) (i:Nat) (l h:Int) (h1:(Qj7 b i).lo=l) (h2:(Qj7 b i).hi=h):Qj7 b i=⟨l,h⟩:=by
 rw[<-h1,<-h2]
theorem a3:Qo4 (Qb6 140) 1=(⟨0,40⟩,0):=by
 have:=Qxd QEa (i:=1) (by decide)
 rw[lv (Qb6 140) 1 0 40 (by decide+kernel) (by decide+kernel)]at this
 exact this
theorem a4:QjZ (Qb6 50) [3] [4]=([1],0):=by
 rw[QBY Qyk (by decide+kernel) (by decide+kernel)]; decide+kernel
def QoW:ByteArray:=⟨#[97,32,49,48,48,32,49,48,48,10,98,32,56,48,32,56,48,10,99,32,54,48,32,50,48,32,97,32,52,48,10,100,32,53,48,32,49,48,32,108,111,115,116,10]⟩
theorem Qwm:Qeu ((Qb6 50).take 4)=QoW:=by decide+kernel
theorem a5:QhL ((Qb6 50).take 4)=(QoW,0):=by
 unfold QhL;rw[chk4,if_pos rfl,Qwm]
theorem QtH {t s:ByteArray} {l:List Bat} {k:Nat} (h:runP t k=some (s,l)) (hz:s.size=0):runP t (k+1)=none:=by
 simp only[runP,h,if_pos hz]
theorem a6:Qir QoW=((Qb6 50).take 4,0):=by
 have h:runP QoW 4=some (⟨#[]⟩,(Qb6 50).take 4):=by kernel_rfl
 have hz:(⟨#[]⟩:ByteArray).size=0:=rfl;rw[QqT (by decide) h (QtH h hz),if_pos ⟨hz,by rw[chk4]⟩]
theorem a7:QeU (Qb6 50) 5=([],[],4):=by
 have e:QbH (Qb6 50) 5=4:=by unfold QbH; rw[Qyk]; decide+kernel
 unfold QeU;rw[e,if_neg (by decide)]
end Go.Proofs.YtnfeakhkfehkhaaGreatDoor
