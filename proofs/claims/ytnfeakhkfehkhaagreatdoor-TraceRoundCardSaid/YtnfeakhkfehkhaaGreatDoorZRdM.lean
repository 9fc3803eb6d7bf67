/-
  The book of the examples: what the reference says of it. No walk here. Conditions: none.
-/
import Derived.Test.YtnfeakhkfehkhaaGreatDoorZRdD
import Derived.Test.YtnfeakhkfehkhaaGreatDoorZPrV
set_option linter.unusedSimpArgs false
set_option linter.unusedVariables false
namespace Go.Proofs.YtnfeakhkfehkhaaGreatDoor
open Go.RowKit
def Qb6 (d:Int):List Bat:=[⟨⟨#[97]⟩,100,100,false,[]⟩,⟨⟨#[98]⟩,80,80,false,[]⟩,⟨⟨#[99]⟩,60,20,false,[⟨0,40⟩]⟩,⟨⟨#[100]⟩,d,10,true,[]⟩,⟨⟨#[101]⟩,40,0,false,[⟨2,30⟩,⟨3,10⟩]⟩]
theorem Qyk:Q5 (Qb6 50)=(0,0,0):=by decide+kernel
theorem QEa:Q5 (Qb6 140)=(0,0,0):=by decide+kernel
theorem chk4:Q5 ((Qb6 50).take 4)=(0,0,0):=by decide+kernel
theorem Qme {b:List Bat} (h:Q5 b=(0,0,0)) {i:Nat} (hi:i < b.length):QbH b i=0:=by
 unfold QbH;rw[h,if_pos rfl,if_pos (Qau.2 (by omega))]
theorem Qtt {b:List Bat} (h:Q5 b=(0,0,0)) {i:Nat} (hi:i < b.length):QeU b i=(Qc6 (λk=>k != i&&Qjz b i k) b.length,Qc6 (λk=>k != i&&QvJ b i k) b.length,0):=by
 have hv:=(Qbl b).1 (by rw[h])
 unfold QeU;rw[if_pos (Qme h hi),Int.toNat_natCast];have e1:Qc6 (comesM b i) b.length=Qc6 (λk=>k != i&&Qjz b i k) b.length:=QbX λk hk=>by unfold comesM; rw[Qi6 hv hi hk]
 have e2:Qc6 (comesY b i) b.length=Qc6 (λk=>k != i&&QvJ b i k) b.length:=QbX λk hk=>by unfold comesY; rw[Qq9 hv hi hk]
 rw[e1,e2]
theorem Qtk {b:List Bat} (h:Q5 b=(0,0,0)) {i:Nat} (hi:i < b.length):QgQ b i=(Qc6 (λk=>k != i&&Qjz b k i) b.length,Qc6 (λk=>k != i&&QvJ b k i) b.length,0):=by
 have hv:=(Qbl b).1 (by rw[h])
 unfold QgQ;rw[if_pos (Qme h hi),Int.toNat_natCast];have e1:Qc6 (Qek b i) b.length=Qc6 (λk=>k != i&&Qjz b k i) b.length:=QbX λk hk=>by unfold Qek; rw[Qi6 hv hk hi]
 have e2:Qc6 (Qep b i) b.length=Qc6 (λk=>k != i&&QvJ b k i) b.length:=QbX λk hk=>by unfold Qep; rw[Qq9 hv hk hi]
 rw[e1,e2]
def QG5 (b:List Bat) (c g:List Int) (i:Nat):List Int:=if(g.all λk=>!Qjz b i k.toNat)=true then c.filter (λk=>QvJ b i k.toNat)else []
def QGl (b:List Bat) (c g:List Int):List Int×Bool:=QkD (λm=>QaV (QbA ((List.range b.length).map (QG5 b c g)) c) b.length m []) (b.length+1) 0
theorem QBY {b:List Bat} (h:Q5 b=(0,0,0)) {c g:List Int} (hc:Qnc b c=true) (hg:Qnc b g=true):QjZ b c g=if(QGl b c g).2=true then((QGl b c g).1,0)else([],9):=by
 have hv:=(Qbl b).1 (by rw[h])
 have hc':=Qe8.1 hc;have jT:=Qe8.1 hg;unfold QjZ;have e0:QmO b c g=0:=by unfold QmO; rw[h,if_pos rfl,hc,hg]; rfl
 rw[if_pos e0];have e1:QhN b c g=(List.range b.length).map (QG5 b c g):=by
  unfold QhN Qur;refine List.map_congr_left λi hi=>?_;have hi:=Zm.1 hi;have f1:QcW b g (i:Int)=g.all λk=>!Qjz b i k.toNat:=by
   unfold QcW;rw[Bool.eq_iff_iff,Zl,Zl];refine forall_congr' λk=>forall_congr' λhk=>?_;have:=jT k hk;rw[Int.toNat_natCast,Qi6 hv hi (by omega)]
  have f2:c.filter (QsN b i)=c.filter (λk=>QvJ b i k.toNat):=List.filter_congr λk hk=>by
   have:=hc' k hk;unfold QsN;rw[Qq9 hv hi (by omega)]
  unfold QsT QG5;rw[f1,f2]
 have e2:Qqq b c g=QGl b c g:=by unfold Qqq QGl; rw[e1]
 rw[e2]
theorem a1:QeU (Qb6 50) 0=([2,4],[2,3,4],0):=by
 have:=Qtt Qyk (i:=0) (by decide)
 rw[show((0:Nat):Int)=0 from rfl]at this;rw[this]; decide+kernel
theorem a2:QgQ (Qb6 50) 4=([0,2,3],[0,1,2,3],0):=by
 have:=Qtk Qyk (i:=4) (by decide)
 rw[show((4:Nat):Int)=4 from rfl]at this;rw[this]; decide+kernel
theorem Qxd {b:List Bat} (h:Q5 b=(0,0,0)) {i:Nat} (hi:i < b.length):Qo4 b i=(Qj7 b i,0):=by
 unfold Qo4;rw[if_pos (Qme h hi),Int.toNat_natCast]
theorem lv (b:List Bat) (i:Nat) (l h:Int) (h1:(Qj7 b i).lo=l) (h2:(Qj7 b i).hi=h):Qj7 b i=⟨l,h⟩:=by
 rw[<-h1,<-h2]
theorem a3:Qo4 (Qb6 140) 1=(⟨0,40⟩,0):=by
 have:=Qxd QEa (i:=1) (by decide)
 rw[lv (Qb6 140) 1 0 40 (by decide+kernel) (by decide+kernel)]at this
 exact this
theorem a4:QjZ (Qb6 50) [3] [4]=([1],0):=by
 rw[QBY Qyk (by decide+kernel) (by decide+kernel)]; decide+kernel
def QoW:ByteArray:=⟨#[97,32,49,48,48,32,49,48,48,10,98,32,56,48,32,56,48,10,99,32,54,48,32,50,48,32,97,32,52,48,10,100,32,53,48,32,49,48,32,108,111,115,116,10]⟩
theorem Qwm:Qeu ((Qb6 50).take 4)=QoW:=by decide+kernel
theorem a5:QhL ((Qb6 50).take 4)=(QoW,0):=by
 unfold QhL;rw[chk4,if_pos rfl,Qwm]
theorem QtH {t s:ByteArray} {l:List Bat} {k:Nat} (h:runP t k=some (s,l)) (hz:s.size=0):runP t (k+1)=none:=by
 simp only[runP,h,if_pos hz]
theorem a6:Qir QoW=((Qb6 50).take 4,0):=by
 have h:runP QoW 4=some (⟨#[]⟩,(Qb6 50).take 4):=by kernel_rfl
 have hz:(⟨#[]⟩:ByteArray).size=0:=rfl;rw[QqT (by decide) h (QtH h hz),if_pos ⟨hz,by rw[chk4]⟩]
theorem a7:QeU (Qb6 50) 5=([],[],4):=by
 have e:QbH (Qb6 50) 5=4:=by unfold QbH; rw[Qyk]; decide+kernel
 unfold QeU;rw[e,if_neg (by decide)]
end Go.Proofs.YtnfeakhkfehkhaaGreatDoor
namespace Go.Proofs.YtnfeakhkfehkhaaGreatDoor
open Go.RowKit Go.Lib
theorem QJd {b:List Bat} (h:BookOk b) {k:Nat} (hk:k < b.length) {s:ByteArray} (hs:s.data.toList=QIt b b[k]):QhF s ⟨#[32]⟩=QIh b b[k]:=by
 apply QI3;unfold QIj QhF;rw[QIZ,hs];exact QIW h hk
theorem QID (b:List Bat) (x:Bat):(QIh b x).length=3+(if x.lost=true then 1 else 0)+2*x.takes.length:=by
 unfold QIh QlB;rw[List.length_append,QIS];split<;>simp<;>omega
theorem QJp (b:List Bat) (x:Bat):(QIh b x).getD 0 ⟨#[]⟩=x.name/\(QIh b x).getD 1 ⟨#[]⟩=Qdg x.grams/\(QIh b x).getD 2 ⟨#[]⟩=Qdg x.fresh:=⟨rfl,rfl,rfl⟩
theorem QJv {b:List Bat} {x:Bat} (h:x.lost=true->x.takes=[]):QeJ (QIh b x)=x.lost/\Qet (QIh b x)=QIk b x.takes:=by
 have hl:QeJ (QIh b x)=x.lost:=by
  cases hx:x.lost with
  | true=>
   have ht:=h hx;unfold QeJ QIh QlB;rw[hx,ht];simp[QIk]
  | false=>
   unfold QeJ;rw[QID,hx];have:(3+(if false=true then 1 else 0)+2*x.takes.length==4)=false:=beq_eq_false_iff_ne.2 (by simp; omega)
   rw[this]; rfl
 refine⟨hl,?_⟩;unfold Qet;rw[hl];cases hx:x.lost with
 | true=>rw[h hx]; rfl
 | false=>
  unfold QIh QlB;rw[hx];rfl
theorem QI9 {n:Int} (h0:0<=n) (h1:n<=100000):QeZ (Qdg n)=some n:=by
 rw[Qmw h0,QJW (by omega)]
 congr 1; omega
theorem QIM {n:Int} (h0:0<=n) (h1:n<=100000):QH4 (Qdg n)=n:=by
 rw[Qmw h0,QJ2 (by omega)]; omega
theorem QJQ {b:List Bat} (h:BookOk b) {k:Nat} (hk:k < b.length):∀j,j<=b[k].takes.length->QnQ (b.take k) (QIk b b[k].takes) j=some (b[k].takes.take j)
 | 0,_=>rfl
 | j+1,hj=>by
  have hb:=h.at hk;have hm:=Ze (by omega:j < b[k].takes.length)
  have hf:=hb.fr _ hm;have hg:=hb.gr _ hm;obtain⟨F,hF⟩:∃F:Nat,b[k].takes[j].fr=F:=⟨b[k].takes[j].fr.toNat,by omega⟩
  obtain⟨p1,p2⟩:=QI8 b b[k].takes j (by omega)
  have hFl:F < b.length:=by omega
  rw[hF,Int.toNat_natCast,Qj _ _ _ hFl]at p1;have aI:(b.take k).length=k:=by rw[List.length_take]; omega
  rw[QnQ,QJQ h hk j (by omega),p1,p2,aI,QIx b _ k k (Zr _),QIL h hFl k (by omega) (by omega),QI9 (by omega) (by omega),List.take_add_one,Zg (by omega),Option.toList_some]
  show some (_++[(⟨(F:Int),b[k].takes[j].gr⟩:Tak)])=_;rw[<-hF]
theorem QJV {b:List Bat} (h:BookOk b) {k:Nat} (hk:k < b.length) {s:ByteArray} {r:List UInt8} (hs:s.data.toList=QIt b b[k]++10::r):Qjq (b.take k) s=some (b[k],⟨r.toArray⟩):=by
 have hb:=h.at hk;obtain⟨A,B,hc,hB,hW,_,_⟩:=Qqz s;rw[hs,QJP r (QI1 h hk)]at hc;simp only[Prod.mk.injEq]at hc;obtain⟨rfl,rfl,hh⟩:=hc;have hws:Qag s=QIh b b[k]:=by rw[<-hW]; exact QJd h hk (by simp)
 obtain⟨f1,f2⟩:=QJv (b:=b) hb.lost;obtain⟨g0,g1,g2⟩:=QJp b b[k];have tJ:=QID b b[k];have hg:=hb.grams;have hf:=hb.fresh;unfold Qjq;rw[hws,<-hh,if_pos ⟨rfl,by omega⟩,g1,g2,QI9 (by omega) (by omega),QI9 (by omega) (by omega),f1,f2,g0,QIS]
 simp only;rw[if_pos (by omega),show 2*b[k].takes.length / 2=b[k].takes.length by omega,QJQ h hk _ (Zr _),List.take_length,hB]
 rfl
theorem QJE {b:List Bat} (h:BookOk b) {t:ByteArray} (ht:t.data.toList=QIn b b):∀k,k<=b.length->runP t k=some (⟨(QIn b (b.drop k)).toArray⟩,b.take k)
 | 0,_=>by simp only[runP,List.drop_zero,List.take_zero,<-ht,Array.toArray_toList]
 | k+1,hk=>by
  have h1:=QJE h ht k (by omega)
  have bB:k < b.length:=by omega
  have vP:b.drop k=b[k]::b.drop (k+1):=List.drop_eq_getElem_cons bB;have bV:=QJV h bB (s:=⟨(QIn b (b.drop k)).toArray⟩) (r:=QIn b (b.drop (k+1))) (by rw[vP,QIz])
  simp only[runP,h1,bV];rw[if_neg,List.take_add_one,Zg bB]
  .rfl
  .rw[Qjx,vP,QIz]; simp
theorem QJL {b:List Bat} (h:(Q5 b).2.2=0) (hb:BookOk b) {t:ByteArray} (ht:t.data.toList=QIn b b) (h2:¬3000 < t.size):Qir t=(b,0):=by
 have h1:=QJE hb ht b.length (Zr _);rw[List.drop_length,List.take_length]at h1;have hz:(⟨(QIn b []).toArray⟩:ByteArray).size=0:=rfl;rw[QqT h2 h1 (by simp only[runP,h1,if_pos hz]),if_pos ⟨hz,h⟩]
theorem QJr {b L:List Bat} (hp:∀i,i < L.length->b.getD i default=L.getD i default) {W:List ByteArray} :∀(j:Nat) (ts:List Tak),QnQ L W j=some ts->2*j<=W.length->QIk b ts=W.take (2*j)
 | 0,ts,h,_=>by cases h; simp[QIk]
 | j+1,ts,h,hl=>by
  rw[QnQ]at h;split at h
  .rename_i l n q h1 h2 h3;cases h;have hn:=QJs _ _ _ _ h2;have kV:=QI6 _ _ _ _ h2;have hq:=QIK h3;rw[QIQ,QJr hp j l h1 (by omega)]
   simp only[QIk,Int.toNat_natCast];rw[hp n hn,kV,<-hq,show 2*(j+1)=2*j+1+1 by omega,List.take_add_one,List.take_add_one,Zg (by omega:2*j < W.length),Zg (by omega:2*j+1 < W.length),Qj _ _ _ (by omega:2*j < W.length),Qj _ _ _ (by omega:2*j+1 < W.length)]
   simp only[Option.toList_some,List.append_assoc,List.cons_append,List.nil_append]
  .cases h
theorem QJI {b L:List Bat} (hp:∀i,i < L.length->b.getD i default=L.getD i default) {s:ByteArray} {d:Bat} {r:ByteArray} (h:Qjq L s=some (d,r)):s.data.toList=QIt b d++10::r.data.toList:=by
 obtain⟨hh,h3,g,f,ts,hg,hf,gR,oP,rfl,hr⟩:=Qg5 h;obtain⟨A,B,hc,hB,hW,_,_⟩:=Qqz s;rw[hh]at hc;obtain⟨q1,q2⟩:=QJ3 hc;rw[hr,hB,q1];have hbw:QIj (Qag s)=QIg 32 A:=by
  rw[<-hW];unfold QIj QhF;rw[QIZ]
 have hA:A=join (QIj (Qag s)) [32]:=by rw[hbw,QIs]
 have yU:=QJr hp _ _ oP (by omega)
 rw[show 2*((Qet (Qag s)).length / 2)=(Qet (Qag s)).length by omega,List.take_length]at yU
 have hwe:QIh b ⟨(Qag s).getD 0 ⟨#[]⟩,g,f,QeJ (Qag s),ts⟩=Qag s:=by
  unfold QIh QlB;simp only;rw[yU,<-QIK hg,<-QIK hf];generalize Qag s=ws at*;obtain⟨w0,v1,v2,V,rfl⟩:=QqA h3;cases fU:QeJ (w0::v1::v2::V)with
  | false=>
   unfold Qet;rw[fU]; rfl
  | true=>
   have hq:=fU;unfold QeJ at hq;simp only[Za,beq_iff_eq,List.length_cons]at hq;obtain⟨q4,q5⟩:=hq;obtain⟨z,rfl⟩:=List.length_eq_one_iff.1 (show V.length=1 by omega)
   have hz:z=QjI:=by
    have:z.toList=QjI.toList:=q5;rw[ByteArray.toList_eq,ByteArray.toList_eq]at this;exact QjC this
   unfold Qet;rw[fU,hz]; rfl
 unfold QIt;rw[hwe,<-hA]
theorem QJo {t:ByteArray} {b:List Bat} :∀(k:Nat) (s:ByteArray) (l:List Bat),runP t k=some (s,l)->(∀i,i < l.length->b.getD i default=l.getD i default)->t.data.toList=QIn b l++s.data.toList
 | 0,s,l,h,_=>by
  simp only[runP,Zs,Prod.mk.injEq]at h;obtain⟨rfl,rfl⟩:=h;rfl
 | k+1,s,l,h,hp=>by
  obtain⟨s',l',d,h2,_,h3,rfl⟩:=QjE h;have rL:∀i,i < l'.length->b.getD i default=l'.getD i default:=λi hi=>by
   rw[hp i (by rw[List.length_append]; omega)]
   simp[List.getD,List.getElem?_append_left hi]
  have q1:=QJo k s' l' h2 rL;have q3:=QJI rL h3;rw[q1,q3,QJi]; simp
theorem QI5 {b:List Bat} (h:BookOk b) {k:Nat} (hk:k < b.length):∀j,j<=b[k].takes.length->Qty (b.take k) (QIh b b[k]) j=b[k].takes.take j
 | 0,_=>rfl
 | j+1,hj=>by
  have hb:=h.at hk;have hm:=Ze (by omega:j < b[k].takes.length)
  have hf:=hb.fr _ hm;have hg:=hb.gr _ hm;obtain⟨F,hF⟩:∃F:Nat,b[k].takes[j].fr=F:=⟨b[k].takes[j].fr.toNat,by omega⟩
  have hFl:F < b.length:=by omega
  have hl:b[k].lost=false:=by
   cases hx:b[k].lost with
   | false=>rfl
   | true=>
    exfalso
    have h0:b[k].takes.length=0:=by rw[hb.lost hx]; rfl
    omega
  have aI:(b.take k).length=k:=by rw[List.length_take]; omega
  obtain⟨p1,p2⟩:=QI8 b b[k].takes j (by omega)
  rw[hF,Int.toNat_natCast,Qj _ _ _ hFl]at p1;have hw:QIh b b[k]=b[k].name::Qdg b[k].grams::Qdg b[k].fresh::QIk b b[k].takes:=by
   unfold QIh QlB;rw[hl]; rfl
  have e1:(QIh b b[k]).getD (2*j+3) ⟨#[]⟩=b[F].name:=by
   rw[hw,show 2*j+3=2*j+1+1+1 by omega]
   simp only[List.getD_cons_succ];exact p1
  have e2:(QIh b b[k]).getD (2*j+4) ⟨#[]⟩=Qdg b[k].takes[j].gr:=by
   rw[hw,show 2*j+4=(2*j+1)+1+1+1 by omega]
   simp only[List.getD_cons_succ];exact p2
  rw[Qty,QI5 h hk j (by omega),e1,e2,aI,QI7,QIx b _ k k (Zr _),QIL h hFl k (by omega) (by omega),QIM (by omega) (by omega),List.take_add_one,Zg (by omega),Option.toList_some]
  simp only;rw[<-hF]
theorem QJT {b:List Bat} (h:BookOk b) {k:Nat} (hk:k < b.length) {s:ByteArray} (hs:s.data.toList=QIt b b[k]):QKr (b.take k) (QFk s 32)=b[k]:=by
 have hb:=h.at hk;have hw:QFk s 32=QIh b b[k]:=by
  apply QI3;unfold QIj;rw[show(32:Int)=((32:UInt8).toNat:Int)from rfl,QIH,hs];exact QIW h hk
 rw[hw];obtain⟨g0,g1,g2⟩:=QJp b b[k];have tJ:=QID b b[k];have hg:=hb.grams;have hf:=hb.fresh;have hhf:QHS (QIh b b[k])=b[k].takes.length:=by
  unfold QHS;rw[tJ];cases hx:b[k].lost with
  | true=>
   have h0:b[k].takes.length=0:=by rw[hb.lost hx]; rfl
   rw[h0]; rfl
  | false=>simp
 have fU:decide ((QIh b b[k]).length=4)=b[k].lost:=by
  rw[tJ];cases hx:b[k].lost with
  | true=>
   have h0:b[k].takes.length=0:=by rw[hb.lost hx]; rfl
   rw[h0]; rfl
  | false=>simp; omega
 unfold QKr;rw[g0,g1,g2,if_pos (by omega),if_pos (by omega),QIM (by omega) (by omega),QIM (by omega) (by omega),fU,hhf,QI5 h hk _ (Zr _),List.take_length]
theorem QJt {b:List Bat} :∀{l:List Bat},(∀x∈l,(10:UInt8)∉QIt b x)->QIg 10 (QIn b l)=l.map (QIt b)++[[]]
 | [],_=>rfl
 | d::l,h=>by
  rw[QIz,QIE _ (h d (by simp)),QJt λd' h'=>h d' (by simp[h'])]; rfl
theorem QJH {b:List Bat} (h:BookOk b) {t:ByteArray} (ht:t.data.toList=QIn b b):QIi t=b:=by
 have hl:QIj (QFk t 10)=b.map (QIt b)++[[]]:=by
  unfold QIj;rw[show(10:Int)=((10:UInt8).toNat:Int)from rfl,QIH,ht];exact QJt λd hd=>by
   obtain⟨k,hk,rfl⟩:=List.getElem_of_mem hd;exact QI1 h hk
 have aI:(QFk t 10).length=b.length+1:=by
  have:=congrArg List.length hl;simpa[QIj]using this
 have key:∀k,k<=b.length->Qu1 (QFk t 10) k=b.take k:=by
  intro k
  induction k with
  | zero=>intro _; rfl
  | succ k ih=>
   intro hk;have bB:k < b.length:=by omega
   have bW:((QFk t 10).getD k ⟨#[]⟩).data.toList=QIt b b[k]:=by
    rw[Qj _ _ _ (by omega)]
    have:=congrArg (λz=>z[k]?) hl;simp only[QIj,List.getElem?_map,Zg (show k < (QFk t 10).length by omega),Option.map_some,List.getElem?_append,List.length_map,bB,if_true,Zg bB,Zs]at this
    exact this
   rw[Qu1,ih (by omega),QJT h bB bW,List.take_add_one,Zg bB]; rfl
 unfold QIi;rw[aI,Nat.add_sub_cancel,key b.length (Zr _),List.take_length]
theorem QJM (t:ByteArray):Qir t=QII t:=by
 unfold QII;by_cases h2:3000 < t.size
 .rw[if_pos h2]; unfold Qir; rw[if_pos h2]
 .rw[if_neg h2];obtain⟨n,s,l,aH,cY,qF⟩:=Qh1 t;have bW:=QqT h2 aH qF;by_cases hz:s.size=0/\(Q5 l).2.2=0
  .have q1:=QJo (b:=l) n s l aH λi hi=>rfl;have dG:s.data.toList=[]:=by
    apply List.length_eq_zero_iff.1;simpa using hz.1
   rw[dG,List.append_nil]at q1;have aQ:=((Qbl l).1 hz.2).ok;rw[bW,if_pos hz,QJH aQ q1,if_pos ⟨hz.2,by rw[ByteArray.toList_eq,ByteArray.toList_eq,QIX aQ,q1]⟩]
  .rw[bW,if_neg hz,if_neg];rintro⟨h3,h4⟩;have aQ:=((Qbl (QIi t)).1 h3).ok;rw[ByteArray.toList_eq,ByteArray.toList_eq,QIX aQ]at h4;have:=QJL h3 aQ h4.symm h2;rw[bW,if_neg hz]at this;simp at this
noncomputable def QKs:List D->Option D:=sp1 QmM (Qex (Qy QO) Qbh) λs=>some (QII s)
theorem QKy:∀ds d,QKs ds=some d->PureC Tryz.prog 31 ds d:=λds d h=>by
 refine ok31 ds d ?_;rw[<-h];unfold s31 QKs;congr 1;funext s;rw[QJM]
end Go.Proofs.YtnfeakhkfehkhaaGreatDoor
