/-
  Reference functions of the trace chapter: what is written. Conditions: none.
-/
import Derived.Test.YtnfeakhkfehkhaaGreatDoorZRefH
set_option linter.unusedSimpArgs false
set_option linter.unusedVariables false
namespace Go.Proofs.YtnfeakhkfehkhaaGreatDoor
open Go.RowKit
def QyQ (n:Nat):ByteArray:=⟨(Lib.decDigits n).toArray⟩
theorem QI4 {n:Nat} (h:n < 10):QyQ n=strOfNums [48+(n:Int)]:=by
 unfold QyQ;rw[Lib.decDigits,dif_pos h];rfl
theorem QJJ {n:Nat} (h:10<=n):QyQ n=QyQ (n / 10)++strOfNums [48+((n % 10:Nat):Int)]:=by
 unfold QyQ;rw[Lib.decDigits,dif_neg (by omega)]
 apply ByteArray.ext;apply Array.toList_inj.1;rw[ByteArray.data_append,Array.toList_append];rfl
theorem Qks:∀(k u:Nat),1<=k->u < 10 ^ k->Lib.nDigits u<=k
 | 0,u,h,_=>by omega
 | k+1,u,_,h=>by
  rw[Lib.nDigits];split
  .omega
  .rename_i h10;have hk:1<=k:=by
    cases k with
    | zero=>simp at h; omega
    | succ k=>omega
   have:=Qks k (u / 10) hk (by rw[Nat.pow_succ]at h; omega)
   omega
theorem Qv0 {n k:Nat} (hk:1<=k) (h:n < 10 ^ k):(QyQ n).size<=k:=by
 have:=Qks k n hk h;unfold QyQ;simp only[ByteArray.size,List.size_toArray,Lib.decDigits_length];exact this
def QHE (n:Int) (k:Nat):Prop:=0<=n/\n.toNat < 10 ^ k
instance (n:Int) (k:Nat):Decidable (QHE n k):=inferInstanceAs (Decidable (_/\_))
def QJO (r:Nat):List (Nat×Option Nat):=match r with
 | 0=>[(0,none)]
 | 1=>kpn [0,3]
 | 2=>kpn [0,3,11]
 | 3=>[(3,none)]
 | 4=>[(2,none)]
 | _=>[]
def QJR (k:Nat):List D->Option D:=sp1 Qbh QmM λn=>if QHE n k then some (QyQ n.toNat)else none
theorem QJA (xs:Array Value) (w:World):(callFunc 110 xs).run Tryz.prog w= .ok (.enter 110 xs) w:=by kernel_rfl
theorem QKd (k:Nat) (hk:k<=5) (ih:∀ds d,QJR k ds=some d->PureC Tryz.prog 110 ds d):∀ds d,QJR (k+1) ds=some d->PureC Tryz.prog 110 ds d:=Qb2 λn r hr=>by
 split at hr
 .rename_i hc;cases hr;obtain⟨h0,h1⟩:=hc;obtain⟨N,rfl⟩:∃N:Nat,n=N:=⟨n.toNat,by omega⟩
  rw[Int.toNat_natCast]at h1|-;have hpow:10 ^ (k+1)<=10 ^ 6:=Nat.pow_le_pow_right (by omega) (by omega)
  have aR:N < 1000000:=by omega
  have hm:((N:Int).tmod 10)=((N % 10:Nat):Int):=by rw[Int.tmod_eq_emod_of_nonneg (by omega)]; omega
  have hq:((N:Int).tdiv 10)=((N / 10:Nat):Int):=by rw[Int.tdiv_eq_ediv_of_nonneg (by omega)]; omega
  have w1:=Qa (48+((N % 10:Nat):Int)) (by omega) (by omega)
  have w2:IntKind.u8.wrap (48+((N % 10:Nat):Int))=48+((N % 10:Nat):Int):=by
   simp[IntKind.wrap,IntKind.bits];omega
  have w3:=Qa ((N / 10:Nat):Int) (by omega) (by omega)
  refine Qm (QE (Ql QB QJA ih) 18 QJO []) Tryz.func110 rfl rfl (Zb rfl) (by kernel_rfl) ?_
  rw[Tryz.results110];by_cases h10:10<=N
  .have hI:(10:Int)<=N:=by omega
   have hdiv:QHE ((N / 10:Nat):Int) k:=⟨by omega,by rw[Int.toNat_natCast]; rw[Nat.pow_succ]at h1; omega⟩
   rw[QJJ h10];have lI:((N / 10:Nat):Int).toNat=N / 10:=Int.toNat_natCast _;have cC:(QyQ (N / 10)).size<=9223372036854775806:=by
    have:=Qv0 (n:=N / 10) (k:=6) (by omega) (by omega)
    omega
   generalize hQ:((N / 10:Nat):Int)=Q at*;generalize hR:((N % 10:Nat):Int)=R at*;simp[hm,hq,w1,w2,w3,hI,hdiv,QJO,QJR,lI,strOfNums_size,cC]
  .have hI:¬(10:Int)<=N:=by omega
   have hs:N % 10=N:=by omega
   rw[QI4 (by omega)]
   rw[hs]at hm w1 w2;simp[QJO,hm,w1,w2,hI]
 .cases hr
theorem QJ8:∀ds d,QJR 0 ds=some d->PureC Tryz.prog 110 ds d:=Qb2 λn r hr=>by
 split at hr
 .rename_i hc;cases hr;obtain⟨h0,h1⟩:=hc;have:n=0:=by simp at h1; omega
  subst this;refine Qm (QE QB 18 QJO []) Tryz.func110 rfl rfl (Zb rfl) (by kernel_rfl) ?_
  rw[Tryz.results110];have w1:=Qa 48 (by omega) (by omega)
  have w2:IntKind.u8.wrap 48=48:=by decide
  have hd:QyQ 0=strOfNums [48]:=QI4 (by omega)
  simp[QJO,w1,w2,hd]
 .cases hr
theorem QKi:∀k,k<=6->∀ds d,QJR k ds=some d->PureC Tryz.prog 110 ds d
 | 0,_=>QJ8
 | k+1,h=>QKd k (by omega) (QKi k (by omega))
def QJK (r:Nat):List (Nat×Option Nat):=match r with
 | 0=>kpn [0,1]
 | 1=>[(0,none),(1,none),(5,some 1)]
 | 2=>[(0,none),(1,none),(5,some 1),(6,none)]
 | 3=>[(0,none),(1,none),(5,some 1),(6,none),(7,none)]
 | 4=>[(0,none),(1,none),(5,some 1),(6,none),(7,none),(11,none)]
 | 5=>[(0,none),(1,none),(5,some 1),(6,none),(7,none)]
 | 6=>[(0,none),(1,none),(5,some 1),(6,none),(7,none),(18,none)]
 | 7=>[(0,none),(1,none),(5,some 1),(7,none)]
 | 8=>[(0,none),(1,none),(5,some 1),(6,none),(7,none)]
 | 9=>[(4,some 1)]
 | _=>[]
def QJn (r:Nat):List (Nat×Option Nat):=match r with
 | 0=>[(0,none)]
 | 1=>kpn [0,8]
 | 2=>[(2,none)]
 | 3=>kpn [0,3]
 | 4=>kpn [0,3,4]
 | 5=>kpn [0,3,4,12]
 | 6=>kpn [0,3,4]
 | 7=>kpn [0,3,4,20]
 | 8=>[(2,none)]
 | 9=>kpn [0,3,4]
 | 10=>[(2,none)]
 | _=>[]
def QnX (s:ByteArray) (b:Int):Nat->List ByteArray×Nat
 | 0=>([],0)
 | i+1=>if Qaq s i=b then((QnX s b i).1++[s.extract (QnX s b i).2 i],i+1)else QnX s b i
def QFk (s:ByteArray) (b:Int):List ByteArray:=(QnX s b s.size).1++[s.extract (QnX s b s.size).2 s.size]
theorem QIo (s:ByteArray) (b:Int):∀i,(QnX s b i).2<=i/\(QnX s b i).1.length<=i
 | 0=>⟨Zr _,Zr _⟩
 | i+1=>by
  have:=QIo s b i;unfold QnX;split
  .simp; omega
  .omega
def QKh:List D->Option D:=sp2 QmM (cK .u8) (Qy Qf7) λs b=>if s.size<=3000 then some (QFk s b)else none
set_option maxHeartbeats 2000000 in
theorem QKx:∀ds d,QKh ds=some d->PureC Tryz.prog 114 ds d:=QaR λs b r hr=>by
 split at hr
 .rename_i hs;cases hr;refine Qm (QE QB 34 QJK []) Tryz.func114 rfl rfl (Zb rfl) (by kernel_rfl) ?_
  rw[Tryz.results114];simp[QJK]
  (generalize aC:Cx.loop _ _ _=aE; apply Qi aC (λi=>⟨[(0,.d (DS s)),(1,.d (.v (.int .u8 b))),(5,.sl 1 ((QnX s b i).1.map Qf7.enc) (.tok 5)),(6,.d (DI (QnX s b i).2)),(7,.d (DI i))],[],[5],[]⟩) s.size rfl; rotate_left; (show _ < 281474976710656; omega); rfl; rotate_left; all_goals clear aC)
  .intro i hi;have zN:(i:Int) < s.size:=by omega
   have aX:=QIo s b i;have eD:((QnX s b i).2:Int)<=i:=by omega
   have eR:(i:Int)<=s.size:=by omega
   have w1:=Qa ((i:Int)+1) (by omega) (by omega)
   have c1:(QnX s b i).1.length<=140737488355327:=by omega
   have c2:((QnX s b i).1.length+1)*16<=140737488355328:=by omega
   by_cases he:Qaq s i=b
   .have hS:QnX s b (i+1)=((QnX s b i).1++[s.extract (QnX s b i).2 i],i+1):=by rw[QnX,if_pos he]
    rw[hS];simp[QJK,QaO,zN,he,eD,eR,w1,c1,c2]
   .have hS:QnX s b (i+1)=QnX s b i:=by rw[QnX,if_neg he]
    have kU:(Qaq s i==b)=false:=by simpa using he
    rw[hS];simp[QJK,zN,kU,w1]
  .have aX:=QIo s b s.size;have eD:((QnX s b s.size).2:Int)<=s.size:=by omega
   have c1:(QnX s b s.size).1.length<=140737488355327:=by omega
   have c2:((QnX s b s.size).1.length+1)*16<=140737488355328:=by omega
   simp[QJK,QaO,QFk,eD,c1,c2]
 .cases hr
theorem QJ9 (xs:Array Value) (w:World):(callFunc 114 xs).run Tryz.prog w= .ok (.enter 114 xs) w:=by kernel_rfl
def QKk (s:ByteArray) (i:Nat):Bool:=inR (Qaq s i) 48 57
def QJa (s:ByteArray):Nat->Int
 | 0=>0
 | i+1=>10*QJa s i+(Qaq s i - 48)
def QH4 (s:ByteArray):Int:=if inR s.size 1 6=false then -1 else if(List.range s.size).all (QKk s)=true then QJa s s.size else -1
theorem QJm (s:ByteArray):∀i,(∀j,j < i->QKk s j=true)->0<=QJa s i/\QJa s i+1<=10 ^ i
 | 0,_=>by simp[QJa]
 | i+1,h=>by
  have h1:=QJm s i λj hj=>h j (by omega)
  have h2:=h i (by omega)
  unfold QKk at h2;rw[Qau]at h2;have hp:(10:Int) ^ (i+1)=10 ^ i*10:=Int.pow_succ ..;rw[QJa,hp];omega
def QJz:List D->Option D:=sp1 QmM Qbh λs=>some (QH4 s)
set_option maxHeartbeats 2000000 in
theorem QKv:∀ds d,QJz ds=some d->PureC Tryz.prog 115 ds d:=Qb2 λs r hr=>by
 cases hr;refine Qm (QE QRM 30 QJn []) Tryz.func115 rfl rfl (Zb rfl) (by kernel_rfl) ?_
 rw[Tryz.results115];by_cases h1:inR s.size 1 6=true
 .have h1b:=Qau.1 h1;have hconv:∀i,IntKind.i64.wrap (Qaq s i)=Qaq s i:=λi=>by have:=QiX s i; exact Qa _ (by omega) (by omega)
  simp[QJn,l3,s54,h1];rcases QaK (QKk s) s.size with hall | ⟨K,hK,aL,aM⟩
  .have hV:QH4 s=QJa s s.size:=by
    unfold QH4;rw[if_neg (by simp[h1]),if_pos (Zl.2 λj hj=>hall j (by simpa using hj))]
   rw[hV]
   (generalize aC:Cx.loop _ _ _=aE; apply Qi aC (λi=>⟨[(0,.d (DS s)),(3,.d (DI (QJa s i))),(4,.d (DI i))],[],[],[]⟩) s.size rfl; rotate_left; (show _ < 281474976710656; omega); rfl; rotate_left; all_goals clear aC)
   .intro i hi;have zN:(i:Int) < s.size:=by omega
    have hd:inR (Qaq s i) 48 57=true:=hall i hi;have oD:=Qau.1 hd;have hb:=QJm s i λj hj=>hall j (by omega)
    have hp:(10:Int) ^ i<=1000000:=by
     have:(10:Nat) ^ i<=10 ^ 6:=Nat.pow_le_pow_right (by omega) (by omega)
     have h2:((10 ^ i:Nat):Int)=(10:Int) ^ i:=by simp
     omega
    have w1:=Qa ((i:Int)+1) (by omega) (by omega)
    have w2:=Qa (10*QJa s i) (by omega) (by omega)
    have w3:IntKind.u8.wrap (Qaq s i - 48)=Qaq s i - 48:=by
     simp[IntKind.wrap,IntKind.bits];omega
    have w4:=Qa (Qaq s i - 48) (by omega) (by omega)
    have w5:=Qa (10*QJa s i+(Qaq s i - 48)) (by omega) (by omega)
    simp[QJn,zN,hconv,hd,w1,w2,w3,w4,w5,QJa]
   .simp[QJn]
  .have hV:QH4 s= -1:=by
    unfold QH4;rw[if_neg (by simp[h1]),if_neg]
    intro ha;have:=Zl.1 ha K (by simpa using hK)
    rw[aL]at this; cases this
   rw[hV]
   (generalize aC:Cx.loop _ _ _=aE; apply Qi aC (λi=>⟨[(0,.d (DS s)),(3,.d (DI (QJa s i))),(4,.d (DI i))],[],[],[]⟩) K rfl; rotate_left; (show _ < 281474976710656; omega); rfl; rotate_left; all_goals clear aC)
   .intro i hi;have zN:(i:Int) < s.size:=by omega
    have pL:i < s.size:=by omega
    have hd:inR (Qaq s i) 48 57=true:=aM i hi;have oD:=Qau.1 hd;have hb:=QJm s i λj hj=>aM j (by omega)
    have hp:(10:Int) ^ i<=1000000:=by
     have:(10:Nat) ^ i<=10 ^ 6:=Nat.pow_le_pow_right (by omega) (by omega)
     have h2:((10 ^ i:Nat):Int)=(10:Int) ^ i:=by simp
     omega
    have w1:=Qa ((i:Int)+1) (by omega) (by omega)
    have w2:=Qa (10*QJa s i) (by omega) (by omega)
    have w3:IntKind.u8.wrap (Qaq s i - 48)=Qaq s i - 48:=by
     simp[IntKind.wrap,IntKind.bits];omega
    have w4:=Qa (Qaq s i - 48) (by omega) (by omega)
    have w5:=Qa (10*QJa s i+(Qaq s i - 48)) (by omega) (by omega)
    simp[QJn,zN,hconv,hd,w1,w2,w3,w4,w5,QJa]
   .have hKI:(K:Int) < s.size:=by omega
    have hd:inR (Qaq s K) 48 57=false:=aL;simp[QJn,hKI,hconv,hd]
 .have h1':inR s.size 1 6=false:=by simpa using h1
  rw[show QH4 s= -1 from if_pos h1'];simp[QJn,l3,s54,h1']
theorem QKc (xs:Array Value) (w:World):(callFunc 115 xs).run Tryz.prog w= .ok (.enter 115 xs) w:=by kernel_rfl
def QJU (r:Nat):List (Nat×Option Nat):=match r with
 | 0=>[(0,none)]
 | 1=>kpn [0,3]
 | 2=>kpn [0,3,4]
 | 3=>kpn [0,3,4,10]
 | 4=>kpn [0,3,4]
 | 5=>kpn [0,3,4,5]
 | 6=>kpn [0,3,4,5]
 | 7=>kpn [0,3,4,5,32]
 | 8=>kpn [0,3,4,5]
 | 9=>kpn [0,3,4,5,6]
 | 10=>kpn [0,3,4,5,6,39]
 | 11=>kpn [0,3,4,5,6]
 | 12=>kpn [0,3,4,5,6]
 | 13=>kpn [0,3,4]
 | 14=>[(2,none)]
 | _=>[]
def QKz (r:Nat):List (Nat×Option Nat):=match r with
 | 0=>[(0,none)]
 | 1=>kpn [0,6]
 | 2=>kpn [0,6,14]
 | 3=>kpn [2,3]
 | 4=>kpn [2,3]
 | _=>[]
def spB:ByteArray:=⟨#[32]⟩
def nlB:ByteArray:=⟨#[10]⟩
def ltB:ByteArray:=⟨#[32,108,111,115,116]⟩
theorem z_sp:spB.size=1:=rfl
theorem z_nl:nlB.size=1:=rfl
theorem z_lt:ltB.size=5:=rfl
def QjU (o:ByteArray) (x:Bat):ByteArray:=o++x.name++spB++QyQ x.grams.toNat++spB++QyQ x.fresh.toNat
def Qn3 (o:ByteArray) (x:Bat):ByteArray:=if x.lost=true then o++ltB else o
def QpI (b:List Bat) (x:Bat) (o:ByteArray):Nat->ByteArray
 | 0=>o
 | j+1=>QpI b x o j++spB++(b.getD (x.takes.getD j default).fr.toNat default).name++spB++QyQ (x.takes.getD j default).gr.toNat
def Qer (b:List Bat):Nat->ByteArray
 | 0=>⟨#[]⟩
 | k+1=>QpI b (b.getD k default) (Qn3 (QjU (Qer b k) (b.getD k default)) (b.getD k default)) (b.getD k default).takes.length++nlB
def Qeu (b:List Bat):ByteArray:=Qer b b.length
@[simp] theorem textT_zero (b : List Bat) (x : Bat) (o : ByteArray) : QpI b x o 0 = o := rfl
theorem QvR {s:ByteArray} (h:Qbe s=true):s.size<=20:=by
 unfold Qbe at h;simp only[Za,Qau]at h;omega
theorem QHs {n:Int} (h:n<=100000):(QyQ n.toNat).size<=6:=Qv0 (by omega) (by omega)
theorem QKt {n:Int} (h0:0<=n) (h:n<=100000):QHE n 6:=⟨h0,by omega⟩
theorem Qk3 {b:List Bat} (h:BookOk b) {k:Nat} (hk:k < b.length) (o:ByteArray):(QjU o b[k]).size<=o.size+34:=by
 have hb:=h.at hk;have h1:=QvR hb.name;have h2:=QHs (n:=b[k].grams) (by have:=hb.grams; omega)
 have h3:=QHs (n:=b[k].fresh) (by have:=hb.grams; have:=hb.fresh; omega)
 simp only[QjU,ByteArray.size_append,z_sp];omega
theorem Qkt (o:ByteArray) (x:Bat):(Qn3 o x).size<=o.size+5:=by
 unfold Qn3;split
 .rw[ByteArray.size_append,z_lt]; exact Zr _
 .omega
theorem Qhm {b:List Bat} (h:BookOk b) {k:Nat} (hk:k < b.length) (o:ByteArray):∀j,j<=b[k].takes.length->(QpI b b[k] o j).size<=o.size+28*j
 | 0,_=>by simp
 | j+1,hj=>by
  have ih:=Qhm h hk o j (by omega)
  have hb:=h.at hk;have hm:=Ze (by omega:j < b[k].takes.length)
  have hf:=hb.fr _ hm;have hg:=hb.gr _ hm;have h2:=QHs (n:=b[k].takes[j].gr) (by omega)
  have lM:b[k].takes[j].fr.toNat < b.length:=by omega
  have h3:=QvR (h.at lM).name;rw[QpI,Qj _ j _ (by omega),Qj _ _ _ lM]
  simp only[ByteArray.size_append,z_sp];omega
theorem QkN {b:List Bat} (h:BookOk b):∀k,k<=b.length->(Qer b k).size<=264*k
 | 0,_=>by show(0:Nat)<=264*0; exact Nat.zero_le _
 | k+1,hk=>by
  have ih:=QkN h k (by omega)
  have hb:=h.at (i:=k) (by omega)
  have uP:b[k].takes.length<=8:=by have:=Qdy hb.asc hb.fr; have:=h.le; omega
  have h1:=Qk3 h (k:=k) (by omega) (Qer b k)
  have h2:=Qkt (QjU (Qer b k) b[k]) b[k];have h3:=Qhm h (k:=k) (by omega) (Qn3 (QjU (Qer b k) b[k]) b[k]) b[k].takes.length (Zr _)
  rw[Qer,Qj _ _ _ (by omega),ByteArray.size_append,z_nl]
  omega
def g77:List (Nat×(List D->Option D)):=[(110,QJR 6)]
theorem dg77:Qay Tryz.prog (Qas g77):=Ql QB QJA (QKi 6 (by omega))
noncomputable def s77:List D->Option D:=sp1 (Qy QO) QmM λb=>if BookOk b then some (Qeu b)else none
set_option maxHeartbeats 4000000 in
theorem ok77:∀ds d,s77 ds=some d->PureC Tryz.prog 77 ds d:=Qb2 λb r hr=>by
 split at hr
 .rename_i h;cases hr;have aX:=h.le;have c1:spB=⟨#[32]⟩:=rfl;have c2:nlB=⟨#[10]⟩:=rfl;have c3:ltB=⟨#[32,108,111,115,116]⟩:=rfl;have z1:(⟨#[32]⟩:ByteArray).size=1:=rfl;have z2:(⟨#[10]⟩:ByteArray).size=1:=rfl;have z3:(⟨#[32,108,111,115,116]⟩:ByteArray).size=5:=rfl;refine Qm (QE dg77 67 QJU []) Tryz.func77 rfl rfl (Zb rfl) (by kernel_rfl) ?_
  rw[Tryz.results77];have e0:(ByteArray.empty:ByteArray)=Qer b 0:=rfl;simp[QJU,Qe]
  (generalize aC:Cx.loop _ _ _=aE; apply Qi aC (λk=>⟨[(0,.d (.sl 5 (b.map QO.enc))),(3,.d (DS (Qer b k))),(4,.d (DI k))],[],[],[]⟩) b.length (by first | (simp; done) | (simp; rfl) | (simp; simp[*])); rotate_left; (show _ < 281474976710656; omega); rfl; rotate_left; all_goals clear aC)
  .intro k hk;have w1:=Qa ((k:Int)+1) (by omega) (by omega)
   have bB:(k:Int) < b.length:=by omega
   have hz:=QkN h k (by omega)
   have hb:=h.at hk;have uP:b[k].takes.length<=8:=by have:=Qdy hb.asc hb.fr; omega
   have oQ:=hb.grams;have cH:=hb.fresh;have n1:=QKt (n:=b[k].grams) (by omega) (by omega)
   have n2:=QKt (n:=b[k].fresh) (by omega) (by omega)
   have d1:=QHs (n:=b[k].grams) (by omega)
   have d2:=QHs (n:=b[k].fresh) (by omega)
   have hn:=QvR hb.name;have lU:=Qk3 h hk (Qer b k);have kB:=Qkt (QjU (Qer b k) b[k]) b[k];have yC:=Qhm h hk (Qn3 (QjU (Qer b k) b[k]) b[k]);have hH:QjU (Qer b k) b[k]=Qer b k++b[k].name++⟨#[32]⟩++QyQ b[k].grams.toNat++⟨#[32]⟩++QyQ b[k].fresh.toNat:=rfl;have hLt:Qn3 (QjU (Qer b k) b[k]) b[k]=if b[k].lost=true then QjU (Qer b k) b[k]++⟨#[32,108,111,115,116]⟩else QjU (Qer b k) b[k]:=rfl;rw[Qer,Qj _ _ _ hk,c2];generalize hOL:Qn3 (QjU (Qer b k) b[k]) b[k]=OL at*;generalize hOH:QjU (Qer b k) b[k]=OH at*;generalize Qer b k=o at*;have k1:o.size+b[k].name.size<=9223372036854775807:=by omega
   have k2:o.size+b[k].name.size+1<=9223372036854775807:=by omega
   have k2':o.size+b[k].name.size<=9223372036854775806:=by omega
   have k3:o.size+b[k].name.size+1+(QyQ b[k].grams.toNat).size<=9223372036854775807:=by omega
   have k4:o.size+b[k].name.size+1+(QyQ b[k].grams.toNat).size+1<=9223372036854775807:=by omega
   have k4':o.size+b[k].name.size+1+(QyQ b[k].grams.toNat).size<=9223372036854775806:=by omega
   have k5:o.size+b[k].name.size+1+(QyQ b[k].grams.toNat).size+1+(QyQ b[k].fresh.toNat).size<=9223372036854775807:=by omega
   have k6:OH.size+5<=9223372036854775807:=by omega
   have k6':OH.size<=9223372036854775802:=by omega
   cases hl:b[k].lost with
   | true=>
    rw[hl,if_pos rfl]at hLt;simp[QJU,g77,QJR,Qh,hk,bB,n1,n2,z1,z3,k1,k2,k3,k4,k5,hl,ByteArray.size_append,<-hH,k6,<-hLt]
    (generalize aC:Cx.loop _ _ _=aE; apply Qi aC (λj=>⟨[(0,.d (.sl 5 (b.map QO.enc))),(3,.d (DS (QpI b b[k] OL j))),(4,.d (DI k)),(5,.loc 5 0),(6,.d (DI j))],[(5,[.d (DS b[k].name),.d (DI b[k].grams),.d (DI b[k].fresh),.d (DB true),.d (.sl 2 (b[k].takes.map Qb1.enc))])],[],[]⟩) b[k].takes.length (by first | (simp; done) | (simp; rfl) | (simp; simp[*])); rotate_left; (show _ < 281474976710656; omega); rfl; rotate_left; all_goals clear aC)
    .intro j hj;have aO:(j:Int) < b[k].takes.length:=by omega
     have w3:=Qa ((j:Int)+1) (by omega) (by omega)
     have hm:=Ze hj;have hf:=hb.fr _ hm;have hg:=hb.gr _ hm;have lM:b[k].takes[j].fr.toNat < b.length:=by omega
     have hfi:b[k].takes[j].fr < b.length:=by omega
     have n3:=QKt (n:=b[k].takes[j].gr) (by omega) (by omega)
     have d3:=QHs (n:=b[k].takes[j].gr) (by omega)
     have hn3:=QvR (h.at lM).name;have hz3:=yC j (by omega)
     rw[QpI,Qj _ j _ hj,Qj _ _ _ lM,c1];generalize QpI b b[k] OL j=q at*;have m1:q.size+1<=9223372036854775807:=by omega
     have m1':q.size<=9223372036854775806:=by omega
     have m2:q.size+1+b[b[k].takes[j].fr.toNat].name.size<=9223372036854775807:=by omega
     have m3:q.size+1+b[b[k].takes[j].fr.toNat].name.size+1<=9223372036854775807:=by omega
     have m3':q.size+1+b[b[k].takes[j].fr.toNat].name.size<=9223372036854775806:=by omega
     have m4:q.size+1+b[b[k].takes[j].fr.toNat].name.size+1+(QyQ b[k].takes[j].gr.toNat).size<=9223372036854775807:=by omega
     simp[QJU,Qh,Qo,hj,aO,hf.1,lM,hfi,n3,w3,z1,m1,m2,m3,m4,ByteArray.size_append]
    .have hz3:=yC b[k].takes.length (Zr _);generalize QpI b b[k] OL b[k].takes.length=q at*;have m1:q.size+1<=9223372036854775807:=by omega
     have m1':q.size<=9223372036854775806:=by omega
     simp[QJU,w1,z2,m1]
   | false=>
    rw[hl,if_neg (by simp)]at hLt
    simp[QJU,g77,QJR,Qh,hk,bB,n1,n2,z1,k1,k2,k3,k4,k5,hl,ByteArray.size_append,<-hH,<-hLt]
    (generalize aC:Cx.loop _ _ _=aE; apply Qi aC (λj=>⟨[(0,.d (.sl 5 (b.map QO.enc))),(3,.d (DS (QpI b b[k] OL j))),(4,.d (DI k)),(5,.loc 5 0),(6,.d (DI j))],[(5,[.d (DS b[k].name),.d (DI b[k].grams),.d (DI b[k].fresh),.d (DB false),.d (.sl 2 (b[k].takes.map Qb1.enc))])],[],[]⟩) b[k].takes.length (by first | (simp; done) | (simp; rfl) | (simp; simp[*])); rotate_left; (show _ < 281474976710656; omega); rfl; rotate_left; all_goals clear aC)
    .intro j hj;have aO:(j:Int) < b[k].takes.length:=by omega
     have w3:=Qa ((j:Int)+1) (by omega) (by omega)
     have hm:=Ze hj;have hf:=hb.fr _ hm;have hg:=hb.gr _ hm;have lM:b[k].takes[j].fr.toNat < b.length:=by omega
     have hfi:b[k].takes[j].fr < b.length:=by omega
     have n3:=QKt (n:=b[k].takes[j].gr) (by omega) (by omega)
     have d3:=QHs (n:=b[k].takes[j].gr) (by omega)
     have hn3:=QvR (h.at lM).name;have hz3:=yC j (by omega)
     rw[QpI,Qj _ j _ hj,Qj _ _ _ lM,c1];generalize QpI b b[k] OL j=q at*;have m1:q.size+1<=9223372036854775807:=by omega
     have m1':q.size<=9223372036854775806:=by omega
     have m2:q.size+1+b[b[k].takes[j].fr.toNat].name.size<=9223372036854775807:=by omega
     have m3:q.size+1+b[b[k].takes[j].fr.toNat].name.size+1<=9223372036854775807:=by omega
     have m3':q.size+1+b[b[k].takes[j].fr.toNat].name.size<=9223372036854775806:=by omega
     have m4:q.size+1+b[b[k].takes[j].fr.toNat].name.size+1+(QyQ b[k].takes[j].gr.toNat).size<=9223372036854775807:=by omega
     simp[QJU,Qh,Qo,hj,aO,hf.1,lM,hfi,n3,w3,z1,m1,m2,m3,m4,ByteArray.size_append]
    .have hz3:=yC b[k].takes.length (Zr _);generalize QpI b b[k] OL b[k].takes.length=q at*;have m1:q.size+1<=9223372036854775807:=by omega
     have m1':q.size<=9223372036854775806:=by omega
     simp[QJU,w1,z2,m1]
  .simp[QJU,Qeu]
 .cases hr
theorem QJ6 (xs:Array Value) (w:World):(callFunc 77 xs).run Tryz.prog w= .ok (.enter 77 xs) w:=by kernel_rfl
end Go.Proofs.YtnfeakhkfehkhaaGreatDoor
namespace Go.Proofs.YtnfeakhkfehkhaaGreatDoor
open Go.RowKit
theorem QIA (s:ByteArray) (b:Int):∀i,∀p∈(QnX s b i).1,p.size<=s.size
 | 0,p,h=>by cases h
 | i+1,p,h=>by
  unfold QnX at h;split at h
  .simp only[Zp,List.mem_singleton]at h;rcases h with h | rfl
   .exact QIA s b i p h
   .rw[ByteArray.size_extract]; omega
  .exact QIA s b i p h
theorem QI0 (s:ByteArray) (b:Int):∀p∈QFk s b,p.size<=s.size:=by
 intro p h;simp only[QFk,Zp,List.mem_singleton]at h;rcases h with h | rfl
 .exact QIA s b _ p h
 .rw[ByteArray.size_extract]; omega
theorem QIq (s:ByteArray) (b:Int):1<=(QFk s b).length/\(QFk s b).length<=s.size+1:=by
 have:=(QIo s b s.size).2;simp[QFk]; omega
def QJG (r:Nat):List (Nat×Option Nat):=match r with
 | 0=>[(0,none)]
 | 1=>[(3,none)]
 | 2=>[(3,none),(4,some 5)]
 | 3=>[(3,none),(4,some 5),(5,none)]
 | 4=>[(3,none),(4,some 5),(5,none),(17,none)]
 | 5=>[(3,none),(4,some 5),(5,none)]
 | 6=>[(3,none),(4,some 5),(5,none),(6,none)]
 | 7=>[(3,none),(4,some 5),(5,none),(6,none),(7,none)]
 | 8=>[(3,none),(4,some 5),(5,none),(6,none),(7,none),(34,none)]
 | 9=>[(3,none),(4,some 5),(5,none),(6,none),(7,none)]
 | 10=>[(3,none),(4,some 5),(5,none),(6,none),(7,none),(8,none)]
 | 11=>[(3,none),(4,some 5),(5,none),(6,none),(7,none),(8,none),(49,none)]
 | 12=>[(3,none),(4,some 5),(5,none),(6,none),(7,none),(8,none)]
 | 13=>[(3,none),(4,some 5),(5,none),(6,none),(7,none),(8,none),(9,none)]
 | 14=>[(3,none),(4,some 5),(5,none),(6,none),(7,none),(8,none),(9,none),(10,none)]
 | 15=>[(3,none),(4,some 5),(5,none),(6,none),(7,none),(8,none),(9,none),(10,none),(61,none)]
 | 16=>[(3,none),(4,some 5),(5,none),(6,none),(7,none),(8,none),(9,none),(10,none)]
 | 17=>[(3,none),(4,some 5),(5,none),(6,none),(7,none),(8,none),(9,none),(10,none),(73,none)]
 | 18=>[(3,none),(4,some 5),(5,none),(6,none),(7,none),(8,none),(9,none),(10,none)]
 | 19=>[(3,none),(4,some 5),(5,none),(6,none),(7,none),(8,none)]
 | 20=>[(3,none),(4,some 5),(5,none)]
 | 21=>[(2,some 5)]
 | _=>[]
def QKj (r:Nat):List (Nat×Option Nat):=match r with
 | 0=>[(0,none)]
 | 1=>kpn [0,10]
 | 2=>kpn [2,3]
 | 3=>kpn [0,4]
 | 4=>kpn [0,4,7]
 | 5=>kpn [4,26]
 | 6=>kpn [2,3]
 | 7=>kpn [2,3]
 | _=>[]
theorem QKm (xs:Array Value) (w:World):(callFunc 30 xs).run Tryz.prog w= .ok (.enter 30 xs) w:=by kernel_rfl
noncomputable def QhL (b:List Bat):ByteArray×Int:=if(Q5 b).2.2=0 then(Qeu b,0)else(⟨#[]⟩,(Q5 b).2.2)
noncomputable def g30:List (Nat×(List D->Option D)):=[(18,s18),(77,s77)]
theorem dg30:Qay Tryz.prog (Qas g30):=Ql (Ql QB QJ6 ok77) QyE QKw
theorem QJ5 {b:List Bat} (h:bkB b=true):s18 [.sl 5 (b.map QO.enc)]=some (.tup [DI (Q5 b).1,DI (Q5 b).2.1,DI (Q5 b).2.2]):=by
 simp only[s18,sp1,QR];rw[if_pos h]; rfl
theorem QJ7 {b:List Bat} (h:BookOk b):s77 [.sl 5 (b.map QO.enc)]=some (DS (Qeu b)):=by
 simp only[s77,sp1,QR];rw[if_pos h]; rfl
noncomputable def s30:List D->Option D:=sp1 (Qy QO) (Qex QmM Qbh) λb=>if bkB b=true then some (QhL b)else none
theorem ok30:∀ds d,s30 ds=some d->PureC Tryz.prog 30 ds d:=Qb2 λb r hr=>by
 split at hr
 .rename_i cO;cases hr;refine Qm (QE dg30 18 QKz []) Tryz.func30 rfl rfl (Zb rfl) (by kernel_rfl) ?_
  rw[Tryz.results30];have h18:=QJ5 cO;by_cases h0:(Q5 b).2.2=0
  .have hv:=(Qbl b).1 h0;have h77:=QJ7 hv.ok;rw[h0]at h18;rw[show QhL b=(Qeu b,0)from if_pos h0];simp[QKz,g30,Qe,h18,h77]
  .have h':((Q5 b).2.2 != 0)=true:=bne_iff_ne.2 h0;rw[show QhL b=(⟨#[]⟩,(Q5 b).2.2)from if_neg h0];simp[QKz,g30,Qe,h18,h']
 .cases hr
def QCf (b:List Bat) (w:ByteArray):Nat->Int
 | 0=> -1
 | n+1=>if(b.getD n default).name.toList=w.toList then(n:Int)else QCf b w n
def Qty (b:List Bat) (W:List ByteArray):Nat->List Tak
 | 0=>[]
 | j+1=>Qty b W j++[⟨QCf b (W.getD (2*j+3) ⟨#[]⟩) b.length,QH4 (W.getD (2*j+4) ⟨#[]⟩)⟩]
def QHS (W:List ByteArray):Nat:=(W.length - 3) / 2
def QKr (b:List Bat) (W:List ByteArray):Bat:=⟨W.getD 0 ⟨#[]⟩,if 3<=W.length then QH4 (W.getD 1 ⟨#[]⟩)else 0,if 3<=W.length then QH4 (W.getD 2 ⟨#[]⟩)else 0,decide (W.length=4),Qty b W (QHS W)⟩
def Qu1 (L:List ByteArray):Nat->List Bat
 | 0=>[]
 | i+1=>Qu1 L i++[QKr (Qu1 L i) (QFk (L.getD i ⟨#[]⟩) 32)]
def QIi (s:ByteArray):List Bat:=Qu1 (QFk s 10) ((QFk s 10).length - 1)
theorem QIY (L:List ByteArray):∀k,(Qu1 L k).length=k
 | 0=>rfl
 | k+1=>by simp[Qu1,QIY L k]
theorem QIy (b:List Bat) (W:List ByteArray):∀k,(Qty b W k).length=k
 | 0=>rfl
 | k+1=>by simp[Qty,QIy b W k]
@[simp] theorem takesW_zero (b : List Bat) (W : List ByteArray) : Qty b W 0 = [] := rfl
@[simp] theorem fromK_zero (b : List Bat) (w : ByteArray) : QCf b w 0 = -1 := rfl
@[simp] theorem parseK_zero (L : List ByteArray) : Qu1 L 0 = [] := rfl
theorem QJh {L:List ByteArray} (h:∀k (h:k < L.length),L[k].size<=3000):∀k,k<=L.length->∀x∈Qu1 L k,x.takes.length<=3000
 | 0,_,x,hx=>by cases hx
 | k+1,hk,x,hx=>by
  rw[Qu1]at hx;rcases Zp.1 hx with hx | hx
  .exact QJh h k (by omega) x hx
  .rw[List.mem_singleton.1 hx];show(Qty _ _ (QHS _)).length<=3000;rw[QIy,Qj _ _ _ (by omega)]
   have h1:=(QIq L[k] 32).2;have h2:=h k (by omega)
   unfold QHS; omega
def g83:List (Nat×(List D->Option D)):=(114,QKh)::(115,QJz)::[]
theorem dg83:Qay Tryz.prog (Qas g83):=Ql (Ql QB QKc QKv) QJ9 QKx
def QJC (r:Nat):List (Nat×Nat):=if r=9 then [(6,9)]else []
def s83:List D->Option D:=sp1 QmM (Qy QO) λs=>if s.size<=3000 then some (QIi s)else none
set_option maxHeartbeats 8000000 in
theorem ok83:∀ds d,s83 ds=some d->PureC Tryz.prog 83 ds d:=Qb2 λs r hr=>by
 split at hr
 .rename_i hs;cases hr;refine Qbz (Qy QO) (QIi s) (QbT dg83 Qct QbC QcU 87 QJG [(7,4,2)] QJC (λ_=>0)) Tryz.func83 rfl rfl (Zb rfl) (by kernel_rfl) ?_
  rw[Tryz.results83];have aI:=QIq s 10;obtain⟨n,hn⟩:∃n,(QFk s 10).length=n+1:=⟨(QFk s 10).length - 1,by omega⟩
  have lK:n<=3000:=by omega
  have hP:QIi s=Qu1 (QFk s 10) n:=by unfold QIi; rw[hn]; rfl
  rw[hP];have hLz:∀k (h:k < (QFk s 10).length),(QFk s 10)[k].size<=3000:=λk h=>Nat.le_trans (QI0 s 10 _ (Ze h)) hs;simp[QJG,g83,QJz,QfJ,QKh,hs];generalize hL:QFk s 10=L at*
  (generalize aC:Cx.loop _ _ _=aE; apply Qi aC (λk=>⟨[(3,.d (.sl 1 (L.map Qf7.enc))),(4,.sl 5 ((Qu1 L k).map QO.enc) (.tok 4)),(5,.d (DI k))],[],[4],[]⟩) n (by first | (simp; done) | (simp; rfl) | (simp; simp[*])); rotate_left; (show _ < 281474976710656; omega); rfl; rotate_left; all_goals clear aC)
  .intro k hk;have hkL:k < L.length:=by omega
   have eQ:(k:Int)+1 < L.length:=by omega
   have hkI':(k:Int) < L.length:=by omega
   have w1:=Qa ((k:Int)+1) (by omega) (by omega)
   have hlz:=hLz k hkL;rw[Qu1,Qj _ _ _ hkL];have hWl:=QIq L[k] 32;have dE:=QIY L k;generalize hW:QFk L[k] 32=W at*;have hhf:QHS W<=3000:=by unfold QHS; omega
   generalize Qu1 L k=b at*;have g0:0 < W.length:=by omega
   have i0:(0:Int) < W.length:=by omega
   have hdec:((W.length:Int)==4)=decide (W.length=4):=by
    rw[Bool.eq_iff_iff,beq_iff_eq,decide_eq_true_eq]; omega
   have b1:k<=140737488355327:=by omega
   have b2:(k+1)*64<=140737488355328:=by omega
   have w3:IntKind.i64.wrap 3=3:=by decide
   unfold QKr;rw[Qj W 0 _ g0];by_cases h3:3<=W.length
   .have qH:(3:Int)<=W.length:=by omega
    have g1:1 < W.length:=by omega
    have g2:2 < W.length:=by omega
    have i1:(1:Int) < W.length:=by omega
    have i2:(2:Int) < W.length:=by omega
    rw[if_pos h3,if_pos h3,Qj W 1 _ g1,Qj W 2 _ g2];simp[QJG,QJC,QfJ,QaO,Qh,hkL,eQ,hkI',hlz,hW,w1,g0,hdec,qH,g1,g2,i1,i2]
    (generalize aC:Cx.loop _ _ _=aE; apply Qi aC (λj=>⟨[(3,.d (.sl 1 (L.map Qf7.enc))),(4,.sl 5 (b.map QO.enc) (.tok 4)),(5,.d (DI k)),(6,.d (.sl 1 (W.map Qf7.enc))),(7,.loc 7 0),(8,.d (DI (2*(j:Int)+3)))],[(7,[.d (DS W[0]),.d (DI (QH4 W[1])),.d (DI (QH4 W[2])),.d (DB (decide (W.length=4))),.sl 2 ((Qty b W j).map Qb1.enc) (.tok 100704)])],[100704,4],[]⟩) (QHS W) (by first | (simp; done) | (simp; rfl) | (simp; simp[*])); rotate_left; (show _ < 281474976710656; omega); rfl; rotate_left; all_goals clear aC)
    .intro j hj;have dW:2*j+4 < W.length:=by unfold QHS at hj; omega
     have g3:2*j+3 < W.length:=by omega
     have j1:2*(j:Int)+3 < W.length:=by omega
     have j2:2*(j:Int)+3+1 < W.length:=by omega
     have e1:(2*(j:Int)+3).toNat=2*j+3:=by omega
     have e2:(2*(j:Int)+3+1).toNat=2*j+4:=by omega
     have wa:=Qa (2*(j:Int)+3+1) (by omega) (by omega)
     have wb:=Qa (2*(j:Int)+3+2) (by omega) (by omega)
     have p0:0<=2*(j:Int)+3:=by omega
     have p1:0<=2*(j:Int)+3+1:=by omega
     have e3:2*((j:Int)+1)+3=2*(j:Int)+3+2:=by omega
     have l1:=QIy b W j;rw[Qty,Qj W _ _ g3,Qj W _ _ dW];generalize Qty b W j=TJ at*;have c3:TJ.length+1<=140737488355328:=by omega
     have c4:(TJ.length+1)*16<=140737488355328:=by omega
     simp[QJG,QaO,Qo,j2,e2,p1,dW,wa]
     (generalize aC:Cx.loop _ _ _=aE; apply Qi aC (λn=>⟨[(3,.d (.sl 1 (L.map Qf7.enc))),(4,.sl 5 (b.map QO.enc) (.tok 4)),(5,.d (DI k)),(6,.d (.sl 1 (W.map Qf7.enc))),(7,.loc 7 0),(8,.d (DI (2*(j:Int)+3))),(9,.loc 9 0),(10,.d (DI n))],[(7,[.d (DS W[0]),.d (DI (QH4 W[1])),.d (DI (QH4 W[2])),.d (DB (decide (W.length=4))),.sl 2 (TJ.map Qb1.enc) (.tok 100704)]),(9,[.d (DI (QCf b W[2*j+3] n)),.d (DI (QH4 W[2*j+4]))])],[100704,4],[]⟩) k (by first | (simp; done) | (simp; rfl) | (simp; simp[*])); rotate_left; (show _ < 281474976710656; omega); rfl; rotate_left; all_goals clear aC)
     .intro n hn;have hnl:(n:Int) < k:=by omega
      have d7:n < b.length:=by omega
      have hnbI:(n:Int) < b.length:=by omega
      have w4:=Qa ((n:Int)+1) (by omega) (by omega)
      rw[QCf,Qj b n _ d7];by_cases he:b[n].name.toList=W[2*j+3].toList
      .have kU:(b[n].name.toList==W[2*j+3].toList)=true:=by rw[he]; simp
       rw[if_pos he];simp[QJG,QJC,QaO,Qh,hnl,d7,hnbI,w4,e1,p0,j1,g3,kU]
      .have kU:(b[n].name.toList==W[2*j+3].toList)=false:=by simpa using he
       rw[if_neg he];simp[QJG,QJC,QaO,Qh,hnl,d7,hnbI,w4,e1,p0,j1,g3,kU]
     .rw[dE];simp[QJG,c3,c4,wb,e3]
    .have cY:¬2*(QHS W:Int)+3+1 < W.length:=by unfold QHS; omega
     have wa:=Qa (2*(QHS W:Int)+3+1) (by omega) (by omega)
     generalize Qty b W (QHS W)=TJ at*;simp[QJG,cY,wa,w1,dE,b1,b2]
   .have qH:¬(3:Int)<=W.length:=by omega
    have hh0:QHS W=0:=by unfold QHS; omega
    rw[if_neg h3,if_neg h3,hh0];simp[QJG,QfJ,QaO,Qh,hkL,eQ,hkI',hlz,hW,w1,g0,hdec,qH]
    (generalize aC:Cx.loop _ _ _=aE; apply Qi aC (λj=>⟨[(3,.d (.sl 1 (L.map Qf7.enc))),(4,.sl 5 (b.map QO.enc) (.tok 4)),(5,.d (DI k)),(6,.d (.sl 1 (W.map Qf7.enc))),(7,.loc 7 0),(8,.d (DI (2*(j:Int)+3)))],[(7,[.d (DS W[0]),.d (DI 0),.d (DI 0),.d (DB (decide (W.length=4))),.sl 2 ([]) (.tok 100704)])],[100704,4],[]⟩) 0 (by first | (simp; done) | (simp; rfl) | (simp; simp[*])); rotate_left; (show _ < 281474976710656; omega); rfl; rotate_left; all_goals clear aC)
    .intro j hj; omega
    .have cY:¬(4:Int) < W.length:=by omega
     have w4:IntKind.i64.wrap 4=4:=by decide
     simp[QJG,cY,w4,w1,dE,b1,b2]
  .have cY:¬(n:Int)+1 < L.length:=by omega
   have w1:=Qa ((n:Int)+1) (by omega) (by omega)
   simp[QJG,cY,w1,QR]
 .cases hr
theorem QKf (xs:Array Value) (w:World):(callFunc 83 xs).run Tryz.prog w= .ok (.enter 83 xs) w:=by kernel_rfl
noncomputable def g32:List (Nat×(List D->Option D)):=[(83,s83),(18,s18),(77,s77)]
theorem dg32:Qay Tryz.prog (Qas g32):=Ql (Ql (Ql QB QJ6 ok77) QyE QKw) QKf ok83
noncomputable def QII (s:ByteArray):List Bat×Int:=if 3000 < s.size then([],3)else if(Q5 (QIi s)).2.2=0/\(Qeu (QIi s)).toList=s.toList then(QIi s,0)else([],6)
theorem QJD {s:ByteArray} (h:s.size<=3000):bkB (QIi s)=true:=by
 have aI:=QIq s 10;unfold bkB;rw[Zl];intro x hx;have:=QJh (L:=QFk s 10) (λk hk=>Nat.le_trans (QI0 s 10 _ (Ze hk)) h) ((QFk s 10).length - 1) (by omega) x hx
 simp; omega
noncomputable def s32:List D->Option D:=sp1 QmM (Qex (Qy QO) Qbh) λs=>some (QII s)
theorem ok32:∀ds d,s32 ds=some d->PureC Tryz.prog 32 ds d:=Qb2 λs r hr=>by
 cases hr;refine Qbz (Qex (Qy QO) Qbh) (QII s) (QE dg32 28 QKj []) Tryz.func32 rfl rfl (Zb rfl) (by kernel_rfl) ?_
 rw[Tryz.results32];unfold QII;by_cases h1:3000 < s.size
 .have h1I:(3000:Int) < s.size:=by omega
  rw[if_pos h1];simp[QKj,g32,h1I,Qar]
 .have h1I:¬(3000:Int) < s.size:=by omega
  have hs:s.size<=3000:=by omega
  have cO:=QJD hs;have h18:=QJ5 cO;have h77:=λh=>QJ7 (b:=QIi s) h;rw[if_neg h1];have h83:s83 [DS s]=some (.sl 5 ((QIi s).map QO.enc)):=by
   simp only[s83,sp1,Qp8];rw[if_pos hs]; rfl
  generalize QIi s=p at*;by_cases h0:(Q5 p).2.2=0
  .have hv:=(Qbl p).1 h0;have h77':=h77 hv.ok;rw[h0]at h18;by_cases ht:(Qeu p).toList=s.toList
   .have iN:(!((Qeu p).toList==s.toList))=false:=by rw[ht]; simp
    rw[if_pos ⟨h0,ht⟩];simp[QKj,g32,h1I,h83,h18,h77',iN,QR]
   .have iN:((Qeu p).toList==s.toList)=false:=by simpa using ht
    rw[if_neg (λq=>ht q.2)];simp[QKj,g32,h1I,h83,h18,h77',iN,Qar]
  .have h':((Q5 p).2.2 != 0)=true:=bne_iff_ne.2 h0;rw[if_neg (λq=>h0 q.1)];simp[QKj,g32,h1I,h83,h18,h',Qar]
theorem QKn (xs:Array Value) (w:World):(callFunc 32 xs).run Tryz.prog w= .ok (.enter 32 xs) w:=by kernel_rfl
end Go.Proofs.YtnfeakhkfehkhaaGreatDoor
