/-
  The program's judge of bags of stubs: what it computes. Conditions: a valid sort, valid bags.
-/
import Derived.Test.YticoemblgkemiaaGreatDoorZTrB
import Derived.Test.YticoemblgkemiaaGreatDoorZTys
set_option linter.unusedSimpArgs false
set_option linter.unusedVariables false
namespace Go.Proofs.YticoemblgkemiaaGreatDoor
open Go.RowKit
def QKo (r:Nat):List (Nat×Option Nat):=match r with
 | 0=>kpn [1,2,3,4,5]
 | 1=>kpn [1,2,3,4,5,11,12]
 | 2=>kpn [2,3,4,5,11,12,16,17,18]
 | 3=>kpn [2,3,4,5,11,12,16,17,18,19]
 | 4=>kpn [2,3,4,5,11,12,14,16,17,18]
 | 5=>kpn [2,3,4,5,11,12,14,15,16,17,18]
 | 6=>kpn [2,3,4,5,11,12,14,15,16,17,18,28]
 | 7=>kpn [2,3,4,5,11,12,15,16,17,18]
 | 8=>kpn [2,3,4,5,11,12,15,16,17,18]
 | 9=>kpn [2,3,4,5,11,12,16,17,18]
 | 10=>kpn [2,3,4,5,11,12,16,17,18]
 | 11=>[(10,none)]
 | _=>[]
def QBN (r:Nat):List (Nat×Option Nat):=match r with
 | 0=>kpn [0,1]
 | 1=>kpn [1,8,9,10]
 | 2=>kpn [1,8,9,10,11]
 | 3=>kpn [1,6,7,8,9,10]
 | 4=>kpn [1,5,6,8,9,10]
 | 5=>kpn [1,5,6,8,9,10,20]
 | 6=>kpn [4,5]
 | 7=>kpn [1,8,9,10]
 | 8=>kpn [4,5]
 | _=>[]
def QJk (r:Nat):List (Nat×Option Nat):=match r with
 | 0=>[(3,none)]
 | 1=>kpn [3,5]
 | 2=>[(4,none)]
 | 3=>[(20,none)]
 | 4=>[(4,none)]
 | 5=>[(4,none)]
 | _=>[]
def kj59 (r:Nat):List (Nat×Option Nat):=match r with
 | 0=>kpn [1,2,4]
 | 1=>kpn [1,2,4,6]
 | 2=>kpn [4,5]
 | 3=>kpn [1,2,4,18]
 | 4=>kpn [4,5]
 | 5=>kpn [2,4,5]
 | 6=>kpn [4,5]
 | _=>[]
def QN6 (r:Nat):List (Nat×Option Nat):=match r with
 | 0=>kpn [1,2]
 | 1=>kpn [1,6,7]
 | 2=>kpn [1,6,7,14]
 | 3=>kpn [4,5]
 | 4=>kpn [1,6,18]
 | 5=>kpn [4,5]
 | 6=>[(22,none)]
 | 7=>kpn [4,5]
 | 8=>kpn [4,5]
 | _=>[]
def kj60 (r:Nat):List (Nat×Option Nat):=match r with
 | 0=>kpn [1,2]
 | 1=>[(4,none)]
 | _=>[]
def kj62 (r:Nat):List (Nat×Option Nat):=match r with
 | 0=>kpn [1,2]
 | 1=>[(3,none)]
 | _=>[]
def kj63 (r:Nat):List (Nat×Option Nat):=match r with
 | 0=>kpn [2,3]
 | 1=>[(4,none)]
 | _=>[]
def kj64 (r:Nat):List (Nat×Option Nat):=match r with
 | 0=>[(1,none)]
 | 1=>[(2,none)]
 | _=>[]
def kj65 (r:Nat):List (Nat×Option Nat):=match r with
 | 0=>[(1,none)]
 | 1=>[(2,none)]
 | _=>[]
def QLM (r:Nat):List (Nat×Option Nat):=match r with
 | 0=>kpn [2,3]
 | 1=>[(4,none)]
 | _=>[]
def QLm (r:Nat):List (Nat×Option Nat):=match r with
 | 0=>kpn [2,3,4]
 | 1=>[(6,none)]
 | _=>[]
structure Srt where
 kinds:Int
 fo:Int
structure Bag where
 lo:Int
 hi:Int
 kinds:Int
deriving Inhabited
def Qo3:Row Srt:=⟨2,fun x=>[DI x.kinds,DI x.fo],fun d=>match d with | [.v (.int .i64 a0),.v (.int .i64 a1)]=>some ⟨a0,a1⟩ | _=>none,fun _=>rfl,fun d x h=>by
 split at h
 ·cases h; exact LImp.refl _
 ·cases h⟩
theorem QbZ (x:Srt):Qo3.enc x=[DI x.kinds,DI x.fo]:=rfl
theorem Qnl (x:Srt):Qo3.dec [DI x.kinds,DI x.fo]=some x:=Qo3.de x
theorem Qjv (a b:Int):Qo3.dec [DI a,DI b]=some ⟨a,b⟩:=rfl
def QiJ:Row Bag:=⟨3,fun x=>[DI x.lo,DI x.hi,DI x.kinds],fun d=>match d with | [.v (.int .i64 a0),.v (.int .i64 a1),.v (.int .i64 a2)]=>some ⟨a0,a1,a2⟩ | _=>none,fun _=>rfl,fun d x h=>by
 split at h
 ·cases h; exact LImp.refl _
 ·cases h⟩
theorem Qan (x:Bag):QiJ.enc x=[DI x.lo,DI x.hi,DI x.kinds]:=rfl
theorem Qa1:QiJ.k=3:=rfl
theorem Qna (a b c:Int):QiJ.dec [DI a,DI b,DI c]=some ⟨a,b,c⟩:=rfl
theorem QfK (l:List Bag):(QJ QiJ).dec (.sl 3 (l.map QiJ.enc))=some l:=Qbd QiJ l 3 rfl
def Qu9 (s:Srt) (b:Bag):Bool:=bits .andNot .i64 b.kinds s.kinds != 0
def QzG (s:Srt) (b:Bag):Bool:=bits .and .i64 b.kinds s.kinds != 0
inductive Fr where
 | f (s:Srt)
 | o (s:Srt)
def Fr.is:Fr→Bag→Bool
 | .f s,b=>Qu9 s b
 | .o s,b=>!QzG s b
def Fr.enc:Fr→D
 | .f s=> .fn 145 [.agg (Qo3.enc s)] []
 | .o s=> .fn 62 [] [.dat 2 [Qo3.enc s] 0 0]
def cFr:Cod Fr:=⟨Fr.enc,fun d=>match d with
 | .fn 145 [.agg [.v (.int .i64 a),.v (.int .i64 b)]] []=>some (.f ⟨a,b⟩)
 | .fn 62 [] [.dat 2 [[.v (.int .i64 a),.v (.int .i64 b)]] 0 0]=>some (.o ⟨a,b⟩)
 | _=>none,fun d x h=>by
 split at h
 ·cases h; exact DImp.refl _
 ·cases h; exact DImp.refl _
 ·cases h⟩
theorem QFy (p:Fr):cFr.enc p=p.enc:=rfl
def QaP (h:Bool) (b:Bag):Int:=if h=true then b.hi else b.lo
def QkI (h:Bool):D:=if h=true then .v (.func (.func 65) #[] #[])else .v (.func (.func 64) #[] #[])
def QCM:Cod Bool:=⟨QkI,fun d=>match d with
 | .v v=>if QGr 65 v=true then some true else if QGr 64 v=true then some false else none
 | _=>none,fun d x h=>by
 split at h
 ·split at h
  ·rename_i hf; cases h; rw[Qkc hf]; exact DImp.refl _
  ·split at h
   ·rename_i hf; cases h; rw[Qkc hf]; exact DImp.refl _
   ·cases h
 ·cases h⟩
theorem Qyw (p:Bool):QCM.enc p=QkI p:=rfl
def QGi:Cod Srt:=⟨fun s=> .dat 2 [Qo3.enc s] 0 0,fun d=>match d with | .dat 2 [[.v (.int .i64 a),.v (.int .i64 b)]] 0 0=>some ⟨a,b⟩ | _=>none,fun d x h=>by
 split at h
 ·cases h; exact DImp.refl _
 ·cases h⟩
theorem Qx9 (s:Srt):QGi.enc s= .dat 2 [[DI s.kinds,DI s.fo]] 0 0:=rfl
theorem Qvm (s:Srt):QGi.dec (.dat 2 [[DI s.kinds,DI s.fo]] 0 0)=some s:=rfl
def Qqw:List D→Option D:=sp3 QaY QaY (QJ QH) QaW fun lo hi l=>if l.length≤35184372088832 then some (Qk3 lo hi l)else none
theorem QDE:∀ds d,Qqw ds=some d→PureC Tryz.prog 108 ds d:=QcN fun lo hi l r hr=>by
 split at hr
 ·rename_i hlm;cases hr;refine Qf (Qw dp3 10 QLm []) Tryz.func108 rfl rfl (Nat.le_of_ble_eq_true rfl) (by kernel_rfl) ?_
  rw[Tryz.results108];have e:Qk3 lo hi l=l.any (Prd.outS lo hi).is:=rfl;rw[e];simp[QLm,p3,s87,Qxr,Qn,Qap,hlm]
 ·cases hr
theorem Qsw (xs:Array Value) (w:World):(callFunc 108 xs).run Tryz.prog w= .ok (.enter 108 xs) w:=by kernel_rfl
theorem QqE (lo hi a:Int):Qqw [DI lo,DI hi,.sl 1 [[DI a]]]=some (DB (!inR a lo hi)):=by
 have e:([[DI a]]:List (List D))=[a].map QH.enc:=rfl;simp only[Qqw,sp3,e,Qap,Qak];rw[if_pos (show [a].length≤35184372088832 by simp)]
 simp[Qk3]
theorem QFP (lo hi a b:Int):Qqw [DI lo,DI hi,.sl 1 [[DI a],[DI b]]]=some (DB (!inR a lo hi||!inR b lo hi)):=by
 have e:([[DI a],[DI b]]:List (List D))=[a,b].map QH.enc:=rfl;simp only[Qqw,sp3,e,Qap,Qak];rw[if_pos (show [a,b].length≤35184372088832 by simp)]
 simp[Qk3]
def QFh:List D→Option D:=sp2 (Qcf Qo3) (Qcf QiJ) QaW fun s b=>some (Qu9 s b)
theorem QIr:∀ds d,QFh ds=some d→PureC Tryz.prog 145 ds d:=Qay fun s b r hr=>by
 cases hr;refine Qf (Qw Qs 12 QLM []) Tryz.func145 rfl rfl (Nat.le_of_ble_eq_true rfl) (by kernel_rfl) ?_
 rw[Tryz.results145];unfold Qu9;simp[QLM,QbZ,Qan]
theorem QCJ (xs:Array Value) (w:World):(callFunc 145 xs).run Tryz.prog w= .ok (.enter 145 xs) w:=by kernel_rfl
def QOg:List D→Option D:=sp2 (Qcf Qo3) (Qcf QiJ) QaW fun s b=>some (QzG s b)
theorem QOX:∀ds d,QOg ds=some d→PureC Tryz.prog 63 ds d:=Qay fun s b r hr=>by
 cases hr;refine Qf (Qw Qs 12 kj63 []) Tryz.func63 rfl rfl (Nat.le_of_ble_eq_true rfl) (by kernel_rfl) ?_
 rw[Tryz.results63];unfold QzG;simp[kj63,QbZ,Qan]
theorem QD5 (xs:Array Value) (w:World):(callFunc 63 xs).run Tryz.prog w= .ok (.enter 63 xs) w:=by kernel_rfl
def jg1:List (Nat×(List D→Option D)):=[(63,QOg)]
theorem djg1:QaE Tryz.prog (Qaw jg1):=Qh Qs QD5 QOX
def QOv:List D→Option D:=sp2 (Qcf QiJ) QGi QaW fun b s=>some (!QzG s b)
theorem QOG:∀ds d,QOv ds=some d→PureC Tryz.prog 62 ds d:=Qay fun b s r hr=>by
 cases hr;refine Qf (Qw djg1 8 kj62 []) Tryz.func62 rfl rfl (Nat.le_of_ble_eq_true rfl) (by kernel_rfl) ?_
 rw[Tryz.results62];simp[kj62,jg1,QOg,Qx9,Qjv,Qna,Qan]
theorem QE1 (xs:Array Value) (w:World):(callFunc 62 xs).run Tryz.prog w= .ok (.enter 62 xs) w:=by kernel_rfl
def QNl:List D→Option D:=sp1 (Qcf QE6) QaY fun x=>some x.lo
theorem QOD:∀ds d,QNl ds=some d→PureC Tryz.prog 64 ds d:=Qbr fun x r hr=>by
 cases hr;refine Qf (Qw Qs 5 kj64 []) Tryz.func64 rfl rfl (Nat.le_of_ble_eq_true rfl) (by kernel_rfl) ?_
 rw[Tryz.results64];simp[kj64,Qar]
theorem QH5 (xs:Array Value) (w:World):(callFunc 64 xs).run Tryz.prog w= .ok (.enter 64 xs) w:=by kernel_rfl
def QNh:List D→Option D:=sp1 (Qcf QE6) QaY fun x=>some x.hi
theorem QOz:∀ds d,QNh ds=some d→PureC Tryz.prog 65 ds d:=Qbr fun x r hr=>by
 cases hr;refine Qf (Qw Qs 5 kj65 []) Tryz.func65 rfl rfl (Nat.le_of_ble_eq_true rfl) (by kernel_rfl) ?_
 rw[Tryz.results65];simp[kj65,Qar]
theorem QFp (xs:Array Value) (w:World):(callFunc 65 xs).run Tryz.prog w= .ok (.enter 65 xs) w:=by kernel_rfl
def jg2:List (Nat×(List D→Option D)):=[(145,QFh),(62,QOv),(64,QNl),(65,QNh)]
theorem djg2:QaE Tryz.prog (Qaw jg2):=Qh (Qh (Qh (Qh Qs QFp QOz) QH5 QOD) QE1 QOG) QCJ QIr
def QtG (b:Bag):Prop:=0≤b.lo∧b.lo≤b.hi∧b.hi≤1000000∧1≤b.kinds∧b.kinds≤255
def Qe9 (l:List Bag):Prop:=l.length≤10∧∀b∈l,QtG b
def Qj3 (s:Srt):Prop:=1≤s.kinds∧s.kinds≤255∧0≤s.fo∧s.fo≤1000
noncomputable instance (l:List Bag):Decidable (Qe9 l):=Classical.propDecidable _
instance (s:Srt):Decidable (Qj3 s):=inferInstanceAs (Decidable (_∧_))
def QtV (F:Bag→Bool) (p:Bag→Int) (l:List Bag) (n:Nat):Int:=QK n fun i=>if F (l.getD i default)=true then p (l.getD i default)else 0
def Qua (F:Bag→Bool) (p q:Bag→Int) (l:List Bag) (n:Nat):Int:=QK n fun i=>if F (l.getD i default)=true then p (l.getD i default)else q (l.getD i default)
def Qq7 (s:Srt) (l:List Bag) (F:Bag→Bool) (p q:Bag→Int):Bool:=decide (QtV F p l l.length*1000≤s.fo*Qua F p q l l.length)
theorem QhM {b:Bag} (h:QtG b) (x:Bool):0≤QaP x b∧QaP x b≤1000000:=by
 obtain⟨h1,h2,h3,_⟩:=h;cases x<;>simp[QaP]<;>omega
theorem QoR {l:List Bag} (h:Qe9 l) {k:Nat} (hk:k < l.length):QtG (l.getD k default):=by
 rw[Ql _ _ _ hk]; exact h.2 _ (List.getElem_mem hk)
theorem Qw6 {l:List Bag} (h:Qe9 l) (F:Bag→Bool) (x:Bool):∀n,n≤l.length→0≤QtV F (QaP x) l n∧QtV F (QaP x) l n≤1000000*n
 | 0,_=>by unfold QtV QK; omega
 | n+1,hn=>by
  have ih:=Qw6 h F x n (by omega)
  have hb:=QhM (QoR h (k:=n) (by omega)) x
  have e:QtV F (QaP x) l (n+1)=QtV F (QaP x) l n+if F (l.getD n default)=true then QaP x (l.getD n default)else 0:=rfl;rw[e]; split<;>omega
theorem QyR {l:List Bag} (h:Qe9 l) (F:Bag→Bool) (x y:Bool):∀n,n≤l.length→0≤Qua F (QaP x) (QaP y) l n∧Qua F (QaP x) (QaP y) l n≤1000000*n
 | 0,_=>by unfold Qua QK; omega
 | n+1,hn=>by
  have ih:=QyR h F x y n (by omega)
  have hb:=QhM (QoR h (k:=n) (by omega)) x
  have hc:=QhM (QoR h (k:=n) (by omega)) y
  have e:Qua F (QaP x) (QaP y) l (n+1)=Qua F (QaP x) (QaP y) l n+if F (l.getD n default)=true then QaP x (l.getD n default)else QaP y (l.getD n default):=rfl;rw[e]; split<;>omega
noncomputable def QLo:List D→Option D:=sp5 (Qcf Qo3) (QJ QiJ) cFr QCM QCM QaW fun s l F x y=>if Qj3 s∧Qe9 l then some (Qq7 s l F.is (QaP x) (QaP y))else none
set_option maxHeartbeats 1000000 in
theorem QJN:∀ds d,QLo ds=some d→PureC Tryz.prog 61 ds d:=QJO fun s l F x y r hr=>by
 split at hr
 ·rename_i hc;obtain⟨hs,hl⟩:=hc;cases hr;refine Qf (Qw djg2 48 QKo []) Tryz.func61 rfl rfl (Nat.le_of_ble_eq_true rfl) (by kernel_rfl) ?_
  rw[Tryz.results61];have h10:=hl.1;simp[QKo,QFy,Qyw,QbZ,Qa1];have a0:QtV F.is (QaP x) l 0=0:=rfl;have b0:Qua F.is (QaP x) (QaP y) l 0=0:=rfl
  (generalize hLoopQ:Cx.loop _ _ _=rLoopQ; apply Qi hLoopQ (fun k=>⟨[(2,.d F.enc),(3,.d (QkI x)),(4,.d (QkI y)),(5,.loc 5 0),(11,.d (DI (QtV F.is (QaP x) l k))),(12,.d (DI (Qua F.is (QaP x) (QaP y) l k))),(16,.d (.sl 3 (l.map QiJ.enc))),(17,.d (DI l.length)),(18,.d (DI k))],[(5,[.d (DI s.kinds),.d (DI s.fo)])],[],[]⟩) l.length (by first | (simp; done) | (simp; rfl) | (simp; simp[*])); rotate_left; (show _ < 281474976710656; omega); rfl; rotate_left; all_goals clear hLoopQ)
  ·intro k hk;have hkI:(k:Int) < l.length:=by omega
   have w1:=Qa ((k:Int)+1) (by omega) (by omega)
   have hb:=QoR hl hk;have hx:=QhM hb x;have hy:=QhM hb y;have bd1:=Qw6 hl F.is x k (by omega)
   have bd2:=QyR hl F.is x y k (by omega)
   have ea:QtV F.is (QaP x) l (k+1)=QtV F.is (QaP x) l k+if F.is (l.getD k default)=true then QaP x (l.getD k default)else 0:=rfl;have eb:Qua F.is (QaP x) (QaP y) l (k+1)=Qua F.is (QaP x) (QaP y) l k+if F.is (l.getD k default)=true then QaP x (l.getD k default)else QaP y (l.getD k default):=rfl;rw[ea,eb];rw[Ql _ _ _ hk]at*;generalize QtV F.is (QaP x) l k=A at*;generalize Qua F.is (QaP x) (QaP y) l k=B at*;obtain⟨q1,q2,q3,_⟩:=hb;have w2:=Qa (A+l[k].lo) (by omega) (by omega)
   have w3:=Qa (B+l[k].lo) (by omega) (by omega)
   have w4:=Qa (A+l[k].hi) (by omega) (by omega)
   have w5:=Qa (B+l[k].hi) (by omega) (by omega)
   cases F with
   | f s'=>
    have eF:Qu9 ⟨s'.kinds,s'.fo⟩ ⟨l[k].lo,l[k].hi,l[k].kinds⟩=Qu9 s' l[k]:=rfl;cases hF:Qu9 s' l[k]<;>rw[hF]at eF<;>cases x<;>cases y<;>simp[QKo,jg2,QFh,QNl,QNh,Fr.enc,Fr.is,QkI,QaP,QbZ,Qjv,Qan,Qa1,Qna,Qzn,hk,hkI,w1,w2,w3,w4,w5,hF,eF]
   | o s'=>
    have eF:QzG ⟨s'.kinds,s'.fo⟩ ⟨l[k].lo,l[k].hi,l[k].kinds⟩=QzG s' l[k]:=rfl;cases hF:QzG s' l[k]<;>rw[hF]at eF<;>cases x<;>cases y<;>simp[QKo,jg2,QOv,QNl,QNh,Fr.enc,Fr.is,QkI,QaP,QbZ,Qjv,Qan,Qa1,Qna,Qzn,Qvm,hk,hkI,w1,w2,w3,w4,w5,hF,eF]
  ·have bd1:=Qw6 hl F.is x l.length (Nat.le_refl _);have bd2:=QyR hl F.is x y l.length (Nat.le_refl _);have w5:=Qa (QtV F.is (QaP x) l l.length*1000) (by omega) (by omega)
   have hm:=QJB hs.2.2.1 hs.2.2.2 bd2.1 bd2.2;have w6:=Qa (s.fo*Qua F.is (QaP x) (QaP y) l l.length) (by omega) (by omega)
   unfold Qq7;simp[QKo,w5,w6]
 ·cases hr
theorem Qvv (xs:Array Value) (w:World):(callFunc 61 xs).run Tryz.prog w= .ok (.enter 61 xs) w:=by kernel_rfl
instance (b:Bag):Decidable (QtG b):=inferInstanceAs (Decidable (_∧_))
def jg3:List (Nat×(List D→Option D)):=[(108,Qqw)]
theorem djg3:QaE Tryz.prog (Qaw jg3):=Qh Qs Qsw QDE
def QFT:List D→Option D:=sp2 QaY (Qcf QiJ) QaY fun _ b=>if QtG b then some 0 else none
theorem QIL:∀ds d,QFT ds=some d→PureC Tryz.prog 144 ds d:=Qay fun i b r hr=>by
 split at hr
 ·rename_i hb;cases hr;obtain⟨h1,h2,h3,h4,h5⟩:=hb;refine Qf (Qw djg3 28 QJk []) Tryz.func144 rfl rfl (Nat.le_of_ble_eq_true rfl) (by kernel_rfl) ?_
  rw[Tryz.results144];have e1:=QFP 0 1000000 b.lo b.hi;have e2:=QqE 1 255 b.kinds;rw[Qal.2 (show(0:Int)≤b.lo∧b.lo≤1000000 by omega),Qal.2 (show(0:Int)≤b.hi∧b.hi≤1000000 by omega)]at e1
  rw[Qal.2 (show(1:Int)≤b.kinds∧b.kinds≤255 by omega)]at e2
  have h2':¬b.hi < b.lo:=by omega
  simp[QJk,jg3,Qan,e1,e2,h2,h2']
 ·cases hr
theorem QAt (xs:Array Value) (w:World):(callFunc 144 xs).run Tryz.prog w= .ok (.enter 144 xs) w:=by kernel_rfl
def QPn:Cod Unit:=⟨fun _=> .v (.func (.func 144) #[] #[]),fun d=>match d with
 | .v v=>if QGr 144 v=true then some ()else none
 | _=>none,fun d x h=>by
 split at h
 ·split at h
  ·rename_i hf; cases h; rw[Qkc hf]; exact DImp.refl _
  ·cases h
 ·cases h⟩
theorem QCK (p:Unit):QPn.enc p= .v (.func (.func 144) #[] #[]):=rfl
theorem QAP:QPn.dec (.v (.func (.func 144) #[] #[]))=some ():=rfl
def jg4:List (Nat×(List D→Option D)):=[(144,QFT)]
theorem djg4:QaE Tryz.prog (Qaw jg4):=Qh Qs QAt QIL
noncomputable def QBV:List D→Option D:=sp2 (QJ QiJ) QPn (Qgw QaY QaY) fun l _=>if Qe9 l then some (0,0)else none
theorem QMj:∀ds d,QBV ds=some d→PureC Tryz.prog 143 ds d:=Qay fun l u r hr=>by
 split at hr
 ·rename_i hl;cases hr;refine Qf (Qw djg4 24 QBN []) Tryz.func143 rfl rfl (Nat.le_of_ble_eq_true rfl) (by kernel_rfl) ?_
  rw[Tryz.results143];have h10:=hl.1;simp[QBN,QCK,Qa1]
  (generalize hLoopQ:Cx.loop _ _ _=rLoopQ; apply Qi hLoopQ (fun k=>⟨[(1,.d (.v (.func (.func 144) #[] #[]))),(8,.d (.sl 3 (l.map QiJ.enc))),(9,.d (DI l.length)),(10,.d (DI k))],[],[],[]⟩) l.length (by first | (simp; done) | (simp; rfl) | (simp; simp[*])); rotate_left; (show _ < 281474976710656; omega); rfl; rotate_left; all_goals clear hLoopQ)
  ·intro k hk;have hkI:(k:Int) < l.length:=by omega
   have w1:=Qa ((k:Int)+1) (by omega) (by omega)
   have hb:=QoR hl hk;rw[Ql _ _ _ hk]at hb;have hb':QtG ⟨l[k].lo,l[k].hi,l[k].kinds⟩:=hb;simp[QBN,jg4,QFT,Qa1,Qan,Qna,hk,hkI,w1,hb']
  ·simp[QBN]
 ·cases hr
theorem QBk (xs:Array Value) (w:World):(callFunc 143 xs).run Tryz.prog w= .ok (.enter 143 xs) w:=by kernel_rfl
noncomputable def jg5:List (Nat×(List D→Option D)):=[(108,Qqw),(143,QBV)]
theorem djg5:QaE Tryz.prog (Qaw jg5):=Qh (Qh Qs QBk QMj) Qsw QDE
noncomputable def QNm:List D→Option D:=sp2 (Qcf Qo3) (QJ QiJ) (Qgw (Qcf Qo3) QaY) fun s l=>if Qj3 s∧Qe9 l then some (s,0)else none
theorem QOi:∀ds d,QNm ds=some d→PureC Tryz.prog 59 ds d:=Qay fun s l r hr=>by
 split at hr
 ·rename_i hc;obtain⟨hs,hl⟩:=hc;cases hr;refine Qf (Qw djg5 31 kj59 []) Tryz.func59 rfl rfl (Nat.le_of_ble_eq_true rfl) (by kernel_rfl) ?_
  rw[Tryz.results59];obtain⟨s1,s2,s3,s4⟩:=hs;have e1:=QqE 1 255 s.kinds;have e2:=QqE 0 1000 s.fo;rw[Qal.2 ⟨s1,s2⟩]at e1;rw[Qal.2 ⟨s3,s4⟩]at e2;have e3:QBV [.sl 3 (l.map QiJ.enc),.v (.func (.func 144) #[] #[])]=some (.tup [DI 0,DI 0]):=by
   simp only[QBV,sp2,QfK,QAP];rw[if_pos hl]; rfl
  have h10:¬(10:Int) < l.length:=by have:=hl.1; omega
  simp[kj59,jg5,QbZ,Qa1,e1,e2,e3,h10]
 ·cases hr
theorem QH3 (xs:Array Value) (w:World):(callFunc 59 xs).run Tryz.prog w= .ok (.enter 59 xs) w:=by kernel_rfl
noncomputable def jg6:List (Nat×(List D→Option D)):=[(61,QLo)]
theorem djg6:QaE Tryz.prog (Qaw jg6):=Qh Qs Qvv QJN
theorem Qvz {s:Srt} {l:List Bag} (hs:Qj3 s) (hl:Qe9 l) (F:Fr) (x y:Bool):QLo [.agg [DI s.kinds,DI s.fo],.sl 3 (l.map QiJ.enc),F.enc,QkI x,QkI y]=some (DB (Qq7 s l F.is (QaP x) (QaP y))):=by
 have e1:cFr.dec F.enc=some F:=by cases F<;>rfl
 have e2:∀x,QCM.dec (QkI x)=some x:=fun x=>by cases x<;>rfl
 simp only[QLo,sp5,QaQ,Qnl,QfK,e1,e2];rw[if_pos ⟨hs,hl⟩]; rfl
def Qqb (s:Srt) (l:List Bag):Bool:=Qq7 s l (Qu9 s) (QaP true) (QaP false)
noncomputable def QM6:List D→Option D:=sp2 (Qcf Qo3) (QJ QiJ) QaW fun s l=>if Qj3 s∧Qe9 l then some (Qqb s l)else none
theorem QPa:∀ds d,QM6 ds=some d→PureC Tryz.prog 60 ds d:=Qay fun s l r hr=>by
 split at hr
 ·rename_i hc;cases hr;refine Qf (Qw djg6 10 kj60 []) Tryz.func60 rfl rfl (Nat.le_of_ble_eq_true rfl) (by kernel_rfl) ?_
  rw[Tryz.results60];have e1:=Qvz hc.1 hc.2 (.f s) true false;simp[Fr.enc,QkI,QbZ]at e1;unfold Qqb;simp[kj60,jg6,QbZ,Qa1,e1]; rfl
 ·cases hr
theorem QG1 (xs:Array Value) (w:World):(callFunc 60 xs).run Tryz.prog w= .ok (.enter 60 xs) w:=by kernel_rfl
noncomputable def jg7:List (Nat×(List D→Option D)):=[(59,QNm),(60,QM6),(61,QLo)]
theorem djg7:QaE Tryz.prog (Qaw jg7):=Qh (Qh (Qh Qs Qvv QJN) QG1 QPa) QH3 QOi
def Qlx (s:Srt) (l:List Bag):Int:=if Qqb s l=true then 1 else if Qq7 s l (fun b=>!QzG s b) (QaP false) (QaP true)=true then 2 else 0
noncomputable def QMW:List D→Option D:=sp2 (Qcf Qo3) (QJ QiJ) (Qgw QaY QaY) fun s l=>if Qj3 s∧Qe9 l then some (Qlx s l,0)else none
theorem QOy:∀ds d,QMW ds=some d→PureC Tryz.prog 13 ds d:=Qay fun s l r hr=>by
 split at hr
 ·rename_i hc;cases hr;refine Qf (Qw djg7 27 QN6 []) Tryz.func13 rfl rfl (Nat.le_of_ble_eq_true rfl) (by kernel_rfl) ?_
  rw[Tryz.results13];have e1:=Qvz hc.1 hc.2 (.o s) false true;have ei:(Fr.o s).is=fun b=>!QzG s b:=rfl;rw[ei]at e1;simp[Fr.enc,QkI,QbZ]at e1;have e2:QM6 [.agg [DI s.kinds,DI s.fo],.sl 3 (l.map QiJ.enc)]=some (DB (Qqb s l)):=by
   simp only[QM6,sp2,QaQ,Qnl,QfK];rw[if_pos hc]; rfl
  have e3:QNm [.agg [DI s.kinds,DI s.fo],.sl 3 (l.map QiJ.enc)]=some (.tup [.agg [DI s.kinds,DI s.fo],DI 0]):=by
   simp only[QNm,sp2,QaQ,Qnl,QfK];rw[if_pos hc]; rfl
  unfold Qlx;cases q1:Qqb s l<;>rw[q1]at e2
  ·cases q2:Qq7 s l (fun b=>!QzG s b) (QaP false) (QaP true)<;>rw[q2]at e1<;>simp[QN6,jg7,QbZ,Qa1,e1,e2,e3]
  ·simp[QN6,jg7,QbZ,Qa1,e2,e3]
 ·cases hr
theorem QGN (xs:Array Value) (w:World):(callFunc 13 xs).run Tryz.prog w= .ok (.enter 13 xs) w:=by kernel_rfl
end Go.Proofs.YticoemblgkemiaaGreatDoor
namespace Go.Proofs.YticoemblgkemiaaGreatDoor
open Go.RowKit
def QNp (r:Nat):List (Nat×Option Nat):=match r with
 | 0=>[(0,none)]
 | 1=>kpn [0,3]
 | 2=>kpn [0,3,4]
 | 3=>kpn [0,3,4,7]
 | 4=>kpn [0,3,4]
 | 5=>kpn [0,3,4]
 | 6=>[(2,none)]
 | _=>[]
def kj16 (r:Nat):List (Nat×Option Nat):=match r with
 | 0=>kpn [0,1]
 | 1=>[(4,none)]
 | _=>[]
def kj31 (r:Nat):List (Nat×Option Nat):=match r with
 | 0=>[(0,none)]
 | 1=>[(2,none)]
 | _=>[]
def kj32 (r:Nat):List (Nat×Option Nat):=match r with
 | 0=>kpn [0,1,2]
 | 1=>[(6,none)]
 | _=>[]
def kj7 (r:Nat):List (Nat×Option Nat):=match r with
 | 0=>kpn [1,2]
 | 1=>kpn [1,16]
 | 2=>[(4,none)]
 | 3=>kpn [1,19]
 | 4=>[(4,none)]
 | 5=>kpn [1,5]
 | 6=>kpn [1,5,23]
 | 7=>kpn [1,5]
 | 8=>kpn [1,5,6]
 | 9=>kpn [1,5,6,47]
 | 10=>[(4,none)]
 | 11=>kpn [1,5,54]
 | 12=>[(4,none)]
 | 13=>[(4,none)]
 | _=>[]
theorem Qx3:∀j:Nat,j≤20→1≤(2:Int) ^ j∧(2:Int) ^ j≤1048576:=by decide
def QIg:List D→Option D:=sp1 QaY QaY fun n=>if 0≤n∧n≤20 then some (2 ^ n.toNat)else none
theorem QEc:∀ds d,QIg ds=some d→PureC Tryz.prog 12 ds d:=Qbr fun n r hr=>by
 split at hr
 ·rename_i hc;cases hr;obtain⟨n,rfl⟩:∃k:Nat,n=k:=⟨n.toNat,by omega⟩
  refine Qf (Qw Qs 13 QNp []) Tryz.func12 rfl rfl (Nat.le_of_ble_eq_true rfl) (by kernel_rfl) ?_
  rw[Tryz.results12,Int.toNat_natCast];simp[QNp]
  (generalize hLoopQ:Cx.loop _ _ _=rLoopQ; apply Qi hLoopQ (fun k=>⟨[(0,.d (DI n)),(3,.d (DI (2 ^ k))),(4,.d (DI k))],[],[],[]⟩) n (by first | (simp; done) | (simp; rfl) | (simp; simp[*])); rotate_left; (show _ < 281474976710656; omega); rfl; rotate_left; all_goals clear hLoopQ)
  ·intro k hk;have hkI:(k:Int) < n:=by omega
   have w1:=Qa ((k:Int)+1) (by omega) (by omega)
   have b1:=Qx3 k (by omega)
   have e:(2:Int) ^ (k+1)=2*2 ^ k:=by rw[Int.pow_succ]; omega
   rw[e];have w2:=Qa (2*(2:Int) ^ k) (by omega) (by omega)
   simp[QNp,hkI,w1,w2]
  ·simp[QNp]
 ·cases hr
theorem Qqh (xs:Array Value) (w:World):(callFunc 12 xs).run Tryz.prog w= .ok (.enter 12 xs) w:=by kernel_rfl
theorem QqS {k:Nat} (h:k≤20):QIg [DI k]=some (DI (2 ^ k)):=by
 simp only[QIg,sp1,Qak];rw[if_pos ⟨by omega,by omega⟩,Int.toNat_natCast]; rfl
def jr1:List (Nat×(List D→Option D)):=[(12,QIg)]
theorem djr1:QaE Tryz.prog (Qaw jr1):=Qh Qs Qqh QEc
def QzO (S:Int) (k:Nat):Bool:=(S.tdiv (2 ^ k)).tmod 2==1
def QNi:List D→Option D:=sp2 QaY QaY QaW fun S k=>if 0≤S∧S≤255∧0≤k∧k≤20 then some (QzO S k.toNat)else none
theorem QOa:∀ds d,QNi ds=some d→PureC Tryz.prog 16 ds d:=Qay fun S k r hr=>by
 split at hr
 ·rename_i hc;obtain⟨h1,h2,h3,h4⟩:=hc;cases hr;obtain⟨k,rfl⟩:∃n:Nat,k=n:=⟨k.toNat,by omega⟩
  refine Qf (Qw djr1 11 kj16 []) Tryz.func16 rfl rfl (Nat.le_of_ble_eq_true rfl) (by kernel_rfl) ?_
  rw[Tryz.results16,Int.toNat_natCast];have e1:=QqS (k:=k) (by omega)
  have b1:=Qx3 k (by omega)
  have hne:¬(2:Int) ^ k=0:=by omega
  have hq:0≤S.tdiv (2 ^ k)∧S.tdiv (2 ^ k)≤255:=by
   rw[Int.tdiv_eq_ediv_of_nonneg h1];exact⟨Int.ediv_nonneg h1 (by omega),Int.le_trans (Int.ediv_le_self _ h1) h2⟩
  have w1:=Qa (S.tdiv (2 ^ k)) (by omega) (by omega)
  unfold QzO;simp[kj16,jr1,e1,hne,w1]
 ·cases hr
theorem QHH (xs:Array Value) (w:World):(callFunc 16 xs).run Tryz.prog w= .ok (.enter 16 xs) w:=by kernel_rfl
theorem QEG {S:Int} (h1:0≤S) (h2:S≤255) {k:Nat} (h:k≤20):QNi [DI S,DI k]=some (DB (QzO S k)):=by
 simp only[QNi,sp2,Qak];rw[if_pos ⟨h1,h2,by omega,by omega⟩,Int.toNat_natCast]; rfl
def QH9:List D→Option D:=sp3 QaY QaY QaY QaW fun n lo hi=>some (inR n lo hi)
theorem QIG:∀ds d,QH9 ds=some d→PureC Tryz.prog 32 ds d:=QcN fun n lo hi r hr=>by
 cases hr;refine Qf (Qw Qs 15 kj32 []) Tryz.func32 rfl rfl (Nat.le_of_ble_eq_true rfl) (by kernel_rfl) ?_
 rw[Tryz.results32];unfold inR;by_cases h:lo≤n<;>by_cases h2:n≤hi<;>simp[kj32,h,h2]
theorem Qzo (xs:Array Value) (w:World):(callFunc 32 xs).run Tryz.prog w= .ok (.enter 32 xs) w:=by kernel_rfl
def jr2:List (Nat×(List D→Option D)):=[(12,QIg),(32,QH9)]
theorem djr2:QaE Tryz.prog (Qaw jr2):=Qh (Qh Qs Qzo QIG) Qqh QEc
def QNK:List D→Option D:=sp1 QaY QaW fun n=>some (inR n 1 255)
theorem QN9:∀ds d,QNK ds=some d→PureC Tryz.prog 31 ds d:=Qbr fun n r hr=>by
 cases hr;refine Qf (Qw djr2 7 kj31 []) Tryz.func31 rfl rfl (Nat.le_of_ble_eq_true rfl) (by kernel_rfl) ?_
 rw[Tryz.results31];have e1:=QqS (k:=8) (by decide)
 have e2:(2:Int) ^ 8=256:=by decide
 rw[e2]at e1;have w1:=Qa 255 (by omega) (by omega)
 have e3:((8:Nat):Int)=8:=rfl;rw[e3]at e1;simp[kj31,jr2,e1,w1,QH9]
theorem QGj (xs:Array Value) (w:World):(callFunc 31 xs).run Tryz.prog w= .ok (.enter 31 xs) w:=by kernel_rfl
def jr3:List (Nat×(List D→Option D)):=[(31,QNK),(32,QH9)]
theorem djr3:QaE Tryz.prog (Qaw jr3):=Qh (Qh Qs Qzo QIG) QGj QN9
def QIh (s:Srt):Int:=if Qj3 s then 0 else 7
def sj7:List D→Option D:=sp2 (Qcf Qo3) (QJ QiJ) QaY fun s l=>match l with | []=>some (QIh s) | _=>none
theorem okj7:∀ds d,sj7 ds=some d→PureC Tryz.prog 7 ds d:=Qay fun s l r hr=>by
 split at hr
 ·cases hr;refine Qf (Qw djr3 55 kj7 []) Tryz.func7 rfl rfl (Nat.le_of_ble_eq_true rfl) (by kernel_rfl) ?_
  rw[Tryz.results7];by_cases hc:Qj3 s
  ·have e:QIh s=0:=if_pos hc;rw[e];obtain⟨h1,h2,h3,h4⟩:=hc;simp[kj7,jr3,QbZ,Qa1,QNK,QH9,inR,h1,h2,h3,h4]
   (generalize hLoopQ:Cx.loop _ _ _=rLoopQ; apply Qi hLoopQ (fun k=>⟨[(1,.d (.sl 3 [])),(5,.d (DI k))],[],[],[]⟩) 0 (by first | (simp; done) | (simp; rfl) | (simp; simp[*])); rotate_left; (show _ < 281474976710656; omega); rfl; rotate_left; all_goals clear hLoopQ)
   ·intro k hk; omega
   ·simp[kj7]
  ·have e:QIh s=7:=if_neg hc;rw[e];by_cases h1:1≤s.kinds<;>by_cases h2:s.kinds≤255<;>by_cases h3:0≤s.fo<;>by_cases h4:s.fo≤1000<;>first | (exfalso; apply hc; refine⟨?_,?_,?_,?_⟩<;>assumption) | simp[kj7,jr3,QbZ,Qa1,QNK,QH9,inR,h1,h2,h3,h4]
 ·cases hr
theorem QL9 (xs:Array Value) (w:World):(callFunc 7 xs).run Tryz.prog w= .ok (.enter 7 xs) w:=by kernel_rfl
end Go.Proofs.YticoemblgkemiaaGreatDoor
