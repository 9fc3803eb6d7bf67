/-
  The program of the wax chapter: a table that is looked at; bounds of a part. Conditions: the names are strings.
-/
import Derived.Test.YticoemblgkemiaaGreatDoorZWxPrB
import Derived.Test.YticoemblgkemiaaGreatDoorZAmF
import Derived.Test.YticoemblgkemiaaGreatDoorZWxRefB
set_option linter.unusedSimpArgs false
set_option linter.unusedVariables false
namespace Go.Proofs.YticoemblgkemiaaGreatDoor
open Go.RowKit
def QUm (r:Nat):List (Nat×Option Nat):=match r with
 | 0=>kpn [1,2]
 | 1=>kpn [1,2,8]
 | 2=>kpn [1,2,8,18]
 | 3=>kpn [4,5]
 | 4=>kpn [1,2,25]
 | 5=>kpn [4,5]
 | 6=>kpn [1,2,26,27,28]
 | 7=>kpn [1,2,26,27,28,29]
 | 8=>kpn [1,2,10,26,27,28]
 | 9=>kpn [1,2,26,27,28,38]
 | 10=>kpn [4,5]
 | 11=>kpn [1,2,26,27,28]
 | 12=>kpn [4,5]
 | _=>[]
def Q2G (r:Nat):List (Nat×Option Nat):=match r with
 | 0=>kpn [0,1]
 | 1=>kpn [0,1,5]
 | 2=>kpn [5,12]
 | 3=>[(5,none)]
 | 4=>[(4,none)]
 | _=>[]
def kp86 (r:Nat):List (Nat×Option Nat):=match r with
 | 0=>kpn [0,1,2,3]
 | 1=>kpn [4,5]
 | _=>[]
def QZs (r:Nat):List (Nat×Option Nat):=match r with
 | 0=>kpn [0,1,2,3]
 | 1=>kpn [4,5]
 | _=>[]
def QRw (r:Nat):List (Nat×Option Nat):=match r with
 | 0=>kpn [0,8,9,10]
 | 1=>kpn [0,8,9,10,11]
 | 2=>kpn [0,5,8,9,10]
 | 3=>kpn [0,6,7,8,9,10]
 | 4=>kpn [0,6,7,8,9,10,19]
 | 5=>kpn [0,8,9,10]
 | 6=>kpn [0,6,7,8,9,10,34]
 | 7=>kpn [0,8,9,10]
 | 8=>kpn [0,8,9,10,51]
 | 9=>kpn [0,8,9,10]
 | 10=>kpn [0,8,9,10]
 | _=>[]
structure Smp where
 t:Tbl
 l:List Int
def Q02 (x:Smp):List D:=[.sl 2 (x.t.props.map QQt.enc),.sl 2 (x.t.kinds.map QQw.enc),DI x.t.purity,.sl 1 (x.l.map QH.enc)]
def QRL:Cod Smp:=⟨fun x=> .dat 4 [Q02 x] 0 0,fun d=>match d with | .dat 4 [[a,b,c,e]] 0 0=>(match QRf.dec [a,b,c],(QJ QH).dec e with | some t,some l=>some ⟨t,l⟩ | _,_=>none) | _=>none,fun d x h=>by
 split at h
 ·rename_i a b c e;split at h
  ·rename_i t l h1 h2;cases h;obtain⟨a',u1,e1,i1,i2⟩:=QRf.ed _ _ h1;obtain⟨b',u2,e2,i3,i4⟩:=i2;obtain⟨c',u3,e3,i5,i6⟩:=i4;simp only[LImp]at i6;subst i6; subst e3; subst e2;simp only[QPZ,List.cons.injEq,and_true]at e1;obtain⟨rfl,rfl,rfl⟩:=e1;exact QSZ (QaX i1 (QaX i3 (QaX i5 (QaX ((QJ QH).ed _ _ h2) (LImp.refl _)))))
  ·cases h
 ·cases h⟩
theorem QRg (x:Smp):QRL.enc x= .dat 4 [[.sl 2 (x.t.props.map QQt.enc),.sl 2 (x.t.kinds.map QQw.enc),DI x.t.purity,.sl 1 (x.l.map QH.enc)]] 0 0:=rfl
theorem QR1 (x:Smp):QRL.dec (.dat 4 [[.sl 2 (x.t.props.map QQt.enc),.sl 2 (x.t.kinds.map QQw.enc),DI x.t.purity,.sl 1 (x.l.map QH.enc)]] 0 0)=some x:=by
 simp only[QRL,QP8,Qap]
def QV8:Cod (Smp×Int):=⟨fun p=>if p.2=0 then .tup [QRL.enc p.1,DI 0]else .tup [.v (.pointer none),DI p.2],fun d=>match d with | .tup [a,.v (.int .i64 n)]=>if n=0 then(QRL.dec a).map fun x=>(x,0)else(match a with | .v (.pointer none)=>some (⟨⟨[],[],0⟩,[]⟩,n) | _=>none) | _=>none,fun d x h=>by
 split at h
 ·split at h
  ·rename_i hn;subst hn;obtain⟨y,hy,rfl⟩:=Option.map_eq_some_iff.1 h;simp only[if_true];exact LImp.tup (QaX (QRL.ed _ _ hy) (QaX (DImp.refl _) (LImp.refl _)))
  ·rename_i hn;split at h
   ·cases h;simp only[if_neg hn];exact DImp.refl _
   ·cases h
 ·cases h⟩
def QUG (x:Tbl) (l:List Int):Smp×Int:=if QQj x l=0 then(⟨x,l⟩,0)else(⟨⟨[],[],0⟩,[]⟩,QQj x l)
def g62:List (Nat×(List D→Option D)):=(149,s16)::(100,QQI)::[]
theorem Q0H:QaE Tryz.prog (Qaw g62):=Qh (Qh Qs QRK QTC) QVn Q18
def s62:List D→Option D:=sp2 (Qcf QRf) (QJ QH) QV8 fun x l=>if QQh x then some (QUG x l)else none
set_option maxHeartbeats 4000000 in
theorem Q2o:∀ds d,s62 ds=some d→PureC Tryz.prog 84 ds d:=Qay fun x l r hr=>by
 split at hr
 ·rename_i hnm;cases hr;refine QcR Tryz.func84 rfl rfl (Nat.le_of_ble_eq_true rfl) fun m w a I ha0=>?_;have bad:¬QQj x l=0→∀(bs:List (Nat×List X)) (tk:List Nat) (mp:List (Nat×(Nat×List (Value×Value)))) g' a' w',Inv 44 m (Qed w []) g' ⟨[(4,.d (.v (.pointer none))),(5,.d (DI (QQj x l)))],bs,tk,mp⟩ a' w'→bodyPostD Tryz.prog Tryz.f84 (RetR m w (QV8.enc (QUG x l))) .ret a' w':=by
   intro h bs tk mp g' a' w' I';refine Qdq (QP1 Q0H 44 QUm []) I' (r:=[.v (.pointer none),DI (QQj x l)]) ?_ ?_
   ·rw[Tryz.results84]; simp
   ·have e:QUG x l=(⟨⟨[],[],0⟩,[]⟩,QQj x l):=if_neg h;rw[e];simp only[QV8,if_neg h];rfl
  refine Qdm (QP1 Q0H 44 QUm []) 3 _ rfl (by kernel_rfl) (by kernel_rfl) (fun _ _=>rfl) _ _ _ _ I ?_
  by_cases h1:(chk x).2.2=0
  ·have f:=QQv h1;have hp5:=f.p5;by_cases h2:l.length=x.props.length
   ·have h2I:((l.length:Int) != x.props.length)=false:=by simp[h2]
    rcases Qhs QWi l with⟨e1,hall⟩ | ⟨k,hk,e1,hbad,hgood⟩
    ·have hE:QQj x l=0:=by unfold QQj; rw[if_neg (by simpa using h1),if_neg (by simpa using h2),e1]; rfl
     simp[Qeh,QUm,QPZ,QP8,QP9,Qn,g62,s16,hnm,h1,h2I]
     (generalize hLoopQ:Cx.loop _ _ _=rLoopQ; apply QcQ hLoopQ (fun k=>⟨[(1,.d (.sl 1 (l.map QH.enc))),(2,.loc 2 0),(26,.d (.sl 1 (l.map QH.enc))),(27,.d (DI l.length)),(28,.d (DI k))],[(2,[.d (.sl 2 (x.props.map QQt.enc)),.d (.sl 2 (x.kinds.map QQw.enc)),.d (DI x.purity)])],[],[]⟩) l.length rfl; rotate_left; (show _ < 281474976710656; omega); (exact fun h=>h); rotate_left; all_goals clear hLoopQ)
     ·intro j hj;have w1:=Qa ((j:Int)+1) (by omega) (by omega)
      have hjl:(j:Int) < l.length:=by omega
      have hn:=hall j hj;unfold QWi at hn;by_cases hm:l[j]= -1
      ·simp[QUm,hj,hjl,hm,w1]
      ·have hm':(l[j]== -1)=false:=by simpa using hm
       have hin:inR l[j] 0 100000=true:=by rw[hm']at hn; simpa using hn
       have hm2:(l[j] != -1)=true:=by simpa using hm
       simp[QUm,g62,QQI,QQD,QU2,hj,hjl,hm2,hin,w1]
     ·simp[QUm];rw[QG];intro g1 a1 w1 I1;show Code.wpIn _ _ _ (QiP 3 _) _ _ _;refine Qdm (QP1 Q0H 44 QUm []) 0 _ rfl (by kernel_rfl) (by kernel_rfl) (fun _ _=>rfl) _ _ _ _ I1 ?_
      simp[Qeh,QiP,QUm];rw[QG];intro g2 a2 w2 I2;obtain⟨g3,I3⟩:=Qxl (QP1 Q0H 44 QUm []) (b:=43) (t:=4) rfl rfl rfl rfl I2 I2.deferred;refine Qdk (QP1 Q0H 44 QUm []) (by kernel_rfl) (by kernel_rfl) I3 (fun _ _=>rfl) ?_
      simp[QiP,QG];intro g' a' w' I';refine Qdq (QP1 Q0H 44 QUm []) I' (r:=[QRL.enc ⟨x,l⟩,DI 0]) ?_ ?_
      ·rw[Tryz.results84]; simp[QRg]
      ·have e:QUG x l=(⟨x,l⟩,0):=if_pos hE;rw[e]; rfl
    ·have hE:QQj x l=7:=by unfold QQj; rw[if_neg (by simpa using h1),if_neg (by simpa using h2),e1]; rfl
     have bad:=bad (by omega)
     rw[hE]at bad;simp[Qeh,QUm,QPZ,QP8,QP9,Qn,g62,s16,hnm,h1,h2I]
     (generalize hLoopQ:Cx.loop _ _ _=rLoopQ; apply QcQ hLoopQ (fun k=>⟨[(1,.d (.sl 1 (l.map QH.enc))),(2,.loc 2 0),(26,.d (.sl 1 (l.map QH.enc))),(27,.d (DI l.length)),(28,.d (DI k))],[(2,[.d (.sl 2 (x.props.map QQt.enc)),.d (.sl 2 (x.kinds.map QQw.enc)),.d (DI x.purity)])],[],[]⟩) k rfl; rotate_left; (show _ < 281474976710656; omega); (exact fun h=>h); rotate_left; all_goals clear hLoopQ)
     ·intro j hj0;have hj:j < l.length:=by omega
      have w1:=Qa ((j:Int)+1) (by omega) (by omega)
      have hjl:(j:Int) < l.length:=by omega
      have hn:=hgood j hj hj0;unfold QWi at hn;by_cases hm:l[j]= -1
      ·simp[QUm,hj,hjl,hm,w1]
      ·have hm':(l[j]== -1)=false:=by simpa using hm
       have hin:inR l[j] 0 100000=true:=by rw[hm']at hn; simpa using hn
       have hm2:(l[j] != -1)=true:=by simpa using hm
       simp[QUm,g62,QQI,QQD,QU2,hj,hjl,hm2,hin,w1]
     ·have hkl:(k:Int) < l.length:=by omega
      unfold QWi at hbad;simp only[Bool.and_eq_true,Bool.not_eq_true',beq_eq_false_iff_ne]at hbad;have hm2:(l[k] != -1)=true:=by simpa using hbad.1
      have hin:=hbad.2;simp[QUm,g62,QQI,QQD,QU2,hk,hkl,hm2,hin,QG];exact fun g' a' w' I'=>bad _ _ _ g' a' w' I'
   ·have h2I:((l.length:Int) != x.props.length)=true:=bne_iff_ne.2 (by omega)
    have hE:QQj x l=3:=by unfold QQj; rw[if_neg (by simpa using h1),if_pos h2]
    have bad:=bad (by omega)
    rw[hE]at bad;simp[Qeh,QUm,QPZ,QP8,QP9,Qn,g62,s16,hnm,h1,h2I,QG];exact fun g' a' w' I'=>bad _ _ _ g' a' w' I'
  ·have h2:((chk x).2.2 != 0)=true:=by simpa using h1
   have hE:QQj x l=(chk x).2.2:=by unfold QQj; rw[if_pos h1]
   have bad:=bad (by rw[hE]; exact h1)
   rw[hE]at bad;simp[Qeh,QUm,QPZ,QP8,QP9,Qn,g62,s16,hnm,h1,h2,QG];exact fun g' a' w' I'=>bad _ _ _ g' a' w' I'
 ·cases hr
theorem QWl (xs:Array Value) (w:World):(callFunc 84 xs).run Tryz.prog w= .ok (.enter 84 xs) w:=by kernel_rfl
theorem Q0E {a b:Int} (hb:0 < b):(if a.tmod b < 0 then a.tdiv b - 1 else a.tdiv b)=a / b:=by
 have h1:=Int.mul_tdiv_add_tmod a b;have h2:=Int.mul_ediv_add_emod a b;have h3:=Int.emod_nonneg a (show b≠0 by omega)
 have h4:=Int.emod_lt_of_pos a hb;have h5: -b < a.tmod b:=Int.lt_tmod_of_pos a hb;have h6:a.tmod b < b:=Int.tmod_lt_of_pos a hb;have key:∀q q' r r':Int,b*q+r=a→b*q'+r'=a→0≤r'→r' < b→(0≤r→r < b→q=q')∧(r < 0→ -b < r→q - 1=q'):=by
  intro q q' r r' e1 e2 r0 r1;have hq:b*(q - q')=r' - r:=by rw[Int.mul_sub]; omega
  constructor
  ·intro s0 s1;rcases Int.lt_trichotomy q q' with h | h | h
   ·have:=Int.mul_le_mul_of_nonneg_left (show q - q'≤ -1 by omega) (show 0≤b by omega)
    omega
   ·exact h
   ·have:=Int.mul_le_mul_of_nonneg_left (show 1≤q - q' by omega) (show 0≤b by omega)
    omega
  ·intro s0 s1;rcases Int.lt_trichotomy (q - 1) q' with h | h | h
   ·have:=Int.mul_le_mul_of_nonneg_left (show q - q'≤0 by omega) (show 0≤b by omega)
    omega
   ·exact h
   ·have:=Int.mul_le_mul_of_nonneg_left (show 2≤q - q' by omega) (show 0≤b by omega)
    omega
 obtain⟨k1,k2⟩:=key (a.tdiv b) (a / b) (a.tmod b) (a % b) h1 h2 h3 h4;split
 ·rename_i h; exact k2 h h5
 ·rename_i h; exact k1 (by omega) h6
def QQx (a:Int):Prop:= -1000000000≤a∧a≤1000000000
instance (a:Int):Decidable (QQx a):=inferInstanceAs (Decidable (_∧_))
theorem QUu {a b:Int} (ha:QQx a) (hb:0 < b):QQx (a / b):=by
 obtain⟨h1,h2⟩:=ha;have h3:=Int.mul_ediv_add_emod a b;have h4:=Int.emod_nonneg a (show b≠0 by omega)
 have h5:=Int.emod_lt_of_pos a hb;constructor
 ·refine(Int.le_ediv_iff_mul_le hb).2 ?_;have:=Int.mul_le_mul_of_nonneg_left (show 1≤b by omega) (show(0:Int)≤1000000000 by omega)
  omega
 ·by_cases h:a / b≤0
  ·omega
  ·have:=Int.mul_le_mul_of_nonneg_right (show 1≤b by omega) (show 0≤a / b by omega)
   omega
def s64:List D→Option D:=sp2 QaY QaY QaY fun a b=>if QQx a∧0 < b∧QQx b then some (a / b)else none
theorem ok64:∀ds d,s64 ds=some d→PureC Tryz.prog 150 ds d:=Qay fun a b r hr=>by
 split at hr
 ·rename_i hc;cases hr;obtain⟨ha,hb,hb2⟩:=hc;have he:=Q0E (a:=a) hb;have hd:=QUu ha hb;obtain⟨d1,d2⟩:=hd;have hne:¬b=0:=by omega
  refine Qf (QP1 Qs 16 Q2G []) Tryz.func150 rfl rfl (Nat.le_of_ble_eq_true rfl) (by kernel_rfl) ?_
  rw[Tryz.results150];by_cases h:a.tmod b < 0
  ·rw[if_pos h]at he;have w1:=Qa (a.tdiv b) (by omega) (by omega)
   have w2:=Qa (a.tdiv b - 1) (by omega) (by omega)
   simp[Q2G,hne,h,w1,w2,he,Qa (a / b) (by omega) (by omega)]
  ·rw[if_neg h]at he;have w1:=Qa (a.tdiv b) (by omega) (by omega)
   simp[Q2G,hne,h,w1,he,Qa (a / b) (by omega) (by omega)]
 ·cases hr
theorem QJu (xs:Array Value) (w:World):(callFunc 150 xs).run Tryz.prog w= .ok (.enter 150 xs) w:=by kernel_rfl
def QV1:Cod Spn:=⟨fun s=> .dat 2 [[DI s.lo,DI s.hi]] 0 0,fun d=>match d with | .dat 2 [[.v (.int .i64 a),.v (.int .i64 b)]] 0 0=>some ⟨a,b⟩ | _=>none,fun d x h=>by
 split at h
 ·cases h; exact DImp.refl _
 ·cases h⟩
theorem QUs (s:Spn):QV1.enc s= .dat 2 [[DI s.lo,DI s.hi]] 0 0:=rfl
theorem QUK (a b:Int):QV1.dec (.dat 2 [[DI a,DI b]] 0 0)=some ⟨a,b⟩:=rfl
def QTO (a:Int):Prop:= -200000≤a∧a≤200000
instance (a:Int):Decidable (QTO a):=inferInstanceAs (Decidable (_∧_))
def QU3 (s:Spn):Prop:=QTO s.lo∧QTO s.hi
instance (s:Spn):Decidable (QU3 s):=inferInstanceAs (Decidable (_∧_))
def s86:List D→Option D:=sp4 QV1 QV1 Qp7 Qp7 (Qgw QaY QaY) fun x y n e=>if QU3 x∧QU3 y∧QTO n∧QTO e then some (x.lo - y.lo,1000*(y.lo - n - e))else none
theorem ok86:∀ds d,s86 ds=some d→PureC Tryz.prog 181 ds d:=Qyy fun x y n e r hr=>by
 split at hr
 ·rename_i hc;cases hr;obtain⟨⟨⟨a0,a1⟩,⟨a2,a3⟩⟩,⟨⟨b0,b1⟩,⟨b2,b3⟩⟩,⟨n0,n1⟩,⟨e0,e1⟩⟩:=hc;have w1:=Qa (x.lo - y.lo) (by omega) (by omega)
  have w2:=Qa (y.lo - n) (by omega) (by omega)
  have w3:=Qa (y.lo - n - e) (by omega) (by omega)
  have w4:=Qa (1000*(y.lo - n - e)) (by omega) (by omega)
  refine Qf (QP1 Qs 18 kp86 []) Tryz.func181 rfl rfl (Nat.le_of_ble_eq_true rfl) (by kernel_rfl) ?_
  rw[Tryz.results181];simp[kp86,QUs,QdG,w1,w2,w3,w4]
 ·cases hr
theorem Q1h (xs:Array Value) (w:World):(callFunc 181 xs).run Tryz.prog w= .ok (.enter 181 xs) w:=by kernel_rfl
def QXZ:List D→Option D:=sp4 QV1 QV1 Qp7 Qp7 (Qgw QaY QaY) fun y x n e=>if QU3 x∧QU3 y∧QTO n∧QTO e then some (y.hi - x.hi,1000*(n - e - y.hi))else none
theorem Q0Z:∀ds d,QXZ ds=some d→PureC Tryz.prog 182 ds d:=Qyy fun y x n e r hr=>by
 split at hr
 ·rename_i hc;cases hr;obtain⟨⟨⟨a0,a1⟩,⟨a2,a3⟩⟩,⟨⟨b0,b1⟩,⟨b2,b3⟩⟩,⟨n0,n1⟩,⟨e0,e1⟩⟩:=hc;have w1:=Qa (y.hi - x.hi) (by omega) (by omega)
  have w2:=Qa (n - e) (by omega) (by omega)
  have w3:=Qa (n - e - y.hi) (by omega) (by omega)
  have w4:=Qa (1000*(n - e - y.hi)) (by omega) (by omega)
  refine Qf (QP1 Qs 18 QZs []) Tryz.func182 rfl rfl (Nat.le_of_ble_eq_true rfl) (by kernel_rfl) ?_
  rw[Tryz.results182];simp[QZs,QUs,QdG,w1,w2,w3,w4]
 ·cases hr
theorem QXM (xs:Array Value) (w:World):(callFunc 182 xs).run Tryz.prog w= .ok (.enter 182 xs) w:=by kernel_rfl
def QQr (s:Spn) (b:Int×Int):Spn:=
 if 0 < b.1 then⟨s.lo,min s.hi (-b.2 / b.1)⟩else if b.1 < 0 then⟨max s.lo (-(-b.2 / -b.1)),s.hi⟩else if 0 < b.2 then⟨s.lo,s.lo - 1⟩else s
structure Bds where
 s:Spn
 x:Spn
 y:Spn
 n:Int
 e:Int
def Bds.least (b:Bds):Int×Int:=(b.x.lo - b.y.lo,1000*(b.y.lo - b.n - b.e))
def Bds.most (b:Bds):Int×Int:=(b.y.hi - b.x.hi,1000*(b.n - b.e - b.y.hi))
def Q0I (b:Bds):List (List D):=[[.fn 181 [] [.dat 2 [[DI b.x.lo,DI b.x.hi]] 0 0,.dat 2 [[DI b.y.lo,DI b.y.hi]] 0 0,.dat 1 [[DI b.n]] 0 0,.dat 1 [[DI b.e]] 0 0]],[.fn 182 [] [.dat 2 [[DI b.y.lo,DI b.y.hi]] 0 0,.dat 2 [[DI b.x.lo,DI b.x.hi]] 0 0,.dat 1 [[DI b.n]] 0 0,.dat 1 [[DI b.e]] 0 0]]]
def QXj (b:Bds):List X×List Cont×List Nat:=([.loc 1000 0,.d (.sl 1 (Q0I b))],[.cells [.d (DI b.s.lo),.d (DI b.s.hi)]],[])
def QSY (b:Bds):Prop:=(0≤b.s.lo∧b.s.lo≤1000000000∧QQx b.s.hi)∧QU3 b.x∧QU3 b.y∧QTO b.n∧QTO b.e
instance (b:Bds):Decidable (QSY b):=inferInstanceAs (Decidable ((_∧_∧_)∧_∧_∧_∧_))
def QRC (b:Bds):Spn:=QQr (QQr b.s b.least) b.most
def QVL (b:Bds):Option (D×List Cont×List Nat):=if QSY b then some (.tup [],[.cells [.d (DI (QRC b).lo),.d (DI (QRC b).hi)]],[])else none
theorem Q2p (a b:Bds) (h:QXj a=QXj b):QVL a=QVL b:=by
 obtain⟨⟨s1,s2⟩,⟨x1,x2⟩,⟨y1,y2⟩,n,e⟩:=a;obtain⟨⟨s1',s2'⟩,⟨x1',x2'⟩,⟨y1',y2'⟩,n',e'⟩:=b;simp only[QXj,Q0I,Prod.mk.injEq,List.cons.injEq,X.d.injEq,D.sl.injEq,D.fn.injEq,D.dat.injEq,D.v.injEq,Value.int.injEq,Cont.cells.injEq,and_true,true_and]at h
 simp_all
noncomputable def e88:QfF:=Qns QXj QVL
theorem Q1y (b:Bds):e88 [.loc 1000 0,.d (.sl 1 (Q0I b))] [.cells [.d (DI b.s.lo),.d (DI b.s.hi)]] []=QVL b:=Qgh Q2p b rfl
def g88:List (Nat×(List D→Option D)):=(150,s64)::(181,s86)::(182,QXZ)::[]
theorem dg88:QaE Tryz.prog (Qaw g88):=Qh (Qh (Qh Qs QXM Q0Z) Q1h ok86) QJu ok64
@[simp] theorem wrap_two : IntKind.i64.wrap 2 = 2 := Qa 2 (by omega) (by omega)
theorem QSD (a b:Int):(if b < a then b else a)=min a b:=by split<;>omega
theorem QUt (a b:Int):(if a < b then b else a)=max a b:=by split<;>omega
theorem QRZ {s:Spn} {b:Int×Int} (h0:0≤s.lo) (h1:s.lo≤1000000000) (h2:QQx s.hi) (hb:QQx b.1∧QQx b.2):0≤(QQr s b).lo∧(QQr s b).lo≤1000000000∧QQx (QQr s b).hi:=by
 obtain⟨⟨c1,c2⟩,c3,c4⟩:=hb;obtain⟨d1,d2⟩:=h2;unfold QQr;split
 ·rename_i hp;have:=QUu (a:= -b.2) ⟨by omega,by omega⟩ hp
  obtain⟨e1,e2⟩:=this;exact⟨h0,h1,by constructor<;>simp only<;>omega⟩
 ·split
  ·rename_i hp;have:=QUu (a:= -b.2) (b:= -b.1) ⟨by omega,by omega⟩ (by omega)
   obtain⟨e1,e2⟩:=this;exact⟨by simp only; omega,by simp only; omega,d1,d2⟩
  ·split
   ·exact⟨h0,h1,by constructor<;>simp only<;>omega⟩
   ·exact⟨h0,h1,d1,d2⟩
set_option maxHeartbeats 4000000 in
theorem oe88:Qdl Tryz.prog 183 e88:=Qeb fun b r hr=>by
 unfold QVL at hr;split at hr
 ·rename_i hc;cases hr;obtain⟨⟨h0,h1,h2⟩,hx,hy,hn,he⟩:=id hc;obtain⟨⟨a0,a1⟩,⟨a2,a3⟩⟩:=id hx;obtain⟨⟨b0,b1⟩,⟨b2,b3⟩⟩:=id hy;obtain⟨n0,n1⟩:=id hn;obtain⟨e0,e1⟩:=id he;have hl:QQx b.least.1∧QQx b.least.2:=by unfold Bds.least; refine⟨⟨?_,?_⟩,?_,?_⟩<;>simp only<;>omega
  have hm:QQx b.most.1∧QQx b.most.2:=by unfold Bds.most; refine⟨⟨?_,?_⟩,?_,?_⟩<;>simp only<;>omega
  have hb2:=QRZ h0 h1 h2 hl;refine QbO (QQW dg88 Qb6 Qbn (sq:=[]) (fun _ _ _ h=>by cases h) 63 QRw [] (fun _=>[]) (fun _=>0)) Tryz.func183 rfl rfl (Nat.le_of_ble_eq_true rfl) (by kernel_rfl) (by kernel_rfl) ?_
  rw[Tryz.results183];have stepB:∀(s:Spn) (b:Int×Int),0≤s.lo→s.lo≤1000000000→QQx s.hi→QQx b.1∧QQx b.2→IntKind.i64.wrap (-b.2)= -b.2∧IntKind.i64.wrap (-b.1)= -b.1∧IntKind.i64.wrap (s.lo - 1)=s.lo - 1∧QQx (-b.2)∧QQx (-b.1)∧(b.1 < 0→IntKind.i64.wrap (-(-b.2 / -b.1))= -(-b.2 / -b.1)):=by
   intro s b q0 q1 q2 q3;obtain⟨⟨c1,c2⟩,c3,c4⟩:=q3;refine⟨Qa _ (by omega) (by omega),Qa _ (by omega) (by omega),Qa _ (by omega) (by omega),⟨by omega,by omega⟩,⟨by omega,by omega⟩,fun hneg=>?_⟩
   obtain⟨e1,e2⟩:=QUu (a:= -b.2) (b:= -b.1) ⟨by omega,by omega⟩ (by omega)
   exact Qa _ (by omega) (by omega)
  obtain⟨u1,u2,u3,u4,u5,u6⟩:=stepB b.s b.least h0 h1 h2 hl;obtain⟨v1,v2,v3,v4,v5,v6⟩:=stepB (QQr b.s b.least) b.most hb2.1 hb2.2.1 hb2.2.2 hm;have r86:s86 [.dat 2 [[DI b.x.lo,DI b.x.hi]] 0 0,.dat 2 [[DI b.y.lo,DI b.y.hi]] 0 0,.dat 1 [[DI b.n]] 0 0,.dat 1 [[DI b.e]] 0 0]=some (.tup [DI b.least.1,DI b.least.2]):=by
   simp only[s86,sp4,QUK,QdI];rw[if_pos ⟨hx,hy,hn,he⟩]; rfl
  have r87:QXZ [.dat 2 [[DI b.y.lo,DI b.y.hi]] 0 0,.dat 2 [[DI b.x.lo,DI b.x.hi]] 0 0,.dat 1 [[DI b.n]] 0 0,.dat 1 [[DI b.e]] 0 0]=some (.tup [DI b.most.1,DI b.most.2]):=by
   simp only[QXZ,sp4,QUK,QdI];rw[if_pos ⟨hx,hy,hn,he⟩]; rfl
  simp only[QXj];obtain⟨S,hS⟩:∃S:Nat→Spn,S=fun k=>if k=0 then b.s else if k=1 then QQr b.s b.least else QRC b:=⟨_,rfl⟩;have S0:S 0=b.s:=by rw[hS]; rfl
  have S1:S 1=QQr b.s b.least:=by rw[hS]; rfl
  have S2:S 2=QRC b:=by rw[hS]; rfl
  have hB:Q0I b=[[.fn 181 [] [.dat 2 [[DI b.x.lo,DI b.x.hi]] 0 0,.dat 2 [[DI b.y.lo,DI b.y.hi]] 0 0,.dat 1 [[DI b.n]] 0 0,.dat 1 [[DI b.e]] 0 0]],[.fn 182 [] [.dat 2 [[DI b.y.lo,DI b.y.hi]] 0 0,.dat 2 [[DI b.x.lo,DI b.x.hi]] 0 0,.dat 1 [[DI b.n]] 0 0,.dat 1 [[DI b.e]] 0 0]]]:=rfl;simp[QRw,hB];rw[←S0]
  (generalize hLoopQ:Cx.loop _ _ _=rLoopQ; apply Qi hLoopQ (fun k=>⟨[(0,.loc 1000 0),(8,.d (.sl 1 (Q0I b))),(9,.d (DI 2)),(10,.d (DI k))],[(1000,[.d (DI (S k).lo),.d (DI (S k).hi)])],[],[]⟩) 2 rfl; rotate_left; (show _ < 281474976710656; omega); rfl; rotate_left; all_goals clear hLoopQ)
  ·intro j hj;rcases(by omega:j=0∨j=1)with rfl | rfl
   ·rw[S0,S1];have hd:=QRZ (s:=b.s) (b:=b.least) h0 h1 h2 hl;by_cases c1:0 < b.least.1
    ·have e:QQr b.s b.least=⟨b.s.lo,min b.s.hi (-b.least.2 / b.least.1)⟩:=if_pos c1;rw[e]at hd⊢;simp[QRw,g88,hB,r86,c1,u1,u2,s64,sp2,u4,hl.1,QSD];done
    ·have c1':(0 < b.least.1)=False:=eq_false c1;by_cases c2:b.least.1 < 0
     ·have e:QQr b.s b.least=⟨max b.s.lo (-(-b.least.2 / -b.least.1)),b.s.hi⟩:=by unfold QQr; rw[if_neg c1,if_pos c2]
      rw[e]at hd⊢;have c3:0 < -b.least.1:=by omega
      have c7:=u6 c2;simp only[Int.ediv_neg,Int.neg_neg]at c7;simp[QRw,g88,hB,r86,c1',c2,u1,u2,s64,sp2,u4,u5,c3,c7,QUt];done
     ·have c2':(b.least.1 < 0)=False:=eq_false c2;by_cases c4:0 < b.least.2
      ·have e:QQr b.s b.least=⟨b.s.lo,b.s.lo - 1⟩:=by unfold QQr; rw[if_neg c1,if_neg c2,if_pos c4]
       rw[e];simp[QRw,g88,hB,r86,c1',c2',c4,u3]
      ·have e:QQr b.s b.least=b.s:=by unfold QQr; rw[if_neg c1,if_neg c2,if_neg c4]
       have c4':(0 < b.least.2)=False:=eq_false c4;rw[e];simp[QRw,g88,hB,r86,c1',c2',c4']
   ·obtain⟨s1,hs1⟩:∃s1,s1=QQr b.s b.least:=⟨_,rfl⟩;have S2':S 2=QQr s1 b.most:=by rw[S2,hs1]; rfl
    rw[S1,S2',←hs1];rw[←hs1]at hb2 v3;have hd:=QRZ (s:=s1) (b:=b.most) hb2.1 hb2.2.1 hb2.2.2 hm;by_cases c1:0 < b.most.1
    ·have e:QQr s1 b.most=⟨s1.lo,min s1.hi (-b.most.2 / b.most.1)⟩:=if_pos c1;rw[e]at hd⊢;simp[QRw,g88,hB,r87,c1,v1,v2,s64,sp2,v4,hm.1,QSD];done
    ·have c1':(0 < b.most.1)=False:=eq_false c1;by_cases c2:b.most.1 < 0
     ·have e:QQr s1 b.most=⟨max s1.lo (-(-b.most.2 / -b.most.1)),s1.hi⟩:=by unfold QQr; rw[if_neg c1,if_pos c2]
      rw[e]at hd⊢;have c3:0 < -b.most.1:=by omega
      have c7:=v6 c2;simp only[Int.ediv_neg,Int.neg_neg]at c7;simp[QRw,g88,hB,r87,c1',c2,v1,v2,s64,sp2,v4,v5,c3,c7,QUt];done
     ·have c2':(b.most.1 < 0)=False:=eq_false c2;by_cases c4:0 < b.most.2
      ·have e:QQr s1 b.most=⟨s1.lo,s1.lo - 1⟩:=by unfold QQr; rw[if_neg c1,if_neg c2,if_pos c4]
       rw[e];simp[QRw,g88,hB,r87,c1',c2',c4,v3]
      ·have e:QQr s1 b.most=s1:=by unfold QQr; rw[if_neg c1,if_neg c2,if_neg c4]
       have c4':(0 < b.most.2)=False:=eq_false c4;rw[e];simp[QRw,g88,hB,r87,c1',c2',c4']
  ·rw[S2];simp[QRw]
 ·cases hr
end Go.Proofs.YticoemblgkemiaaGreatDoor
namespace Go.Proofs.YticoemblgkemiaaGreatDoor
open Go.RowKit
def QWj (r:Nat):List (Nat×Option Nat):=match r with
 | 0=>kpn [0,1,2,3,4,10]
 | 1=>kpn [0,1,2,10,11]
 | 2=>kpn [0,1,2,10,11,25,26,27]
 | 3=>kpn [0,1,2,10,11,25,26,27,28]
 | 4=>kpn [0,1,2,10,11,12,13,25,26,27]
 | 5=>kpn [0,1,2,10,11,12,13,25,26,27,33]
 | 6=>kpn [0,1,2,10,11,13,14,15,16,25,26,27]
 | 7=>kpn [0,1,2,10,11,13,14,15,16,17,25,26,27]
 | 8=>kpn [0,1,2,10,11,17,18,25,26,27]
 | 9=>kpn [0,1,2,10,11,25,26,27]
 | 10=>kpn [0,1,2,10,11,25,26,27]
 | 11=>[(10,none)]
 | _=>[]
def QUy (x:Tbl) (l:List Int) (a b:Nat) (s:Spn):Nat→Spn
 | 0=>s
 | k+1=>if l.getD k 0= -1 then QUy x l a b s k else QRC ⟨QUy x l a b s k,QQe x a k,QQe x b k,l.getD k 0,QQ5 x k⟩
def QRU (x:Tbl) (l:List Int) (a b:Nat) (lo hi:Int):Spn:=QUy x l a b ⟨lo,hi⟩ l.length
theorem QVz {x:Tbl} {l:List Int} (h0:okR x l) {a b:Nat} (ha:a < x.kinds.length) (hb:b < x.kinds.length) {s:Spn} (h1:0≤s.lo∧s.lo≤1000000000∧QQx s.hi) {k:Nat} (hk:k < l.length):QSY ⟨s,QQe x a k,QQe x b k,l.getD k 0,QQ5 x k⟩:=by
 obtain⟨hT,hll,hlv⟩:=QRQ h0;have f:=QQv hT;obtain⟨_,_,a1,a2,a3⟩:=f.rng ha (show k < x.props.length by omega)
 obtain⟨_,_,b1,b2,b3⟩:=f.rng hb (show k < x.props.length by omega)
 have e1:=f.err k (by omega)
 have e2:QQ5 x k=x.props[k].err:=by unfold QQ5; rw[Ql _ _ _ (by omega)]
 have e3:=hlv k hk;rw[Ql _ _ _ hk,e2];exact⟨h1,⟨⟨by simp only; omega,by simp only; omega⟩,by simp only; omega,by simp only; omega⟩,⟨⟨by simp only; omega,by simp only; omega⟩,by simp only; omega,by simp only; omega⟩,⟨by simp only; omega,by simp only; omega⟩,by simp only; omega,by simp only; omega⟩
theorem Q0s {b:Bds} (h:QSY b):(QQx b.least.1∧QQx b.least.2)∧QQx b.most.1∧QQx b.most.2:=by
 obtain⟨_,⟨⟨a0,a1⟩,⟨a2,a3⟩⟩,⟨⟨b0,b1⟩,⟨b2,b3⟩⟩,⟨n0,n1⟩,e0,e1⟩:=h;refine⟨?_,?_⟩
 ·unfold Bds.least; refine⟨⟨?_,?_⟩,?_,?_⟩<;>simp only<;>omega
 ·unfold Bds.most; refine⟨⟨?_,?_⟩,?_,?_⟩<;>simp only<;>omega
theorem Q1i {b:Bds} (h:QSY b):0≤(QRC b).lo∧(QRC b).lo≤1000000000∧QQx (QRC b).hi:=by
 obtain⟨hl,hm⟩:=Q0s h;obtain⟨h0,h1,h2⟩:=h.1;obtain⟨q0,q1,q2⟩:=QRZ h0 h1 h2 hl;exact QRZ q0 q1 q2 hm
theorem QXa {x:Tbl} {l:List Int} (h0:okR x l) {a b:Nat} (ha:a < x.kinds.length) (hb:b < x.kinds.length) {s:Spn} (h1:0≤s.lo∧s.lo≤1000000000∧QQx s.hi):∀k,k≤l.length→0≤(QUy x l a b s k).lo∧(QUy x l a b s k).lo≤1000000000∧QQx (QUy x l a b s k).hi
 | 0,_=>h1
 | k+1,hk=>by
  have ih:=QXa h0 ha hb h1 k (by omega)
  rw[QUy];split
  ·exact ih
  ·exact Q1i (QVz h0 ha hb ih (by omega))
def Q2r (r:Nat):List (Nat×Nat):=if r=6 then [4,8,11,16,20,23,28,32].flatMap fun i=>[(i,36),(i,37),(i,38)]else []
theorem QYx (xs:Array Value) (w:World):(callFunc 183 xs).run Tryz.prog w= .ok (.enter 183 xs) w:=by kernel_rfl
theorem Q2O:Qnm Tryz.prog (Qj6 [(183,e88)]):=QeK Qb6 QYx oe88
theorem QUT:CxOk Tryz.prog (QSL [] [(183,e88)] 75 QWj [] Q2r (fun _=>0) [] []):=QQW Qs Q2O Qbn (sq:=[]) (fun _ _ _ h=>by cases h) 75 QWj [] Q2r (fun _=>0)
def s63:List D→Option D:=sp5 QRL QaY QaY QaY QaY (Qcf QP7) fun x a b lo hi=>if okR x.t x.l∧QXy x.t a∧QXy x.t b∧QXo lo hi then some (QRU x.t x.l a.toNat b.toNat lo hi)else none
set_option maxHeartbeats 4000000 in
theorem ok63:∀ds d,s63 ds=some d→PureC Tryz.prog 101 ds d:=QJO fun x a b lo hi r hr=>by
 split at hr
 ·rename_i hc;cases hr;obtain⟨h0,⟨ka0,ka1⟩,⟨kb0,kb1⟩,hbd⟩:=hc;obtain⟨A,rfl⟩:∃A:Nat,a=A:=⟨a.toNat,by omega⟩
  obtain⟨B,rfl⟩:∃B:Nat,b=B:=⟨b.toNat,by omega⟩
  simp only[Int.toNat_natCast];obtain⟨hT,hll,hlv⟩:=QRQ h0;have f:=QQv hT;have ha:A < x.t.kinds.length:=by omega
  have hb:B < x.t.kinds.length:=by omega
  have hp5:=f.p5;have hs0:0≤lo∧lo≤1000000000∧QQx hi:=by obtain⟨q1,q2,q3,q4⟩:=hbd; exact⟨by omega,by omega,by omega,by omega⟩
  have hbds:=QXa (s:=⟨lo,hi⟩) h0 ha hb hs0;refine QcR Tryz.func101 rfl rfl (Nat.le_of_ble_eq_true rfl) fun m w a I ha0=>?_;refine Qdm QUT 1 _ rfl (by kernel_rfl) (by kernel_rfl) (fun _ _=>rfl) _ _ _ _ I ?_
  simp[Qeh,QWj,QRg,QG];intro g1 a1 w1 I1;refine wpIn_seq ?_;refine wpIn_seq ?_;refine Qdk QUT (by kernel_rfl) (by kernel_rfl) I1 (fun _ _=>rfl) ?_
  simp[QWj,Qn,QG];intro g2 a2 w2 I2;refine wpIn_block (Qpd (fun k a' w'=>∃g',Inv 75 m (Qed w []) g' ⟨[(0,.d (.dat 4 [[.sl 2 (x.t.props.map QQt.enc),.sl 2 (x.t.kinds.map QQw.enc),DI x.t.purity,.sl 1 (x.l.map QH.enc)]] 0 0)),(1,.d (DI A)),(2,.d (DI B)),(10,.loc 10 0),(11,.loc 11 0),(25,.d (.sl 1 (x.l.map QH.enc))),(26,.d (DI x.l.length)),(27,.d (DI k))],[(10,[.d (DI 0),.d (DI 0)]),(11,[.d (DI (QUy x.t x.l A B ⟨lo,hi⟩ k).lo),.d (DI (QUy x.t x.l A B ⟨lo,hi⟩ k).hi)])],[],[]⟩ a' w') x.l.length ?_ ?_ ⟨g2,I2⟩)
  ·rintro k hk a3 w3 ⟨g3,I3⟩;have hkI:(k:Int) < x.l.length:=by omega
   have w1:=Qa ((k:Int)+1) (by omega) (by omega)
   refine Qdm QUT 1 _ rfl (by kernel_rfl) (by kernel_rfl) (fun _ _=>rfl) _ _ _ _ I3 ?_
   simp[Qeh,QWj,hkI,QG];intro g4 a4 w4 I4;show Code.wpIn _ _ _ (QiP 1 _) _ _ _;refine wpIn_seq (wpIn_block ?_);have hs:=hbds k (by omega)
   have hgood:=QVz h0 ha hb hs hk;have hnx:QUy x.t x.l A B ⟨lo,hi⟩ (k+1)=if x.l[k]= -1 then QUy x.t x.l A B ⟨lo,hi⟩ k else QRC ⟨QUy x.t x.l A B ⟨lo,hi⟩ k,QQe x.t A k,QQe x.t B k,x.l[k],QQ5 x.t k⟩:=by rw[QUy,Ql _ _ _ hk]
   rw[Ql _ _ _ hk]at hgood;generalize QUy x.t x.l A B ⟨lo,hi⟩ k=s at*;generalize QUy x.t x.l A B ⟨lo,hi⟩ (k+1)=s' at*;have fin:∀(tp:List (Nat×X)) (g5:Gh) (a5:Act) (w5:World),s'=s→True:=fun _ _ _ _ _=>trivial;by_cases hm:x.l[k]= -1
   ·rw[if_pos hm]at hnx;subst hnx;refine Qdk QUT (by kernel_rfl) (by kernel_rfl) I4 (fun _ _=>rfl) ?_
    simp[QWj,hk,hkI,hm,QG];intro g5 a5 w5 I5;simp only[AEx.out,Exit.then,Exit.inBlock,if_true];refine Qdk QUT (by kernel_rfl) (by kernel_rfl) I5 (fun _ _=>rfl) ?_
    simp[QWj,w1,QG];exact fun g6 a6 w6 I6=>⟨g6,I6⟩
   ·rw[if_neg hm]at hnx;subst hnx;have hkp:k < x.t.props.length:=by omega
    have hkpI:(k:Int) < x.t.props.length:=by omega
    obtain⟨hpa,ea,_⟩:=f.rng ha hkp;obtain⟨hpb,eb,_⟩:=f.rng hb hkp;have hpaI:(k:Int) < x.t.kinds[A].props.length:=by omega
    have hpbI:(k:Int) < x.t.kinds[B].props.length:=by omega
    have ee:x.t.props[k].err=QQ5 x.t k:=by unfold QQ5; rw[Ql _ _ _ hkp]
    have hm2:(x.l[k]== -1)=false:=by simpa using hm
    refine Qdm QUT 2 _ rfl (by kernel_rfl) (by kernel_rfl) (fun _ _=>rfl) _ _ _ _ I4 ?_
    simp[Qeh,QWj,Q2r,QP3,QP0,QP2,QP5,QP6,QP9,hk,hkI,hm,hm2,ha,hb,ka1,kb1,hpa,hpb,hpaI,hpbI,hkp,hkpI,ea,eb,ee,QG];intro g5 a5 w5 I5;generalize QQe x.t A k=P at*;generalize QQe x.t B k=R at*;generalize QQ5 x.t k=E at*;generalize x.l[k]=n at*;obtain⟨g6,I6⟩:=Qxl QUT (b:=13) (t:=13) rfl rfl rfl rfl I5 I5.deferred;obtain⟨g7,I7⟩:=Qxl QUT (b:=14) (t:=14) rfl rfl rfl rfl I6 I6.deferred;obtain⟨g8,I8⟩:=Qxl QUT (b:=15) (t:=15) rfl rfl rfl rfl I7 I7.deferred;obtain⟨g9,I9⟩:=Qxl QUT (b:=16) (t:=16) rfl rfl rfl rfl I8 I8.deferred;show Code.wpIn _ _ _ (QiP 2 _) _ _ _;refine Qdk QUT (by kernel_rfl) (by kernel_rfl) I9 (fun _ _=>rfl) ?_
    have he:=Q1y ⟨s,P,R,n,E⟩;unfold QVL at he;rw[if_pos hgood]at he;simp only[Q0I]at he;simp[QiP,QWj,QG,he];intro g10 a10 w10 I10;simp only[AEx.out,Exit.then,Exit.inBlock,if_true];refine Qdk QUT (by kernel_rfl) (by kernel_rfl) I10 (fun _ _=>rfl) ?_
    simp[QWj,w1,QG];exact fun g11 a11 w11 I11=>⟨g11,I11⟩
  ·rintro a3 w3 ⟨g3,I3⟩;refine Qdk QUT (by kernel_rfl) (by kernel_rfl) I3 (fun _ _=>rfl) ?_
   simp[QWj,QG];intro g4 a4 w4 I4;simp only[AEx.out,Exit.then,Exit.inBlock,if_true];refine Qdk QUT (by kernel_rfl) (by kernel_rfl) I4 (fun _ _=>rfl) ?_
   simp[QWj,QG];intro g5 a5 w5 I5;refine Qdq QUT I5 (r:=[.agg (QP7.enc (QRU x.t x.l A B lo hi))]) ?_ rfl;rw[Tryz.results101]; simp[QP0,QRU]
 ·cases hr
theorem QZq (xs:Array Value) (w:World):(callFunc 101 xs).run Tryz.prog w= .ok (.enter 101 xs) w:=by kernel_rfl
end Go.Proofs.YticoemblgkemiaaGreatDoor
namespace Go.Proofs.YticoemblgkemiaaGreatDoor
open Go.RowKit
def QTz (r:Nat):List (Nat×Option Nat):=match r with
 | 0=>kpn [1,2,3,4,8]
 | 1=>kpn [2,3,4,8,10,11]
 | 2=>kpn [2,3,4,8,10,11,19]
 | 3=>kpn [8,9]
 | 4=>kpn [2,3,8,10,24]
 | 5=>kpn [8,9]
 | 6=>kpn [2,3,8,10,34]
 | 7=>kpn [8,9]
 | 8=>kpn [8,12]
 | 9=>kpn [8,12,47]
 | 10=>kpn [8,9]
 | 11=>kpn [8,9]
 | _=>[]
def QVT (r:Nat):List (Nat×Option Nat):=match r with
 | 0=>kpn [1,2,3]
 | 1=>kpn [1,2,3,10]
 | 2=>kpn [1,2,3,10,24]
 | 3=>kpn [6,7]
 | 4=>kpn [1,2,3,28]
 | 5=>kpn [6,7]
 | 6=>kpn [1,2,3,37]
 | 7=>kpn [6,7]
 | 8=>kpn [1,2,3,11]
 | 9=>kpn [1,2,3,11,42,43,44]
 | 10=>kpn [1,2,3,11,42,43,44,45]
 | 11=>kpn [1,2,3,11,12,13,42,43,44]
 | 12=>kpn [1,2,3,11,13,14,15,42,43,44]
 | 13=>kpn [1,2,3,11,13,14,42,43,44,77,78,79]
 | 14=>kpn [1,2,3,11,13,14,42,43,44,77,78,79,80]
 | 15=>kpn [1,2,3,11,13,14,17,42,43,44,77,78,79]
 | 16=>kpn [1,2,3,11,13,14,17,42,43,44,77,78,79,84]
 | 17=>kpn [1,2,3,11,13,14,42,43,44,77,78,79]
 | 18=>kpn [1,2,3,11,13,14,42,43,44,77,78,79]
 | 19=>kpn [1,2,3,11,42,43,44]
 | 20=>kpn [11,103]
 | 21=>kpn [6,7]
 | 22=>kpn [6,7]
 | _=>[]
theorem QR0 {x:Tbl} {l:List Int} (h:QQj x l=0):QV8.enc (QUG x l)= .tup [.dat 4 [[.sl 2 (x.props.map QQt.enc),.sl 2 (x.kinds.map QQw.enc),DI x.purity,.sl 1 (l.map QH.enc)]] 0 0,DI 0]:=by
 unfold QUG; rw[if_pos h]; rfl
theorem QSA {x:Tbl} {l:List Int} (h:¬QQj x l=0):QV8.enc (QUG x l)= .tup [.v (.pointer none),DI (QQj x l)]:=by
 unfold QUG; rw[if_neg h]; simp only[QV8,if_neg h]
theorem QSP (x:Tbl) (l:List Int):QRL.dec (.dat 4 [[.sl 2 (x.props.map QQt.enc),.sl 2 (x.kinds.map QQw.enc),DI x.purity,.sl 1 (l.map QH.enc)]] 0 0)=some ⟨x,l⟩:=QR1 ⟨x,l⟩
theorem out2 (lo hi a b:Int):Qk3 lo hi [a,b]=(!inR a lo hi||!inR b lo hi):=by simp[Qk3]
def Q2d (x:Tbl) (l:List Int) (a b:Int):Spn×Int:=
 if ¬QXA x (QQj x l) a b=0 then(⟨0,0⟩,QXA x (QQj x l) a b)else if(QRU x l a.toNat b.toNat 0 1000).hi < (QRU x l a.toNat b.toNat 0 1000).lo then(⟨0,0⟩,9)else(QRU x l a.toNat b.toNat 0 1000,0)
def g21:List (Nat×(List D→Option D)):=(100,QQI)::(84,s62)::(101,s63)::[]
theorem dg21:QaE Tryz.prog (Qaw g21):=Qh (Qh (Qh Qs QZq ok63) QWl Q2o) QRK QTC
def QX3:List D→Option D:=sp4 (Qcf QRf) (QJ QH) QaY QaY (Qgw (Qcf QP7) QaY) fun x l a b=>if QQh x then some (Q2d x l a b)else none
set_option maxHeartbeats 2000000 in
theorem Q06:∀ds d,QX3 ds=some d→PureC Tryz.prog 25 ds d:=Qyy fun x l a b r hr=>by
 split at hr
 ·rename_i hnm;cases hr;refine Qf (QP1 dg21 50 QTz []) Tryz.func25 rfl rfl (Nat.le_of_ble_eq_true rfl) (by kernel_rfl) ?_
  rw[Tryz.results25];unfold Q2d QXA;by_cases h1:QQj x l=0
  ·have hO:=QR0 h1;have hR:okR x l:=h1;have f:=QQv (QRQ hR).1;have hk8:=f.k8;have w1:=Qa ((x.kinds.length:Int) - 1) (by omega) (by omega)
   have hcond:(inR a 0 ((x.kinds.length:Int) - 1)=false∨inR b 0 ((x.kinds.length:Int) - 1)=false)↔Qk3 0 ((x.kinds.length:Int) - 1) [a,b]=true:=by rw[out2]; simp
   cases h2:Qk3 0 ((x.kinds.length:Int) - 1) [a,b]
   ·rw[h2]at hcond;have hc:¬(inR a 0 ((x.kinds.length:Int) - 1)=false∨inR b 0 ((x.kinds.length:Int) - 1)=false):=fun q=>by have:=hcond.1 q; simp at this
    by_cases h4:a=b
    ·subst h4;have hin:inR a 0 ((x.kinds.length:Int) - 1)=true:=by cases q:inR a 0 ((x.kinds.length:Int) - 1)with | true=>rfl | false=>exact absurd (.inl q) hc
     clear hc hcond;simp[QTz,QPZ,QP8,QP5,QP0,g21,s62,QQI,QRA,hnm,hO,h1,w1,h2,hin]
    ·have h4':(a==b)=false:=by simpa using h4
     have k1:QXy x a:=QY4 (by cases q:inR a 0 ((x.kinds.length:Int) - 1)with | true=>rfl | false=>exact absurd (.inl q) hc)
     have k2:QXy x b:=QY4 (by cases q:inR b 0 ((x.kinds.length:Int) - 1)with | true=>rfl | false=>exact absurd (.inr q) hc)
     have k3:QXo 0 1000:=by decide
     generalize hP:QRU x l a.toNat b.toNat 0 1000=s;obtain⟨u,v⟩:=s;by_cases h5:v < u
     ·simp[QTz,QPZ,QP8,QP5,QP0,g21,s62,QQI,s63,QSP,QRA,hnm,hO,h1,w1,h2,hc,hcond,h4,h4',hR,k1,k2,k3,hP,h5]
     ·simp[QTz,QPZ,QP8,QP5,QP0,g21,s62,QQI,s63,QSP,QRA,hnm,hO,h1,w1,h2,hc,hcond,h4,h4',hR,k1,k2,k3,hP,h5]
   ·have hc:=hcond.2 h2;simp[QTz,QPZ,QP8,QP5,QP0,g21,s62,QQI,QRA,hnm,hO,h1,w1,h2,hc,hcond]
  ·have hO:=QSA h1;have h1':(QQj x l==0)=false:=by simpa using h1
   have h1'':(QQj x l != 0)=true:=by simpa using h1
   simp[QTz,QPZ,QP8,QP5,QP0,g21,s62,hnm,hO,h1,h1',h1'']
 ·cases hr
theorem QZg (xs:Array Value) (w:World):(callFunc 25 xs).run Tryz.prog w= .ok (.enter 25 xs) w:=by kernel_rfl
def QRq (m q w:Int):Int:=if 0 < w then min m (q / w+1)else m
def wdV (x:Tbl) (a p:Nat):Int:=1000*((QQe x a p).hi - (QQe x a p).lo+2*QQ5 x p)
def QVF (x:Tbl) (a b:Nat):Nat→Int
 | 0=>1001
 | p+1=>QRq (QRq (QVF x a b p) (wdV x a p) ((QQe x b p).lo - (QQe x a p).lo)) (wdV x a p) ((QQe x a p).hi - (QQe x b p).hi)
def Q2T (x:Tbl) (a b:Int):Int×Int:=
 if ¬QXA x (chk x).2.2 a b=0 then(0,QXA x (chk x).2.2 a b)else if 1000 < QVF x a.toNat b.toNat x.props.length then(0,9)else(QVF x a.toNat b.toNat x.props.length,0)
theorem Q0v {x:Tbl} (f:Fine x) {a p:Nat} (ha:a < x.kinds.length) (hp:p < x.props.length):0≤wdV x a p∧wdV x a p≤1000000000:=by
 obtain⟨_,_,a1,a2,a3⟩:=f.rng ha hp;have e:=f.err p hp;have e2:QQ5 x p=x.props[p].err:=by unfold QQ5; rw[Ql _ _ _ hp]
 unfold wdV; omega
theorem QTI {m q w:Int} (hq:0≤q) (h0:0≤m∧m≤1001):0≤QRq m q w∧QRq m q w≤1001:=by
 unfold QRq;split
 ·rename_i hw;have:0≤q / w:=Int.ediv_nonneg hq (by omega)
  omega
 ·exact h0
theorem QZB {x:Tbl} (f:Fine x) {a b:Nat} (ha:a < x.kinds.length):∀p,p≤x.props.length→0≤QVF x a b p∧QVF x a b p≤1001
 | 0,_=>⟨by simp[QVF],by simp[QVF]⟩
 | p+1,h=>by rw[QVF]; exact QTI (Q0v f ha (by omega)).1 (QTI (Q0v f ha (by omega)).1 (QZB f ha p (by omega)))
def df23 (r:Nat):List (Nat×Nat):=if r=12 then [1,5,8,10,14,17].flatMap fun i=>[(i,20),(i,21)]else []
def g23:List (Nat×(List D→Option D)):=(149,s16)::(100,QQI)::(150,s64)::[]
theorem dg23:QaE Tryz.prog (Qaw g23):=Qh (Qh (Qh Qs QJu ok64) QRK QTC) QVn Q18
def s23:List D→Option D:=sp3 (Qcf QRf) QaY QaY (Qgw QaY QaY) fun x a b=>if QQh x then some (Q2T x a b)else none
set_option maxHeartbeats 2000000 in
theorem ok23:∀ds d,s23 ds=some d→PureC Tryz.prog 74 ds d:=QcN fun x a b r hr=>by
 split at hr
 ·rename_i hnm;cases hr;refine Qf (QQW dg23 Qb6 Qbn (sq:=[]) (fun _ _ _ h=>by cases h) 105 QVT [] df23 (fun _=>0)) Tryz.func74 rfl rfl (Nat.le_of_ble_eq_true rfl) (by kernel_rfl) ?_
  rw[Tryz.results74];unfold Q2T QXA;by_cases h1:(chk x).2.2=0
  ·have f:=QQv h1;have hk8:=f.k8;have hp5:=f.p5;have w1:=Qa ((x.kinds.length:Int) - 1) (by omega) (by omega)
   have hcond:(inR a 0 ((x.kinds.length:Int) - 1)=false∨inR b 0 ((x.kinds.length:Int) - 1)=false)↔Qk3 0 ((x.kinds.length:Int) - 1) [a,b]=true:=by rw[out2]; simp
   cases h2:Qk3 0 ((x.kinds.length:Int) - 1) [a,b]
   ·rw[h2]at hcond;have hc:¬(inR a 0 ((x.kinds.length:Int) - 1)=false∨inR b 0 ((x.kinds.length:Int) - 1)=false):=fun q=>by have:=hcond.1 q; simp at this
    by_cases h4:a=b
    ·subst h4;have hin:inR a 0 ((x.kinds.length:Int) - 1)=true:=by cases q:inR a 0 ((x.kinds.length:Int) - 1)with | true=>rfl | false=>exact absurd (.inl q) hc
     clear hc hcond;simp[QVT,QPZ,QP8,QP5,g23,s16,QQI,QRA,hnm,h1,w1,h2,hin]
    ·have h4':(a==b)=false:=by simpa using h4
     obtain⟨ka0,ka1⟩:QXy x a:=QY4 (by cases q:inR a 0 ((x.kinds.length:Int) - 1)with | true=>rfl | false=>exact absurd (.inl q) hc)
     obtain⟨kb0,kb1⟩:QXy x b:=QY4 (by cases q:inR b 0 ((x.kinds.length:Int) - 1)with | true=>rfl | false=>exact absurd (.inr q) hc)
     obtain⟨A,rfl⟩:∃A:Nat,a=A:=⟨a.toNat,by omega⟩
     obtain⟨B,rfl⟩:∃B:Nat,b=B:=⟨b.toNat,by omega⟩
     simp only[Int.toNat_natCast];have ha:A < x.kinds.length:=by omega
     have hb:B < x.kinds.length:=by omega
     have hbd:=QZB (b:=B) f ha;simp[QVT,QPZ,QP8,QP5,QP9,g23,s16,QQI,QRA,hnm,h1,w1,h2,hc,hcond,h4,h4']
     (generalize hLoopQ:Cx.loop _ _ _=rLoopQ; apply Qi hLoopQ (fun k=>⟨[(1,.d (DI A)),(2,.d (DI B)),(3,.loc 3 0),(11,.d (DI (QVF x A B k))),(42,.d (.sl 2 (x.props.map QQt.enc))),(43,.d (DI x.props.length)),(44,.d (DI k))],[(3,[.d (.sl 2 (x.props.map QQt.enc)),.d (.sl 2 (x.kinds.map QQw.enc)),.d (DI x.purity)])],[],[]⟩) x.props.length rfl; rotate_left; (show _ < 281474976710656; omega); rfl; rotate_left; all_goals clear hLoopQ)
     ·intro j hj;have hjI:(j:Int) < x.props.length:=by omega
      have wj:=Qa ((j:Int)+1) (by omega) (by omega)
      have hdj:=hbd j (by omega)
      obtain⟨hpa,ea,la0,la1,la2⟩:=f.rng ha hj;obtain⟨hpb,eb,lb0,lb1,lb2⟩:=f.rng hb hj;have hpaI:(j:Int) < x.kinds[A].props.length:=by omega
      have hpbI:(j:Int) < x.kinds[B].props.length:=by omega
      have he:=f.err j hj;have ee:x.props[j].err=QQ5 x j:=by unfold QQ5; rw[Ql _ _ _ hj]
      rw[ee]at he;have u1:=Qa ((QQe x B j).lo - (QQe x A j).lo) (by omega) (by omega)
      have u2:=Qa ((QQe x A j).hi - (QQe x B j).hi) (by omega) (by omega)
      have u3:=Qa ((QQe x A j).hi - (QQe x A j).lo) (by omega) (by omega)
      have u4:=Qa (2*QQ5 x j) (by omega) (by omega)
      have u5:=Qa ((QQe x A j).hi - (QQe x A j).lo+2*QQ5 x j) (by omega) (by omega)
      have u6:=Qa (1000*((QQe x A j).hi - (QQe x A j).lo+2*QQ5 x j)) (by omega) (by omega)
      simp[QVT,df23,hj,hjI,QP2,QP3,QP0,QP9,QP5,QP6,ka1,kb1,ha,hb,hpa,hpb,hpaI,hpbI,ea,eb,ee,u1,u2];have hwd:=Q0v f ha hj;have u7:1000*((QQe x A j).hi - (QQe x A j).lo+2*QQ5 x j)=wdV x A j:=rfl;have hnx:QVF x A B (j+1)=QRq (QRq (QVF x A B j) (wdV x A j) ((QQe x B j).lo - (QQe x A j).lo)) (wdV x A j) ((QQe x A j).hi - (QQe x B j).hi):=rfl;have b1:QQx ((QQe x B j).lo - (QQe x A j).lo):=⟨by omega,by omega⟩
      have b2:QQx ((QQe x A j).hi - (QQe x B j).hi):=⟨by omega,by omega⟩
      rw[u7]at u6;generalize QQe x A j=P at*;generalize QQe x B j=R at*;generalize QQ5 x j=E at*;generalize wdV x A j=W at*;generalize QVF x A B (j+1)=d' at*;generalize QVF x A B j=d at*;generalize R.lo - P.lo=wa at*;generalize P.hi - R.hi=wb at*;have b3:QQx W:=⟨by omega,by omega⟩
      obtain⟨M,hM⟩:∃M:Nat→Int,M=fun k=>if k=0 then d else if k=1 then QRq d W wa else d':=⟨_,rfl⟩;have M0:M 0=d:=by rw[hM]; rfl
      have M1:M 1=QRq d W wa:=by rw[hM]; rfl
      have M2:M 2=d':=by rw[hM]; rfl
      have hd1:=QTI (w:=wa) hwd.1 hdj;have step:∀(m w:Int),0≤m∧m≤1001→QQx w→0 < w→IntKind.i64.wrap (W / w)=W / w∧IntKind.i64.wrap (W / w+1)=W / w+1:=by
       intro m w _ _ hw;obtain⟨q1,q2⟩:=QUu b3 hw;exact⟨Qa _ (by omega) (by omega),Qa _ (by omega) (by omega)⟩
      rw[←M0]
      (generalize hLoopQ:Cx.loop _ _ _=rLoopQ; apply Qi hLoopQ (fun k=>⟨[(1,.d (DI A)),(2,.d (DI B)),(3,.loc 3 0),(11,.d (DI (M k))),(13,.loc 13 0),(14,.loc 14 0),(42,.d (.sl 2 (x.props.map QQt.enc))),(43,.d (DI x.props.length)),(44,.d (DI j)),(77,.d (.sl 1 [[DI wa],[DI wb]])),(78,.d (DI 2)),(79,.d (DI k))],[(3,[.d (.sl 2 (x.props.map QQt.enc)),.d (.sl 2 (x.kinds.map QQw.enc)),.d (DI x.purity)]),(13,[.d (DS x.props[j].name),.d (DI E)]),(14,[.d (DI P.lo),.d (DI P.hi)])],[],[]⟩) 2 rfl; rotate_left; (show _ < 281474976710656; omega); rfl; rotate_left; all_goals clear hLoopQ)
      ·intro k hk;rcases(by omega:k=0∨k=1)with rfl | rfl
       ·rw[M0,M1];unfold QRq;by_cases hw:0 < wa
        ·obtain⟨v1,v2⟩:=step d wa hdj b1 hw;simp[QVT,g23,s64,hw,u3,u4,u5,u6,u7,b1,b3,v1,v2,QSD]
        ·simp[QVT,hw]
       ·rw[M1,M2,hnx];generalize QRq d W wa=e at*;unfold QRq;by_cases hw:0 < wb
        ·obtain⟨v1,v2⟩:=step e wb hd1 b2 hw;simp[QVT,g23,s64,hw,u3,u4,u5,u6,u7,b2,b3,v1,v2,QSD]
        ·simp[QVT,hw]
      ·rw[M2];simp[QVT,wj]
     ·have hlast:=hbd x.props.length (by omega)
      by_cases h5:1000 < QVF x A B x.props.length
      ·simp[QVT,h5]
      ·simp[QVT,h5]
   ·have hc:=hcond.2 h2;simp[QVT,QPZ,QP8,QP5,g23,s16,QQI,QRA,hnm,h1,w1,h2,hc,hcond]
  ·have h1':((chk x).2.2==0)=false:=by simpa using h1
   have h1'':((chk x).2.2 != 0)=true:=by simpa using h1
   simp[QVT,QPZ,QP8,g23,s16,hnm,h1,h1',h1'']
 ·cases hr
theorem Q1U (xs:Array Value) (w:World):(callFunc 74 xs).run Tryz.prog w= .ok (.enter 74 xs) w:=by kernel_rfl
end Go.Proofs.YticoemblgkemiaaGreatDoor
