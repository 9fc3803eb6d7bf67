/-
  A reading of one property alone, and a recipe of two waxes: the plain law of TopBlended. Conditions: valid tables. No program here. (A draft: not built yet.)
-/
import Derived.Test.YticoemblgkemiaaGreatDoorZWxLawT
import Derived.Test.YticoemblgkemiaaGreatDoorZWxPrC
import Derived.Test.YticoemblgkemiaaGreatDoorZWxAwake
import Derived.Test.YticoemblgkemiaaGreatDoorZBlN
set_option linter.unusedSimpArgs false
set_option linter.unusedVariables false
namespace Go.Proofs.YticoemblgkemiaaGreatDoor
open Go.RowKit
def Q4O (m p:Nat) (r:Int):List Int:=(List.range m).map fun q=>if q=p then r else -1
theorem Q3l (m p:Nat) (r:Int):(Q4O m p r).length=m:=by simp[Q4O]
theorem Q4A {m p q:Nat} {r:Int} (h:q < m):(Q4O m p r).getD q 0=if q=p then r else -1:=by
 rw[Ql _ _ _ (by rw[Q3l]; exact h)]; simp[Q4O]
theorem Q7q {x:Tbl} (hT:okT x) {p:Nat} {r:Int} (h0:0≤r) (h1:r≤100000):okR x (Q4O x.props.length p r):=by
 unfold okR QQj;rw[if_neg (by have:(chk x).2.2=0:=hT; omega),if_neg (by rw[Q3l]; simp)]
 rw[if_neg];intro h;rw[List.any_eq_true]at h;obtain⟨v,hv,hb⟩:=h;obtain⟨q,_,rfl⟩:=List.mem_map.1 hv;unfold QWi at hb;by_cases hq:q=p
 ·rw[if_pos hq]at hb;have:inR r 0 100000=true:=Qal.2 ⟨h0,h1⟩;rw[this]at hb; simp at hb
 ·rw[if_neg hq]at hb; simp at hb
def Q4t (x:Tbl) (a b p:Nat) (n r:Int):Bool:=decide (n*(QQe x a p).lo+(20 - n)*(QQe x b p).lo - 20*QQ5 x p≤20*r)&&decide (20*r≤n*(QQe x a p).hi+(20 - n)*(QQe x b p).hi+20*QQ5 x p)
theorem Q5R {x:Tbl} {a b p:Nat} (hp:p < x.props.length) {n r:Int} (hr:0≤r):QQ9 x (Q4O x.props.length p r) a b (50*n)=Q4t x a b p n r:=by
 rw[Bool.eq_iff_iff];unfold QQ9 Q4t;rw[Q3l,List.all_eq_true,Bool.and_eq_true,decide_eq_true_eq,decide_eq_true_eq];have key:QRs x a b (50*n) p r=true↔(n*(QQe x a p).lo+(20 - n)*(QQe x b p).lo - 20*QQ5 x p≤20*r∧20*r≤n*(QQe x a p).hi+(20 - n)*(QQe x b p).hi+20*QQ5 x p):=by
  rw[QU6];unfold QUc;dsimp only;have e1:50*n*(QQe x a p).lo+(1000 - 50*n)*(QQe x b p).lo=50*(n*(QQe x a p).lo+(20 - n)*(QQe x b p).lo):=by
   rw[show 1000 - 50*n=50*(20 - n) by omega,Int.mul_assoc,Int.mul_assoc,←Int.mul_add]
  have e2:50*n*(QQe x a p).hi+(1000 - 50*n)*(QQe x b p).hi=50*(n*(QQe x a p).hi+(20 - n)*(QQe x b p).hi):=by
   rw[show 1000 - 50*n=50*(20 - n) by omega,Int.mul_assoc,Int.mul_assoc,←Int.mul_add]
  rw[e1,e2];generalize n*(QQe x a p).lo+(20 - n)*(QQe x b p).lo=A;generalize n*(QQe x a p).hi+(20 - n)*(QQe x b p).hi=B;omega
 constructor
 ·intro h;have:=h p (List.mem_range.2 hp);rw[Q4A hp,if_pos rfl]at this;exact key.1 this
 ·intro h q hq;rw[List.mem_range]at hq;rw[Q4A hq];by_cases e:q=p
  ·rw[if_pos e,e]; exact key.2 h
  ·rw[if_neg e]; exact QU6.2 (.inl rfl)
theorem Q4v {x:Tbl} (hT:okT x) {a b p:Nat} (ha:a < x.kinds.length) (hb:b < x.kinds.length) (hab:a≠b) (hp:p < x.props.length) {n r:Int} (n0:0≤n) (n1:n≤20) (r0:0≤r) (r1:r≤100000):
  (Q4N x (Q4O x.props.length p r) a b=(⟨0,0⟩,9)∧Q4t x a b p n r=false)∨∃s:Spn,Q4N x (Q4O x.props.length p r) a b=(s,0)∧(decide (s.lo≤50*n)&&decide (50*n≤s.hi))=Q4t x a b p n r:=by
 rw[←Q5R hp r0];rcases Q4J (Q7q hT r0 r1) ha hb hab with⟨h1,h2⟩ | ⟨s,h1,_,h3⟩
 ·exact .inl ⟨h1,by simpa using h2 (50*n) (by omega) (by omega)⟩
 ·refine .inr ⟨s,h1,?_⟩;rw[Bool.eq_iff_iff,Bool.and_eq_true,decide_eq_true_eq,decide_eq_true_eq,h3];exact⟨fun h=>h.2,fun h=>⟨⟨by omega,by omega⟩,h⟩⟩
end Go.Proofs.YticoemblgkemiaaGreatDoor
namespace Go.Proofs.YticoemblgkemiaaGreatDoor
open Go.RowKit
def Q9C:TyI:=⟨.struct #[{ name:= "A",type:=5,offset:=0,embedded:=false,tag:= "",pkgPath:= "",byteOffset:=0},{ name:= "B",type:=5,offset:=1,embedded:=false,tag:= "",pkgPath:= "",byteOffset:=1},{ name:= "Prop",type:=5,offset:=2,embedded:=false,tag:= "",pkgPath:= "",byteOffset:=2},{ name:= "Parts",type:=5,offset:=3,embedded:=false,tag:= "",pkgPath:= "",byteOffset:=3},{ name:= "Reading",type:=72,offset:=4,embedded:=false,tag:= "",pkgPath:= "",byteOffset:=4}],5,8,.agg #[.int .u8 0,.int .u8 0,.int .u8 0,.int .u8 0,.int .u32 0]⟩
theorem Q8Z:TyOk Tryz.prog 74 Q9C:=QaC Tryz.underlying74 (by kernel_rfl) rfl rfl rfl ⟨_,rfl⟩
def Q2Z:Tys:=fun T=>match T with
 | 74=>some Q9C
 | 80=>some Q8y
 | 82=>some Q8z
 | 83=>some Q8w
 | T=>QQp T
theorem Q73:∀T i,Q2Z T=some i→TyOk Tryz.prog T i:=by
 intro T i h;unfold Q2Z at h;split at h
 ·cases h; exact Q8Z
 ·cases h; exact Q6K
 ·cases h; exact Q6T
 ·cases h; exact Q61
 ·exact QSC _ _ h
theorem Q7A:Q2Z 74=some Q9C:=rfl
theorem Q7i:Q2Z 80=some Q8y:=rfl
theorem Q7Z:Q2Z 82=some Q8z:=rfl
theorem Q7u:Q2Z 83=some Q8w:=rfl
theorem Q9z:Q2Z 2=some ty2:=rfl
theorem Q8D:Q2Z 3=some ty3:=rfl
theorem Q9h:Q2Z 4=some ty4:=rfl
theorem Q9m:Q2Z 5=some ty5:=rfl
theorem Q8E:Q2Z 9=some ty9:=rfl
theorem Q7k:Q2Z 21=some QNF:=rfl
theorem Q70:Q2Z 24=some QMV:=rfl
theorem Q7L:Q2Z 25=some QNv:=rfl
theorem Q8c:Q2Z 29=some QNr:=rfl
theorem Q7K:Q2Z 34=some QNI:=rfl
theorem Q7B:Q2Z 35=some QNJ:=rfl
theorem Q8a:Q2Z 39=some QM9:=rfl
theorem Q8l:Q2Z 47=some QNE:=rfl
theorem Q7Y:Q2Z 56=some Q16:=rfl
theorem Q7s:Q2Z 57=some Q19:=rfl
theorem Q7x:Q2Z 59=some Q2g:=rfl
theorem Q8k:Q2Z 60=some Q17:=rfl
theorem Q7H:Q2Z 61=some Q2i:=rfl
theorem Q8g:Q2Z 63=some Q2e:=rfl
theorem Q7d:Q2Z 67=some Q2b:=rfl
theorem Q7I:Q2Z 69=some Q2a:=rfl
theorem Q7P:Q2Z 72=some QNj:=rfl
theorem Q7M:Q2Z 75=some QNH:=rfl
theorem Q69:Q2Z 77=some Q2j:=rfl
theorem Q7l:Q2Z 86=some Q2k:=rfl
theorem Q4T:Q2Z 148=some QAD:=rfl
theorem Q5v:Q2Z 163=some QXQ:=rfl
theorem Q4X:Q2Z 255=some QYy:=rfl
theorem Q5y:Q2Z 259=some QYb:=rfl
theorem Q41:Q2Z 260=some QZc:=rfl
theorem Q5q:Q2Z 284=some QXU:=rfl
theorem Q57:Q2Z 286=some QYk:=rfl
theorem Q5A:Q2Z 302=some QYP:=rfl
theorem Q6r:Q2Z 304=some QYI:=rfl
theorem Q50:Q2Z 306=some QYD:=rfl
theorem Q5M:Q2Z 316=some QYC:=rfl
attribute [simp] Q9C Q7i Q7A Q7Z Q7u Q9z Q8D Q9h Q9m Q8E Q7k Q70 Q7L Q8c Q7K Q7B Q8a Q8l Q7Y Q7s Q7x Q8k Q7H Q8g Q7d Q7I Q7P Q7M Q69 Q7l Q4T Q5v Q4X Q5y Q41 Q5q Q57 Q5A Q6r Q50 Q5M
def mkCc (l:List (Nat×(List D→Option D))) (N:Nat) (kp:Nat→List (Nat×Option Nat)) (df:Nat→List (Nat×Nat)):Cx:= { Γ:=Q2Z,eqs:=QTu,Δ:=Qaw l,N:=N,F:=QbK,kp:=kp,kb:=[],diff:=df}
attribute [simp] mkCc
theorem Q3n {l:List (Nat×(List D→Option D))} (h:QaE Tryz.prog (Qaw l)) (N:Nat) (kp:Nat→List (Nat×Option Nat)) (df:Nat→List (Nat×Nat)):CxOk Tryz.prog (mkCc l N kp df):=
 ⟨Q73,QT9,h,(fun _ _ _ _ _ _ _ h=>by cases h),by kernel_rfl,(fun _ _ h=>by cases h),Qi9,QmV⟩
def kj5 (r:Nat):List (Nat×Option Nat):=match r with
 | 0=>kpn [2,3]
 | 1=>kpn [2,3,7]
 | 2=>kpn [2,3,38]
 | 3=>[(4,none)]
 | 4=>kpn [2,3,8]
 | 5=>kpn [2,3,8,9,10,11]
 | 6=>kpn [2,3,8,9,10,11,12,13]
 | 7=>kpn [2,3,8,9,10,11,12,13,101]
 | 8=>[(4,none)]
 | 9=>kpn [2,3,7,8,9,10,11,14]
 | 10=>kpn [2,3,7,8,9,10,11,14,17]
 | 11=>kpn [2,3,7,8,9,10,11,14,17,18]
 | 12=>kpn [2,3,7,8,9,10,11,14,17,18,128]
 | 13=>kpn [2,3,7,8,9,10,11,14,17,18]
 | 14=>kpn [2,3,7,8,9,10,11,14,17,18]
 | 15=>kpn [2,7,8,9,10,11,14,17]
 | 16=>kpn [2,7,10,11,14,17,19,20]
 | 17=>kpn [2,10,11,14,17,19,20,158]
 | 18=>[(4,none)]
 | 19=>kpn [10,11,14,17,19,20,21]
 | 20=>kpn [11,19,20,22]
 | 21=>kpn [11,19,20,22,23]
 | 22=>kpn [22,24]
 | 23=>[(4,none)]
 | _=>[]
def df5 (r:Nat):List (Nat×Nat):=if r=6 then [(10,20),(14,20),(17,20)]else []
structure Ble where
 a:Int
 b:Int
 p:Int
 n:Int
 r:Int
def Q76:Row Ble:=⟨5,fun x=>[.v (.int .u8 x.a),.v (.int .u8 x.b),.v (.int .u8 x.p),.v (.int .u8 x.n),.v (.int .u32 x.r)],fun d=>match d with | [.v (.int .u8 a),.v (.int .u8 b),.v (.int .u8 c),.v (.int .u8 e),.v (.int .u32 f)]=>some ⟨a,b,c,e,f⟩ | _=>none,fun _=>rfl,fun d x h=>by
 split at h
 ·cases h; exact LImp.refl _
 ·cases h⟩
theorem Q28 (x:Ble):Q76.enc x=[.v (.int .u8 x.a),.v (.int .u8 x.b),.v (.int .u8 x.p),.v (.int .u8 x.n),.v (.int .u32 x.r)]:=rfl
def Q4G (x:Ble):Prop:=(0≤x.a∧x.a≤255)∧(0≤x.b∧x.b≤255)∧(0≤x.p∧x.p≤255)∧(0≤x.n∧x.n≤255)∧0≤x.r∧x.r≤4294967295
instance (x:Ble):Decidable (Q4G x):=inferInstanceAs (Decidable (_∧_))
theorem Q4U {a b c d n m:Int} (h1:Q4h a b) (h2:Q4h c d) (hn:0≤n) (hm:0≤m) (hs:n+m=20):PureC Tryz.prog 24 [lW a b c d,rW n m] (.tup [.agg [DI (n*a+m*c),DI (n*b+m*d)],.agg [DI 0,DI 0],DI 0,DI 0]):=by
 obtain⟨a0,ab,b2⟩:=h1;obtain⟨c0,cd,d2⟩:=h2;have key:∀u v:Int,0≤u→u≤2000→0≤v→v≤2000→wrI (wrI (wrI (0+wrI (n*u))+wrI (m*v))+0)=n*u+m*v:=by
  intro u v u0 u1 v0 v1;have p1:0≤n*u:=Int.mul_nonneg hn u0;have p2:n*u≤20*2000:=Int.mul_le_mul (by omega) u1 u0 (by omega)
  have p3:0≤m*v:=Int.mul_nonneg hm v0;have p4:m*v≤20*2000:=Int.mul_le_mul (by omega) v1 v0 (by omega)
  unfold wrI;rw[Qa (n*u) (by omega) (by omega),Qa (m*v) (by omega) (by omega),Qa (0+n*u) (by omega) (by omega),Qa (0+n*u+m*v) (by omega) (by omega),Qa _ (by omega) (by omega)]
  omega
 have z:wrI (wrI (0+wrI (n*0))+wrI (m*0))=0:=by
  unfold wrI;rw[Int.mul_zero,Int.mul_zero]; rfl
 have k1:=v96 a b c d n m;rw[key a c a0 (by omega) c0 (by omega),key b d (by omega) b2 (by omega) d2,z]at k1
 have k2:=v98 a b c d n m;rw[z]at k2;exact v24 ⟨a0,ab,b2⟩ ⟨c0,cd,d2⟩ hn hm hs k1 k2
theorem Q7c (xs:Array Value) (w:World):(callFunc 24 xs).run Tryz.prog w= .ok (.enter 24 xs) w:=by kernel_rfl
def Q9U:List D→Option D:=sp0 QaW (some true)
theorem ok23E:∀ds d,Q9U ds=some d→PureC Tryz.prog 23 ds d:=Qxu fun r hr=>by
 cases hr; exact Q8t
noncomputable def Q26 (s24:List D→Option D):List (Nat×(List D→Option D)):=[(18,QWG),(24,s24),(25,QX3),(19,s20),(23,Q9U)]
theorem Q3I {s24:List D→Option D} (h:∀ds d,s24 ds=some d→PureC Tryz.prog 24 ds d):QaE Tryz.prog (Qaw (Q26 s24)):=Qh (Qh (Qh (Qh (Qh Qs Q7N ok23E) Q1N ok20) QZg Q06) Q7c h) QXR Q1c
def nonS:List D→Option D:=fun _=>none
theorem Q3x {P:Program} {f:Nat} :∀ds d,nonS ds=some d→PureC P f ds d:=fun ds d h=>by cases h
theorem Q6q (x:Tbl):QWG [.agg [.sl 2 (x.props.map QQt.enc),.sl 2 (x.kinds.map QQw.enc),DI x.purity]]=some (.tup [DI (chk x).1,DI (chk x).2.1,DI (chk x).2.2]):=by
 simp only[QWG,sp1,QaQ,QP8]; rfl
theorem Q4H {x:Tbl} (hn:QQh x) {l:List Int} {a b:Int} {s:Spn} {e:Int} (h:Q4N x l a b=(s,e)):QX3 [.agg [.sl 2 (x.props.map QQt.enc),.sl 2 (x.kinds.map QQw.enc),DI x.purity],.sl 1 (l.map QH.enc),DI a,DI b]=some (.tup [.agg [DI s.lo,DI s.hi],DI e]):=by
 simp only[QX3,sp4,QaQ,QP8,Qap,Qak];rw[if_pos hn,Q82,h]; rfl
noncomputable def sj5:List D→Option D:=sp2 (Qcf QRf) (Qcf Q76) QaW fun x y=>if QQh x∧Q4G y then some true else none
def rdG (k:Nat) (q:Nat):D:=if q < k then DI (-1)else DI 0
theorem Q5s:(fun _:Nat=>D.v (Value.int .i64 0))=rdG 0:=rfl
theorem Q49 (k:Nat):QZ (rdG k) k (DI (-1))=rdG (k+1):=by
 funext q;unfold QZ rdG;by_cases h:q=k
 ·subst h; simp
 ·rw[if_neg h];by_cases h2:q < k
  ·rw[if_pos h2,if_pos (by omega)]
  ·rw[if_neg h2,if_neg (by omega)]
theorem Q3G {M qp:Nat} {r:Int} :List.map ((fun d=>[d]) ∘ QZ (rdG M) qp (D.v (.int .i64 r))) (List.range M)=(Q4O M qp r).map QH.enc:=by
 unfold Q4O;rw[List.map_map];refine List.map_congr_left fun q hq=>?_;have hq:=List.mem_range.1 hq;simp only[Function.comp];by_cases h:q=qp
 ·subst h; rw[Qac,if_pos rfl]; rfl
 ·rw[QXi _ _ h,if_neg h];unfold rdG;rw[if_pos hq]; rfl
theorem Q3P (a b:Nat):(a:Int).tmod b=((a % b:Nat):Int):=by rw[Int.tmod_eq_emod_of_nonneg (by omega)]; rfl
set_option maxHeartbeats 8000000 in
theorem okj5:∀ds d,sj5 ds=some d→PureC Tryz.prog 5 ds d:=Qay fun x y r hr=>by
 split at hr
 ·rename_i hc;obtain⟨hnm,hB⟩:=hc;cases hr;obtain⟨ya,yb,yp,yn,yr⟩:=y;unfold Q4G at hB;dsimp only at hB;obtain⟨⟨a0,a1⟩,⟨b0,b1⟩,⟨p0,p1⟩,⟨n0,n1⟩,r0,r1⟩:=hB;obtain⟨A,rfl⟩:∃A:Nat,ya=A:=⟨ya.toNat,by omega⟩
  obtain⟨B,rfl⟩:∃B:Nat,yb=B:=⟨yb.toNat,by omega⟩
  obtain⟨P,rfl⟩:∃P:Nat,yp=P:=⟨yp.toNat,by omega⟩
  obtain⟨N,rfl⟩:∃N:Nat,yn=N:=⟨yn.toNat,by omega⟩
  obtain⟨R,rfl⟩:∃R:Nat,yr=R:=⟨yr.toNat,by omega⟩
  have e18:=Q6q x;have e19:s20 []=some (DB true):=rfl;have e23:Q9U []=some (DB true):=rfl;by_cases hv:(chk x).2.2=0
  ·rw[hv]at e18;have hT:okT x:=hv;have f:=QQv hT;have hk8:=f.k8;have hp1:=f.p1Wx;have hp5:=f.p5;by_cases hk2:x.kinds.length < 2
   ·refine Qf (Q3n (Q3I Q3x) 215 kj5 df5) Tryz.func5 rfl rfl (Nat.le_of_ble_eq_true rfl) (by kernel_rfl) ?_
    rw[Tryz.results5];have hk2I:(x.kinds.length:Int) < 2:=by omega
    simp[kj5,df5,Q26,QPZ,Q28,QP9,QP5,e18,e19,e23,hk2I,hk2]
   ·have hk2I:¬(x.kinds.length:Int) < 2:=by omega
    obtain⟨K,hK⟩:∃K:Nat,K=x.kinds.length:=⟨_,rfl⟩;obtain⟨M,hM⟩:∃M:Nat,M=x.props.length:=⟨_,rfl⟩;have tA:=Q3P A x.kinds.length;have tP:=Q3P P x.props.length;have tN:(N:Int).tmod 21=((N % 21:Nat):Int):=Q3P N 21;have tR:(R:Int).tmod 2001=((R % 2001:Nat):Int):=Q3P R 2001;have hqa:A % x.kinds.length < x.kinds.length:=Nat.mod_lt _ (by omega)
    have hqp:P % x.props.length < x.props.length:=Nat.mod_lt _ (by omega)
    have hqn:N % 21 < 21:=Nat.mod_lt _ (by omega)
    have hqr:R % 2001 < 2001:=Nat.mod_lt _ (by omega)
    generalize A % x.kinds.length=qa at*;generalize P % x.props.length=qp at*;generalize N % 21=qn at*;generalize R % 2001=qr at*;have tB:(B:Int).tmod ((x.kinds.length:Int) - 1)=((B % (x.kinds.length - 1):Nat):Int):=by
     rw[show(x.kinds.length:Int) - 1=((x.kinds.length - 1:Nat):Int) by omega]; exact Q3P _ _
    have hqB:B % (x.kinds.length - 1) < x.kinds.length - 1:=Nat.mod_lt _ (by omega)
    generalize B % (x.kinds.length - 1)=qB at*;have tS:((qa:Int)+1+qB).tmod (x.kinds.length:Int)=(((qa+1+qB) % x.kinds.length:Nat):Int):=by
     rw[show(qa:Int)+1+qB=((qa+1+qB:Nat):Int) by omega]; exact Q3P _ _
    have hqb:(qa+1+qB) % x.kinds.length < x.kinds.length:=Nat.mod_lt _ (by omega)
    have hne:qa≠(qa+1+qB) % x.kinds.length:=by
     intro h;rcases Nat.lt_or_ge (qa+1+qB) x.kinds.length with h1 | h1
     ·rw[Nat.mod_eq_of_lt h1]at h; omega
     ·rw[Nat.mod_eq_sub_mod h1,Nat.mod_eq_of_lt (by omega)]at h; omega
    generalize(qa+1+qB) % x.kinds.length=qb at*;have hKn:¬x.kinds=[]:=fun h=>by rw[h]at hk2; exact hk2 (by decide)
    have hPn:¬x.props=[]:=fun h=>by rw[h]at hp1; exact absurd hp1 (by decide)
    have hK0:¬(x.kinds.length:Int)=0:=by omega
    have hK1:¬(x.kinds.length:Int) - 1=0:=by omega
    have hM0:¬(x.props.length:Int)=0:=by omega
    have wA:=Qa (A:Int) (by omega) (by omega)
    have wB:=Qa (B:Int) (by omega) (by omega)
    have wP:=Qa (P:Int) (by omega) (by omega)
    have wN:=Qa (N:Int) (by omega) (by omega)
    have wR:=Qa (R:Int) (by omega) (by omega)
    have w1:=Qa ((qa:Int)+1) (by omega) (by omega)
    have w2:=Qa ((x.kinds.length:Int) - 1) (by omega) (by omega)
    have w3:=Qa ((qa:Int)+1+qB) (by omega) (by omega)
    have hqaI:(qa:Int) < x.kinds.length:=by omega
    have hqbI:(qb:Int) < x.kinds.length:=by omega
    have hqpI:(qp:Int) < x.props.length:=by omega
    obtain⟨hla,hra,ra0,ra1,ra2⟩:=f.rng hqa hqp;obtain⟨hlb,hrb,rb0,rb1,rb2⟩:=f.rng hqb hqp;have hlaI:(qp:Int) < x.kinds[qa].props.length:=by omega
    have hlbI:(qp:Int) < x.kinds[qb].props.length:=by omega
    by_cases hbig:2000 < (QQe x qa qp).hi∨2000 < (QQe x qb qp).hi
    ·refine Qf (Q3n (Q3I Q3x) 215 kj5 df5) Tryz.func5 rfl rfl (Nat.le_of_ble_eq_true rfl) (by kernel_rfl) ?_
     rw[Tryz.results5];by_cases h1:2000 < (QQe x qa qp).hi
     ·simp[kj5,df5,Q26,QPZ,Q28,QP9,QP5,QP2,QP3,QP0,QP6,e18,e19,e23,hk2I,hk2,tA,tP,tN,tB,tS,hqa,hqp,hqb,hK0,hK1,hM0,wA,wB,wP,wN,w1,w2,w3,hqaI,hqbI,hqpI,hla,hlb,hlaI,hlbI,hra,hrb,h1,hKn,hPn]
     ·have h2:2000 < (QQe x qb qp).hi:=hbig.resolve_left h1;simp[kj5,df5,Q26,QPZ,Q28,QP9,QP5,QP2,QP3,QP0,QP6,e18,e19,e23,hk2I,hk2,tA,tP,tN,tB,tS,hqa,hqp,hqb,hK0,hK1,hM0,wA,wB,wP,wN,w1,w2,w3,hqaI,hqbI,hqpI,hla,hlb,hlaI,hlbI,hra,hrb,h1,h2,hKn,hPn]
    ·have hb1:(QQe x qa qp).hi≤2000:=by omega
     have hb2:(QQe x qb qp).hi≤2000:=by omega
     have hb1n:¬2000 < (QQe x qa qp).hi:=by omega
     have hb2n:¬2000 < (QQe x qb qp).hi:=by omega
     have hlaw:=Q4v hT hqa hqb hne hqp (n:=qn) (r:=qr) (by omega) (by omega) (by omega) (by omega)
     have hV:=Q4U (n:=qn) (m:=20 - qn) (a:=(QQe x qa qp).lo) (b:=(QQe x qa qp).hi) (c:=(QQe x qb qp).lo) (d:=(QQe x qb qp).hi) ⟨ra0,ra1,hb1⟩ ⟨rb0,rb1,hb2⟩ (by omega) (by omega) (by omega)
     refine Qf (Q3n (Q3I (Q27 hV)) 215 kj5 df5) Tryz.func5 rfl rfl (Nat.le_of_ble_eq_true rfl) (by kernel_rfl) ?_
     rw[Tryz.results5];clear hV;unfold Q4t at hlaw;clear hbig;generalize QQe x qa qp=one at*;generalize QQe x qb qp=two at*;obtain⟨la,ha⟩:=one;obtain⟨lb,hb⟩:=two;dsimp only at ra0 ra1 ra2 rb0 rb1 rb2 hb1 hb2 hb1n hb2n hlaw;have e24:at1 [lW la ha lb hb,rW qn (20 - qn)] (.tup [.agg [DI (qn*la+(20 - qn)*lb),DI (qn*ha+(20 - qn)*hb)],.agg [DI 0,DI 0],DI 0,DI 0]) [.sl 7 [[.v (.string ⟨#[97]⟩),DI 0,DI la,DI ha,DI 0,DI 0,.sl 0 []],[.v (.string ⟨#[98]⟩),DI 0,DI lb,DI hb,DI 0,DI 0,.sl 0 []]],.sl 1 [[DI qn],[DI (20 - qn)]]]=some (.tup [.agg [DI (qn*la+(20 - qn)*lb),DI (qn*ha+(20 - qn)*hb)],.agg [DI 0,DI 0],DI 0,DI 0]):=Q3j _ _;generalize at1 [lW la ha lb hb,rW qn (20 - qn)] (.tup [.agg [DI (qn*la+(20 - qn)*lb),DI (qn*ha+(20 - qn)*hb)],.agg [DI 0,DI 0],DI 0,DI 0])=f24 at*;have hmb:(0≤(qn:Int)*la+(20 - qn)*lb∧(qn:Int)*la+(20 - qn)*lb≤80000)∧(0≤(qn:Int)*ha+(20 - qn)*hb∧(qn:Int)*ha+(20 - qn)*hb≤80000):=by
      have p1:=Int.mul_nonneg (show(0:Int)≤qn by omega) ra0
      have p2:=Int.mul_nonneg (show(0:Int)≤20 - qn by omega) rb0
      have p3:=Int.mul_nonneg (show(0:Int)≤qn by omega) (show 0≤ha by omega)
      have p4:=Int.mul_nonneg (show(0:Int)≤20 - qn by omega) (show 0≤hb by omega)
      have q1:(qn:Int)*la≤20*2000:=Int.mul_le_mul (by omega) (by omega) ra0 (by omega)
      have q2:(20 - (qn:Int))*lb≤20*2000:=Int.mul_le_mul (by omega) (by omega) rb0 (by omega)
      have q3:(qn:Int)*ha≤20*2000:=Int.mul_le_mul (by omega) (by omega) (by omega) (by omega)
      have q4:(20 - (qn:Int))*hb≤20*2000:=Int.mul_le_mul (by omega) (by omega) (by omega) (by omega)
      omega
     generalize(qn:Int)*la+(20 - qn)*lb=mlo at*;generalize(qn:Int)*ha+(20 - qn)*hb=mhi at*;have hM1:(x.props.length:Int)≤140737488355328:=by omega
     have hM2:8*(x.props.length:Int)≤140737488355328:=by omega
     have w20:=Qa ((20:Int) - qn) (by omega) (by omega)
     simp[kj5,df5,Q26,QPZ,Q28,QP9,QP5,QP2,QP3,QP0,QP6,e18,e19,e23,hk2I,hk2,tA,tP,tN,tB,tS,hqa,hqp,hqb,hK0,hK1,hM0,wA,wB,wP,wN,w1,w2,w3,hqaI,hqbI,hqpI,hla,hlb,hlaI,hlbI,hra,hrb,hb1n,hb2n,hKn,hPn,e24,w20,QO7,Qaj,QA,hM1,hM2];rw[Q5s]
     (generalize hLoopQ:Cx.loop _ _ _=rLoopQ; apply Qi hLoopQ (fun k=>⟨[(2,.loc 2 0),(3,.loc 3 0),(7,.d (DI 0)),(8,.d (DI qa)),(9,.d (DI qb)),(10,.d (DI qp)),(11,.d (DI qn)),(14,.loc 14 0),(17,.bs 124 0 x.props.length 1),(18,.d (DI k))],[(2,[.d (.sl 2 (x.props.map QQt.enc)),.d (.sl 2 (x.kinds.map QQw.enc)),.d (DI x.purity)]),(3,[.d (.v (.int .u8 A)),.d (.v (.int .u8 B)),.d (.v (.int .u8 P)),.d (.v (.int .u8 N)),.d (.v (.int .u32 R))]),(14,[.d (DI mlo),.d (DI mhi)]),(124,Qk x.props.length (rdG k))],[],[]⟩) x.props.length (by first | (simp; done) | (simp; rfl) | (simp; simp[*])); rotate_left; (show _ < 281474976710656; omega); rfl; rotate_left; all_goals clear hLoopQ)
     ·intro k hk;have hkI:(k:Int) < x.props.length:=by omega
      have hk1:k+1≤x.props.length:=by omega
      have wk:=Qa ((k:Int)+1) (by omega) (by omega)
      simp[kj5,df5,Q26,hk,hk1,hkI,wk,Qaj,QA,Qb,Qo,Q49]
     ·have hqp1:qp+1≤x.props.length:=by omega
      have hM3:x.props.length≤140737488355328:=by omega
      have wr:=Qa (qr:Int) (by omega) (by omega)
      have hee:=QS5 hqp;have heb:=f.errv hqp;have u1:=Qa (20*QQ5 x qp) (by omega) (by omega)
      have u2:=Qa (20*(qr:Int)) (by omega) (by omega)
      have u3:=Qa (mlo - 20*QQ5 x qp) (by omega) (by omega)
      have u4:=Qa (mhi+20*QQ5 x qp) (by omega) (by omega)
      have u5:=Qa (50*(qn:Int)) (by omega) (by omega)
      rcases hlaw with⟨hx,hf⟩ | ⟨s,hx,hf⟩
      ·have e25:=Q4H hnm hx;rw[←Q3G]at e25;generalize QX3=f25 at*;generalize QQ5 x qp=er at*;have hfF:¬(mlo - 20*er≤20*(qr:Int)∧20*(qr:Int)≤mhi+20*er):=by
        intro h;simp[h.1,h.2]at hf
       by_cases c1:mlo - 20*er≤20*(qr:Int)
       ·have c2:¬20*(qr:Int)≤mhi+20*er:=fun h=>hfF ⟨c1,h⟩;simp[kj5,df5,Q26,Qaj,QA,Qb,Qo,Qc,Qg,Qac,hqp,hqp1,hqpI,wR,tR,wr,QaG,Qv,hM3,e25,e19,e23,hee,u1,u2,u3,u4,u5,QP9,QP2,hPn,c1,c2]
       ·simp[kj5,df5,Q26,Qaj,QA,Qb,Qo,Qc,Qg,Qac,hqp,hqp1,hqpI,wR,tR,wr,QaG,Qv,hM3,e25,e19,e23,hee,u1,u2,u3,u4,u5,QP9,QP2,hPn,c1]
      ·have e25:=Q4H hnm hx;rw[←Q3G]at e25;obtain⟨slo,shi⟩:=s;dsimp only at e25 hf;generalize QX3=f25 at*;generalize QQ5 x qp=er at*;clear hx;by_cases c1:mlo - 20*er≤20*(qr:Int)
       ·by_cases c2:20*(qr:Int)≤mhi+20*er
        ·simp only[c1,c2,decide_true,Bool.and_true,Bool.and_eq_true,decide_eq_true_eq]at hf;obtain⟨d1,d2⟩:=hf;simp[kj5,df5,Q26,Qaj,QA,Qb,Qo,Qc,Qg,Qac,hqp,hqp1,hqpI,wR,tR,wr,QaG,Qv,hM3,e25,e19,e23,hee,u1,u2,u3,u4,u5,QP9,QP2,hPn,c1,c2,d1,d2]
        ·by_cases d1:slo≤50*(qn:Int)
         ·have d2:¬50*(qn:Int)≤shi:=fun h=>by simp[c1,c2,d1,h]at hf
          simp[kj5,df5,Q26,Qaj,QA,Qb,Qo,Qc,Qg,Qac,hqp,hqp1,hqpI,wR,tR,wr,QaG,Qv,hM3,e25,e19,e23,hee,u1,u2,u3,u4,u5,QP9,QP2,hPn,c1,c2,d1,d2]
         ·simp[kj5,df5,Q26,Qaj,QA,Qb,Qo,Qc,Qg,Qac,hqp,hqp1,hqpI,wR,tR,wr,QaG,Qv,hM3,e25,e19,e23,hee,u1,u2,u3,u4,u5,QP9,QP2,hPn,c1,c2,d1]
       ·by_cases d1:slo≤50*(qn:Int)
        ·have d2:¬50*(qn:Int)≤shi:=fun h=>by simp[c1,d1,h]at hf
         simp[kj5,df5,Q26,Qaj,QA,Qb,Qo,Qc,Qg,Qac,hqp,hqp1,hqpI,wR,tR,wr,QaG,Qv,hM3,e25,e19,e23,hee,u1,u2,u3,u4,u5,QP9,QP2,hPn,c1,d1,d2]
        ·simp[kj5,df5,Q26,Qaj,QA,Qb,Qo,Qc,Qg,Qac,hqp,hqp1,hqpI,wR,tR,wr,QaG,Qv,hM3,e25,e19,e23,hee,u1,u2,u3,u4,u5,QP9,QP2,hPn,c1,d1]
  ·have hvb:((chk x).2.2 != 0)=true:=bne_iff_ne.2 hv;refine Qf (Q3n (Q3I Q3x) 215 kj5 df5) Tryz.func5 rfl rfl (Nat.le_of_ble_eq_true rfl) (by kernel_rfl) ?_
   rw[Tryz.results5];simp[kj5,df5,Q26,QPZ,Q28,QP9,QP5,e18,e19,e23,hvb]
 ·cases hr
end Go.Proofs.YticoemblgkemiaaGreatDoor
