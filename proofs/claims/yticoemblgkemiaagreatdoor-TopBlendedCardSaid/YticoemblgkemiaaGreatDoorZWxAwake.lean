/-
  Helpers of the laws of the wax chapter. Conditions: none.
-/
import Derived.Test.YticoemblgkemiaaGreatDoorZWxRdL
import Derived.Test.YticoemblgkemiaaGreatDoorZWxLawP
set_option linter.unusedSimpArgs false
set_option linter.unusedVariables false
namespace Go.Proofs.YticoemblgkemiaaGreatDoor
open Go.RowKit
def QrP (r:Nat):List (Nat×Option Nat):=match r with
 | 0=>[(0,none)]
 | 1=>[(0,none)]
 | _=>[]
def QZD (r:Nat):List (Nat×Option Nat):=match r with
 | 0=>kpn [0,1,4]
 | 1=>[(4,none)]
 | _=>[]
def kp61 (r:Nat):List (Nat×Option Nat):=match r with
 | 0=>[]
 | 1=>[(0,none)]
 | _=>[]
def QYc:List D→Option D:=sp2 QaY QaY (Qcf QP7) fun a b=>some ⟨a,b⟩
theorem Q1A:∀ds d,QYc ds=some d→PureC Tryz.prog 78 ds d:=Qay fun a b r hr=>by
 cases hr;refine Qf (QP1 Qs 8 QZD []) Tryz.func78 rfl rfl (Nat.le_of_ble_eq_true rfl) (by kernel_rfl) ?_
 rw[Tryz.results78];simp[QZD,QP0]
theorem QYm (xs:Array Value) (w:World):(callFunc 78 xs).run Tryz.prog w= .ok (.enter 78 xs) w:=by kernel_rfl
def a1:List (Nat×(List D→Option D)):=[(78,QYc)]
theorem da1:QaE Tryz.prog (Qaw a1):=Qh Qs QYm Q1A
def QQT:Tbl:=⟨[⟨⟨#[109,101,108,116]⟩,5⟩,⟨⟨#[97,99,105,100]⟩,2⟩],[⟨⟨#[98,101,101,115]⟩,[⟨620,640⟩,⟨17,22⟩]⟩,⟨⟨#[112,97,114,97,102,102,105,110]⟩,[⟨540,580⟩,⟨0,0⟩]⟩,⟨⟨#[116,97,108,108,111,119]⟩,[⟨420,460⟩,⟨2,10⟩]⟩],950⟩
def s37:List D→Option D:=sp0 (Qcf QRf) (some QQT)
theorem ok37:∀ds d,s37 ds=some d→PureC Tryz.prog 71 ds d:=Qxu fun r hr=>by
 cases hr;refine Qf (QP1 da1 18 QrP []) Tryz.func71 rfl rfl (Nat.le_of_ble_eq_true rfl) (by kernel_rfl) ?_
 rw[Tryz.results71];simp[QrP,a1,QYc,QP0,QQT,QPZ,QP3,QP2]
theorem QJR (xs:Array Value) (w:World):(callFunc 71 xs).run Tryz.prog w= .ok (.enter 71 xs) w:=by kernel_rfl
def QQZ (l:List Int):Prop:=∀z∈l,0≤z∧z≤65535
instance (l:List Int):Decidable (QQZ l):=inferInstanceAs (Decidable (∀z∈l,_))
end Go.Proofs.YticoemblgkemiaaGreatDoor
namespace Go.Proofs.YticoemblgkemiaaGreatDoor
open Go.RowKit
def QUA:ByteArray:=⟨#[116,101,115,116,115,32,109,101,108,116,32,53,32,97,99,105,100,32,50,10,112,117,114,101,32,57,53,48,10,98,101,101,115,32,54,50,48,32,54,52,48,32,49,55,32,50,50,10,112,97,114,97,102,102,105,110,32,53,52,48,32,53,56,48,32,48,32,48,10,116,97,108,108,111,119,32,52,50,48,32,52,54,48,32,50,32,49,48,10]⟩
theorem Q1E:QQh QQT:=by decide
theorem chk0:chk QQT=(0,0,0):=by kernel_rfl
theorem Q15:okT QQT:=by unfold okT; rw[chk0]
theorem Q1C:Q2d QQT [615,16] 0 1=(⟨637,1000⟩,0):=by kernel_rfl
theorem Q2J:Q2d QQT [615,16] 1 2=(⟨0,0⟩,9):=by kernel_rfl
theorem Q2M:QYu QQT [615,16]=([1,3,5],0):=by kernel_rfl
theorem Q2x:Q0d QQT [643,16] 0=(⟨967,1000⟩,1,0):=by kernel_rfl
theorem Q0b:QVV QQT [600,9]=([0,1],[0,1],0):=by kernel_rfl
theorem aDet:Q2T QQT 0 1=(410,0):=by kernel_rfl
theorem Q0k:QQy QQT=QUA:=by kernel_rfl
theorem Q1n:QiQ QQT=(QUA,0):=by unfold QiQ; rw[if_pos Q15,Q0k]
theorem Q2P:QkC QUA=(QQT,0):=by
 have h:=QZ6 Q15;rw[Q0k]at h;unfold QkC;rw[if_neg (by decide),h]
 simp only;rw[if_pos ⟨Q15,by rw[Q0k]⟩]
def kp20 (r:Nat):List (Nat×Option Nat):=match r with
 | 0=>[]
 | 1=>kpn [1,2]
 | 2=>kpn [1,2,4]
 | 3=>kpn [1,2,4,5,6]
 | 4=>kpn [1,2,4,5,6,7,8,9]
 | 5=>kpn [1,2,4,5,6,7,8,9,10,11,12]
 | 6=>kpn [1,2,4,5,6,7,8,9,10,11,12,13,14]
 | 7=>kpn [1,2,4,5,6,7,8,9,10,11,12,13,14,15,16]
 | 8=>kpn [1,2,4,5,6,7,8,9,10,11,12,13,14,15,16,17,18]
 | 9=>[(0,none)]
 | _=>[]
def s61:List D→Option D:=sp0 Qoe (some QUA)
theorem ok61:∀ds d,s61 ds=some d→PureC Tryz.prog 80 ds d:=Qxu fun r hr=>by
 cases hr;refine Qf (QP1 Qs 1 kp61 []) Tryz.func80 rfl rfl (Nat.le_of_ble_eq_true rfl) (by kernel_rfl) ?_
 rw[Tryz.results80];simp[kp61,QUA,List.append_eq,List.cons_append,List.nil_append]
theorem Q0U (xs:Array Value) (w:World):(callFunc 80 xs).run Tryz.prog w= .ok (.enter 80 xs) w:=by kernel_rfl
theorem QQg (a b:Int):QP7.dec [.v (.int .i64 a),.v (.int .i64 b)]=some ⟨a,b⟩:=rfl
theorem QQc (a b:Int):QP7.dec [DI a,DI b]=some ⟨a,b⟩:=rfl
theorem QKv (a b:Int):(QJ QH).dec (.sl 1 [[.v (.int .i64 a)],[.v (.int .i64 b)]])=some [a,b]:=rfl
theorem QKm (a b c:Int):(QJ QH).dec (.sl 1 [[.v (.int .i64 a)],[.v (.int .i64 b)],[.v (.int .i64 c)]])=some [a,b,c]:=rfl
theorem QFx (a b:Int):(QJ QH).dec (.sl 1 [[DI a],[DI b]])=some [a,b]:=rfl
theorem QDX (a b c:Int):(QJ QH).dec (.sl 1 [[DI a],[DI b],[DI c]])=some [a,b,c]:=rfl
theorem lim0:Q2U QQT:=by decide
theorem Q2l:eqI QzU 0 [1,3,5] [1,3,5]=true:=by decide
theorem eq01:eqI QzU 0 [0,1] [0,1]=true:=by decide
theorem eqT:Q1b QQT QQT=true:=QZd.2 rfl
def a2:List (Nat×(List D→Option D)):=(71,s37)::(25,QX3)::(72,s25)::(73,s30)::(21,s28)::(74,s23)::(75,s32)::(76,s34)::(77,QSr)::(79,s27)::(81,s36)::(80,s61)::a1
theorem da2:QaE Tryz.prog (Qaw a2):=Qh (Qh (Qh (Qh (Qh (Qh (Qh (Qh (Qh (Qh (Qh (Qh da1 Q0U ok61) Q1O ok36) QJl ok27) QT1 QXp) QKB ok34) Q1K ok32) Q1U ok23) QZA ok28) Q14 ok30) QDD ok25) QZg Q06) QJR ok37
def s20:List D→Option D:=sp0 QaW (some true)
set_option maxRecDepth 100000 in
set_option maxHeartbeats 8000000 in
theorem ok20:∀ds d,s20 ds=some d→PureC Tryz.prog 19 ds d:=Qxu fun r hr=>by
 cases hr;refine Qf (QP1 da2 146 kp20 []) Tryz.func19 rfl rfl (Nat.le_of_ble_eq_true rfl) (by kernel_rfl) ?_
 rw[Tryz.results19];have hN:=Q1E;have hT:=Q15;have h1:=Q1C;have h2:=Q2J;have h3:=Q2M;have h4:=Q2x;have h5:=Q0b;have h6:=aDet;have h7:=Q1n;have h8:=Q2P;have hl:=lim0;have e1:=Q2l;have e2:=eq01;have e3:=eqT;have n1:Qbz ⟨#[98,101,101,115,45,119,97,120]⟩=true:=by decide
 have n2:Qbz ⟨#[98,101,101,115,45]⟩=false:=by decide
 have m1:QAO ⟨#[98,101,101,115,45,119,97,120]⟩:=by decide
 have m2:QAO ⟨#[98,101,101,115,45]⟩:=by decide
 simp[kp20,a2,a1,s37,QX3,s25,s30,s28,s23,s32,s34,QSr,s27,s36,s61,QYc,QPZ,QP8,QP0,QP4,QQg,QQc,QKv,QKm,QFx,QDX,Qd,hN,h1,h2,h3,h4,h5,h6,h7,h8,hl,e1,e2,e3,n1,n2,m1,m2]
theorem Q1N (xs:Array Value) (w:World):(callFunc 19 xs).run Tryz.prog w= .ok (.enter 19 xs) w:=by kernel_rfl
end Go.Proofs.YticoemblgkemiaaGreatDoor
namespace Go.Proofs.YticoemblgkemiaaGreatDoor
open Go.RowKit
def a3:List (Nat×(List D→Option D)):=(149,s16)::(18,QWG)::(77,QSr)::(102,s19)::(19,s20)::[]
def a4:List (Nat×(List D→Option D)):=(25,QX3)::(22,s22)::(74,s23)::(24,s24)::(19,s20)::[]
def a5:List (Nat×(List D→Option D)):=(72,s25)::(26,s26)::(79,s27)::(21,s28)::(29,s29)::(73,s30)::(31,s31)::(19,s20)::[]
def a6:List (Nat×(List D→Option D)):=(75,s32)::(33,Q2u)::(76,s34)::(35,s35)::(81,s36)::(19,s20)::[]
end Go.Proofs.YticoemblgkemiaaGreatDoor
