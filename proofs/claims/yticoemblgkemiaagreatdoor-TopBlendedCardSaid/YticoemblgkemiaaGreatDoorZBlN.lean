/-
  Blends: what the law's own examples return: Awake is true. Conditions: none.
-/
import Derived.Test.YticoemblgkemiaaGreatDoorZBlL
set_option linter.unusedSimpArgs false
set_option linter.unusedVariables false
namespace Go.Proofs.YticoemblgkemiaaGreatDoor
open Go.RowKit
def vEq:Value→Value→Bool
 | .int .i64 a,.int .i64 b=>decide (a=b)
 | .string a,.string b=>decide (a=b)
 | _,_=>false
theorem Q8O {a b:Value} (h:vEq a b=true):a=b:=by
 unfold vEq at h;split at h
 ·rw[of_decide_eq_true h]
 ·rw[of_decide_eq_true h]
 ·cases h
mutual
def dEq:D→D→Bool
 | .v a,.v b=>vEq a b
 | .agg a,.agg b=>lEq a b
 | .sl k r,.sl j q=>decide (k=j)&&rEq r q
 | _,_=>false
def lEq:List D→List D→Bool
 | [],[]=>true
 | a::x,b::y=>dEq a b&&lEq x y
 | _,_=>false
def rEq:List (List D)→List (List D)→Bool
 | [],[]=>true
 | a::x,b::y=>lEq a b&&rEq x y
 | _,_=>false
end
mutual
theorem Q8N:∀(a b:D),dEq a b=true→a=b:=by
 intro a b h
 match a,b,h with
 | .v x,.v y,h=>exact congrArg D.v (Q8O (by simpa only[dEq]using h))
 | .agg x,.agg y,h=>exact congrArg D.agg (Q3s x y (by simpa only[dEq]using h))
 | .sl k r,.sl j q,h=>
  simp only[dEq,Bool.and_eq_true,decide_eq_true_eq]at h;rw[h.1,Q6S r q h.2]
theorem Q3s:∀(a b:List D),lEq a b=true→a=b:=by
 intro a b h
 match a,b,h with
 | [],[],_=>rfl
 | x::s,y::t,h=>
  simp only[lEq,Bool.and_eq_true]at h;rw[Q8N x y h.1,Q3s s t h.2]
theorem Q6S:∀(a b:List (List D)),rEq a b=true→a=b:=by
 intro a b h
 match a,b,h with
 | [],[],_=>rfl
 | x::s,y::t,h=>
  simp only[rEq,Bool.and_eq_true]at h;rw[Q3s x y h.1,Q6S s t h.2]
end
def kq79 (r:Nat):List (Nat×Option Nat):=match r with
 | 0=>kpn [0,1]
 | 1=>kpn [0,1,10]
 | 2=>[(4,none)]
 | 3=>kpn [0,1,5]
 | 4=>kpn [0,1,5,14]
 | 5=>kpn [0,1,5]
 | 6=>kpn [0,1,5,25]
 | 7=>[(4,none)]
 | 8=>[(4,none)]
 | _=>[]
def kq23 (r:Nat):List (Nat×Option Nat):=match r with
 | 0=>[]
 | 1=>kpn [1,2]
 | 2=>kpn [1,2,3,4,5,6]
 | 3=>kpn [1,2,3,4,5,6,7,8,9]
 | 4=>kpn [1,2,3,4,5,6,7,8,9,10,11]
 | 5=>kpn [1,2,3,4,5,6,7,8,9,10,11,12,13,14]
 | 6=>kpn [1,2,3,4,5,6,7,8,9,10,11,12,13,14,15,16]
 | 7=>kpn [1,2,3,4,5,6,7,8,9,10,11,12,13,14,15,16,17,18]
 | 8=>kpn [1,2,3,4,5,6,7,8,9,10,11,12,13,14,15,16,17,18,20]
 | 9=>[(0,none)]
 | _=>[]
theorem okD79:FnI.Ok Tryz.prog 79 { fn:=Tryz.f79,kp:=kq79} :=⟨Tryz.func79,rfl,by kernel_rfl,by kernel_rfl,fun _ _=>by kernel_rfl,by decide⟩
theorem okD23:FnI.Ok Tryz.prog 23 { fn:=Tryz.f23,kp:=kq23} :=⟨Tryz.func23,rfl,by kernel_rfl,by kernel_rfl,fun _ _=>by kernel_rfl,by decide⟩
noncomputable def tabE:List (Nat×FnI):=(23,{ fn:=Tryz.f23,kp:=kq23})::(79,{ fn:=Tryz.f79,kp:=kq79})::Q9H
theorem Q8q:Qt9 Tryz.prog tabE:=QP okD23 (QP okD79 Q20)
def Q9D:List D→Option D:=fun ds=>if lEq ds [.sl 7 exL,.agg exW]=true then some (.tup [rcp 4 15 1,DI 8200,DI 0])else none
def Q9G:List D→Option D:=fun ds=>if lEq ds [.sl 7 exL,.agg exW,rcp 4 15 1,DI 0]=true then some (.tup [.agg [DI 400,DI 100000],DI 0])else none
theorem ok91E:∀ds d,Q9D ds=some d→PureC Tryz.prog 91 ds d:=by
 intro ds d h;unfold Q9D at h;split at h
 ·rename_i he;cases h;rw[Q3s _ _ he]; exact Q5V
 ·cases h
theorem ok92E:∀ds d,Q9G ds=some d→PureC Tryz.prog 92 ds d:=by
 intro ds d h;unfold Q9G at h;split at h
 ·rename_i he;cases h;rw[Q3s _ _ he]; exact Q42
 ·cases h
theorem djE:QaE Tryz.prog (Qaw [(92,Q9G),(91,Q9D),(77,s89)]):=Qh (Qh djB Q7W ok91E) Q66 ok92E
noncomputable def cxE:Cx:= { QGL [(92,Q9G),(91,Q9D),(77,s89)] [] 0 (fun _=>[]) [] (fun _=>[]) (fun _=>0) [] []with Γ:=Q1}
theorem Q9v:CxOk Tryz.prog cxE:=
 have h:=Qby djE Qb6 Qbn (sq:=[]) (fun _ _ _ h=>by cases h) 0 (fun _=>[]) [] (fun _=>[]) (fun _=>0)
 ⟨Q3y,h.eq,h.del,h.eff,h.mix,h.keys,h.pan,h.seq⟩
theorem Q8t:PureC Tryz.prog 23 [] (DB true):=QvV Q9v Q8q 14 (by kernel_rfl)
theorem Q7N (xs:Array Value) (w:World):(callFunc 23 xs).run Tryz.prog w= .ok (.enter 23 xs) w:=by kernel_rfl
end Go.Proofs.YticoemblgkemiaaGreatDoor
namespace Go.Proofs.YticoemblgkemiaaGreatDoor
open Go.RowKit
def s221:List D→Option D:=sp3 QaY Qp7 Qp7 QaW fun n lo hi=>some (!inR n lo hi)
theorem Q97:∀ds d,s221 ds=some d→PureC Tryz.prog 221 ds d:=QcN fun n lo hi r hr=>by
 cases hr;refine Qf (Qw Qs 13 QC5 []) Tryz.func221 rfl rfl (Nat.le_of_ble_eq_true rfl) (by kernel_rfl) ?_
 rw[Tryz.results221];unfold inR;by_cases h:n < lo
 ·have h':¬lo≤n:=by omega
  simp[QC5,QdG,h,h']
 ·have h':lo≤n:=by omega
  by_cases h2:hi < n
  ·have h2':¬n≤hi:=by omega
   simp[QC5,QdG,h,h',h2,h2']
  ·have h2':n≤hi:=by omega
   simp[QC5,QdG,h,h',h2,h2']
theorem Q67 (xs:Array Value) (w:World):(callFunc 221 xs).run Tryz.prog w= .ok (.enter 221 xs) w:=by kernel_rfl
def outD (lo hi:Int):D:= .fn 221 [] [.dat 1 [[DI lo]] 0 0,.dat 1 [[DI hi]] 0 0]
def Q9I:Cod (Int×Int):=⟨fun p=>outD p.1 p.2,fun d=>match d with | .fn 221 [] [.dat 1 [[.v (.int .i64 a)]] 0 0,.dat 1 [[.v (.int .i64 b)]] 0 0]=>some (a,b) | _=>none,fun d x h=>by
 split at h
 ·cases h; exact DImp.refl _
 ·cases h⟩
theorem Q3H (p:Int×Int):Q9I.enc p=outD p.1 p.2:=rfl
theorem Q4K (a b:Int):Q9I.dec (.fn 221 [] [.dat 1 [[DI a]] 0 0,.dat 1 [[DI b]] 0 0])=some (a,b):=rfl
def Q23 (lo hi:Int) (l:List Int):Bool:=l.all fun n=>inR n lo hi
def Q9o:List (Nat×(List D→Option D)):=[(221,s221)]
theorem Q8C:QaE Tryz.prog (Qaw Q9o):=Qh Qs Q67 Q97
def Q8e:List D→Option D:=sp2 (QJ QH) Q9I QaY fun l p=>if l.length≤1000∧Q23 p.1 p.2 l=true then some (-1)else none
theorem Q89:∀ds d,Q8e ds=some d→PureC Tryz.prog 193 ds d:=Qay fun l p r hr=>by
 obtain⟨lo,hi⟩:=p;split at hr
 ·rename_i hc;obtain⟨hlm,hall⟩:=hc;cases hr;unfold Q23 at hall;rw[List.all_eq_true]at hall;refine Qf (Qw Q8C 19 Qvf []) Tryz.func193 rfl rfl (Nat.le_of_ble_eq_true rfl) (by kernel_rfl) ?_
  rw[Tryz.results193];simp[Qvf,Q3H,outD]
  (generalize hLoopQ:Cx.loop _ _ _=rLoopQ; apply Qi hLoopQ (fun k=>⟨[(0,.d (.sl 1 (l.map QH.enc))),(1,.d (outD lo hi)),(7,.d (DI l.length)),(8,.d (DI k))],[],[],[]⟩) l.length (by first | (simp; done) | (simp; rfl) | (simp; simp[*])); rotate_left; (show _ < 281474976710656; omega); rfl; rotate_left; all_goals clear hLoopQ)
  ·intro j hj;have w1:=Qa ((j:Int)+1) (by omega) (by omega)
   have hjl:(j:Int) < l.length:=by omega
   have hn':inR l[j] lo hi=true:=hall _ (List.getElem_mem hj);simp[Qvf,Q9o,s221,QdI,outD,hj,hjl,hn',w1]
  ·simp[Qvf]
 ·cases hr
theorem Q6v (xs:Array Value) (w:World):(callFunc 193 xs).run Tryz.prog w= .ok (.enter 193 xs) w:=by kernel_rfl
def Q8S:List (Nat×(List D→Option D)):=[(193,Q8e)]
theorem Q8K:QaE Tryz.prog (Qaw Q8S):=Qh Qs Q6v Q89
def Q7e:List D→Option D:=sp2 (QJ QH) Q9I QaW fun l p=>if l.length≤1000∧Q23 p.1 p.2 l=true then some false else none
theorem Q8V:∀ds d,Q7e ds=some d→PureC Tryz.prog 179 ds d:=Qay fun l p r hr=>by
 obtain⟨lo,hi⟩:=p;split at hr
 ·rename_i hc;cases hr;refine Qf (Qw Q8K 9 kp87 []) Tryz.func179 rfl rfl (Nat.le_of_ble_eq_true rfl) (by kernel_rfl) ?_
  rw[Tryz.results179];simp[kp87,Q8S,Q8e,Q3H,outD,Q4K,Qn,Qap,hc.1,hc.2]
 ·cases hr
theorem Q5N (xs:Array Value) (w:World):(callFunc 179 xs).run Tryz.prog w= .ok (.enter 179 xs) w:=by kernel_rfl
def Q9l:List (Nat×(List D→Option D)):=[(179,Q7e)]
theorem Q8L:QaE Tryz.prog (Qaw Q9l):=Qh Qs Q5N Q8V
def Q9q (r:Nat):List (Nat×Option Nat):=match r with
 | 0=>kpn [2,3,4]
 | 1=>[(6,none)]
 | _=>[]
def Q3i:List D→Option D:=sp3 QaY QaY (QJ QH) QaW fun lo hi l=>if l.length≤1000∧Q23 lo hi l=true then some false else none
theorem Q60:∀ds d,Q3i ds=some d→PureC Tryz.prog 160 ds d:=QcN fun lo hi l r hr=>by
 split at hr
 ·rename_i hc;cases hr;refine Qf (Qw Q8L 10 Q9q []) Tryz.func160 rfl rfl (Nat.le_of_ble_eq_true rfl) (by kernel_rfl) ?_
  rw[Tryz.results160];simp[Q9q,Q9l,Q7e,outD,Q4K,Qn,Qap,hc.1,hc.2]
 ·cases hr
theorem Q3C (xs:Array Value) (w:World):(callFunc 160 xs).run Tryz.prog w= .ok (.enter 160 xs) w:=by kernel_rfl
end Go.Proofs.YticoemblgkemiaaGreatDoor
namespace Go.Proofs.YticoemblgkemiaaGreatDoor
open Go.RowKit
def wR (c:Nat) (lo hi:Int):List D:=[bsN [c],DI 0,DI lo,DI hi,DI 0,DI 0,.sl 0 []]
def pR (c:Nat) (lo hi n:Int):List D:=[bsN [c],DI 0,DI lo,DI hi,DI 0,DI 0,.sl 0 [],DI n]
abbrev wrI (n:Int):Int:=IntKind.i64.wrap n
theorem v224 (n m:Int):PureC Tryz.prog 224 [.sl 1 [[DI n],[DI m]],.v (.func (.func 225) #[] #[])] (DI (wrI (wrI (0+n)+m))):=QvV Q2Y Q20 14 (by kernel_rfl)
theorem v220:PureC Tryz.prog 220 [.agg [.sl 0 [],DI 0]] (DI 0):=QvV Q2Y Q20 14 (by kernel_rfl)
theorem Q9K (lo hi:Int):PureC Tryz.prog 218 [.sl 7 [],.fn 219 [] [.dat 7 [wR 97 lo hi] 0 0]] (DB false):=QvV Q2Y Q20 14 (by kernel_rfl)
theorem Q9Q (a b c d:Int):PureC Tryz.prog 218 [.sl 7 [wR 97 a b],.fn 219 [] [.dat 7 [wR 98 c d] 0 0]] (DB false):=QvV Q2Y Q20 14 (by kernel_rfl)
theorem v97 (a b c d n m:Int):PureC Tryz.prog 97 [.sl 7 [wR 97 a b,wR 98 c d],.sl 1 [[DI n],[DI m]]] (.sl 8 [pR 97 a b n,pR 98 c d m]):=QvV Q2Y Q20 14 (by kernel_rfl)
theorem v98 (a b c d n m:Int):PureC Tryz.prog 98 [.sl 8 [pR 97 a b n,pR 98 c d m],.v (.func (.func 99) #[] #[])] (DI (wrI (wrI (0+wrI (n*0))+wrI (m*0)))):=QvV Q2Y Q20 14 (by kernel_rfl)
theorem v96 (a b c d n m:Int):PureC Tryz.prog 96 [.sl 8 [pR 97 a b n,pR 98 c d m]] (.tup [.agg [DI (wrI (wrI (wrI (0+wrI (n*a))+wrI (m*c))+0)),DI (wrI (wrI (wrI (0+wrI (n*b))+wrI (m*d))+0))],.agg [DI (wrI (wrI (0+wrI (n*0))+wrI (m*0))),DI (wrI (wrI (0+wrI (n*0))+wrI (m*0)))]]):=QvV Q2Y Q20 14 (by kernel_rfl)
end Go.Proofs.YticoemblgkemiaaGreatDoor
namespace Go.Proofs.YticoemblgkemiaaGreatDoor
open Go.RowKit
theorem Q9u:Q1 2=some ty2:=rfl
theorem Q8I:Q1 3=some ty3:=rfl
theorem Q9k:Q1 4=some ty4:=rfl
theorem Q8P:Q1 5=some ty5:=rfl
theorem Q88:Q1 9=some ty9:=rfl
theorem Q7p:Q1 21=some QNF:=rfl
theorem Q8h:Q1 22=some QM1:=rfl
theorem Q75:Q1 24=some QMV:=rfl
theorem Q79:Q1 25=some QNv:=rfl
theorem Q77:Q1 26=some QMS:=rfl
theorem Q8j:Q1 28=some QM0:=rfl
theorem Q7O:Q1 29=some QNr:=rfl
theorem Q7J:Q1 34=some QNI:=rfl
theorem Q8u:Q1 35=some QNJ:=rfl
theorem Q7E:Q1 39=some QM9:=rfl
theorem Q7b:Q1 42=some QNd:=rfl
theorem Q7m:Q1 43=some QNb:=rfl
theorem Q7T:Q1 45=some QM2:=rfl
theorem Q8p:Q1 47=some QNE:=rfl
theorem Q7j:Q1 53=some QMZ:=rfl
theorem Q7G:Q1 72=some QNj:=rfl
theorem Q7F:Q1 75=some QNH:=rfl
theorem Q7X:Q1 91=some QM7:=rfl
theorem Q7S:Q1 93=some QM5:=rfl
theorem Q7o:Q1 95=some QNa:=rfl
theorem Q8d:Q1 98=some QNn:=rfl
theorem Q5u:Q1 100=some QAF:=rfl
theorem Q4Y:Q1 121=some QCB:=rfl
theorem Q4R:Q1 123=some QAd:=rfl
theorem Q5X:Q1 124=some Qfl:=rfl
theorem Q5h:Q1 126=some QaB:=rfl
theorem Q6s:Q1 128=some Q7:=rfl
theorem Q6m:Q1 134=some QBu:=rfl
theorem Q4Q:Q1 139=some Qz0:=rfl
theorem Q5K:Q1 140=some QB4:=rfl
theorem Q51:Q1 145=some Qz2:=rfl
theorem Q5n:Q1 147=some QCu:=rfl
theorem Q54:Q1 148=some QAD:=rfl
theorem Q4S:Q1 194=some QBw:=rfl
theorem Q5o:Q1 197=some QgL:=rfl
theorem Q5E:Q1 198=some Qb7:=rfl
theorem Q6p:Q1 205=some QA4:=rfl
theorem Q5j:Q1 208=some QCn:=rfl
theorem Q40:Q1 209=some QCq:=rfl
theorem Q5T:Q1 211=some QBW:=rfl
theorem Q6h:Q1 212=some QAo:=rfl
theorem Q5k:Q1 227=some QAv:=rfl
theorem Q5B:Q1 240=some QBM:=rfl
theorem Q6u:Q1 241=some QBz:=rfl
theorem Q5l:Q1 245=some QBE:=rfl
theorem Q5P:Q1 246=some QBI:=rfl
theorem Q5p:Q1 249=some QBn:=rfl
theorem Q4P:Q1 289=some QBq:=rfl
theorem Q45:Q1 291=some QCL:=rfl
theorem Q53:Q1 293=some QBm:=rfl
theorem Q5r:Q1 319=some QAQ:=rfl
theorem Q48:Q1 320=some QA8:=rfl
theorem Q7f:Q1 80=some Q8y:=rfl
theorem Q7C:Q1 81=some Q9J:=rfl
theorem Q72:Q1 82=some Q8z:=rfl
theorem Q7v:Q1 83=some Q8w:=rfl
theorem Q71:Q1 84=some Q9E:=rfl
theorem Q56:Q1 171=some Q46:=rfl
theorem Q59:Q1 172=some Q5a:=rfl
theorem Q5d:Q1 175=some Q44:=rfl
theorem Q5F:Q1 184=some Q5i:=rfl
theorem Q5O:Q1 187=some Q6l:=rfl
theorem Q5f:Q1 189=some Q4V:=rfl
theorem Q55:Q1 214=some Q47:=rfl
theorem Q5W:Q1 267=some Q6o:=rfl
theorem Q5H:Q1 269=some Q5D:=rfl
theorem Q5Y:Q1 271=some Q5m:=rfl
theorem Q6j:Q1 278=some Q5b:=rfl
theorem Q5L:Q1 279=some Q6f:=rfl
theorem Q6n:Q1 280=some Q5e:=rfl
theorem Q4W:Q1 282=some Q5g:=rfl
theorem Q6a:Q1 311=some Q43:=rfl
theorem Q6i:Q1 315=some Q5I:=rfl
theorem Q5S:Q1 338=some Q4Z:=rfl
attribute [simp] Q9u Q8I Q9k Q8P Q88 Q7p Q8h Q75 Q79 Q77 Q8j Q7O Q7J Q8u Q7E Q7b Q7m Q7T Q8p Q7j Q7G Q7F Q7X Q7S Q7o Q8d Q5u Q4Y Q4R Q5X Q5h Q6s Q6m Q4Q Q5K Q51 Q5n Q54 Q4S Q5o Q5E Q6p Q5j Q40 Q5T Q6h Q5k Q5B Q6u Q5l Q5P Q5p Q4P Q45 Q53 Q5r Q48 Q7f Q8y Q7C Q9J Q72 Q8z Q7v Q8w Q71 Q9E Q56 Q46 Q59 Q5a Q5d Q44 Q5F Q5i Q5O Q6l Q5f Q4V Q55 Q47 Q5W Q6o Q5H Q5D Q5Y Q5m Q6j Q5b Q5L Q6f Q6n Q5e Q4W Q5g Q6a Q43 Q6i Q5I Q5S Q4Z
def mkCb (l:List (Nat×(List D→Option D))) (N:Nat) (kp:Nat→List (Nat×Option Nat)) (df:Nat→List (Nat×Nat)):Cx:= { Γ:=Q1,eqs:=QA7,Δ:=Qaw l,N:=N,F:=QbK,kp:=kp,kb:=[],diff:=df}
attribute [simp] mkCb
theorem Q3o {l:List (Nat×(List D→Option D))} (h:QaE Tryz.prog (Qaw l)) (N:Nat) (kp:Nat→List (Nat×Option Nat)) (df:Nat→List (Nat×Nat)):CxOk Tryz.prog (mkCb l N kp df):=
 ⟨Q3y,Qo0,h,(fun _ _ _ _ _ _ _ h=>by cases h),by kernel_rfl,(fun _ _ h=>by cases h),Qi9,QmV⟩
open Classical in
noncomputable def at1 (a:List D) (r:D):List D→Option D:=fun ds=>if ds=a then some r else none
open Classical in
noncomputable def at2 (a:List D) (r:D) (b:List D) (q:D):List D→Option D:=fun ds=>if ds=a then some r else if ds=b then some q else none
theorem Q27 {P:Program} {f:Nat} {a:List D} {r:D} (h:PureC P f a r):∀ds d,at1 a r ds=some d→PureC P f ds d:=fun ds d hd=>by
 unfold at1 at hd;split at hd
 ·rename_i e; cases hd; subst e; exact h
 ·cases hd
theorem Q8R {P:Program} {f:Nat} {a b:List D} {r q:D} (h:PureC P f a r) (h2:PureC P f b q):∀ds d,at2 a r b q ds=some d→PureC P f ds d:=fun ds d hd=>by
 unfold at2 at hd;split at hd
 ·rename_i e; cases hd; subst e; exact h
 ·split at hd
  ·rename_i e; cases hd; subst e; exact h2
  ·cases hd
theorem Q5t (xs:Array Value) (w:World):(callFunc 218 xs).run Tryz.prog w= .ok (.enter 218 xs) w:=by kernel_rfl
theorem Q5C (xs:Array Value) (w:World):(callFunc 220 xs).run Tryz.prog w= .ok (.enter 220 xs) w:=by kernel_rfl
noncomputable def Q8W (a b c d:Int):List (Nat×(List D→Option D)):=[(160,Q3i),(77,s89),(218,at2 [.sl 7 [],.fn 219 [] [.dat 7 [wR 97 a b] 0 0]] (DB false) [.sl 7 [wR 97 a b],.fn 219 [] [.dat 7 [wR 98 c d] 0 0]] (DB false)),(220,at1 [.agg [.sl 0 [],DI 0]] (DI 0))]
theorem Q9e (a b c d:Int):QaE Tryz.prog (Qaw (Q8W a b c d)):=Qh (Qh (Qh (Qh Qs Q5C (Q27 v220)) Q5t (Q8R (Q9K a b) (Q9Q a b c d))) QDx ok89) Q3C Q60
def Q4h (a b:Int):Prop:=0≤a∧a≤b∧b≤2000
def Q4m (r:Nat):List (Nat×Option Nat):=match r with
 | 0=>[(0,none)]
 | 1=>kpn [0,10]
 | 2=>kpn [2,3,4]
 | 3=>kpn [0,11,12,13]
 | 4=>kpn [0,11,12,13,14]
 | 5=>kpn [0,5,6,11,12,13]
 | 6=>kpn [0,4,5,11,12,13]
 | 7=>kpn [0,5,6,11,12,13,22]
 | 8=>kpn [0,4,5,11,12,13]
 | 9=>kpn [0,5,6,11,12,13,27]
 | 10=>kpn [0,4,5,11,12,13]
 | 11=>kpn [0,5,6,11,12,13,33]
 | 12=>kpn [0,4,5,11,12,13]
 | 13=>kpn [0,5,6,11,12,13,58]
 | 14=>kpn [0,4,5,11,12,13]
 | 15=>kpn [0,4,5,11,12,13,76]
 | 16=>kpn [2,3,4]
 | 17=>kpn [0,11,12,13]
 | 18=>kpn [2,3,4]
 | _=>[]
theorem Q6J {lo hi n:Int} (h:Q23 lo hi [n]=true):Q3i [DI lo,DI hi,.sl 1 [[DI n]]]=some (DB false):=by
 have e:(D.sl 1 [[DI n]])= .sl 1 ([n].map QH.enc):=rfl;rw[e];simp only[Q3i,sp3,Qak,Qap];rw[if_pos ⟨by simp,h⟩]; rfl
theorem Q3D {lo hi n m:Int} (h:Q23 lo hi [n,m]=true):Q3i [DI lo,DI hi,.sl 1 [[DI n],[DI m]]]=some (DB false):=by
 have e:(D.sl 1 [[DI n],[DI m]])= .sl 1 ([n,m].map QH.enc):=rfl;rw[e];simp only[Q3i,sp3,Qak,Qap];rw[if_pos ⟨by simp,h⟩]; rfl
theorem Q9N (a:List D) (r:D) (b:List D) (q:D):at2 a r b q a=some r:=if_pos rfl
theorem Q91 {a:List D} (r:D) {b:List D} (q:D) (h:b≠a):at2 a r b q b=some q:=(if_neg h).trans (if_pos rfl)
theorem Q3j (a:List D) (r:D):at1 a r a=some r:=if_pos rfl
set_option maxHeartbeats 4000000 in
theorem v159 {a b c d:Int} (h1:Q4h a b) (h2:Q4h c d):PureC Tryz.prog 159 [.sl 7 [wR 97 a b,wR 98 c d]] (.tup [DI 0,DI 0,DI 0]):=by
 obtain⟨a0,ab,b2⟩:=h1;obtain⟨c0,cd,d2⟩:=h2;refine Qf (Q3o (Q9e a b c d) 80 Q4m (fun _=>[])) Tryz.func159 rfl rfl (Nat.le_of_ble_eq_true rfl) (by kernel_rfl) ?_
 rw[Tryz.results159];have o1:=Q6J (show Q23 1 5 [2]=true by decide)
 have o2:=Q6J (show Q23 0 100000 [0]=true by decide)
 have o3:=Q3D (show Q23 0 1000 [0,0]=true by decide)
 have oa:=Q3D (show Q23 0 2000 [a,b]=true by simp[Q23,inR]; omega)
 have oc:=Q3D (show Q23 0 2000 [c,d]=true by simp[Q23,inR]; omega)
 have n1:s89 [bsN [97]]=some (DB true):=by kernel_rfl
 have n2:s89 [bsN [98]]=some (DB true):=by kernel_rfl
 have p1:=Q9N [.sl 7 [],.fn 219 [] [.dat 7 [wR 97 a b] 0 0]] (DB false) [.sl 7 [wR 97 a b],.fn 219 [] [.dat 7 [wR 98 c d] 0 0]] (DB false);have p2:=Q91 (a:=[.sl 7 [],.fn 219 [] [.dat 7 [wR 97 a b] 0 0]]) (DB false) (b:=[.sl 7 [wR 97 a b],.fn 219 [] [.dat 7 [wR 98 c d] 0 0]]) (DB false) (fun h=>by cases h)
 have q1:=Q3j [.agg [.sl 0 [],DI 0]] (DI 0);unfold Q8W;generalize at2 [.sl 7 [],.fn 219 [] [.dat 7 [wR 97 a b] 0 0]] (DB false) [.sl 7 [wR 97 a b],.fn 219 [] [.dat 7 [wR 98 c d] 0 0]] (DB false)=f218 at*;generalize at1 [.agg [.sl 0 [],DI 0]] (DI 0)=f220 at*;generalize Q3i=f160 at*;generalize s89=f77 at*;have la:¬b < a:=by omega
 have w2:IntKind.i64.wrap 2=2:=by decide
 have lc:¬d < c:=by omega
 simp only[wR]at p1 p2⊢;simp[Q4m,o1]
 (generalize hLoopQ:Cx.loop _ _ _=rLoopQ; apply Qi hLoopQ (fun k=>⟨[(0,.d (.sl 7 [[bsN [97],DI 0,DI a,DI b,DI 0,DI 0,.sl 0 []],[bsN [98],DI 0,DI c,DI d,DI 0,DI 0,.sl 0 []]])),(11,.d (.sl 7 [[bsN [97],DI 0,DI a,DI b,DI 0,DI 0,.sl 0 []],[bsN [98],DI 0,DI c,DI d,DI 0,DI 0,.sl 0 []]])),(12,.d (DI 2)),(13,.d (DI k))],[],[],[]⟩) 2 (by first | (simp; done) | (simp; rfl) | (simp; simp[*])); rotate_left; (show _ < 281474976710656; omega); rfl; rotate_left; all_goals clear hLoopQ)
 ·intro j hj;rcases(by omega:j=0∨j=1)with rfl | rfl
  ·simp[Q4m,n1,p1,o2,oa,o3,la,q1]
  ·simp[Q4m,n2,p2,o2,oc,o3,lc,q1,w2]
 ·simp[Q4m]
theorem Q5Z (xs:Array Value) (w:World):(callFunc 159 xs).run Tryz.prog w= .ok (.enter 159 xs) w:=by kernel_rfl
theorem Q5c (xs:Array Value) (w:World):(callFunc 224 xs).run Tryz.prog w= .ok (.enter 224 xs) w:=by kernel_rfl
noncomputable def Q9p (n m:Int):List (Nat×(List D→Option D)):=[(160,Q3i),(224,at1 [.sl 1 [[DI n],[DI m]],.v (.func (.func 225) #[] #[])] (DI (wrI (wrI (0+n)+m))))]
theorem Q9b (n m:Int):QaE Tryz.prog (Qaw (Q9p n m)):=Qh (Qh Qs Q5c (Q27 (v224 n m))) Q3C Q60
def Q85 (r:Nat):List (Nat×Option Nat):=match r with
 | 0=>kpn [0,1]
 | 1=>kpn [1,5]
 | 2=>[(4,none)]
 | 3=>kpn [1,11]
 | 4=>[(4,none)]
 | 5=>[(14,none)]
 | 6=>[(4,none)]
 | 7=>[(4,none)]
 | _=>[]
theorem v167 {a b c d n m:Int} (hn:0≤n) (hm:0≤m) (hs:n+m=20):PureC Tryz.prog 167 [.sl 7 [wR 97 a b,wR 98 c d],.sl 1 [[DI n],[DI m]]] (DI 0):=by
 refine Qf (Q3o (Q9b n m) 18 Q85 (fun _=>[])) Tryz.func167 rfl rfl (Nat.le_of_ble_eq_true rfl) (by kernel_rfl) ?_
 rw[Tryz.results167];have o1:=Q3D (show Q23 0 20 [n,m]=true by simp[Q23,inR]; omega)
 have e1:wrI (wrI (0+n)+m)=20:=by
  unfold wrI;rw[Qa (0+n) (by omega) (by omega),Qa _ (by omega) (by omega)]; omega
 have q1:=Q3j [.sl 1 [[DI n],[DI m]],.v (.func (.func 225) #[] #[])] (DI (wrI (wrI (0+n)+m)));unfold Q9p;generalize at1 [.sl 1 [[DI n],[DI m]],.v (.func (.func 225) #[] #[])] (DI (wrI (wrI (0+n)+m)))=f224 at*;rw[e1]at q1;generalize Q3i=f160 at*;simp[Q85,o1,q1]
theorem Q5z (xs:Array Value) (w:World):(callFunc 167 xs).run Tryz.prog w= .ok (.enter 167 xs) w:=by kernel_rfl
def lW (a b c d:Int):D:= .sl 7 [wR 97 a b,wR 98 c d]
def rW (n m:Int):D:= .sl 1 [[DI n],[DI m]]
noncomputable def dj95 (a b c d n m:Int):List (Nat×(List D→Option D)):=[(159,at1 [lW a b c d] (.tup [DI 0,DI 0,DI 0])),(167,at1 [lW a b c d,rW n m] (DI 0))]
theorem Q9M {a b c d n m:Int} (h1:Q4h a b) (h2:Q4h c d) (hn:0≤n) (hm:0≤m) (hs:n+m=20):QaE Tryz.prog (Qaw (dj95 a b c d n m)):=Qh (Qh Qs Q5z (Q27 (v167 hn hm hs))) Q5Z (Q27 (v159 h1 h2))
def kv95 (r:Nat):List (Nat×Option Nat):=match r with
 | 0=>kpn [0,1]
 | 1=>kpn [0,1,7]
 | 2=>kpn [0,1,7,15]
 | 3=>[(4,none)]
 | 4=>[(4,none)]
 | _=>[]
theorem v95 {a b c d n m:Int} (h1:Q4h a b) (h2:Q4h c d) (hn:0≤n) (hm:0≤m) (hs:n+m=20):PureC Tryz.prog 95 [lW a b c d,rW n m] (DI 0):=by
 refine Qf (Q3o (Q9M h1 h2 hn hm hs) 20 kv95 (fun _=>[])) Tryz.func95 rfl rfl (Nat.le_of_ble_eq_true rfl) (by kernel_rfl) ?_
 rw[Tryz.results95];have q1:=Q3j [lW a b c d] (.tup [DI 0,DI 0,DI 0]);have q2:=Q3j [lW a b c d,rW n m] (DI 0);unfold dj95;generalize at1 [lW a b c d] (.tup [DI 0,DI 0,DI 0])=f159 at*;generalize at1 [lW a b c d,rW n m] (DI 0)=f167 at*;generalize lW a b c d=L at*;generalize rW n m=R at*;simp[kv95,q1,q2]
theorem Q74 (xs:Array Value) (w:World):(callFunc 95 xs).run Tryz.prog w= .ok (.enter 95 xs) w:=by kernel_rfl
theorem Q7t (xs:Array Value) (w:World):(callFunc 96 xs).run Tryz.prog w= .ok (.enter 96 xs) w:=by kernel_rfl
theorem Q7w (xs:Array Value) (w:World):(callFunc 97 xs).run Tryz.prog w= .ok (.enter 97 xs) w:=by kernel_rfl
theorem Q7R (xs:Array Value) (w:World):(callFunc 98 xs).run Tryz.prog w= .ok (.enter 98 xs) w:=by kernel_rfl
def bW (a b c d n m:Int):D:= .sl 8 [pR 97 a b n,pR 98 c d m]
noncomputable def dj24 (a b c d n m:Int) (x y u v z:Int):List (Nat×(List D→Option D)):=[(95,at1 [lW a b c d,rW n m] (DI 0)),(97,at1 [lW a b c d,rW n m] (bW a b c d n m)),(96,at1 [bW a b c d n m] (.tup [.agg [DI x,DI y],.agg [DI u,DI v]])),(98,at1 [bW a b c d n m,.v (.func (.func 99) #[] #[])] (DI z))]
theorem Q9X {a b c d n m x y u v z:Int} (h1:Q4h a b) (h2:Q4h c d) (hn:0≤n) (hm:0≤m) (hs:n+m=20) (k1:PureC Tryz.prog 96 [bW a b c d n m] (.tup [.agg [DI x,DI y],.agg [DI u,DI v]])) (k2:PureC Tryz.prog 98 [bW a b c d n m,.v (.func (.func 99) #[] #[])] (DI z)):QaE Tryz.prog (Qaw (dj24 a b c d n m x y u v z)):=Qh (Qh (Qh (Qh Qs Q7R (Q27 k2)) Q7t (Q27 k1)) Q7w (Q27 (v97 a b c d n m))) Q74 (Q27 (v95 h1 h2 hn hm hs))
def kv24 (r:Nat):List (Nat×Option Nat):=match r with
 | 0=>kpn [0,1,4,5]
 | 1=>kpn [0,1,4,5,7]
 | 2=>kpn [0,1,4,5,7,12]
 | 3=>kpn [4,5,6,7]
 | 4=>kpn [0,1,4,5]
 | 5=>kpn [4,5,6,7]
 | _=>[]
def df24 (r:Nat):List (Nat×Nat):=if r=3 then [(1,3)]else if r=5 then [(1,6)]else []
set_option maxHeartbeats 2000000 in
theorem v24 {a b c d n m x y u v z:Int} (h1:Q4h a b) (h2:Q4h c d) (hn:0≤n) (hm:0≤m) (hs:n+m=20) (k1:PureC Tryz.prog 96 [bW a b c d n m] (.tup [.agg [DI x,DI y],.agg [DI u,DI v]])) (k2:PureC Tryz.prog 98 [bW a b c d n m,.v (.func (.func 99) #[] #[])] (DI z)):PureC Tryz.prog 24 [lW a b c d,rW n m] (.tup [.agg [DI x,DI y],.agg [DI u,DI v],DI z,DI 0]):=by
 refine Qf (Q3o (Q9X h1 h2 hn hm hs k1 k2) 29 kv24 df24) Tryz.func24 rfl rfl (Nat.le_of_ble_eq_true rfl) (by kernel_rfl) ?_
 rw[Tryz.results24];have q1:=Q3j [lW a b c d,rW n m] (DI 0);have q2:=Q3j [lW a b c d,rW n m] (bW a b c d n m);have q3:=Q3j [bW a b c d n m] (.tup [.agg [DI x,DI y],.agg [DI u,DI v]]);have q4:=Q3j [bW a b c d n m,.v (.func (.func 99) #[] #[])] (DI z);unfold dj24;generalize at1 [lW a b c d,rW n m] (DI 0)=f95 at*;generalize at1 [lW a b c d,rW n m] (bW a b c d n m)=f97 at*;generalize at1 [bW a b c d n m] (.tup [.agg [DI x,DI y],.agg [DI u,DI v]])=f96 at*;generalize at1 [bW a b c d n m,.v (.func (.func 99) #[] #[])] (DI z)=f98 at*;clear k1 k2;generalize lW a b c d=L at*;generalize rW n m=R at*;generalize bW a b c d n m=B at*;simp[kv24,df24,q1,q2,q3,q4]
end Go.Proofs.YticoemblgkemiaaGreatDoor
