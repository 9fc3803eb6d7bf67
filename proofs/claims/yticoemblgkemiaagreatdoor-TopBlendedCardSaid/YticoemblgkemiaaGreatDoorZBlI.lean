/-
  Blends: Cheapest at the example. Conditions: none.
-/
import Derived.Test.YticoemblgkemiaaGreatDoorZBlG
set_option linter.unusedSimpArgs false
set_option linter.unusedVariables false
namespace Go.Proofs.YticoemblgkemiaaGreatDoor
open Go.RowKit
def Q9g (r:Nat):List (Nat×Option Nat):=match r with
 | 0=>[(0,none)]
 | 1=>kpn [0,4]
 | 2=>[(2,none)]
 | 3=>[(2,none)]
 | _=>[]
def Q8U (r:Nat):List (Nat×Option Nat):=match r with
 | 0=>kpn [2,3]
 | 1=>[(4,none)]
 | _=>[]
def Q8H (r:Nat):List (Nat×Option Nat):=match r with
 | 0=>kpn [0,1,2]
 | 1=>[(4,none)]
 | _=>[]
def kq91 (r:Nat):List (Nat×Option Nat):=match r with
 | 0=>kpn [2,3,4,5]
 | 1=>kpn [2,3,4,5,6]
 | 2=>kpn [2,3,4,5,6,13]
 | 3=>kpn [4,5,6]
 | 4=>kpn [2,4,5,6,17]
 | 5=>kpn [2,4,5,6,7]
 | 6=>kpn [2,4,5,6,7,8]
 | 7=>kpn [2,4,5,6,7,8,29]
 | 8=>kpn [2,4,5,6]
 | 9=>kpn [4,5,34]
 | 10=>kpn [4,5,6]
 | 11=>kpn [4,5,6]
 | _=>[]
theorem Q9f:FnI.Ok Tryz.prog 169 { fn:=Tryz.f169,kp:=Q8U} :=⟨Tryz.func169,rfl,by kernel_rfl,by kernel_rfl,fun _ _=>by kernel_rfl,by decide⟩
theorem Q9x:FnI.Ok Tryz.prog 171 { fn:=Tryz.f171,kp:=Q8H} :=⟨Tryz.func171,rfl,by kernel_rfl,by kernel_rfl,fun _ _=>by kernel_rfl,by decide⟩
noncomputable def Q9O:List (Nat×FnI):=(169,{ fn:=Tryz.f169,kp:=Q8U})::(171,{ fn:=Tryz.f171,kp:=Q8H})::Q9H
theorem Q4z:Qt9 Tryz.prog Q9O:=QP Q9f (QP Q9x Q20)
theorem Q7a (xs:Array Value) (w:World):(callFunc 170 xs).run Tryz.prog w= .ok (.enter 170 xs) w:=by kernel_rfl
theorem Q4s (xs:Array Value) (w:World):(callFunc 226 xs).run Tryz.prog w= .ok (.enter 226 xs) w:=by kernel_rfl
def Q3F (r:Option (AEx×St)):St:=match r with | some (_,σ)=>σ | none=>⟨[],[],[],[]⟩
noncomputable def Q4i:Cx:=FnI.cx { fn:=Tryz.f170,kp:=Q9g} Q9a
def oSt (r:Option St):St:=match r with | some σ=>σ | none=>⟨[],[],[],[]⟩
def Q4w:Code→Array Oper
 | .region _ ops _=>ops
 | _=> #[]
theorem Q3c {x:Operand} (ad:Addr) (n k:Nat) (w:World):(do eqGuard .eql 34 x (.const (.slice none 0 0)) (.slice (some ad) n k) (.slice none 0 0); binOp .eql 34 (.slice (some ad) n k) (.slice none 0 0)).run Tryz.prog w= .ok (.bool false) w:=by kernel_rfl
theorem Q3b {x:Operand} (n k:Nat) (w:World):(do eqGuard .eql 34 x (.const (.slice none 0 0)) (.slice none n k) (.slice none 0 0); binOp .eql 34 (.slice none n k) (.slice none 0 0)).run Tryz.prog w= .ok (.bool true) w:=by kernel_rfl
theorem Q3p:CxOk Tryz.prog Q4i:=FnI.cx_ok Q2Y _
noncomputable def Q34:Code:=FnI.cd { fn:=Tryz.f170,kp:=Q9g}
noncomputable def Q6t:Array Oper:=Q4w (Qeh 0 (Qeh 0 (QiP 0 Q34)))
noncomputable def Q52:St:=Q3F (Q4i.code (Qeh 0 Q34) ⟨Qqm 0 [rcp 4 15 1],[],[],[]⟩)
noncomputable def Q5G:St:=oSt (Q4i.opsE Q6t.toList 0 (Q6t.toList.take 1) Q52)
noncomputable def Q7h:St:= { Q5G with tmps:=(4,.d (.v (.bool false)))::Q5G.tmps}
noncomputable def Q4F:St:=oSt ((Q4i.opsE Q6t.toList 2 (Q6t.toList.drop 2) Q7h).map (Q4i.close 1))
noncomputable def Q94:St:=Q3F (Q4i.code (QiP 0 (QiP 0 Q34)) Q4F)
theorem Q9W:Q4i.code (Qeh 0 Q34) ⟨Qqm 0 [rcp 4 15 1],[],[],[]⟩=some (.normal,Q52):=by kernel_rfl
theorem h170b:Q4i.opsE Q6t.toList 0 (Q6t.toList.take 1) Q52=some Q5G:=by kernel_rfl
theorem h170d:(Q4i.opsE Q6t.toList 2 (Q6t.toList.drop 2) Q7h).map (Q4i.close 1)=some Q4F:=by kernel_rfl
theorem h170e:Q4i.code (QiP 0 (QiP 0 Q34)) Q4F=some (.ret,Q94):=by kernel_rfl
theorem n170:SndN Tryz.prog Q4i [] (Qeh 0 (QiP 0 Q34)) Q52 Q4F:=by
 refine SndN.seq (σ1:=Q4F) ?_ (SndN.condF (by kernel_rfl) SndN.skip)
 exact SndN.op (σ1:=Q5G) (σ2:=Q7h) (dl:=[]) (ops:=Q6t) Q3p 1 rfl rfl (by kernel_rfl) h170b (by kernel_rfl) (HandOp.eqNil Q3c Q3b (Nat.le_of_ble_eq_true rfl) (by kernel_rfl)) (by kernel_rfl) h170d (by kernel_rfl)
theorem Q90:QlR Tryz.prog 170 [rcp 4 15 1] (.bs 7 0 3 1) [(7,[DI 4,DI 15,DI 1])]:=by
 refine QlZ Tryz.func170 rfl rfl (Nat.le_of_ble_eq_true rfl) fun m w a I ha0=>?_;refine wpIn_seq (Q22 Q3p (by kernel_rfl) (by kernel_rfl) I (fun _ _=>rfl) Q9W fun g1 a1 w1 I1=>?_)
 refine wpIn_seq (n170 Fence.wide 0 (.inl rfl) _ _ (fun _ _=>rfl) _ _ _ I1 _ fun g2 a2 w2 I2=>?_);refine Q22 Q3p (by kernel_rfl) (by kernel_rfl) I2 (fun _ _=>rfl) h170e fun g3 a3 w3 I3=>?_
 refine Qoh Q3p I3 (r:= .tmp 2) rfl (by kernel_rfl) rfl (fun i ds hi=>?_) (fun i hi=>?_)
 ·simp only[Qt]at hi;split at hi
  ·rename_i e;simp only[Option.some.injEq]at hi;subst hi; subst e
   kernel_rfl
  ·cases hi
 ·simp only[X.locs,List.mem_singleton]at hi;subst hi;simp[Qt]
end Go.Proofs.YticoemblgkemiaaGreatDoor
namespace Go.Proofs.YticoemblgkemiaaGreatDoor
open Go.RowKit
def rfA:Code→Code
 | .block _ (.rangeFunc _ _ a _)=>a
 | _=> .skip
def rfB:Code→Code
 | .block _ (.rangeFunc _ _ _ b)=>b
 | _=> .skip
def Q9S:Code→Code
 | .block _ c=>c
 | c=>c
def Q87:Code→Code
 | .cond _ a _=>a
 | _=> .skip
noncomputable def c91:Cx:=FnI.cx { fn:=Tryz.f91,kp:=kq91,kb:=[(5000,7,0)],df:=fun r=>if r=11 then [(1,2)]else []} (Q9a.runs Q9O 14)
theorem Q2:CxOk Tryz.prog c91:=FnI.cx_ok (QwX Q2Y Q4z 14) _
noncomputable def Q8A:Code:=FnI.cd { fn:=Tryz.f91,kp:=kq91,kb:=[(5000,7,0)],df:=fun r=>if r=11 then [(1,2)]else []}
noncomputable def Q6b:Array Oper:=Q4w (Qeh 0 Q8A)
noncomputable def s91z:St:=⟨Qqm 0 [.sl 7 exL,.agg exW],[],[],[]⟩
noncomputable def Q9s:St:=oSt (c91.opsE Q6b.toList 0 (Q6b.toList.take 2) s91z)
noncomputable def Q9T:St:= { Q9s with tmps:=(4,.loc 4 0)::Q9s.tmps,boxes:=(4,[.d (.v (.slice none 0 0))])::Q9s.boxes}
noncomputable def Q9B:St:=oSt ((c91.opsE Q6b.toList 3 (Q6b.toList.drop 3) Q9T).map (c91.close 0))
theorem h91a:c91.opsE Q6b.toList 0 (Q6b.toList.take 2) s91z=some Q9s:=by kernel_rfl
theorem h91c:(c91.opsE Q6b.toList 3 (Q6b.toList.drop 3) Q9T).map (c91.close 0)=some Q9B:=by kernel_rfl
theorem n91a:SndN Tryz.prog c91 [2,3,4,5] (Qeh 0 Q8A) s91z Q9B:=
 SndN.op (σ1:=Q9s) (σ2:=Q9T) (dl:=[4]) (ops:=Q6b) Q2 2 rfl rfl (by kernel_rfl) h91a (by kernel_rfl) (HandOp.nilVar Q2 (i:=QNI) rfl rfl (Nat.le_of_ble_eq_true rfl)) (by kernel_rfl) h91c (by kernel_rfl)
noncomputable def s91d:St:=QcH [2] ((2,.d (.dat 1 [[.sl 7 exL]] 0 0))::Qds [2] Q9B.tmps) Q9B
noncomputable def s91e:St:=QcH [3] ((3,.d (.dat 5 [exW] 0 0))::Qds [3] s91d.tmps) s91d
noncomputable def Q96:St:=Q3F (c91.code (Qeh 0 (QiP 0 Q8A)) s91e)
theorem h91f:c91.code (Qeh 0 (QiP 0 Q8A)) s91e=some (.normal,Q96):=by kernel_rfl
noncomputable def y91:Code:=Qeh 0 (QiP 0 (QiP 0 Q8A))
noncomputable def Q95:St:=Q3F (c91.code (Qeh 0 y91) Q96)
theorem h91g:c91.code (Qeh 0 y91) Q96=some (.normal,Q95):=by kernel_rfl
def t91:List (Nat×X):=[(2,.d (.dat 1 [[.sl 7 exL]] 0 0)),(4,.loc 4 0),(5,.loc 5 0),(6,.d (DI 0)),(17,.d (.fn 226 [] [.dat 1 [[.sl 7 exL]] 0 0,.dat 5 [exW] 0 0]))]
theorem h91t:Qds [7] Q95.tmps=t91:=by kernel_rfl
def nilC:X:= .d (.v (.slice none 0 0))
def q91 (n:Nat) (r:X) (rest:List (Nat×List X)):St:=⟨t91,(4,[r])::(5,[.d (DI n)])::rest,[],[]⟩
theorem h91s:restD [7] t91 Q95=q91 0 nilC []:=by kernel_rfl
noncomputable def l91:Code:=QiP 0 y91
noncomputable def b91:Code:=Q9S (rfB l91)
noncomputable def Q3m:Array Oper:=Q4w (Qeh 0 (QiP 0 b91))
noncomputable def Q68:Array Oper:=Q4w (Q87 (QiP 0 (QiP 0 b91)))
noncomputable def Q29 (x:D) (s:St):St:=Q3F (c91.code (rfA l91) { s with tmps:=Q3q [18] [x]++t91})
noncomputable def Q3B (x:D) (s:St):St:=Q3F (c91.code (Qeh 0 b91) (Q29 x s))
noncomputable def Q3t (x:D) (s:St):St:=oSt (c91.opsE Q3m.toList 0 (Q3m.toList.take 1) (Q3B x s))
noncomputable def Q3w (x:D) (b:Bool) (s:St):St:= { Q3t x s with tmps:=(24,.d (.v (.bool b)))::(Q3t x s).tmps}
noncomputable def Q24 (x:D) (b:Bool) (s:St):St:=oSt ((c91.opsE Q3m.toList 2 (Q3m.toList.drop 2) (Q3w x b s)).map (c91.close 7))
def Q3d:D:=rcp 4 15 1
def Q3e:D:=rcp 5 14 1
def Q3f:D:=rcp 5 15 0
noncomputable def w0S:St:=q91 0 nilC []
theorem r0a:c91.code (rfA l91) { w0S with tmps:=Q3q [18] [Q3d]++t91} =some (.normal,Q29 Q3d w0S):=by kernel_rfl
theorem r0b:c91.code (Qeh 0 b91) (Q29 Q3d w0S)=some (.normal,Q3B Q3d w0S):=by kernel_rfl
theorem r0c:c91.opsE Q3m.toList 0 (Q3m.toList.take 1) (Q3B Q3d w0S)=some (Q3t Q3d w0S):=by kernel_rfl
theorem r0e:(c91.opsE Q3m.toList 2 (Q3m.toList.drop 2) (Q3w Q3d true w0S)).map (c91.close 7)=some (Q24 Q3d true w0S):=by kernel_rfl
noncomputable def Q6d:St:=oSt ((QvY c91 Q68.toList 1 [.tmp 30] (Q24 Q3d true w0S)).map Prod.fst)
theorem r0f:QvY c91 Q68.toList 1 [.tmp 30] (Q24 Q3d true w0S)=some (Q6d,[Q3d]):=by kernel_rfl
noncomputable def Q5w:St:=oSt ((c91.opsE Q68.toList 2 (Q68.toList.drop 2) (QMA Q6d 31 (.bs 7 0 3 1) [(7,[DI 4,DI 15,DI 1])])).map (c91.close 8))
theorem r0g:(c91.opsE Q68.toList 2 (Q68.toList.drop 2) (QMA Q6d 31 (.bs 7 0 3 1) [(7,[DI 4,DI 15,DI 1])])).map (c91.close 8)=some Q5w:=by kernel_rfl
theorem r0t:(Q24 Q3d true w0S).ev (.tmp 29)= .d (.v (.bool true)):=by kernel_rfl
def w1S:St:=q91 8200 (.bs 7 0 3 1) [(7,[.d (DI 4),.d (DI 15),.d (DI 1)])]
theorem r0h:restD [] t91 Q5w=w1S:=by kernel_rfl
theorem r1a:c91.code (rfA l91) { w1S with tmps:=Q3q [18] [Q3e]++t91} =some (.normal,Q29 Q3e w1S):=by kernel_rfl
theorem r1b:c91.code (Qeh 0 b91) (Q29 Q3e w1S)=some (.normal,Q3B Q3e w1S):=by kernel_rfl
theorem r1c:c91.opsE Q3m.toList 0 (Q3m.toList.take 1) (Q3B Q3e w1S)=some (Q3t Q3e w1S):=by kernel_rfl
theorem r1e:(c91.opsE Q3m.toList 2 (Q3m.toList.drop 2) (Q3w Q3e false w1S)).map (c91.close 7)=some (Q24 Q3e false w1S):=by kernel_rfl
theorem r1t:(Q24 Q3e false w1S).ev (.tmp 29)= .d (.v (.bool false)):=by kernel_rfl
theorem r1h:restD [] t91 (Q24 Q3e false w1S)=w1S:=by kernel_rfl
theorem r2a:c91.code (rfA l91) { w1S with tmps:=Q3q [18] [Q3f]++t91} =some (.normal,Q29 Q3f w1S):=by kernel_rfl
theorem r2b:c91.code (Qeh 0 b91) (Q29 Q3f w1S)=some (.normal,Q3B Q3f w1S):=by kernel_rfl
theorem r2c:c91.opsE Q3m.toList 0 (Q3m.toList.take 1) (Q3B Q3f w1S)=some (Q3t Q3f w1S):=by kernel_rfl
theorem r2e:(c91.opsE Q3m.toList 2 (Q3m.toList.drop 2) (Q3w Q3f false w1S)).map (c91.close 7)=some (Q24 Q3f false w1S):=by kernel_rfl
theorem r2t:(Q24 Q3f false w1S).ev (.tmp 29)= .d (.v (.bool false)):=by kernel_rfl
theorem r2h:restD [] t91 (Q24 Q3f false w1S)=w1S:=by kernel_rfl
noncomputable def z91:Code:=QiP 0 (QiP 0 (QiP 0 Q8A))
noncomputable def Q6c:Array Oper:=Q4w (Qeh 0 (Qeh 0 z91))
noncomputable def Q9A:St:=oSt (c91.opsE Q6c.toList 0 (Q6c.toList.take 1) w1S)
noncomputable def Q92:St:= { Q9A with tmps:=(34,.d (.v (.bool false)))::Q9A.tmps}
noncomputable def Q8x:St:=oSt ((c91.opsE Q6c.toList 2 (Q6c.toList.drop 2) Q92).map (c91.close 9))
noncomputable def e91d:St:=Q3F (c91.code (QiP 0 z91) Q8x)
theorem u91a:c91.opsE Q6c.toList 0 (Q6c.toList.take 1) w1S=some Q9A:=by kernel_rfl
theorem u91c:(c91.opsE Q6c.toList 2 (Q6c.toList.drop 2) Q92).map (c91.close 9)=some Q8x:=by kernel_rfl
theorem u91t:Q8x.ev (.tmp 34)= .d (.v (.bool false)):=by kernel_rfl
theorem u91d:c91.code (QiP 0 z91) Q8x=some (.ret,e91d):=by kernel_rfl
theorem u91r:Qgs c91.Γ e91d Tryz.f91.results.toList=some [rcp 4 15 1,DI 8200,DI 0]:=by kernel_rfl
end Go.Proofs.YticoemblgkemiaaGreatDoor
namespace Go.Proofs.YticoemblgkemiaaGreatDoor
open Go.RowKit
theorem Q9P {b:Bool} {σ:St} (hx:Q4I (σ.ev (.tmp 23))=some b) {ty:TypeId} {pos:String} {af:Array Edge} :HandOp Tryz.prog c91 [] ⟨some 24,.binOp .eql 34 (.tmp 23) (.const (.slice none 0 0)) 34,ty,pos,af,none⟩ σ { σ with tmps:=(24,.d (.v (.bool b)))::σ.tmps} :=HandOp.eqNil Q3c Q3b (Nat.le_of_ble_eq_true rfl) hx
theorem nr0:SndN Tryz.prog c91 [7] (rfB l91) (Q29 Q3d w0S) Q5w:=by
 refine SndN.block (id:=1) (x:=b91) (SndN.seq (x:=Qeh 0 b91) (y:=QiP 0 b91) (SndN.of Q2 (by kernel_rfl) (by kernel_rfl) (by kernel_rfl) r0b) (SndN.seq (x:=Qeh 0 (QiP 0 b91)) (y:=QiP 0 (QiP 0 b91)) (σ1:=Q24 Q3d true w0S) ?_ ?_))
 ·exact SndN.op (σ1:=Q3t Q3d w0S) (σ2:=Q3w Q3d true w0S) (dl:=[]) (ops:=Q3m) Q2 1 rfl rfl (by kernel_rfl) r0c (by kernel_rfl) (Q9P (by kernel_rfl)) (by kernel_rfl) r0e (by kernel_rfl)
 ·exact SndN.condT r0t (SndN.callF (σ1:=Q6d) (ops:=Q68) Q2 1 31 170 (.bs 7 0 3 1) [(7,[DI 4,DI 15,DI 1])] rfl rfl rfl rfl rfl (Nat.le_of_ble_eq_true rfl) rfl (by kernel_rfl) (by kernel_rfl) (by kernel_rfl) Q7a r0f Q90 (by kernel_rfl) r0g)
theorem nr1:SndN Tryz.prog c91 [] (rfB l91) (Q29 Q3e w1S) (Q24 Q3e false w1S):=by
 refine SndN.block (id:=1) (x:=b91) (SndN.seq (x:=Qeh 0 b91) (y:=QiP 0 b91) (SndN.of Q2 (by kernel_rfl) (by kernel_rfl) (by kernel_rfl) r1b) (SndN.seq (x:=Qeh 0 (QiP 0 b91)) (y:=QiP 0 (QiP 0 b91)) (σ1:=Q24 Q3e false w1S) ?_ (SndN.condF r1t SndN.skip)))
 exact SndN.op (σ1:=Q3t Q3e w1S) (σ2:=Q3w Q3e false w1S) (dl:=[]) (ops:=Q3m) Q2 1 rfl rfl (by kernel_rfl) r1c (by kernel_rfl) (Q9P (by kernel_rfl)) (by kernel_rfl) r1e (by kernel_rfl)
theorem nr2:SndN Tryz.prog c91 [] (rfB l91) (Q29 Q3f w1S) (Q24 Q3f false w1S):=by
 refine SndN.block (id:=1) (x:=b91) (SndN.seq (x:=Qeh 0 b91) (y:=QiP 0 b91) (SndN.of Q2 (by kernel_rfl) (by kernel_rfl) (by kernel_rfl) r2b) (SndN.seq (x:=Qeh 0 (QiP 0 b91)) (y:=QiP 0 (QiP 0 b91)) (σ1:=Q24 Q3f false w1S) ?_ (SndN.condF r2t SndN.skip)))
 exact SndN.op (σ1:=Q3t Q3f w1S) (σ2:=Q3w Q3f false w1S) (dl:=[]) (ops:=Q3m) Q2 1 rfl rfl (by kernel_rfl) r2c (by kernel_rfl) (Q9P (by kernel_rfl)) (by kernel_rfl) r2e (by kernel_rfl)
theorem n91z:SndN Tryz.prog c91 [] (Qeh 0 z91) w1S Q8x:=by
 refine SndN.seq (x:=Qeh 0 (Qeh 0 z91)) (y:=QiP 0 (Qeh 0 z91)) (σ1:=Q8x) ?_ (SndN.condF u91t SndN.skip);exact SndN.op (σ1:=Q9A) (σ2:=Q92) (dl:=[]) (ops:=Q6c) Q2 1 rfl rfl (by kernel_rfl) u91a (by kernel_rfl) (HandOp.eqNil Q3c Q3b (Nat.le_of_ble_eq_true rfl) (by kernel_rfl)) (by kernel_rfl) u91c (by kernel_rfl)
noncomputable def st91 (j:Nat):St:=if j=0 then w0S else w1S
theorem Q5U (j:Nat) (x:List D) (h:Q5J[j]?=some x):x.length=1∧∃σ1 σ2,SndN Tryz.prog c91 (if j=0 then [7]else []) (rfA l91) { st91 j with tmps:=Q3q [18] x++t91} σ1∧SndN Tryz.prog c91 (if j=0 then [7]else []) (rfB l91) σ1 σ2∧restD [] t91 σ2=st91 (j+1):=by
 match j,h with
 | 0,h=>
  cases h;exact⟨rfl,Q29 Q3d w0S,Q5w,SndN.of Q2 (by kernel_rfl) (by kernel_rfl) (by kernel_rfl) r0a,nr0,r0h⟩
 | 1,h=>
  cases h;exact⟨rfl,Q29 Q3e w1S,_,SndN.of Q2 (by kernel_rfl) (by kernel_rfl) (by kernel_rfl) r1a,nr1,r1h⟩
 | 2,h=>
  cases h;exact⟨rfl,Q29 Q3f w1S,_,SndN.of Q2 (by kernel_rfl) (by kernel_rfl) (by kernel_rfl) r2a,nr2,r2h⟩
 | j+3,h=>cases h
theorem Q5V:PureC Tryz.prog 91 [.sl 7 exL,.agg exW] (.tup [rcp 4 15 1,DI 8200,DI 0]):=by
 refine Q3h Tryz.func91 rfl (N:=37) rfl (Nat.le_of_ble_eq_true rfl) fun m w a I ha0=>?_;refine wpIn_seq (n91a Fence.wide 0 (.inl rfl) _ _ (fun _ _=>rfl) _ _ _ I _ fun g1 a1 w1 I1=>?_);obtain⟨g2,I2⟩:=Inv.freeze I1 I1.deferred (b:=2) (t:=2) (cs:=[.d (.sl 7 exL)]) (ds:=[.sl 7 exL]) (by kernel_rfl) (by kernel_rfl) (by kernel_rfl) rfl
 obtain⟨g3,I3⟩:=Inv.freeze I2 I2.deferred (b:=3) (t:=3) (cs:=exW.map X.d) (ds:=exW) (by kernel_rfl) (by kernel_rfl) (by kernel_rfl) rfl
 have I4:Inv c91.N m (Q3z w) g3 s91e a1 w1:=I3.toY;clear I1 I2 I3;refine wpIn_seq (Q22 Q2 (by kernel_rfl) (by kernel_rfl) I4 (fun _ _=>rfl) h91f fun g5 a5 w5 I5=>?_)
 refine wpIn_seq (wpIn_seq (Q22 Q2 (by kernel_rfl) (by kernel_rfl) I5 (fun _ _=>rfl) h91g fun g6 a6 w6 I6=>?_))
 refine wpIn_block ?_;refine Q3a Q2 (gop:= .tmp 17) (ps:= #[18]) (ca:=rfA l91) (cb:=rfB l91) (gf:=226) (caps:=[.dat 1 [[.sl 7 exL]] 0 0,.dat 5 [exW] 0 0]) (l:=Q5J) (by kernel_rfl) Q4s Q4l (by kernel_rfl) [7] [] (t0:=t91) h91t.symm st91 h91s rfl Q5U (fun _ h=>by cases h) (fun _ _=>rfl) (fun _ _=>rfl) ⟨trivial,rfl⟩ I6 fun g7 a7 w7 I7=>?_
 show(Code.seq (Qeh 0 z91) (QiP 0 z91)).wpIn Fence.wide 0 Tryz.prog _ a7 w7;refine wpIn_seq (n91z Fence.wide 0 (.inl rfl) _ _ (fun _ _=>rfl) _ _ _ I7 _ fun g8 a8 w8 I8=>?_);refine Q22 Q2 (by kernel_rfl) (by kernel_rfl) I8 (fun _ _=>rfl) u91d fun g9 a9 w9 I9=>?_
 exact Q3u Q2 I9 u91r rfl
theorem Q7W (xs:Array Value) (w:World):(callFunc 91 xs).run Tryz.prog w= .ok (.enter 91 xs) w:=by kernel_rfl
end Go.Proofs.YticoemblgkemiaaGreatDoor
