/-
  Blends: Stays at the example. Conditions: none.
-/
import Derived.Test.YticoemblgkemiaaGreatDoorZBlI
set_option linter.unusedSimpArgs false
set_option linter.unusedVariables false
namespace Go.Proofs.YticoemblgkemiaaGreatDoor
open Go.RowKit
def kq92 (r:Nat):List (Nat×Option Nat):=match r with
 | 0=>kpn [4,5,6,7,8]
 | 1=>kpn [4,5,6,7,8,9]
 | 2=>kpn [4,5,6,7,8,9,18]
 | 3=>kpn [8,9]
 | 4=>kpn [4,5,6,7,8,9]
 | 5=>kpn [4,5,6,7,8,9,24]
 | 6=>kpn [8,9]
 | 7=>kpn [4,5,6,7,8,9,29]
 | 8=>kpn [8,9]
 | 9=>kpn [4,5,6,7,8,9,37]
 | 10=>kpn [8,9]
 | 11=>kpn [4,5,6,7,8,9,10]
 | 12=>kpn [4,5,6,7,8,9,10]
 | 13=>kpn [6,7,8,9,10,48]
 | 14=>kpn [6,7,8,9,10,11]
 | 15=>kpn [6,7,8,9,10,12,13]
 | 16=>kpn [6,7,8,9,10,12,13,66]
 | 17=>kpn [6,7,8,9,10]
 | 18=>kpn [6,7,8,9,10,12,13,77]
 | 19=>kpn [6,7,8,9,10]
 | 20=>kpn [6,7,8,9,10,90]
 | 21=>[(8,none)]
 | 22=>kpn [8,98]
 | 23=>kpn [8,9]
 | 24=>kpn [8,9]
 | _=>[]
def Q9R:Code→Code
 | .scope c=>c
 | c=>c
noncomputable def i92:FnI:= { fn:=Tryz.f92,kp:=kq92}
noncomputable def c92:Cx:=i92.cx (Q9a.runs Q9O 14)
theorem Q21:CxOk Tryz.prog c92:=FnI.cx_ok (QwX Q2Y Q4z 14) _
noncomputable def cd92:Code:=i92.cd
noncomputable def g92:Code:=Q9R (QiP 0 cd92)
noncomputable def s92z:St:=⟨Qqm 0 [.sl 7 exL,.agg exW,rcp 4 15 1,DI 0],[],[],[]⟩
noncomputable def s92a:St:=Q3F (c92.code (Qeh 0 cd92) s92z)
theorem h92a:c92.code (Qeh 0 cd92) s92z=some (.normal,s92a):=by kernel_rfl
noncomputable def frz (b n:Nat) (ds:List D) (s:St):St:=QcH [b] ((b,.d (.dat n [ds] 0 0))::Qds [b] s.tmps) s
noncomputable def Q9Z:St:=frz 7 1 [DI 0] (frz 6 1 [rcp 4 15 1] (frz 5 5 exW (frz 4 1 [.sl 7 exL] s92a)))
noncomputable def s92c:St:=Q3F (c92.code (Qeh 3 g92) Q9Z)
theorem h92c:c92.code (Qeh 3 g92) Q9Z=some (.normal,s92c):=by kernel_rfl
def Q4n:D:= .fn 171 [] [.dat 1 [[.sl 7 exL]] 0 0,.dat 1 [[DI 0]] 0 0]
noncomputable def Q99:St:=frz 10 1 [Q4n] s92c
theorem h92x:Qt s92c.boxes 10=some [.d Q4n]:=by kernel_rfl
noncomputable def k92:Code:=QiP 3 g92
noncomputable def Q93:St:=Q3F (c92.code (Qeh 1 k92) Q99)
theorem h92e:c92.code (Qeh 1 k92) Q99=some (.normal,Q93):=by kernel_rfl
noncomputable def y92:Code:=Qeh 0 (QiP 1 k92)
noncomputable def z92:Code:=QiP 0 (QiP 1 k92)
noncomputable def Q98:St:=Q3F (c92.code (Qeh 0 y92) Q93)
theorem h92f:c92.code (Qeh 0 y92) Q93=some (.normal,Q98):=by kernel_rfl
def t92:List (Nat×X):=[(6,.d (.dat 1 [[rcp 4 15 1]] 0 0)),(7,.d (.dat 1 [[DI 0]] 0 0)),(8,.loc 8 0),(9,.d (DI 0)),(10,.d (.dat 1 [[Q4n]] 0 0)),(48,.d (.fn 226 [] [.dat 1 [[.sl 7 exL]] 0 0,.dat 5 [exW] 0 0]))]
theorem h92t:Qds [] Q98.tmps=t92:=by kernel_rfl
def v92 (lo:Int):St:=⟨t92,[(8,[.d (DI lo),.d (DI 100000)])],[],[]⟩
theorem h92s:restD [] t92 Q98=v92 0:=by kernel_rfl
noncomputable def l92:Code:=QiP 0 y92
noncomputable def Q3g (x:D) (lo:Int):St:=Q3F (c92.code (rfA l92) { v92 lo with tmps:=Q3q [49] [x]++t92})
noncomputable def Q3Y (x:D) (lo:Int):St:=Q3F (c92.code (rfB l92) (Q3g x lo))
theorem k0a:c92.code (rfA l92) { v92 0 with tmps:=Q3q [49] [Q3d]++t92} =some (.normal,Q3g Q3d 0):=by kernel_rfl
theorem k0b:c92.code (rfB l92) (Q3g Q3d 0)=some (.normal,Q3Y Q3d 0):=by kernel_rfl
theorem k0h:restD [] t92 (Q3Y Q3d 0)=v92 0:=by kernel_rfl
theorem k1a:c92.code (rfA l92) { v92 0 with tmps:=Q3q [49] [Q3e]++t92} =some (.normal,Q3g Q3e 0):=by kernel_rfl
theorem k1b:c92.code (rfB l92) (Q3g Q3e 0)=some (.normal,Q3Y Q3e 0):=by kernel_rfl
theorem k1h:restD [] t92 (Q3Y Q3e 0)=v92 200:=by kernel_rfl
theorem k2a:c92.code (rfA l92) { v92 200 with tmps:=Q3q [49] [Q3f]++t92} =some (.normal,Q3g Q3f 200):=by kernel_rfl
theorem k2b:c92.code (rfB l92) (Q3g Q3f 200)=some (.normal,Q3Y Q3f 200):=by kernel_rfl
theorem k2h:restD [] t92 (Q3Y Q3f 200)=v92 400:=by kernel_rfl
noncomputable def e92:St:=Q3F (c92.code z92 (v92 400))
theorem u92:c92.code z92 (v92 400)=some (.ret,e92):=by kernel_rfl
theorem u92r:Qgs c92.Γ e92 Tryz.f92.results.toList=some [.agg [DI 400,DI 100000],DI 0]:=by kernel_rfl
theorem Q9Y:QaO c92.diff c92.md c92.pq (rfB l92)=true:=by kernel_rfl
theorem dr92g:QaO c92.diff c92.md c92.pq (Qeh 3 g92)=true:=by kernel_rfl
theorem dr92z:QaO c92.diff c92.md c92.pq z92=true:=by kernel_rfl
end Go.Proofs.YticoemblgkemiaaGreatDoor
namespace Go.Proofs.YticoemblgkemiaaGreatDoor
open Go.RowKit
def st92 (j:Nat):St:=v92 (if j≤1 then 0 else if j=2 then 200 else 400)
theorem Q5x (j:Nat) (x:List D) (h:Q5J[j]?=some x):x.length=1∧∃σ1 σ2,SndN Tryz.prog c92 (if j=0 then []else []) (rfA l92) { st92 j with tmps:=Q3q [49] x++t92} σ1∧SndN Tryz.prog c92 (if j=0 then []else []) (rfB l92) σ1 σ2∧restD [] t92 σ2=st92 (j+1):=by
 match j,h with
 | 0,h=>
  cases h;exact⟨rfl,Q3g Q3d 0,_,SndN.of Q21 (by kernel_rfl) (by kernel_rfl) (by kernel_rfl) k0a,SndN.of Q21 Q9Y (by kernel_rfl) (by kernel_rfl) k0b,k0h⟩
 | 1,h=>
  cases h;exact⟨rfl,Q3g Q3e 0,_,SndN.of Q21 (by kernel_rfl) (by kernel_rfl) (by kernel_rfl) k1a,SndN.of Q21 Q9Y (by kernel_rfl) (by kernel_rfl) k1b,k1h⟩
 | 2,h=>
  cases h;exact⟨rfl,Q3g Q3f 200,_,SndN.of Q21 (by kernel_rfl) (by kernel_rfl) (by kernel_rfl) k2a,SndN.of Q21 Q9Y (by kernel_rfl) (by kernel_rfl) k2b,k2h⟩
 | j+3,h=>cases h
theorem Q42:PureC Tryz.prog 92 [.sl 7 exL,.agg exW,rcp 4 15 1,DI 0] (.tup [.agg [DI 400,DI 100000],DI 0]):=by
 refine Q3h Tryz.func92 rfl (N:=101) rfl (Nat.le_of_ble_eq_true rfl) fun m w a I ha0=>?_;refine wpIn_seq (Q22 Q21 (by kernel_rfl) (by kernel_rfl) I (fun _ _=>rfl) h92a fun g1 a1 w1 I1=>?_)
 obtain⟨g2,I2⟩:=Inv.freeze I1 I1.deferred (b:=4) (t:=4) (cs:=[.d (.sl 7 exL)]) (ds:=[.sl 7 exL]) (by kernel_rfl) (by kernel_rfl) (by kernel_rfl) rfl
 obtain⟨g3,I3⟩:=Inv.freeze I2 I2.deferred (b:=5) (t:=5) (cs:=exW.map X.d) (ds:=exW) (by kernel_rfl) (by kernel_rfl) (by kernel_rfl) rfl
 obtain⟨g4,I4⟩:=Inv.freeze I3 I3.deferred (b:=6) (t:=6) (cs:=[.d (rcp 4 15 1)]) (ds:=[rcp 4 15 1]) (by kernel_rfl) (by kernel_rfl) (by kernel_rfl) rfl
 obtain⟨g5,I5⟩:=Inv.freeze I4 I4.deferred (b:=7) (t:=7) (cs:=[.d (DI 0)]) (ds:=[DI 0]) (by kernel_rfl) (by kernel_rfl) (by kernel_rfl) rfl
 have J5:Inv c92.N m (Qed w []) g5 Q9Z a1 w1:=I5;clear I1 I2 I3 I4 I5;show(Code.scope g92).wpIn Fence.wide 0 Tryz.prog _ a1 w1;refine Qe7 ?_;refine Qdm Q21 3 g92 (by kernel_rfl) dr92g (by kernel_rfl) (fun _ _=>rfl) _ _ _ _ J5 ?_
 rw[h92c,QG];intro g6 a6 w6 I6;obtain⟨g7,I7⟩:=Inv.freeze I6 I6.deferred (b:=10) (t:=10) (cs:=[.d Q4n]) (ds:=[Q4n]) h92x (by kernel_rfl) (by kernel_rfl) rfl
 have J7:Inv c92.N m (Q3z w) g7 Q99 a6 w6:=I7.toY;clear I6 I7;show k92.wpIn Fence.wide 0 Tryz.prog _ a6 w6;refine Qdm Q21 1 k92 (by kernel_rfl) (by kernel_rfl) (by kernel_rfl) (fun _ _=>rfl) _ _ _ _ J7 ?_
 rw[h92e,QG];intro g8 a8 w8 I8;show(Code.seq y92 z92).wpIn Fence.wide 0 Tryz.prog _ a8 w8;refine wpIn_seq ?_;show(Code.seq (Qeh 0 y92) (.block 1 (.rangeFunc (.tmp 48) #[49] (rfA l92) (rfB l92)))).wpIn Fence.wide 0 Tryz.prog _ a8 w8;refine wpIn_seq (Q22 Q21 (by kernel_rfl) (by kernel_rfl) I8 (fun _ _=>rfl) h92f fun g9 a9 w9 I9=>?_)
 refine wpIn_block ?_;refine Q3a Q21 (gop:= .tmp 48) (ps:= #[49]) (ca:=rfA l92) (cb:=rfB l92) (gf:=226) (caps:=[.dat 1 [[.sl 7 exL]] 0 0,.dat 5 [exW] 0 0]) (l:=Q5J) (by kernel_rfl) Q4s Q4l (by kernel_rfl) [] [] (t0:=t92) h92t.symm st92 h92s rfl Q5x (fun _ h=>by cases h) (fun _ _=>rfl) (fun _ _=>rfl) ⟨trivial,rfl⟩ I9 fun g10 a10 w10 I10=>?_
 show z92.wpIn Fence.wide 0 Tryz.prog _ a10 w10;refine Q22 Q21 dr92z (by kernel_rfl) I10 (fun _ _=>rfl) u92 fun g11 a11 w11 I11=>?_
 exact⟨(fun l h=>by cases h),Q3u Q21 I11 u92r rfl⟩
theorem Q66 (xs:Array Value) (w:World):(callFunc 92 xs).run Tryz.prog w= .ok (.enter 92 xs) w:=by kernel_rfl
end Go.Proofs.YticoemblgkemiaaGreatDoor
