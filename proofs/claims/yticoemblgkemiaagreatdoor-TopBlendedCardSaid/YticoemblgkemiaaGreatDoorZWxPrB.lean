/-
  The program of the wax chapter: names, ranges, Check. Conditions: the names are strings.
-/
import Derived.Test.YticoemblgkemiaaGreatDoorZWxPrA
set_option linter.unusedSimpArgs false
set_option linter.unusedVariables false
namespace Go.Proofs.YticoemblgkemiaaGreatDoor
open Go.RowKit
def QZF (r:Nat):List (Nat×Option Nat):=match r with
 | 0=>[(1,none)]
 | 1=>[(2,none)]
 | _=>[]
def QZu (r:Nat):List (Nat×Option Nat):=match r with
 | 0=>[(1,none)]
 | 1=>[(2,none)]
 | _=>[]
def kp81 (r:Nat):List (Nat×Option Nat):=match r with
 | 0=>kpn [1,2,3]
 | 1=>[(4,none)]
 | _=>[]
def kp83 (r:Nat):List (Nat×Option Nat):=match r with
 | 0=>kpn [1,2,3]
 | 1=>[(4,none)]
 | _=>[]
def Qlc (r:Nat):List (Nat×Option Nat):=match r with
 | 0=>kpn [0,1]
 | 1=>kpn [0,1,7,8]
 | 2=>kpn [0,1,7,8,9]
 | 3=>kpn [0,1,5,7,8]
 | 4=>kpn [0,1,5,7,8,16]
 | 5=>[(4,none)]
 | 6=>kpn [0,1,7,8]
 | 7=>[(4,none)]
 | _=>[]
def kp80 (r:Nat):List (Nat×Option Nat):=match r with
 | 0=>kpn [0,1]
 | 1=>[(4,none)]
 | _=>[]
def QuP (r:Nat):List (Nat×Option Nat):=match r with
 | 0=>kpn [0,1]
 | 1=>kpn [0,1,7,8]
 | 2=>kpn [0,1,7,8,9]
 | 3=>kpn [0,1,5,7,8]
 | 4=>kpn [0,1,5,7,8,16]
 | 5=>[(4,none)]
 | 6=>kpn [0,1,7,8]
 | 7=>[(4,none)]
 | _=>[]
def kp82 (r:Nat):List (Nat×Option Nat):=match r with
 | 0=>kpn [0,1]
 | 1=>[(4,none)]
 | _=>[]
def QVJ (r:Nat):List (Nat×Option Nat):=match r with
 | 0=>kpn [0,3]
 | 1=>kpn [0,3,5]
 | 2=>kpn [0,3,5,6]
 | 3=>kpn [0,3,5,6,16]
 | 4=>[(4,none)]
 | 5=>[(20,none)]
 | 6=>[(4,none)]
 | 7=>[(4,none)]
 | _=>[]
def QVe (r:Nat):List (Nat×Option Nat):=match r with
 | 0=>kpn [0,3]
 | 1=>kpn [0,3,5]
 | 2=>kpn [0,3,5,6]
 | 3=>kpn [0,3,5,6,16]
 | 4=>[(4,none)]
 | 5=>[(20,none)]
 | 6=>[(4,none)]
 | 7=>[(4,none)]
 | _=>[]
def QZw (r:Nat):List (Nat×Option Nat):=match r with
 | 0=>[(1,none)]
 | 1=>[(2,none)]
 | _=>[]
def QZH (r:Nat):List (Nat×Option Nat):=match r with
 | 0=>[(1,none)]
 | 1=>[(2,none)]
 | _=>[]
def QiX (r:Nat):List (Nat×Option Nat):=match r with
 | 0=>kpn [0,1]
 | 1=>kpn [0,1,7,8]
 | 2=>kpn [0,1,7,8,9]
 | 3=>kpn [0,1,5,7,8]
 | 4=>kpn [0,1,5,7,8,16]
 | 5=>[(4,none)]
 | 6=>kpn [0,1,7,8]
 | 7=>[(4,none)]
 | _=>[]
def QVI (r:Nat):List (Nat×Option Nat):=match r with
 | 0=>kpn [0,1]
 | 1=>[(4,none)]
 | _=>[]
def QTc (r:Nat):List (Nat×Option Nat):=match r with
 | 0=>[(1,none)]
 | 1=>kpn [1,9]
 | 2=>kpn [2,3,4]
 | 3=>kpn [1,22]
 | 4=>kpn [2,3,4]
 | 5=>kpn [1,28,29,30]
 | 6=>kpn [1,28,29,30,31]
 | 7=>kpn [1,5,6,28,29,30]
 | 8=>kpn [1,4,5,6,28,29,30]
 | 9=>kpn [1,4,5,6,28,29,30,42]
 | 10=>kpn [2,3,4]
 | 11=>kpn [1,5,28,29,30,48]
 | 12=>kpn [2,3,4]
 | 13=>kpn [1,28,29,30]
 | 14=>kpn [1,52,53,54]
 | 15=>kpn [1,52,53,54,55]
 | 16=>kpn [1,7,8,52,53,54]
 | 17=>kpn [1,4,7,8,52,53,54]
 | 18=>kpn [1,4,7,8,52,53,54,65]
 | 19=>kpn [2,3,4]
 | 20=>kpn [1,7,8,52,53,54,70]
 | 21=>kpn [2,3,4]
 | 22=>kpn [1,7,8,52,53,54,79]
 | 23=>kpn [2,3,4]
 | 24=>kpn [1,7,52,53,54,84]
 | 25=>kpn [2,3,4]
 | 26=>kpn [1,52,53,54]
 | 27=>kpn [2,3,4]
 | _=>[]
def QV6:List D→Option D:=sp1 (Qcf QQt) Qoe fun x=>some x.name
theorem QZk:∀ds d,QV6 ds=some d→PureC Tryz.prog 208 ds d:=Qbr fun x r hr=>by
 cases hr;refine Qf (QP1 Qs 5 QZF []) Tryz.func208 rfl rfl (Nat.le_of_ble_eq_true rfl) (by kernel_rfl) ?_
 rw[Tryz.results208];simp[QZF,QP2]
theorem QVg (xs:Array Value) (w:World):(callFunc 208 xs).run Tryz.prog w= .ok (.enter 208 xs) w:=by kernel_rfl
def QRD (s:ByteArray) (x:Prp):Bool:=x.name.toList==s.toList
def QVo:Cod ByteArray:=⟨fun s=> .fn 248 [] [(QXc 208).enc (),QRM.enc s],fun d=>match d with | .fn 248 [] [a,b]=>(match(QXc 208).dec a,QRM.dec b with | some _,some s=>some s | _,_=>none) | _=>none,fun d x h=>by
 split at h
 ·split at h
  ·rename_i h1 h2; cases h;exact QUX ⟨_,_,rfl,(QXc 208).ed _ _ h1,_,_,rfl,QRM.ed _ _ h2,rfl⟩
  ·cases h
 ·cases h⟩
theorem QTi (s:ByteArray):QVo.enc s= .fn 248 [] [.dat 1 [[.v (.func (.func 208) #[] #[])]] 0 0,.dat 1 [[DS s]] 0 0]:=rfl
theorem QSc (s:ByteArray):QVo.dec (.fn 248 [] [.dat 1 [[.v (.func (.func 208) #[] #[])]] 0 0,.dat 1 [[DS s]] 0 0])=some s:=rfl
def QX4:List D→Option D:=sp3 (Qcf QQt) (QXc 208) QRM QaW fun x _ s=>some (QRD s x)
theorem Q1z:∀ds d,QX4 ds=some d→PureC Tryz.prog 248 ds d:=QcN fun x u s r hr=>by
 cases hr;refine Qf (QP1 (Qh Qs QVg QZk) 10 kp81 []) Tryz.func248 rfl rfl (Nat.le_of_ble_eq_true rfl) (by kernel_rfl) ?_
 rw[Tryz.results248];unfold QRD;simp[kp81,QV6,QVp,QUr,QP2,QRn]
theorem QYt (xs:Array Value) (w:World):(callFunc 248 xs).run Tryz.prog w= .ok (.enter 248 xs) w:=by kernel_rfl
def s101:List D→Option D:=sp2 (QJ QQt) QVo QaY fun l q=>if l.length < 1000000∧True then some (QBs (QRD q) l)else none
set_option maxHeartbeats 1000000 in
theorem Q2S:∀ds d,s101 ds=some d→PureC Tryz.prog 276 ds d:=Qay fun l q r hr=>by
 split at hr
 ·rename_i hlm;cases hr;obtain⟨hlm,hyp⟩:=hlm;refine Qf (QP1 (Qh Qs QYt Q1z) 19 Qlc []) Tryz.func276 rfl rfl (Nat.le_of_ble_eq_true rfl) (by kernel_rfl) ?_
  rw[Tryz.results276];simp[Qlc,QTi,QP9];rcases Qeo (QRD q) l with⟨e1,_,hall⟩ | ⟨k,hk,e1,_,hbad,hgood⟩
  ·rw[e1]
   (generalize hLoopQ:Cx.loop _ _ _=rLoopQ; apply Qi hLoopQ (fun k=>⟨[(0,.d (.sl 2 (l.map QQt.enc))),(1,.d (.fn 248 [] [.dat 1 [[.v (.func (.func 208) #[] #[])]] 0 0,.dat 1 [[DS q]] 0 0])),(7,.d (DI l.length)),(8,.d (DI k))],[],[],[]⟩) l.length rfl; rotate_left; (show _ < 281474976710656; omega); rfl; rotate_left; all_goals clear hLoopQ)
   ·intro j hj;have w1:=Qa ((j:Int)+1) (by omega) (by omega)
    have hjl:(j:Int) < l.length:=by omega
    have hn:=hall j hj;have hq:QRM.dec (.dat 1 [[DS q]] 0 0)=some q:=rfl;simp[Qlc,Qaw,QX4,QRI,QRb,QP2,QRn,hj,hjl,hn,hyp,w1]
   ·simp[Qlc]
  ·rw[e1]
   (generalize hLoopQ:Cx.loop _ _ _=rLoopQ; apply Qi hLoopQ (fun k=>⟨[(0,.d (.sl 2 (l.map QQt.enc))),(1,.d (.fn 248 [] [.dat 1 [[.v (.func (.func 208) #[] #[])]] 0 0,.dat 1 [[DS q]] 0 0])),(7,.d (DI l.length)),(8,.d (DI k))],[],[],[]⟩) k rfl; rotate_left; (show _ < 281474976710656; omega); rfl; rotate_left; all_goals clear hLoopQ)
   ·intro j hj';have hj:j < l.length:=by omega
    have w1:=Qa ((j:Int)+1) (by omega) (by omega)
    have hjl:(j:Int) < l.length:=by omega
    have hn:=hgood j hj hj';have hq:QRM.dec (.dat 1 [[DS q]] 0 0)=some q:=rfl;simp[Qlc,Qaw,QX4,QRI,QRb,QP2,QRn,hj,hjl,hn,hyp,w1]
   ·have hkl:(k:Int) < l.length:=by omega
    have hn:=hbad;have hq:QRM.dec (.dat 1 [[DS q]] 0 0)=some q:=rfl;simp[Qlc,Qaw,QX4,QRI,QRb,QP2,QRn,hk,hkl,hn,hyp]
 ·cases hr
theorem QvD (xs:Array Value) (w:World):(callFunc 276 xs).run Tryz.prog w= .ok (.enter 276 xs) w:=by kernel_rfl
def QYZ:List D→Option D:=sp2 (QJ QQt) QVo QaW fun l q=>if l.length < 1000000∧True then some (l.any (QRD q))else none
theorem Q1l:∀ds d,QYZ ds=some d→PureC Tryz.prog 247 ds d:=Qay fun l q r hr=>by
 split at hr
 ·rename_i hlm;cases hr;obtain⟨hlm,hyp⟩:=hlm;refine Qf (QP1 (Qh Qs QvD Q2S) 9 kp80 []) Tryz.func247 rfl rfl (Nat.le_of_ble_eq_true rfl) (by kernel_rfl) ?_
  rw[Tryz.results247];have hp:=QrS (QRD q) l;rw[←hp];simp[kp80,s101,QTi,QSc,QP9,QR4,hlm,hyp]
 ·cases hr
theorem QYS (xs:Array Value) (w:World):(callFunc 247 xs).run Tryz.prog w= .ok (.enter 247 xs) w:=by kernel_rfl
def g51:List (Nat×(List D→Option D)):=(208,QV6)::(247,QYZ)::(77,QSr)::[]
theorem dg51:QaE Tryz.prog (Qaw g51):=Qh (Qh (Qh Qs QT1 QXp) QYS Q1l) QVg QZk
def QSx (l:List Prp):Int:=QQi (l.getD (l.length - 1) default).name ((l.take (l.length - 1)).map (·.name))
def QXC:List D→Option D:=sp2 (QJ QQt) (cFn 208) QaY fun l _=>if 0 < l.length∧l.length < 1000000∧QAO (l.getD (l.length - 1) default).name then some (QSx l)else none
set_option maxHeartbeats 1000000 in
theorem Q1Y:∀ds d,QXC ds=some d→PureC Tryz.prog 207 ds d:=Qay fun l u r hr=>by
 split at hr
 ·rename_i hc;cases hr;obtain⟨h0,hlm,hs⟩:=hc;unfold QSx;obtain⟨n,hn⟩:∃n,l.length=n+1:=⟨l.length - 1,by omega⟩
  rw[hn]at hs⊢;simp only[Nat.add_sub_cancel]at hs⊢;have hnl:n < l.length:=by omega
  have hnI:(n:Int) < l.length:=by omega
  have hnI2:(n:Int)≤l.length:=by omega
  rw[Ql _ _ _ hnl]at hs⊢;have w1:IntKind.i64.wrap ((l.length:Int) - 1)=n:=by rw[Qa _ (by omega) (by omega)]; omega
  refine Qf (QP1 dg51 26 QVJ []) Tryz.func207 rfl rfl (Nat.le_of_ble_eq_true rfl) (by kernel_rfl) ?_
  rw[Tryz.results207];have hany:(l.take n).any (QRD l[n].name)=((l.take n).map (·.name)).any (fun x=>x.toList==l[n].name.toList):=by rw[List.any_map]; rfl
  have hdec:(QJ QQt).dec (.sl 2 ((l.map QQt.enc).take n))=some (l.take n):=by rw[←List.map_take]; exact QR4 _
  have htl:min n l.length < 1000000:=by omega
  unfold QQi;rw[←hany];generalize hq:(l.take n).any (QRD l[n].name)=q at*;cases h1:Qbz l[n].name
  ·simp[QVJ,g51,QV6,QSr,QRa,QP9,QP2,QRn,hnl,hnI,hnI2,w1,hs,h1]
  ·cases q
   ·simp[QVJ,g51,QV6,QSr,QYZ,QRa,QSc,QP9,QP2,QRn,hnl,hnI,hnI2,w1,hs,h1,hdec,htl,hq]
   ·simp[QVJ,g51,QV6,QSr,QYZ,QRa,QSc,QP9,QP2,QRn,hnl,hnI,hnI2,w1,hs,h1,hdec,htl,hq]
 ·cases hr
theorem QYV (xs:Array Value) (w:World):(callFunc 207 xs).run Tryz.prog w= .ok (.enter 207 xs) w:=by kernel_rfl
def QV5:List D→Option D:=sp1 (Qcf QQw) Qoe fun x=>some x.name
theorem QZn:∀ds d,QV5 ds=some d→PureC Tryz.prog 210 ds d:=Qbr fun x r hr=>by
 cases hr;refine Qf (QP1 Qs 5 QZu []) Tryz.func210 rfl rfl (Nat.le_of_ble_eq_true rfl) (by kernel_rfl) ?_
 rw[Tryz.results210];simp[QZu,QP3]
theorem QVt (xs:Array Value) (w:World):(callFunc 210 xs).run Tryz.prog w= .ok (.enter 210 xs) w:=by kernel_rfl
def QRE (s:ByteArray) (x:Knd):Bool:=x.name.toList==s.toList
def QVu:Cod ByteArray:=⟨fun s=> .fn 250 [] [(QXc 210).enc (),QRM.enc s],fun d=>match d with | .fn 250 [] [a,b]=>(match(QXc 210).dec a,QRM.dec b with | some _,some s=>some s | _,_=>none) | _=>none,fun d x h=>by
 split at h
 ·split at h
  ·rename_i h1 h2; cases h;exact QUX ⟨_,_,rfl,(QXc 210).ed _ _ h1,_,_,rfl,QRM.ed _ _ h2,rfl⟩
  ·cases h
 ·cases h⟩
theorem QTy (s:ByteArray):QVu.enc s= .fn 250 [] [.dat 1 [[.v (.func (.func 210) #[] #[])]] 0 0,.dat 1 [[DS s]] 0 0]:=rfl
theorem QSa (s:ByteArray):QVu.dec (.fn 250 [] [.dat 1 [[.v (.func (.func 210) #[] #[])]] 0 0,.dat 1 [[DS s]] 0 0])=some s:=rfl
def s83:List D→Option D:=sp3 (Qcf QQw) (QXc 210) QRM QaW fun x _ s=>some (QRE s x)
theorem ok83:∀ds d,s83 ds=some d→PureC Tryz.prog 250 ds d:=QcN fun x u s r hr=>by
 cases hr;refine Qf (QP1 (Qh Qs QVt QZn) 10 kp83 []) Tryz.func250 rfl rfl (Nat.le_of_ble_eq_true rfl) (by kernel_rfl) ?_
 rw[Tryz.results250];unfold QRE;simp[kp83,QV5,QVp,QUr,QP3,QRm]
theorem Q1R (xs:Array Value) (w:World):(callFunc 250 xs).run Tryz.prog w= .ok (.enter 250 xs) w:=by kernel_rfl
def QNk:List D→Option D:=sp2 (QJ QQw) QVu QaY fun l q=>if l.length < 1000000∧True then some (QBs (QRE q) l)else none
set_option maxHeartbeats 1000000 in
theorem QPf:∀ds d,QNk ds=some d→PureC Tryz.prog 277 ds d:=Qay fun l q r hr=>by
 split at hr
 ·rename_i hlm;cases hr;obtain⟨hlm,hyp⟩:=hlm;refine Qf (QP1 (Qh Qs Q1R ok83) 19 QuP []) Tryz.func277 rfl rfl (Nat.le_of_ble_eq_true rfl) (by kernel_rfl) ?_
  rw[Tryz.results277];simp[QuP,QTy,QP5];rcases Qeo (QRE q) l with⟨e1,_,hall⟩ | ⟨k,hk,e1,_,hbad,hgood⟩
  ·rw[e1]
   (generalize hLoopQ:Cx.loop _ _ _=rLoopQ; apply Qi hLoopQ (fun k=>⟨[(0,.d (.sl 2 (l.map QQw.enc))),(1,.d (.fn 250 [] [.dat 1 [[.v (.func (.func 210) #[] #[])]] 0 0,.dat 1 [[DS q]] 0 0])),(7,.d (DI l.length)),(8,.d (DI k))],[],[],[]⟩) l.length rfl; rotate_left; (show _ < 281474976710656; omega); rfl; rotate_left; all_goals clear hLoopQ)
   ·intro j hj;have w1:=Qa ((j:Int)+1) (by omega) (by omega)
    have hjl:(j:Int) < l.length:=by omega
    have hn:=hall j hj;have hq:QRM.dec (.dat 1 [[DS q]] 0 0)=some q:=rfl;simp[QuP,Qaw,s83,QRI,QRb,QP3,QRm,hj,hjl,hn,hyp,w1]
   ·simp[QuP]
  ·rw[e1]
   (generalize hLoopQ:Cx.loop _ _ _=rLoopQ; apply Qi hLoopQ (fun k=>⟨[(0,.d (.sl 2 (l.map QQw.enc))),(1,.d (.fn 250 [] [.dat 1 [[.v (.func (.func 210) #[] #[])]] 0 0,.dat 1 [[DS q]] 0 0])),(7,.d (DI l.length)),(8,.d (DI k))],[],[],[]⟩) k rfl; rotate_left; (show _ < 281474976710656; omega); rfl; rotate_left; all_goals clear hLoopQ)
   ·intro j hj';have hj:j < l.length:=by omega
    have w1:=Qa ((j:Int)+1) (by omega) (by omega)
    have hjl:(j:Int) < l.length:=by omega
    have hn:=hgood j hj hj';have hq:QRM.dec (.dat 1 [[DS q]] 0 0)=some q:=rfl;simp[QuP,Qaw,s83,QRI,QRb,QP3,QRm,hj,hjl,hn,hyp,w1]
   ·have hkl:(k:Int) < l.length:=by omega
    have hn:=hbad;have hq:QRM.dec (.dat 1 [[DS q]] 0 0)=some q:=rfl;simp[QuP,Qaw,s83,QRI,QRb,QP3,QRm,hk,hkl,hn,hyp]
 ·cases hr
theorem QEi (xs:Array Value) (w:World):(callFunc 277 xs).run Tryz.prog w= .ok (.enter 277 xs) w:=by kernel_rfl
def QYT:List D→Option D:=sp2 (QJ QQw) QVu QaW fun l q=>if l.length < 1000000∧True then some (l.any (QRE q))else none
theorem Q0V:∀ds d,QYT ds=some d→PureC Tryz.prog 249 ds d:=Qay fun l q r hr=>by
 split at hr
 ·rename_i hlm;cases hr;obtain⟨hlm,hyp⟩:=hlm;refine Qf (QP1 (Qh Qs QEi QPf) 9 kp82 []) Tryz.func249 rfl rfl (Nat.le_of_ble_eq_true rfl) (by kernel_rfl) ?_
  rw[Tryz.results249];have hp:=QrS (QRE q) l;rw[←hp];simp[kp82,QNk,QTy,QSa,QP5,QR6,hlm,hyp]
 ·cases hr
theorem QZf (xs:Array Value) (w:World):(callFunc 249 xs).run Tryz.prog w= .ok (.enter 249 xs) w:=by kernel_rfl
def QXJ:List (Nat×(List D→Option D)):=(210,QV5)::(249,QYT)::(77,QSr)::[]
theorem Q1v:QaE Tryz.prog (Qaw QXJ):=Qh (Qh (Qh Qs QT1 QXp) QZf Q0V) QVt QZn
def QSu (l:List Knd):Int:=QQi (l.getD (l.length - 1) default).name ((l.take (l.length - 1)).map (·.name))
def QXT:List D→Option D:=sp2 (QJ QQw) (cFn 210) QaY fun l _=>if 0 < l.length∧l.length < 1000000∧QAO (l.getD (l.length - 1) default).name then some (QSu l)else none
set_option maxHeartbeats 1000000 in
theorem Q1D:∀ds d,QXT ds=some d→PureC Tryz.prog 209 ds d:=Qay fun l u r hr=>by
 split at hr
 ·rename_i hc;cases hr;obtain⟨h0,hlm,hs⟩:=hc;unfold QSu;obtain⟨n,hn⟩:∃n,l.length=n+1:=⟨l.length - 1,by omega⟩
  rw[hn]at hs⊢;simp only[Nat.add_sub_cancel]at hs⊢;have hnl:n < l.length:=by omega
  have hnI:(n:Int) < l.length:=by omega
  have hnI2:(n:Int)≤l.length:=by omega
  rw[Ql _ _ _ hnl]at hs⊢;have w1:IntKind.i64.wrap ((l.length:Int) - 1)=n:=by rw[Qa _ (by omega) (by omega)]; omega
  refine Qf (QP1 Q1v 26 QVe []) Tryz.func209 rfl rfl (Nat.le_of_ble_eq_true rfl) (by kernel_rfl) ?_
  rw[Tryz.results209];have hany:(l.take n).any (QRE l[n].name)=((l.take n).map (·.name)).any (fun x=>x.toList==l[n].name.toList):=by rw[List.any_map]; rfl
  have hdec:(QJ QQw).dec (.sl 2 ((l.map QQw.enc).take n))=some (l.take n):=by rw[←List.map_take]; exact QR6 _
  have htl:min n l.length < 1000000:=by omega
  unfold QQi;rw[←hany];generalize hq:(l.take n).any (QRE l[n].name)=q at*;cases h1:Qbz l[n].name
  ·simp[QVe,QXJ,QV5,QSr,QRa,QP5,QP3,QRm,hnl,hnI,hnI2,w1,hs,h1]
  ·cases q
   ·simp[QVe,QXJ,QV5,QSr,QYT,QRa,QSa,QP5,QP3,QRm,hnl,hnI,hnI2,w1,hs,h1,hdec,htl,hq]
   ·simp[QVe,QXJ,QV5,QSr,QYT,QRa,QSa,QP5,QP3,QRm,hnl,hnI,hnI2,w1,hs,h1,hdec,htl,hq]
 ·cases hr
theorem QYE (xs:Array Value) (w:World):(callFunc 209 xs).run Tryz.prog w= .ok (.enter 209 xs) w:=by kernel_rfl
def outS (s:Spn):Bool:=Qk3 0 100000 [s.lo,s.hi]
def QQq (s:Spn):Bool:=decide (s.hi < s.lo)
def QXP:List D→Option D:=sp1 (Qcf QP7) QaW fun s=>some (outS s)
theorem QRA (a b:Int):(QJ QH).dec (.sl 1 [[.v (.int .i64 a)],[.v (.int .i64 b)]])=some [a,b]:=rfl
theorem QQD (a:Int):(QJ QH).dec (.sl 1 [[.v (.int .i64 a)]])=some [a]:=rfl
theorem Q0Y:∀ds d,QXP ds=some d→PureC Tryz.prog 212 ds d:=Qbr fun s r hr=>by
 cases hr;refine Qf (QP1 (Qh Qs QRK QTC) 9 QZw []) Tryz.func212 rfl rfl (Nat.le_of_ble_eq_true rfl) (by kernel_rfl) ?_
 rw[Tryz.results212];unfold outS;simp[QZw,QQI,QP0,QRA]
theorem QY9 (xs:Array Value) (w:World):(callFunc 212 xs).run Tryz.prog w= .ok (.enter 212 xs) w:=by kernel_rfl
def QYs:List D→Option D:=sp1 (Qcf QP7) QaW fun s=>some (QQq s)
theorem Q1T:∀ds d,QYs ds=some d→PureC Tryz.prog 213 ds d:=Qbr fun s r hr=>by
 cases hr;refine Qf (QP1 Qs 8 QZH []) Tryz.func213 rfl rfl (Nat.le_of_ble_eq_true rfl) (by kernel_rfl) ?_
 rw[Tryz.results213];unfold QQq;simp[QZH,QP0]
theorem QX2 (xs:Array Value) (w:World):(callFunc 213 xs).run Tryz.prog w= .ok (.enter 213 xs) w:=by kernel_rfl
def s84a:List D→Option D:=sp2 (QJ QP7) (cFn 212) QaY fun l q=>if l.length < 1000000∧True then some (QBs (outS) l)else none
set_option maxHeartbeats 1000000 in
theorem Q2t:∀ds d,s84a ds=some d→PureC Tryz.prog 251 ds d:=Qay fun l q r hr=>by
 split at hr
 ·rename_i hlm;cases hr;obtain⟨hlm,hyp⟩:=hlm;refine Qf (QP1 (Qh Qs QY9 Q0Y) 19 QiX []) Tryz.func251 rfl rfl (Nat.le_of_ble_eq_true rfl) (by kernel_rfl) ?_
  rw[Tryz.results251];simp[QiX,QRa,QP6];rcases Qeo (outS) l with⟨e1,_,hall⟩ | ⟨k,hk,e1,_,hbad,hgood⟩
  ·rw[e1]
   (generalize hLoopQ:Cx.loop _ _ _=rLoopQ; apply Qi hLoopQ (fun k=>⟨[(0,.d (.sl 2 (l.map QP7.enc))),(1,.d (.v (.func (.func 212) #[] #[]))),(7,.d (DI l.length)),(8,.d (DI k))],[],[],[]⟩) l.length rfl; rotate_left; (show _ < 281474976710656; omega); rfl; rotate_left; all_goals clear hLoopQ)
   ·intro j hj;have w1:=Qa ((j:Int)+1) (by omega) (by omega)
    have hjl:(j:Int) < l.length:=by omega
    have hn:=hall j hj;skip;simp[QiX,Qaw,QXP,QP0,QP4,hj,hjl,hn,hyp,w1]
   ·simp[QiX]
  ·rw[e1]
   (generalize hLoopQ:Cx.loop _ _ _=rLoopQ; apply Qi hLoopQ (fun k=>⟨[(0,.d (.sl 2 (l.map QP7.enc))),(1,.d (.v (.func (.func 212) #[] #[]))),(7,.d (DI l.length)),(8,.d (DI k))],[],[],[]⟩) k rfl; rotate_left; (show _ < 281474976710656; omega); rfl; rotate_left; all_goals clear hLoopQ)
   ·intro j hj';have hj:j < l.length:=by omega
    have w1:=Qa ((j:Int)+1) (by omega) (by omega)
    have hjl:(j:Int) < l.length:=by omega
    have hn:=hgood j hj hj';skip;simp[QiX,Qaw,QXP,QP0,QP4,hj,hjl,hn,hyp,w1]
   ·have hkl:(k:Int) < l.length:=by omega
    have hn:=hbad;skip;simp[QiX,Qaw,QXP,QP0,QP4,hk,hkl,hn,hyp]
 ·cases hr
theorem QKc (xs:Array Value) (w:World):(callFunc 251 xs).run Tryz.prog w= .ok (.enter 251 xs) w:=by kernel_rfl
def QVd:List D→Option D:=sp2 (QJ QP7) (cFn 212) QaW fun l q=>if l.length < 1000000∧True then some (l.any (outS))else none
theorem Q2q:∀ds d,QVd ds=some d→PureC Tryz.prog 211 ds d:=Qay fun l q r hr=>by
 split at hr
 ·rename_i hlm;cases hr;obtain⟨hlm,hyp⟩:=hlm;refine Qf (QP1 (Qh Qs QKc Q2t) 9 QVI []) Tryz.func211 rfl rfl (Nat.le_of_ble_eq_true rfl) (by kernel_rfl) ?_
  rw[Tryz.results211];have hp:=QrS (outS) l;rw[←hp];simp[QVI,s84a,QRa,QRS,QP6,QQd,hlm,hyp]
 ·cases hr
def s84b:List D→Option D:=sp2 (QJ QP7) (cFn 213) QaY fun l q=>if l.length < 1000000∧True then some (QBs (QQq) l)else none
set_option maxHeartbeats 1000000 in
theorem Q2N:∀ds d,s84b ds=some d→PureC Tryz.prog 251 ds d:=Qay fun l q r hr=>by
 split at hr
 ·rename_i hlm;cases hr;obtain⟨hlm,hyp⟩:=hlm;refine Qf (QP1 (Qh Qs QX2 Q1T) 19 QiX []) Tryz.func251 rfl rfl (Nat.le_of_ble_eq_true rfl) (by kernel_rfl) ?_
  rw[Tryz.results251];simp[QiX,QRa,QP6];rcases Qeo (QQq) l with⟨e1,_,hall⟩ | ⟨k,hk,e1,_,hbad,hgood⟩
  ·rw[e1]
   (generalize hLoopQ:Cx.loop _ _ _=rLoopQ; apply Qi hLoopQ (fun k=>⟨[(0,.d (.sl 2 (l.map QP7.enc))),(1,.d (.v (.func (.func 213) #[] #[]))),(7,.d (DI l.length)),(8,.d (DI k))],[],[],[]⟩) l.length rfl; rotate_left; (show _ < 281474976710656; omega); rfl; rotate_left; all_goals clear hLoopQ)
   ·intro j hj;have w1:=Qa ((j:Int)+1) (by omega) (by omega)
    have hjl:(j:Int) < l.length:=by omega
    have hn:=hall j hj;skip;simp[QiX,Qaw,QYs,QP0,QP4,hj,hjl,hn,hyp,w1]
   ·simp[QiX]
  ·rw[e1]
   (generalize hLoopQ:Cx.loop _ _ _=rLoopQ; apply Qi hLoopQ (fun k=>⟨[(0,.d (.sl 2 (l.map QP7.enc))),(1,.d (.v (.func (.func 213) #[] #[]))),(7,.d (DI l.length)),(8,.d (DI k))],[],[],[]⟩) k rfl; rotate_left; (show _ < 281474976710656; omega); rfl; rotate_left; all_goals clear hLoopQ)
   ·intro j hj';have hj:j < l.length:=by omega
    have w1:=Qa ((j:Int)+1) (by omega) (by omega)
    have hjl:(j:Int) < l.length:=by omega
    have hn:=hgood j hj hj';skip;simp[QiX,Qaw,QYs,QP0,QP4,hj,hjl,hn,hyp,w1]
   ·have hkl:(k:Int) < l.length:=by omega
    have hn:=hbad;skip;simp[QiX,Qaw,QYs,QP0,QP4,hk,hkl,hn,hyp]
 ·cases hr
def QV2:List D→Option D:=sp2 (QJ QP7) (cFn 213) QaW fun l q=>if l.length < 1000000∧True then some (l.any (QQq))else none
theorem Q2L:∀ds d,QV2 ds=some d→PureC Tryz.prog 211 ds d:=Qay fun l q r hr=>by
 split at hr
 ·rename_i hlm;cases hr;obtain⟨hlm,hyp⟩:=hlm;refine Qf (QP1 (Qh Qs QKc Q2N) 9 QVI []) Tryz.func211 rfl rfl (Nat.le_of_ble_eq_true rfl) (by kernel_rfl) ?_
  rw[Tryz.results211];have hp:=QrS (QQq) l;rw[←hp];simp[QVI,s84b,QRa,QRS,QP6,QQd,hlm,hyp]
 ·cases hr
theorem QYq (xs:Array Value) (w:World):(callFunc 211 xs).run Tryz.prog w= .ok (.enter 211 xs) w:=by kernel_rfl
theorem QY2 (s:Spn):outS s=(QQU s==7):=by
 unfold outS Qk3 QQU QS9;cases h1:inR s.lo 0 100000<;>cases h2:inR s.hi 0 100000<;>by_cases h3:s.hi < s.lo<;>simp[h1,h2,h3]
theorem QW1 {s:Spn} (h:outS s=false):QQq s=(QQU s==2):=by
 unfold outS Qk3 at h;unfold QQq QQU QS9;simp only[List.any_cons,List.any_nil,Bool.or_false,Bool.or_eq_false_iff,Bool.not_eq_false']at h;rw[h.1,h.2];by_cases h3:s.hi < s.lo<;>simp[h3]
theorem QSb {l:List Spn} {n:Int} (h:(l.length:Int)=n):QQO l n=if l.any outS=true then 7 else if l.any QQq=true then 2 else 0:=by
 unfold QQO;rw[if_neg (by simpa using h)]
 have e1:l.any (fun s=>QQU s==7)=l.any outS:=by
  congr 1; funext s; rw[QY2]
 rw[e1];by_cases h1:l.any outS=true
 ·rw[if_pos h1,if_pos h1]
 ·rw[if_neg h1,if_neg h1];have e2:l.any (fun s=>QQU s==2)=l.any QQq:=by
   have key:∀l:List Spn,¬l.any outS=true→l.any (fun s=>QQU s==2)=l.any QQq:=by
    intro l
    induction l with
    | nil=>intro _; rfl
    | cons a t ih=>
     intro h;simp only[List.any_cons,Bool.or_eq_true,not_or]at h⊢;rw[ih h.2,QW1 (by simpa using h.1)]
   exact key l h1
  rw[e2]
def QQh (x:Tbl):Prop:=(∀p∈x.props,QAO p.name)∧∀k∈x.kinds,QAO k.name
instance (x:Tbl):Decidable (QQh x):=inferInstanceAs (Decidable ((∀p∈x.props,_)∧∀k∈x.kinds,_))
def g16:List (Nat×(List D→Option D)):=(100,QQI)::(207,QXC)::(209,QXT)::(211,QU5 QVd QV2)::[]
theorem dg16:QaE Tryz.prog (Qaw g16):=Qh (Qh (Qh (Qh Qs QYq (Q2W Q2q Q2L)) QYE Q1D) QYV Q1Y) QRK QTC
theorem QYa {x:Tbl} {j:Nat} (h:j < x.props.length):(x.props.take (j+1)).length=j+1∧(x.props.take (j+1)).getD j default=x.props[j]∧QSx (x.props.take (j+1))=QQi x.props[j].name (nmP x j):=by
 have h1:(x.props.take (j+1)).length=j+1:=by rw[List.length_take]; omega
 have h2:(x.props.take (j+1)).getD j default=x.props[j]:=by rw[Ql _ _ _ (by omega)]; simp
 refine⟨h1,h2,?_⟩;unfold QSx nmP;rw[h1,Nat.add_sub_cancel,h2,List.take_take,Nat.min_eq_left (by omega)]
theorem QYd {x:Tbl} {j:Nat} (h:j < x.kinds.length):(x.kinds.take (j+1)).length=j+1∧(x.kinds.take (j+1)).getD j default=x.kinds[j]∧QSu (x.kinds.take (j+1))=QQi x.kinds[j].name (nmK x j):=by
 have h1:(x.kinds.take (j+1)).length=j+1:=by rw[List.length_take]; omega
 have h2:(x.kinds.take (j+1)).getD j default=x.kinds[j]:=by rw[Ql _ _ _ (by omega)]; simp
 refine⟨h1,h2,?_⟩;unfold QSu nmK;rw[h1,Nat.add_sub_cancel,h2,List.take_take,Nat.min_eq_left (by omega)]
theorem QU2 (lo hi a:Int):Qk3 lo hi [a]=!inR a lo hi:=by simp[Qk3]
theorem Q2C (l:List Spn) (h:l.length < 1000000):QU5 QVd QV2 [.sl 2 (l.map QP7.enc),.v (.func (.func 212) #[] #[])]=some (DB (l.any outS)):=by
 have e:QVd [.sl 2 (l.map QP7.enc),.v (.func (.func 212) #[] #[])]=some (DB (l.any outS)):=by
  simp only[QVd,sp2,QQd,QRS];rw[if_pos trivial];simp only;rw[if_pos ⟨h,trivial⟩]; rfl
 unfold QU5;rw[e]
theorem Q2Q (l:List Spn) (h:l.length < 1000000):QU5 QVd QV2 [.sl 2 (l.map QP7.enc),.v (.func (.func 213) #[] #[])]=some (DB (l.any QQq)):=by
 have e0:QVd [.sl 2 (l.map QP7.enc),.v (.func (.func 213) #[] #[])]=none:=by
  simp only[QVd,sp2,QQd,QRS];rw[if_neg (by decide)]
 have e:QV2 [.sl 2 (l.map QP7.enc),.v (.func (.func 213) #[] #[])]=some (DB (l.any QQq)):=by
  simp only[QV2,sp2,QQd,QRS];rw[if_pos trivial];simp only;rw[if_pos ⟨h,trivial⟩]; rfl
 unfold QU5;rw[e0];exact e
def s16:List D→Option D:=sp1 (Qcf QRf) (Qmy QaY QaY QaY) fun x=>if QQh x then some (chk x)else none
set_option maxHeartbeats 8000000 in
theorem Q18:∀ds d,s16 ds=some d→PureC Tryz.prog 149 ds d:=Qbr fun x r hr=>by
 split at hr
 ·rename_i hnm;cases hr;refine Qf (QP1 dg16 90 QTc []) Tryz.func149 rfl rfl (Nat.le_of_ble_eq_true rfl) (by kernel_rfl) ?_
  rw[Tryz.results149];unfold chk;cases h1:inR x.props.length 1 5
  ·simp[QTc,QPZ,QP9,QP5,g16,QQI,QQD,QU2,h1]
  cases h2:inR x.kinds.length 1 8
  ·simp[QTc,QPZ,QP9,QP5,g16,QQI,QQD,QU2,h1,h2]
  cases h3:inR x.purity 1 1000
  ·simp[QTc,QPZ,QP9,QP5,g16,QQI,QQD,QU2,h1,h2,h3]
  have hp:=Qal.1 h1;have hk:=Qal.1 h2;have h51:∀j (hj:j < x.props.length),QXC [.sl 2 ((x.props.map QQt.enc).take (j+1)),.v (.func (.func 208) #[] #[])]=some (DI (QQi x.props[j].name (nmP x j))):=fun j hj=>by
   obtain⟨e1,e2,e3⟩:=QYa hj;simp only[QXC,sp2,QRS];rw[←List.map_take,QR4,if_pos trivial];simp only;rw[e1,Nat.add_sub_cancel,e2,if_pos ⟨by omega,by omega,hnm.1 _ (List.getElem_mem hj)⟩,e3]; rfl
  have h53:∀j (hj:j < x.kinds.length),QXT [.sl 2 ((x.kinds.map QQw.enc).take (j+1)),.v (.func (.func 210) #[] #[])]=some (DI (QQi x.kinds[j].name (nmK x j))):=fun j hj=>by
   obtain⟨e1,e2,e3⟩:=QYd hj;simp only[QXT,sp2,QRS];rw[←List.map_take,QR6,if_pos trivial];simp only;rw[e1,Nat.add_sub_cancel,e2,if_pos ⟨by omega,by omega,hnm.2 _ (List.getElem_mem hj)⟩,e3]; rfl
  rcases QdP (QWh x) x.props with⟨e1,hall⟩ | ⟨k,hk1,e1,hbad,hgood⟩
  ·rw[e1];rcases QdP (QVv x) x.kinds with⟨e2,hall2⟩ | ⟨k,hk2,e2,hbad,hgood⟩
   ·rw[e2];simp[QTc,QPZ,QP9,QP5,g16,QQI,QQD,QU2,h1,h2,h3]
    (generalize hLoopQ:Cx.loop _ _ _=rLoopQ; apply Qi hLoopQ (fun k=>⟨[(1,.loc 1 0),(28,.d (.sl 2 (x.props.map QQt.enc))),(29,.d (DI x.props.length)),(30,.d (DI k))],[(1,[.d (.sl 2 (x.props.map QQt.enc)),.d (.sl 2 (x.kinds.map QQw.enc)),.d (DI x.purity)])],[],[]⟩) x.props.length rfl; rotate_left; (show _ < 281474976710656; omega); rfl; rotate_left; all_goals clear hLoopQ)
    ·intro j hj0;have hj:j < x.props.length:=by omega
     have w1:=Qa ((j:Int)+1) (by omega) (by omega)
     have hjl:(j:Int) < x.props.length:=by omega
     have hjl2:(j:Int)+1≤x.props.length:=by omega
     have hj00:(0:Int)≤(j:Int)+1:=by omega
     obtain⟨q1,q2⟩:=QQJ (hall j hj);have h5:=h51 j hj;rw[q1]at h5;simp[QTc,g16,QQI,QQD,QU2,h5,QP2,hj,hjl,hjl2,hj00,q2,w1]
    ·simp[QTc,QP5]
     (generalize hLoopQ:Cx.loop _ _ _=rLoopQ; apply Qi hLoopQ (fun k=>⟨[(1,.loc 1 0),(52,.d (.sl 2 (x.kinds.map QQw.enc))),(53,.d (DI x.kinds.length)),(54,.d (DI k))],[(1,[.d (.sl 2 (x.props.map QQt.enc)),.d (.sl 2 (x.kinds.map QQw.enc)),.d (DI x.purity)])],[],[]⟩) x.kinds.length rfl; rotate_left; (show _ < 281474976710656; omega); rfl; rotate_left; all_goals clear hLoopQ)
     ·intro j hj0;have hj:j < x.kinds.length:=by omega
      have w1:=Qa ((j:Int)+1) (by omega) (by omega)
      have hjl:(j:Int) < x.kinds.length:=by omega
      have hjl2:(j:Int)+1≤x.kinds.length:=by omega
      have hj00:(0:Int)≤(j:Int)+1:=by omega
      obtain⟨q1,q2⟩:=QQ4 (hall2 j hj);have h5:=h53 j hj;rw[q1]at h5;obtain⟨q3,q4⟩:=QRW q2;have q3':((x.kinds[j].props.length:Int) != (x.props.length:Int))=false:=by simp[q3]
      rw[QSb q3]at q2;have qa:x.kinds[j].props.any outS=false:=by
       cases q:x.kinds[j].props.any outS with
       | false=>rfl
       | true=>rw[q]at q2; simp at q2
      have qb:x.kinds[j].props.any QQq=false:=by
       rw[qa]at q2;cases q:x.kinds[j].props.any QQq with
       | false=>rfl
       | true=>rw[q]at q2; simp at q2
      have hl6:x.kinds[j].props.length < 1000000:=by omega
      simp only[List.any_eq_false]at qa qb;have qa':x.kinds[j].props.any outS=false:=by rw[List.any_eq_false]; exact qa
      have qb':x.kinds[j].props.any QQq=false:=by rw[List.any_eq_false]; exact qb
      have h6:QU5 QVd QV2 [.sl 2 (x.kinds[j].props.map QP7.enc),.v (.func (.func 212) #[] #[])]=some (DB false):=by
       rw[←qa']; exact Q2C _ hl6
      have h7:QU5 QVd QV2 [.sl 2 (x.kinds[j].props.map QP7.enc),.v (.func (.func 213) #[] #[])]=some (DB false):=by
       rw[←qb']; exact Q2Q _ hl6
      generalize QU5 QVd QV2=S55 at*;simp[QTc,g16,h5,h6,h7,QP3,QP6,hj,hjl,hjl2,hj00,q3',w1]
     ·simp[QTc]
   ·rw[e2];simp[QTc,QPZ,QP9,QP5,g16,QQI,QQD,QU2,h1,h2,h3,hbad]
    (generalize hLoopQ:Cx.loop _ _ _=rLoopQ; apply Qi hLoopQ (fun k=>⟨[(1,.loc 1 0),(28,.d (.sl 2 (x.props.map QQt.enc))),(29,.d (DI x.props.length)),(30,.d (DI k))],[(1,[.d (.sl 2 (x.props.map QQt.enc)),.d (.sl 2 (x.kinds.map QQw.enc)),.d (DI x.purity)])],[],[]⟩) x.props.length rfl; rotate_left; (show _ < 281474976710656; omega); rfl; rotate_left; all_goals clear hLoopQ)
    ·intro j hj0;have hj:j < x.props.length:=by omega
     have w1:=Qa ((j:Int)+1) (by omega) (by omega)
     have hjl:(j:Int) < x.props.length:=by omega
     have hjl2:(j:Int)+1≤x.props.length:=by omega
     have hj00:(0:Int)≤(j:Int)+1:=by omega
     obtain⟨q1,q2⟩:=QQJ (hall j hj);have h5:=h51 j hj;rw[q1]at h5;simp[QTc,g16,QQI,QQD,QU2,h5,QP2,hj,hjl,hjl2,hj00,q2,w1]
    ·simp[QTc,QP5]
     (generalize hLoopQ:Cx.loop _ _ _=rLoopQ; apply Qi hLoopQ (fun k=>⟨[(1,.loc 1 0),(52,.d (.sl 2 (x.kinds.map QQw.enc))),(53,.d (DI x.kinds.length)),(54,.d (DI k))],[(1,[.d (.sl 2 (x.props.map QQt.enc)),.d (.sl 2 (x.kinds.map QQw.enc)),.d (DI x.purity)])],[],[]⟩) k rfl; rotate_left; (show _ < 281474976710656; omega); rfl; rotate_left; all_goals clear hLoopQ)
     ·intro j hj0;have hj:j < x.kinds.length:=by omega
      have w1:=Qa ((j:Int)+1) (by omega) (by omega)
      have hjl:(j:Int) < x.kinds.length:=by omega
      have hjl2:(j:Int)+1≤x.kinds.length:=by omega
      have hj00:(0:Int)≤(j:Int)+1:=by omega
      obtain⟨q1,q2⟩:=QQ4 (hgood j hj hj0);have h5:=h53 j hj;rw[q1]at h5;obtain⟨q3,q4⟩:=QRW q2;have q3':((x.kinds[j].props.length:Int) != (x.props.length:Int))=false:=by simp[q3]
      rw[QSb q3]at q2;have qa:x.kinds[j].props.any outS=false:=by
       cases q:x.kinds[j].props.any outS with
       | false=>rfl
       | true=>rw[q]at q2; simp at q2
      have qb:x.kinds[j].props.any QQq=false:=by
       rw[qa]at q2;cases q:x.kinds[j].props.any QQq with
       | false=>rfl
       | true=>rw[q]at q2; simp at q2
      have hl6:x.kinds[j].props.length < 1000000:=by omega
      simp only[List.any_eq_false]at qa qb;have qa':x.kinds[j].props.any outS=false:=by rw[List.any_eq_false]; exact qa
      have qb':x.kinds[j].props.any QQq=false:=by rw[List.any_eq_false]; exact qb
      have h6:QU5 QVd QV2 [.sl 2 (x.kinds[j].props.map QP7.enc),.v (.func (.func 212) #[] #[])]=some (DB false):=by
       rw[←qa']; exact Q2C _ hl6
      have h7:QU5 QVd QV2 [.sl 2 (x.kinds[j].props.map QP7.enc),.v (.func (.func 213) #[] #[])]=some (DB false):=by
       rw[←qb']; exact Q2Q _ hl6
      generalize QU5 QVd QV2=S55 at*;simp[QTc,g16,h5,h6,h7,QP3,QP6,hj,hjl,hjl2,hj00,q3',w1]
     ·have hkl:(k:Int) < x.kinds.length:=by omega
      have hkl2:(k:Int)+1≤x.kinds.length:=by omega
      have hk00:(0:Int)≤(k:Int)+1:=by omega
      have w1:=Qa ((k:Int)+1) (by omega) (by omega)
      have h5:=h53 k hk2;rcases QVH hbad with⟨q1,q2,q3⟩ | ⟨q1,q2⟩
      ·rw[q2];rw[q1]at h5;by_cases hlen:(x.kinds[k].props.length:Int)=x.props.length
       ·have q3':((x.kinds[k].props.length:Int) != (x.props.length:Int))=false:=by simp[hlen]
        have hl6:x.kinds[k].props.length < 1000000:=by omega
        rw[QSb hlen]at q3⊢;have h6:=Q2C x.kinds[k].props hl6;have h7:=Q2Q x.kinds[k].props hl6;generalize QU5 QVd QV2=S55 at*;generalize x.kinds[k].props.any outS=a at*;generalize x.kinds[k].props.any QQq=b at*;cases a
        ·cases b
         ·simp at q3
         ·simp[QTc,g16,h5,h6,h7,QP3,QP6,hk2,hkl,hkl2,hk00,q3',w1]
        ·simp[QTc,g16,h5,h6,h7,QP3,QP6,hk2,hkl,hkl2,hk00,q3',w1]
       ·have q3':((x.kinds[k].props.length:Int) != (x.props.length:Int))=true:=bne_iff_ne.2 hlen;have e3:QQO x.kinds[k].props x.props.length=3:=by unfold QQO; rw[if_pos hlen]
        rw[e3];simp[QTc,g16,h5,QP3,QP6,hk2,hkl,hkl2,hk00,q3',w1]
      ·rw[q2];have q3:=QWJ q1;generalize QQi x.kinds[k].name (nmK x k)=e at*;simp[QTc,g16,h5,QP3,hk2,hkl,hkl2,hk00,q3,w1]
  ·rw[e1];simp[QTc,QPZ,QP9,QP5,g16,QQI,QQD,QU2,h1,h2,h3,hbad]
   (generalize hLoopQ:Cx.loop _ _ _=rLoopQ; apply Qi hLoopQ (fun k=>⟨[(1,.loc 1 0),(28,.d (.sl 2 (x.props.map QQt.enc))),(29,.d (DI x.props.length)),(30,.d (DI k))],[(1,[.d (.sl 2 (x.props.map QQt.enc)),.d (.sl 2 (x.kinds.map QQw.enc)),.d (DI x.purity)])],[],[]⟩) k rfl; rotate_left; (show _ < 281474976710656; omega); rfl; rotate_left; all_goals clear hLoopQ)
   ·intro j hj0;have hj:j < x.props.length:=by omega
    have w1:=Qa ((j:Int)+1) (by omega) (by omega)
    have hjl:(j:Int) < x.props.length:=by omega
    have hjl2:(j:Int)+1≤x.props.length:=by omega
    have hj00:(0:Int)≤(j:Int)+1:=by omega
    obtain⟨q1,q2⟩:=QQJ (hgood j hj hj0);have h5:=h51 j hj;rw[q1]at h5;simp[QTc,g16,QQI,QQD,QU2,h5,QP2,hj,hjl,hjl2,hj00,q2,w1]
   ·have hkl:(k:Int) < x.props.length:=by omega
    have hkl2:(k:Int)+1≤x.props.length:=by omega
    have hk00:(0:Int)≤(k:Int)+1:=by omega
    have w1:=Qa ((k:Int)+1) (by omega) (by omega)
    have h5:=h51 k hk1;rcases QVw hbad with⟨q1,q2,q3⟩ | ⟨q1,q2⟩
    ·rw[q3];rw[q1]at h5;simp[QTc,g16,QQI,QQD,QU2,h5,QP2,hk1,hkl,hkl2,hk00,q2,w1]
    ·rw[q2];have q3:=QWJ q1;generalize QQi x.props[k].name (nmP x k)=e at*;simp[QTc,g16,h5,QP2,hk1,hkl,hkl2,hk00,q3,w1]
 ·cases hr
theorem QVn (xs:Array Value) (w:World):(callFunc 149 xs).run Tryz.prog w= .ok (.enter 149 xs) w:=by kernel_rfl
end Go.Proofs.YticoemblgkemiaaGreatDoor
