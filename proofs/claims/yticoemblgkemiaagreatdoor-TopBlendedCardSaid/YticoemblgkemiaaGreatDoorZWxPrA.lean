/-
  Small laws of worlds. Conditions: none.
-/
import Derived.Test.YticoemblgkemiaaGreatDoorZStT
import Derived.Test.YticoemblgkemiaaGreatDoorZTopP
import Derived.Test.YticoemblgkemiaaGreatDoorZTrB
import Derived.Test.YticoemblgkemiaaGreatDoorProg
import Derived.WalkKit
import Derived.WalkSpells
import Derived.WalkLawsBesides
import Derived.Handy
import Derived.Lib.Hide
import Derived.BigQuiet
import Derived.Test.YticoemblgkemiaaGreatDoorZWxRefA
set_option linter.unusedSimpArgs false
set_option linter.unusedVariables false
namespace Go.Proofs.YticoemblgkemiaaGreatDoor
open Go.RowKit
end Go.Proofs.YticoemblgkemiaaGreatDoor
namespace Go.Proofs.YticoemblgkemiaaGreatDoor
open Go.RowKit
end Go.Proofs.YticoemblgkemiaaGreatDoor
namespace Go.Proofs.YticoemblgkemiaaGreatDoor
open Go.RowKit
def Q2h (r:Nat):List (Nat×Option Nat):=match r with
 | 0=>kpn [0,1,2]
 | 1=>[(4,none)]
 | _=>[]
def QIU (r:Nat):List (Nat×Option Nat):=match r with
 | 0=>kpn [0,1]
 | 1=>kpn [0,1,7,8]
 | 2=>kpn [0,1,7,8,9]
 | 3=>kpn [0,1,5,7,8]
 | 4=>kpn [0,1,5,7,8,16]
 | 5=>[(4,none)]
 | 6=>kpn [0,1,7,8]
 | 7=>[(4,none)]
 | _=>[]
def QN4 (r:Nat):List (Nat×Option Nat):=match r with
 | 0=>kpn [0,1]
 | 1=>[(4,none)]
 | _=>[]
def QZt (r:Nat):List (Nat×Option Nat):=match r with
 | 0=>kpn [2,3,4]
 | 1=>[(6,none)]
 | _=>[]
def QYF:Cod (Int×Int):=⟨fun p=> .fn 180 [] [.dat 1 [[DI p.1]] 0 0,.dat 1 [[DI p.2]] 0 0],fun d=>match d with | .fn 180 [] [.dat 1 [[.v (.int .i64 a)]] 0 0,.dat 1 [[.v (.int .i64 b)]] 0 0]=>some (a,b) | _=>none,fun d x h=>by
 split at h
 ·cases h; exact DImp.refl _
 ·cases h⟩
theorem QUo (p:Int×Int):QYF.enc p= .fn 180 [] [.dat 1 [[DI p.1]] 0 0,.dat 1 [[DI p.2]] 0 0]:=rfl
theorem QUf (a b:Int):QYF.dec (.fn 180 [] [.dat 1 [[DI a]] 0 0,.dat 1 [[DI b]] 0 0])=some (a,b):=rfl
def QWt:List D→Option D:=sp3 QaY Qp7 Qp7 QaW fun n lo hi=>some (!inR n lo hi)
theorem Q1L:∀ds d,QWt ds=some d→PureC Tryz.prog 180 ds d:=QcN fun n lo hi r hr=>by
 cases hr;refine Qf (QP1 Qs 13 Q2h []) Tryz.func180 rfl rfl (Nat.le_of_ble_eq_true rfl) (by kernel_rfl) ?_
 rw[Tryz.results180];unfold inR;by_cases h:n < lo
 ·have h':¬lo≤n:=by omega
  simp[Q2h,QdG,h,h']
 ·have h':lo≤n:=by omega
  by_cases h2:hi < n
  ·have h2':¬n≤hi:=by omega
   simp[Q2h,QdG,h,h',h2,h2']
  ·have h2':n≤hi:=by omega
   simp[Q2h,QdG,h,h',h2,h2']
theorem QYG (xs:Array Value) (w:World):(callFunc 180 xs).run Tryz.prog w= .ok (.enter 180 xs) w:=by kernel_rfl
def p1Wx:List (Nat×(List D→Option D)):=[(180,QWt)]
theorem Q1I:QaE Tryz.prog (Qaw p1Wx):=Qh Qs QYG Q1L
def QNz:List D→Option D:=sp2 (QJ QH) QYF QaY fun l p=>if l.length < 1000000 then some (QBs (fun n=>!inR n p.1 p.2) l)else none
set_option maxHeartbeats 1000000 in
theorem QOh:∀ds d,QNz ds=some d→PureC Tryz.prog 193 ds d:=Qay fun l p r hr=>by
 split at hr
 ·rename_i hlm;cases hr;obtain⟨lo,hi⟩:=p;refine Qf (QP1 Q1I 19 QIU []) Tryz.func193 rfl rfl (Nat.le_of_ble_eq_true rfl) (by kernel_rfl) ?_
  rw[Tryz.results193];simp[QIU,QUo];rcases Qeo (fun n=>!inR n lo hi) l with⟨e1,_,hall⟩ | ⟨k,hk,e1,_,hbad,hgood⟩
  ·rw[e1]
   (generalize hLoopQ:Cx.loop _ _ _=rLoopQ; apply Qi hLoopQ (fun k=>⟨[(0,.d (.sl 1 (l.map QH.enc))),(1,.d (.fn 180 [] [.dat 1 [[DI lo]] 0 0,.dat 1 [[DI hi]] 0 0])),(7,.d (DI l.length)),(8,.d (DI k))],[],[],[]⟩) l.length rfl; rotate_left; (show _ < 281474976710656; omega); rfl; rotate_left; all_goals clear hLoopQ)
   ·intro j hj;have w1:=Qa ((j:Int)+1) (by omega) (by omega)
    have hjl:(j:Int) < l.length:=by omega
    have hn:=hall j hj;have hn':inR l[j] lo hi=true:=by simpa using hn
    simp[QIU,p1Wx,QWt,QdI,hj,hjl,hn',w1]
   ·simp[QIU]
  ·rw[e1]
   (generalize hLoopQ:Cx.loop _ _ _=rLoopQ; apply Qi hLoopQ (fun k=>⟨[(0,.d (.sl 1 (l.map QH.enc))),(1,.d (.fn 180 [] [.dat 1 [[DI lo]] 0 0,.dat 1 [[DI hi]] 0 0])),(7,.d (DI l.length)),(8,.d (DI k))],[],[],[]⟩) k rfl; rotate_left; (show _ < 281474976710656; omega); rfl; rotate_left; all_goals clear hLoopQ)
   ·intro j hj';have hj:j < l.length:=by omega
    have w1:=Qa ((j:Int)+1) (by omega) (by omega)
    have hjl:(j:Int) < l.length:=by omega
    have hn:=hgood j hj hj';have hn':inR l[j] lo hi=true:=by simpa using hn
    simp[QIU,p1Wx,QWt,QdI,hj,hjl,hn',w1]
   ·have hkl:(k:Int) < l.length:=by omega
    have hn':inR l[k] lo hi=false:=by simpa using hbad
    simp[QIU,p1Wx,QWt,QdI,hk,hkl,hn']
 ·cases hr
theorem QEh (xs:Array Value) (w:World):(callFunc 193 xs).run Tryz.prog w= .ok (.enter 193 xs) w:=by kernel_rfl
def QR9:List (Nat×(List D→Option D)):=(193,QNz)::p1Wx
theorem Q00:QaE Tryz.prog (Qaw QR9):=Qh Q1I QEh QOh
def s78:List D→Option D:=sp2 (QJ QH) QYF QaW fun l p=>if l.length < 1000000 then some (l.any fun n=>!inR n p.1 p.2)else none
theorem ok78:∀ds d,s78 ds=some d→PureC Tryz.prog 179 ds d:=Qay fun l p r hr=>by
 split at hr
 ·rename_i hlm;cases hr;obtain⟨lo,hi⟩:=p;refine Qf (QP1 Q00 9 QN4 []) Tryz.func179 rfl rfl (Nat.le_of_ble_eq_true rfl) (by kernel_rfl) ?_
  rw[Tryz.results179];have hp:=QrS (fun n=>!inR n lo hi) l;rw[←hp];simp[QN4,QR9,QNz,QUo,QUf,hlm]
 ·cases hr
theorem QCV (xs:Array Value) (w:World):(callFunc 179 xs).run Tryz.prog w= .ok (.enter 179 xs) w:=by kernel_rfl
def QUb:List (Nat×(List D→Option D)):=(179,s78)::QR9
theorem Q2m:QaE Tryz.prog (Qaw QUb):=Qh Q00 QCV ok78
def QQI:List D→Option D:=sp3 QaY QaY (QJ QH) QaW fun lo hi l=>if l.length < 1000000 then some (Qk3 lo hi l)else none
theorem QTC:∀ds d,QQI ds=some d→PureC Tryz.prog 100 ds d:=QcN fun lo hi l r hr=>by
 split at hr
 ·rename_i hlm;cases hr;refine Qf (QP1 Q2m 10 QZt []) Tryz.func100 rfl rfl (Nat.le_of_ble_eq_true rfl) (by kernel_rfl) ?_
  rw[Tryz.results100];unfold Qk3;simp[QZt,QUb,s78,QUf,hlm]
 ·cases hr
theorem QRK (xs:Array Value) (w:World):(callFunc 100 xs).run Tryz.prog w= .ok (.enter 100 xs) w:=by kernel_rfl
instance (s:ByteArray):Decidable (QAO s):=inferInstanceAs (Decidable (_≤_))
def QSr:List D→Option D:=sp1 Qoe QaW fun s=>if QAO s then some (Qbz s)else none
theorem QXp:∀ds d,QSr ds=some d→PureC Tryz.prog 77 ds d:=Qbr fun s r hr=>by
 split at hr
 ·rename_i hs;cases hr;refine Qf1 fun m w vs hm hG hr=>?_;simp only[RelL,Rel,Qdr]at hr;obtain⟨v,t,rfl,rfl,rfl⟩:=hr;refine⟨_,QAp s w hs,fun m' w'=>?_⟩;rw[QtA,QkF];simp[Rel]
 ·cases hr
theorem QT1 (xs:Array Value) (w:World):(callFunc 77 xs).run Tryz.prog w= .ok (.enter 77 xs) w:=by kernel_rfl
theorem QUj {f:Nat} {v:Value} (h:QGr f v=true):v= .func (.func f) #[] #[]:=by
 unfold QGr at h;split at h
 ·simp only[Bool.and_eq_true,beq_iff_eq,Array.isEmpty_iff]at h;obtain⟨⟨rfl,rfl⟩,rfl⟩:=h;rfl
 ·cases h
theorem QXe (f g:Nat):QGr f (.func (.func g) #[] #[])=(g==f):=by simp[QGr]
def cFn (f:Nat):Cod Unit:=⟨fun _=> .v (.func (.func f) #[] #[]),fun d=>match d with | .v x=>if QGr f x then some ()else none | _=>none,fun d x h=>by
 split at h
 ·split at h
  ·rename_i hf; rw[QUj hf]; exact DImp.refl _
  ·cases h
 ·cases h⟩
theorem QRa (f:Nat) (u:Unit):(cFn f).enc u= .v (.func (.func f) #[] #[]):=rfl
theorem QRS (f g:Nat):(cFn f).dec (.v (.func (.func g) #[] #[]))=if g=f then some ()else none:=by
 simp only[cFn,QXe,beq_iff_eq]
def QXc (f:Nat):Cod Unit:=⟨fun _=> .dat 1 [[.v (.func (.func f) #[] #[])]] 0 0,fun d=>match d with | .dat 1 [[.v x]] 0 0=>if QGr f x then some ()else none | _=>none,fun d x h=>by
 split at h
 ·split at h
  ·rename_i hf; rw[QUj hf]; exact DImp.refl _
  ·cases h
 ·cases h⟩
theorem QVp (f:Nat) (u:Unit):(QXc f).enc u= .dat 1 [[.v (.func (.func f) #[] #[])]] 0 0:=rfl
theorem QRI (f g:Nat):(QXc f).dec (.dat 1 [[.v (.func (.func g) #[] #[])]] 0 0)=if g=f then some ()else none:=by
 simp only[QXc,QXe,beq_iff_eq]
def QRM:Cod ByteArray:=⟨fun s=> .dat 1 [[DS s]] 0 0,fun d=>match d with | .dat 1 [[.v (.string s)]] 0 0=>some s | _=>none,fun d x h=>by
 split at h
 ·cases h; exact DImp.refl _
 ·cases h⟩
theorem QUr (s:ByteArray):QRM.enc s= .dat 1 [[DS s]] 0 0:=rfl
theorem QRb (s:ByteArray):QRM.dec (.dat 1 [[DS s]] 0 0)=some s:=rfl
theorem QUX {g:Nat} {a b:List D} (h:LImp a b):DImp (.fn g [] a) (.fn g [] b):=fun m w v hr=>by
 simp only[Rel]at hr⊢;obtain⟨fs,cs,h1,h2,h3⟩:=hr;exact⟨fs,cs,h1,h2,h.rel h3⟩
theorem QSZ {k:Nat} {a b:List D} (h:LImp a b):DImp (.dat k [a] 0 0) (.dat k [b] 0 0):=fun m w v hr=>by
 simp only[Rel,RelRows]at hr⊢;obtain⟨h0,blk,o,h1,⟨h2,h3⟩,_⟩:=hr;exact⟨by simp,blk,o,h1,⟨by rw[←h.length]; exact h2,h.cells h3⟩,trivial⟩
def QU5 (s t:List D→Option D):List D→Option D:=fun ds=>match s ds with | some d=>some d | none=>t ds
attribute [simp] QU5
theorem Q2W {P:Program} {f:Nat} {s t:List D→Option D} (h1:∀ds d,s ds=some d→PureC P f ds d) (h2:∀ds d,t ds=some d→PureC P f ds d):∀ds d,QU5 s t ds=some d→PureC P f ds d:=fun ds d h=>by
 unfold QU5 at h;split at h
 ·rename_i d' hd; simp only[Option.some.injEq]at h; subst h; exact h1 ds _ hd
 ·exact h2 ds d h
end Go.Proofs.YticoemblgkemiaaGreatDoor
