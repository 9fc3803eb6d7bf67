/-
  Reference functions of the wax chapter: what is read. Conditions: none.
-/
import Derived.Test.YticoemblgkemiaaGreatDoorZWxRefC
import Derived.Test.YticoemblgkemiaaGreatDoorZAmF
set_option linter.unusedSimpArgs false
set_option linter.unusedVariables false
namespace Go.Proofs.YticoemblgkemiaaGreatDoor
open Go.RowKit
def QUF (W:List ByteArray):Nat→List Prp
 | 0=>[]
 | j+1=>QUF W j++[⟨W.getD (2*j+1) ⟨#[]⟩,QO3 (W.getD (2*j+2) ⟨#[]⟩)⟩]
def QUg (W:List ByteArray):Nat→List Spn
 | 0=>[]
 | j+1=>QUg W j++[⟨QO3 (W.getD (2*j+1) ⟨#[]⟩),QO3 (W.getD (2*j+2) ⟨#[]⟩)⟩]
def QPj (W:List ByteArray):Nat:=(W.length - 1) / 2
def Qxc (L:List ByteArray):Nat→Tbl
 | 0=>⟨[],[],0⟩
 | i+1=>⟨if i=0 then QUF (QJM (L.getD i ⟨#[]⟩) 32) (QPj (QJM (L.getD i ⟨#[]⟩) 32))else(Qxc L i).props,
   if 1 < i then(Qxc L i).kinds++[⟨(QJM (L.getD i ⟨#[]⟩) 32).getD 0 ⟨#[]⟩,QUg (QJM (L.getD i ⟨#[]⟩) 32) (QPj (QJM (L.getD i ⟨#[]⟩) 32))⟩]else(Qxc L i).kinds,
   if i=1∧(QJM (L.getD i ⟨#[]⟩) 32).length=2 then QO3 ((QJM (L.getD i ⟨#[]⟩) 32).getD 1 ⟨#[]⟩)else(Qxc L i).purity⟩
def QUZ (s:ByteArray):Tbl:=Qxc (QJM s 10) ((QJM s 10).length - 1)
@[simp] theorem propsW_zero (W : List ByteArray) : QUF W 0 = [] := rfl
@[simp] theorem spansW_zero (W : List ByteArray) : QUg W 0 = [] := rfl
def kb76:List (Nat×Nat×Nat):=[(3,0,1002),(3,1,2),(7,1,2)]
attribute [local simp] kb76
end Go.Proofs.YticoemblgkemiaaGreatDoor
namespace Go.Proofs.YticoemblgkemiaaGreatDoor
open Go.RowKit
def noT:Tbl:=⟨[],[],0⟩
def Q2H (s:ByteArray):Tbl×Int:=if 2000 < s.size then(noT,3)else if okT (QUZ s)∧(QQy (QUZ s)).toList=s.toList then(QUZ s,0)else(noT,6)
theorem Q0h:QRf.dec [.sl 0 [],.sl 0 [],DI 0]=some noT:=rfl
def s35:List D→Option D:=sp1 Qoe (Qgw (Qcf QRf) QaY) fun s=>some (Q2H s)
theorem QPq {α:Type} {q:α→α→Bool} {d:α} {a b:List α} (hq:∀x y,q x y=true↔x=y):eqI q d a b=true↔a=b:=by
 rw[Qh5];constructor
 ·rintro⟨h1,h2⟩;refine List.ext_getElem h1 fun i hi hi'=>?_;have:=(hq _ _).1 (h2 i hi)
  rwa [Ql _ _ _ hi,Ql _ _ _ hi']at this
 ·rintro rfl;exact⟨rfl,fun i _=>(hq _ _).2 rfl⟩
def Q0P (a b:Spn):Bool:=[a.lo,a.hi]==[b.lo,b.hi]
theorem QZe {a b:Spn} :Q0P a b=true↔a=b:=by
 obtain⟨a1,a2⟩:=a;obtain⟨b1,b2⟩:=b;simp[Q0P]
def QZx (a b:List Spn):Bool:=eqI Q0P default a b
theorem QV4 {a b:List Spn} :QZx a b=true↔a=b:=QPq fun x y=>QZe
def QzK (r:Nat):List (Nat×Option Nat):=match r with
 | 0=>kpn [0,1]
 | 1=>kpn [0,1,10]
 | 2=>[(4,none)]
 | 3=>kpn [0,1,5]
 | 4=>kpn [0,1,5,14]
 | 5=>kpn [0,1,5]
 | 6=>kpn [0,1,5,25]
 | 7=>[(4,none)]
 | 8=>[(4,none)]
 | _=>[]
def QZl (r:Nat):List (Nat×Option Nat):=match r with
 | 0=>kpn [0,1]
 | 1=>kpn [0,1,10]
 | 2=>[(4,none)]
 | 3=>kpn [0,1,5]
 | 4=>kpn [0,1,5,14]
 | 5=>kpn [0,1,5]
 | 6=>kpn [0,1,5,25]
 | 7=>[(4,none)]
 | 8=>[(4,none)]
 | _=>[]
def QTH (r:Nat):List (Nat×Option Nat):=match r with
 | 0=>kpn [2,3]
 | 1=>kpn [2,3,29]
 | 2=>[(4,none)]
 | 3=>kpn [2,3,5]
 | 4=>kpn [2,3,5,34]
 | 5=>kpn [2,3,5]
 | 6=>kpn [2,3,5,47]
 | 7=>[(4,none)]
 | 8=>kpn [2,3,6]
 | 9=>kpn [2,3,6,52]
 | 10=>kpn [2,3,6]
 | 11=>kpn [2,3,6,83]
 | 12=>[(4,none)]
 | 13=>[(4,none)]
 | _=>[]
def s27:List D→Option D:=sp2 (QJ QH) (QJ QH) QaW fun a b=>if a.length < 1000000 then some (eqI QzU 0 a b)else none
theorem ok27:∀ds d,s27 ds=some d→PureC Tryz.prog 79 ds d:=Qay fun a b r hr=>by
 split at hr
 ·rename_i hlm;cases hr;refine Qf (QP1 Qs 26 QzK []) Tryz.func79 rfl rfl (Nat.le_of_ble_eq_true rfl) (by kernel_rfl) ?_
  rw[Tryz.results79];by_cases hl:a.length=b.length
  ·rcases Qbf (fun i=>QzU (a.getD i 0) (b.getD i 0)) a.length with hall | ⟨k,hk,hbad,hgood⟩
   ·rw[Qh5.2 ⟨hl,hall⟩];simp[QzK,Qn,hl]
    (generalize hLoopQ:Cx.loop _ _ _=rLoopQ; apply Qi hLoopQ (fun k=>⟨[(0,.d (.sl 1 (a.map QH.enc))),(1,.d (.sl 1 (b.map QH.enc))),(5,.d (DI k))],[],[],[]⟩) a.length rfl; rotate_left; (show _ < 281474976710656; omega); rfl; rotate_left; all_goals clear hLoopQ)
    ·intro j hj;have w1:=Qa ((j:Int)+1) (by omega) (by omega)
     have hjl:(j:Int) < a.length:=by omega
     have hj':j < b.length:=by omega
     have hjl':(j:Int) < b.length:=by omega
     have hx:=hall j hj;rw[Ql _ _ _ hj,Ql _ _ _ hj']at hx;have hx0:a[j]=b[j]:=by simpa[QzU]using hx
     have hx:(a[j] != b[j])=false:=by simp[hx0]
     simp[QzK,Qd,hj,hj',hjl,hjl',hx,w1]
    ·simp[QzK,hl]
   ·rw[Qwi hk hbad];simp[QzK,Qn,hl]
    (generalize hLoopQ:Cx.loop _ _ _=rLoopQ; apply Qi hLoopQ (fun k=>⟨[(0,.d (.sl 1 (a.map QH.enc))),(1,.d (.sl 1 (b.map QH.enc))),(5,.d (DI k))],[],[],[]⟩) k rfl; rotate_left; (show _ < 281474976710656; omega); rfl; rotate_left; all_goals clear hLoopQ)
    ·intro j hj0;have hj:j < a.length:=by omega
     have w1:=Qa ((j:Int)+1) (by omega) (by omega)
     have hjl:(j:Int) < a.length:=by omega
     have hj':j < b.length:=by omega
     have hjl':(j:Int) < b.length:=by omega
     have hx:=hgood j hj0;rw[Ql _ _ _ hj,Ql _ _ _ hj']at hx;have hx0:a[j]=b[j]:=by simpa[QzU]using hx
     have hx:(a[j] != b[j])=false:=by simp[hx0]
     simp[QzK,Qd,hj,hj',hjl,hjl',hx,w1]
    ·have hjl:(k:Int) < a.length:=by omega
     have hk':k < b.length:=by omega
     have hjl':(k:Int) < b.length:=by omega
     have hx:=hbad;rw[Ql _ _ _ hk,Ql _ _ _ hk']at hx;have hx:(a[k] != b[k])=true:=by simpa[QzU]using hx
     simp[QzK,Qd,hk,hk',hjl,hjl',hx]
  ·rw[QwR hl];have hl':((a.length:Int) != (b.length:Int))=true:=bne_iff_ne.2 (by omega)
   simp[QzK,Qn,hl']
 ·cases hr
theorem QJl (xs:Array Value) (w:World):(callFunc 79 xs).run Tryz.prog w= .ok (.enter 79 xs) w:=by kernel_rfl
def s77:List D→Option D:=sp2 (QJ QP7) (QJ QP7) QaW fun a b=>if a.length < 1000000 then some (eqI Q0P default a b)else none
theorem ok77:∀ds d,s77 ds=some d→PureC Tryz.prog 156 ds d:=Qay fun a b r hr=>by
 split at hr
 ·rename_i hlm;cases hr;refine Qf (QP1 Qs 26 QZl []) Tryz.func156 rfl rfl (Nat.le_of_ble_eq_true rfl) (by kernel_rfl) ?_
  rw[Tryz.results156];by_cases hl:a.length=b.length
  ·rcases Qbf (fun i=>Q0P (a.getD i default) (b.getD i default)) a.length with hall | ⟨k,hk,hbad,hgood⟩
   ·rw[Qh5.2 ⟨hl,hall⟩];simp[QZl,QP6,hl]
    (generalize hLoopQ:Cx.loop _ _ _=rLoopQ; apply Qi hLoopQ (fun k=>⟨[(0,.d (.sl 2 (a.map QP7.enc))),(1,.d (.sl 2 (b.map QP7.enc))),(5,.d (DI k))],[],[],[]⟩) a.length rfl; rotate_left; (show _ < 281474976710656; omega); rfl; rotate_left; all_goals clear hLoopQ)
    ·intro j hj;have w1:=Qa ((j:Int)+1) (by omega) (by omega)
     have hjl:(j:Int) < a.length:=by omega
     have hj':j < b.length:=by omega
     have hjl':(j:Int) < b.length:=by omega
     have hx:=hall j hj;rw[Ql _ _ _ hj,Ql _ _ _ hj']at hx;have hx:([a[j].lo,a[j].hi] != [b[j].lo,b[j].hi])=false:=by unfold bne; rw[show([a[j].lo,a[j].hi]==[b[j].lo,b[j].hi])=true from hx]; rfl
     simp[QZl,QP0,hj,hj',hjl,hjl',hx,w1]
    ·simp[QZl,hl]
   ·rw[Qwi hk hbad];simp[QZl,QP6,hl]
    (generalize hLoopQ:Cx.loop _ _ _=rLoopQ; apply Qi hLoopQ (fun k=>⟨[(0,.d (.sl 2 (a.map QP7.enc))),(1,.d (.sl 2 (b.map QP7.enc))),(5,.d (DI k))],[],[],[]⟩) k rfl; rotate_left; (show _ < 281474976710656; omega); rfl; rotate_left; all_goals clear hLoopQ)
    ·intro j hj0;have hj:j < a.length:=by omega
     have w1:=Qa ((j:Int)+1) (by omega) (by omega)
     have hjl:(j:Int) < a.length:=by omega
     have hj':j < b.length:=by omega
     have hjl':(j:Int) < b.length:=by omega
     have hx:=hgood j hj0;rw[Ql _ _ _ hj,Ql _ _ _ hj']at hx;have hx:([a[j].lo,a[j].hi] != [b[j].lo,b[j].hi])=false:=by unfold bne; rw[show([a[j].lo,a[j].hi]==[b[j].lo,b[j].hi])=true from hx]; rfl
     simp[QZl,QP0,hj,hj',hjl,hjl',hx,w1]
    ·have hjl:(k:Int) < a.length:=by omega
     have hk':k < b.length:=by omega
     have hjl':(k:Int) < b.length:=by omega
     have hx:=hbad;rw[Ql _ _ _ hk,Ql _ _ _ hk']at hx;have hx:([a[k].lo,a[k].hi] != [b[k].lo,b[k].hi])=true:=by unfold bne; rw[show([a[k].lo,a[k].hi]==[b[k].lo,b[k].hi])=false from hx]; rfl
     simp[QZl,QP0,hk,hk',hjl,hjl',hx]
  ·rw[QwR hl];have hl':((a.length:Int) != (b.length:Int))=true:=bne_iff_ne.2 (by omega)
   simp[QZl,QP6,hl']
 ·cases hr
theorem Q1H (xs:Array Value) (w:World):(callFunc 156 xs).run Tryz.prog w= .ok (.enter 156 xs) w:=by kernel_rfl
def Q0M (a b:Prp):Bool:=(a.name.toList==b.name.toList)&&(a.err==b.err)
def Q0J (a b:Knd):Bool:=(a.name.toList==b.name.toList)&&QZx a.props b.props
def Q1b (x y:Tbl):Bool:=decide (x.purity=y.purity)&&eqI Q0M default x.props y.props&&eqI Q0J default x.kinds y.kinds
theorem QPJ {a b:ByteArray} :(a.toList==b.toList)=true↔a=b:=by
 rw[beq_iff_eq,ByteArray.toList_eq,ByteArray.toList_eq];exact⟨fun h=>ByteArray.ext (Array.toList_inj.1 h),fun h=>by rw[h]⟩
theorem QYK (a b:Prp):Q0M a b=true↔a=b:=by
 obtain⟨a1,a2⟩:=a;obtain⟨b1,b2⟩:=b;unfold Q0M;rw[Bool.and_eq_true,QPJ];simp
theorem QY3 (a b:Knd):Q0J a b=true↔a=b:=by
 obtain⟨a1,a2⟩:=a;obtain⟨b1,b2⟩:=b;unfold Q0J;rw[Bool.and_eq_true,QPJ,QV4];simp
theorem QZd {x y:Tbl} :Q1b x y=true↔x=y:=by
 obtain⟨p,k,u⟩:=x;obtain⟨p',k',u'⟩:=y;unfold Q1b;rw[Bool.and_eq_true,Bool.and_eq_true,QPq QYK,QPq QY3];simp;constructor
 ·rintro⟨⟨a,b⟩,c⟩; exact⟨b,c,a⟩
 ·rintro⟨a,b,c⟩; exact⟨⟨c,a⟩,b⟩
def Q2U (x:Tbl):Prop:=x.props.length < 1000000∧x.kinds.length < 1000000∧∀k∈x.kinds,k.props.length < 1000000
instance (x:Tbl):Decidable (Q2U x):=inferInstanceAs (Decidable (_∧_∧∀k∈x.kinds,_))
def g36:List (Nat×(List D→Option D)):=[(156,s77)]
theorem dg36:QaE Tryz.prog (Qaw g36):=Qh Qs Q1H ok77
def s36:List D→Option D:=sp2 (Qcf QRf) (Qcf QRf) QaW fun x y=>if Q2U x then some (Q1b x y)else none
set_option maxHeartbeats 4000000 in
theorem ok36:∀ds d,s36 ds=some d→PureC Tryz.prog 81 ds d:=Qay fun x y r hr=>by
 split at hr
 ·rename_i hlim;cases hr;obtain⟨QQ1,QWC,QWZ⟩:=hlim;refine Qf (QP1 dg36 84 QTH []) Tryz.func81 rfl rfl (Nat.le_of_ble_eq_true rfl) (by kernel_rfl) ?_
  rw[Tryz.results81];unfold Q1b;by_cases h1:x.props.length=y.props.length
  ·by_cases h2:x.kinds.length=y.kinds.length
   ·by_cases h3:x.purity=y.purity
    ·have hP:∀j,j < x.props.length→∃(hj:j < x.props.length) (hj':j < y.props.length),(j:Int) < x.props.length∧(j:Int) < y.props.length∧Q0M (x.props.getD j default) (y.props.getD j default)=((x.props[j].name.toList==y.props[j].name.toList)&&(x.props[j].err==y.props[j].err)):=fun j hj=>by
      have hj':j < y.props.length:=by omega
      exact⟨hj,hj',by omega,by omega,by rw[Ql _ _ _ hj,Ql _ _ _ hj']; rfl⟩
     have hK:∀j,j < x.kinds.length→∃(hj:j < x.kinds.length) (hj':j < y.kinds.length),(j:Int) < x.kinds.length∧(j:Int) < y.kinds.length∧Q0J (x.kinds.getD j default) (y.kinds.getD j default)=((x.kinds[j].name.toList==y.kinds[j].name.toList)&&eqI Q0P default x.kinds[j].props y.kinds[j].props)∧x.kinds[j].props.length < 1000000:=fun j hj=>by
      have hj':j < y.kinds.length:=by omega
      exact⟨hj,hj',by omega,by omega,by rw[Ql _ _ _ hj,Ql _ _ _ hj']; rfl,QWZ _ (List.getElem_mem hj)⟩
     rcases Qbf (fun i=>Q0M (x.props.getD i default) (y.props.getD i default)) x.props.length with hall | ⟨k,hk,hbad,hgood⟩
     ·rw[Qh5.2 ⟨h1,hall⟩];rcases Qbf (fun i=>Q0J (x.kinds.getD i default) (y.kinds.getD i default)) x.kinds.length with hall2 | ⟨k,hk,hbad,hgood⟩
      ·rw[Qh5.2 ⟨h2,hall2⟩];simp[QTH,QPZ,QP9,QP5,h1,h2,h3]
       (generalize hLoopQ:Cx.loop _ _ _=rLoopQ; apply Qi hLoopQ (fun k=>⟨[(2,.loc 2 0),(3,.loc 3 0),(5,.d (DI k))],[(2,[.d (.sl 2 (x.props.map QQt.enc)),.d (.sl 2 (x.kinds.map QQw.enc)),.d (DI y.purity)]),(3,[.d (.sl 2 (y.props.map QQt.enc)),.d (.sl 2 (y.kinds.map QQw.enc)),.d (DI y.purity)])],[],[]⟩) x.props.length rfl; rotate_left; (show _ < 281474976710656; omega); rfl; rotate_left; all_goals clear hLoopQ)
       ·intro j hj0;have hjx:j < x.props.length:=by omega
        have w1:=Qa ((j:Int)+1) (by omega) (by omega)
        obtain⟨hj1,hj2,hj3,hj4,hj5⟩:=hP j hjx;have hx:=hall j hjx;rw[hj5]at hx;simp[QTH,QP2,hj1,hj2,hj3,hj4,hx,w1]
       ·simp[QTH,h1]
        (generalize hLoopQ:Cx.loop _ _ _=rLoopQ; apply Qi hLoopQ (fun k=>⟨[(2,.loc 2 0),(3,.loc 3 0),(6,.d (DI k))],[(2,[.d (.sl 2 (x.props.map QQt.enc)),.d (.sl 2 (x.kinds.map QQw.enc)),.d (DI y.purity)]),(3,[.d (.sl 2 (y.props.map QQt.enc)),.d (.sl 2 (y.kinds.map QQw.enc)),.d (DI y.purity)])],[],[]⟩) x.kinds.length rfl; rotate_left; (show _ < 281474976710656; omega); rfl; rotate_left; all_goals clear hLoopQ)
        ·intro j hj0;have hjx:j < x.kinds.length:=by omega
         have w1:=Qa ((j:Int)+1) (by omega) (by omega)
         obtain⟨hj1,hj2,hj3,hj4,hj5,hj6⟩:=hK j hjx;have hx:=hall2 j hjx;rw[hj5,Bool.and_eq_true]at hx;obtain⟨hx1,hx2⟩:=hx;simp[QTH,g36,s77,QP3,QQd,hj1,hj2,hj3,hj4,hj6,hx1,hx2,w1]
        ·simp[QTH,h2]
      ·rw[Qwi hk hbad];simp[QTH,QPZ,QP9,QP5,h1,h2,h3]
       (generalize hLoopQ:Cx.loop _ _ _=rLoopQ; apply Qi hLoopQ (fun k=>⟨[(2,.loc 2 0),(3,.loc 3 0),(5,.d (DI k))],[(2,[.d (.sl 2 (x.props.map QQt.enc)),.d (.sl 2 (x.kinds.map QQw.enc)),.d (DI y.purity)]),(3,[.d (.sl 2 (y.props.map QQt.enc)),.d (.sl 2 (y.kinds.map QQw.enc)),.d (DI y.purity)])],[],[]⟩) x.props.length rfl; rotate_left; (show _ < 281474976710656; omega); rfl; rotate_left; all_goals clear hLoopQ)
       ·intro j hj0;have hjx:j < x.props.length:=by omega
        have w1:=Qa ((j:Int)+1) (by omega) (by omega)
        obtain⟨hj1,hj2,hj3,hj4,hj5⟩:=hP j hjx;have hx:=hall j hjx;rw[hj5]at hx;simp[QTH,QP2,hj1,hj2,hj3,hj4,hx,w1]
       ·simp[QTH,h1]
        (generalize hLoopQ:Cx.loop _ _ _=rLoopQ; apply Qi hLoopQ (fun k=>⟨[(2,.loc 2 0),(3,.loc 3 0),(6,.d (DI k))],[(2,[.d (.sl 2 (x.props.map QQt.enc)),.d (.sl 2 (x.kinds.map QQw.enc)),.d (DI y.purity)]),(3,[.d (.sl 2 (y.props.map QQt.enc)),.d (.sl 2 (y.kinds.map QQw.enc)),.d (DI y.purity)])],[],[]⟩) k rfl; rotate_left; (show _ < 281474976710656; omega); rfl; rotate_left; all_goals clear hLoopQ)
        ·intro j hj0;have hjx:j < x.kinds.length:=by omega
         have w1:=Qa ((j:Int)+1) (by omega) (by omega)
         obtain⟨hj1,hj2,hj3,hj4,hj5,hj6⟩:=hK j hjx;have hx:=hgood j hj0;rw[hj5,Bool.and_eq_true]at hx;obtain⟨hx1,hx2⟩:=hx;simp[QTH,g36,s77,QP3,QQd,hj1,hj2,hj3,hj4,hj6,hx1,hx2,w1]
        ·obtain⟨hj1,hj2,hj3,hj4,hj5,hj6⟩:=hK k hk;rw[hj5]at hbad;rcases Bool.and_eq_false_iff.1 hbad with hx | hx
         ·have hx2:(!(x.kinds[k].name.toList==y.kinds[k].name.toList))=true:=by rw[hx]; rfl
          simp[QTH,QP3,hj1,hj2,hj3,hj4,hx,hx2]
         ·cases hx1:(x.kinds[k].name.toList==y.kinds[k].name.toList)
          ·simp[QTH,QP3,hj1,hj2,hj3,hj4,hx1]
          ·simp[QTH,g36,s77,QP3,QQd,hj1,hj2,hj3,hj4,hj6,hx,hx1]
     ·rw[Qwi hk hbad];simp[QTH,QPZ,QP9,QP5,h1,h2,h3]
      (generalize hLoopQ:Cx.loop _ _ _=rLoopQ; apply Qi hLoopQ (fun k=>⟨[(2,.loc 2 0),(3,.loc 3 0),(5,.d (DI k))],[(2,[.d (.sl 2 (x.props.map QQt.enc)),.d (.sl 2 (x.kinds.map QQw.enc)),.d (DI y.purity)]),(3,[.d (.sl 2 (y.props.map QQt.enc)),.d (.sl 2 (y.kinds.map QQw.enc)),.d (DI y.purity)])],[],[]⟩) k rfl; rotate_left; (show _ < 281474976710656; omega); rfl; rotate_left; all_goals clear hLoopQ)
      ·intro j hj0;have hjx:j < x.props.length:=by omega
       have w1:=Qa ((j:Int)+1) (by omega) (by omega)
       obtain⟨hj1,hj2,hj3,hj4,hj5⟩:=hP j hjx;have hx:=hgood j hj0;rw[hj5]at hx;simp[QTH,QP2,hj1,hj2,hj3,hj4,hx,w1]
      ·obtain⟨hj1,hj2,hj3,hj4,hj5⟩:=hP k hk;rw[hj5]at hbad;simp[QTH,QP2,hj1,hj2,hj3,hj4,hbad]
    ·have h3':(x.purity != y.purity)=true:=bne_iff_ne.2 h3;simp[QTH,QPZ,QP9,QP5,h1,h2,h3,h3']
   ·have h2':((x.kinds.length:Int) != (y.kinds.length:Int))=true:=bne_iff_ne.2 (by omega)
    rw[QwR (q:=Q0J) h2];simp[QTH,QPZ,QP9,QP5,h1,h2']
  ·have h1':((x.props.length:Int) != (y.props.length:Int))=true:=bne_iff_ne.2 (by omega)
   rw[QwR (q:=Q0M) h1];simp[QTH,QPZ,QP9,QP5,h1']
 ·cases hr
theorem Q1O (xs:Array Value) (w:World):(callFunc 81 xs).run Tryz.prog w= .ok (.enter 81 xs) w:=by kernel_rfl
end Go.Proofs.YticoemblgkemiaaGreatDoor
