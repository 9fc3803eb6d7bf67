/-
  Reference functions of the wax chapter: numbers, names, ranges, tables. Conditions: none.
-/
import Derived.Test.YticoemblgkemiaaGreatDoorZWxTys
set_option linter.unusedSimpArgs false
set_option linter.unusedVariables false
namespace Go.Proofs.YticoemblgkemiaaGreatDoor
open Go.RowKit
def Qk5 (r:Nat):List (Nat×Option Nat):=match r with
 | 0=>kpn [0,1,2]
 | 1=>[(6,none)]
 | _=>[]
def QIm (r:Nat):List (Nat×Option Nat):=match r with
 | 0=>kpn [0,1]
 | 1=>kpn [0,1,8]
 | 2=>[(4,none)]
 | 3=>kpn [0,1,5]
 | 4=>kpn [0,1,5,12]
 | 5=>kpn [0,1,5]
 | 6=>kpn [0,1,5,20]
 | 7=>[(4,none)]
 | 8=>[(4,none)]
 | _=>[]
def QOr (r:Nat):List (Nat×Option Nat):=match r with
 | 0=>kpn [1,2,3]
 | 1=>kpn [3,20]
 | 2=>[(6,none)]
 | 3=>[(25,none)]
 | 4=>[(6,none)]
 | 5=>[(6,none)]
 | _=>[]
def QXw (r:Nat):List (Nat×Option Nat):=match r with
 | 0=>kpn [0,1]
 | 1=>kpn [0,1,11]
 | 2=>[(4,none)]
 | 3=>kpn [0,1,5]
 | 4=>kpn [0,1,5,6]
 | 5=>kpn [0,1,5,6,14]
 | 6=>kpn [0,1,5,6]
 | 7=>kpn [0,1,5,6,7]
 | 8=>kpn [0,1,5,6,7,23]
 | 9=>[(4,none)]
 | 10=>kpn [0,1,5,6,7,26]
 | 11=>kpn [0,1,5,6]
 | 12=>[(4,none)]
 | _=>[]
def QQH (r:Nat):List (Nat×Option Nat):=match r with
 | 0=>[(1,none)]
 | 1=>kpn [1,21]
 | 2=>kpn [2,3,4]
 | 3=>kpn [1,25]
 | 4=>kpn [2,3,4]
 | 5=>[(1,none),(5,some 1)]
 | 6=>[(1,none),(5,some 1),(6,none)]
 | 7=>[(1,none),(5,some 1),(6,none),(30,none)]
 | 8=>[(1,none),(5,some 1),(6,none)]
 | 9=>[(1,none),(5,some 1),(6,none),(7,none)]
 | 10=>[(1,none),(5,some 1),(6,none),(7,none),(52,none)]
 | 11=>[(1,none),(5,some 1),(6,none),(7,none)]
 | 12=>[(1,none),(5,some 1),(6,none),(7,none),(54,none)]
 | 13=>kpn [2,3,4]
 | 14=>[(1,none),(5,some 1),(6,none)]
 | 15=>[(1,none),(5,some 1)]
 | 16=>[(1,none),(5,some 1),(8,none)]
 | 17=>[(1,none),(5,some 1),(8,none),(70,none)]
 | 18=>[(1,none),(5,some 1),(8,none)]
 | 19=>[(1,none),(5,some 1),(8,none),(9,none)]
 | 20=>[(1,none),(5,some 1),(8,none),(9,none),(82,none)]
 | 21=>[(1,none),(5,some 1),(8,none),(9,none)]
 | 22=>[(1,none),(5,some 1),(8,none),(9,none),(94,none)]
 | 23=>kpn [2,3,4]
 | 24=>[(1,none),(5,some 1),(8,none)]
 | 25=>kpn [2,3,4]
 | _=>[]
def QNN (r:Nat):List (Nat×Option Nat):=match r with
 | 0=>[(0,none)]
 | 1=>kpn [0,20]
 | 2=>[(2,none)]
 | 3=>kpn [0,3]
 | 4=>kpn [0,3,24]
 | 5=>kpn [0,3]
 | 6=>kpn [0,3,55]
 | 7=>[(2,none)]
 | 8=>[(2,none)]
 | _=>[]
def s58:List D→Option D:=sp3 QaY QaY QaY QaW fun n lo hi=>some (inR n lo hi)
theorem QPc:∀ds d,s58 ds=some d→PureC Tryz.prog 68 ds d:=QcN fun n lo hi r hr=>by
 cases hr;refine Qf (QP1 Qs 15 Qk5 []) Tryz.func68 rfl rfl (Nat.le_of_ble_eq_true rfl) (by kernel_rfl) ?_
 rw[Tryz.results68];unfold inR;by_cases h:lo≤n<;>simp[Qk5,h]
theorem Qy4 (xs:Array Value) (w:World):(callFunc 68 xs).run Tryz.prog w= .ok (.enter 68 xs) w:=by kernel_rfl
def QQ1:List (Nat×(List D→Option D)):=[(68,s58)]
theorem QUM:QaE Tryz.prog (Qaw QQ1):=Qh Qs Qy4 QPc
def s19:List D→Option D:=sp1 Qoe QaW fun s=>some (Qbz s)
theorem ok19:∀ds d,s19 ds=some d→PureC Tryz.prog 102 ds d:=Qbr fun s r hr=>by
 cases hr;refine Qf (QP1 QUM 56 QNN []) Tryz.func102 rfl rfl (Nat.le_of_ble_eq_true rfl) (by kernel_rfl) ?_
 rw[Tryz.results102];cases h1:inR s.size 1 20 with
 | false=>simp[QNN,Qbz,h1,QQ1,s58,ty9]
 | true=>
  have hs:1≤(s.size:Int)∧(s.size:Int)≤20:=by simpa[inR]using h1
  have hsz:(0:Int) < (s.size:Int):=by omega
  have hsz2:0 < s.size:=by omega
  cases h2:QaL s 0==45 with
  | true=>simp[QNN,Qbz,h1,h2,QQ1,s58,ty9,ty5,hsz,hsz2]
  | false=>
   have hw:IntKind.i64.wrap ((s.size:Int) - 1)=((s.size - 1:Nat):Int):=by rw[Qa _ (by omega) (by omega)]; omega
   have hlt:((s.size - 1:Nat):Int) < (s.size:Int):=by omega
   cases h3:QaL s (s.size - 1)==45 with
   | true=>simp[QNN,Qbz,h1,h2,h3,QQ1,s58,ty9,ty5,hsz,hsz2,hw,hlt]
   | false=>
    have hcase:∀k,(QaL s k==45)=false∧(inR (QaL s k) 97 122=QzJ s k)∨(QaL s k==45)=true∧k=0∧QzJ s k=true∨(QaL s k==45)=true∧0 < k∧(QaL s (k - 1)==45)=!QzJ s k:=by
     intro k;unfold QzJ;cases hb:QaL s k==45 with
     | false=>left; simp
     | true=>
      right;by_cases hk:k=0
      ·left; simp[hk]
      ·right; simp; omega
    rcases Qbf (QzJ s) s.size with hall | ⟨k,hk,hbad,hgood⟩
    ·have hr:Qbz s=true:=by simp[Qbz,h1,h2,h3]; exact hall
     rw[hr];simp[QNN,h1,h2,h3,QQ1,s58,ty9,ty5,hsz,hsz2,hw,hlt];generalize hL:Cx.loop _ _ _=R;have hR:R=some (.exit 0,⟨[(0,.d (DS s)),(3,.d (DI s.size)),(24,.d (DB false))],[],[],[]⟩):=by
      rw[←hL];refine Qec (fun k=>⟨[(0,.d (DS s)),(3,.d (DI k))],[],[],[]⟩) _ _ s.size (by simp) (fun j hj=>?_) ?_ (by simp only[QUR,QbK]; omega)
      ·have hj':(j:Int) < (s.size:Int):=by omega
       have h2:=Qa ((j:Int)+1) (by omega) (by omega)
       have hn:=hall j hj;have hbd:=Qkr s j;have hwb:=Qa (QaL s j) (by omega) (by omega)
       rcases hcase j with⟨c1,c2⟩ | ⟨c1,c2,c3⟩ | ⟨c1,c2,c3⟩
       ·rw[hn]at c2;by_cases hj0:0 < j
        ·simp[QNN,ty9,ty5,ty3,hj,h2,c1,c2,hwb,QQ1,s58,hj0,bne]
        ·simp[QNN,ty9,ty5,ty3,hj,h2,c1,c2,hwb,QQ1,s58,hj0,bne]
       ·subst c2;simp[QNN,ty9,ty5,ty3,hj,h2,c1,QQ1,s58,bne,hsz,hsz2]
       ·rw[hn]at c3;have hw1:IntKind.i64.wrap ((j:Int) - 1)=((j - 1:Nat):Int):=by rw[Qa _ (by omega) (by omega)]; omega
        have hlt1:j - 1 < s.size:=by omega
        simp[QNN,ty9,ty5,ty3,hj,h2,c1,c3,c2,QQ1,s58,bne,hw1,hlt1]
      ·simp[QNN,ty9]
     rw[hR];simp[QNN]
    ·have hr:Qbz s=false:=by
      have:¬∀i,i < s.size→QzJ s i=true:=fun h=>by rw[h k hk]at hbad; cases hbad
      simp[Qbz,this]
     rw[hr];simp[QNN,h1,h2,h3,QQ1,s58,ty9,ty5,hsz,hsz2,hw,hlt];generalize hL:Cx.loop _ _ _=R;have hR:R=some (.ret,⟨[(2,.d (DB false))],[],[],[]⟩):=by
      rw[←hL];refine Qec (fun k=>⟨[(0,.d (DS s)),(3,.d (DI k))],[],[],[]⟩) _ _ k (by simp) (fun j hj=>?_) ?_ (by simp only[QUR,QbK]; omega)
      ·have hjs:j < s.size:=by omega
       have h2:=Qa ((j:Int)+1) (by omega) (by omega)
       have hn:=hgood j hj;have hbd:=Qkr s j;have hwb:=Qa (QaL s j) (by omega) (by omega)
       rcases hcase j with⟨c1,c2⟩ | ⟨c1,c2,c3⟩ | ⟨c1,c2,c3⟩
       ·rw[hn]at c2;by_cases hj0:0 < j
        ·simp[QNN,ty9,ty5,ty3,hjs,h2,c1,c2,hwb,QQ1,s58,hj0,bne]
        ·simp[QNN,ty9,ty5,ty3,hjs,h2,c1,c2,hwb,QQ1,s58,hj0,bne]
       ·subst c2;simp[QNN,ty9,ty5,ty3,hjs,h2,c1,QQ1,s58,bne,hsz,hsz2]
       ·rw[hn]at c3;have hw1:IntKind.i64.wrap ((j:Int) - 1)=((j - 1:Nat):Int):=by rw[Qa _ (by omega) (by omega)]; omega
        have hlt1:j - 1 < s.size:=by omega
        simp[QNN,ty9,ty5,ty3,hjs,h2,c1,c3,c2,QQ1,s58,bne,hw1,hlt1]
      ·have hbd:=Qkr s k;have hwb:=Qa (QaL s k) (by omega) (by omega)
       rcases hcase k with⟨c1,c2⟩ | ⟨c1,c2,c3⟩ | ⟨c1,c2,c3⟩
       ·rw[hbad]at c2;simp[QNN,ty9,ty5,ty3,hk,c1,c2,hwb,QQ1,s58,bne]
       ·rw[hbad]at c3; cases c3
       ·rw[hbad]at c3;have hw1:IntKind.i64.wrap ((k:Int) - 1)=((k - 1:Nat):Int):=by rw[Qa _ (by omega) (by omega)]; omega
        have hlt1:k - 1 < s.size:=by omega
        simp[QNN,ty9,ty5,ty3,hk,c1,c3,c2,QQ1,s58,bne,hw1,hlt1]
     rw[hR];simp[QNN]
theorem QIs (xs:Array Value) (w:World):(callFunc 102 xs).run Tryz.prog w= .ok (.enter 102 xs) w:=by kernel_rfl
def QWC:List (Nat×(List D→Option D)):=(102,s19)::QQ1
theorem del2:QaE Tryz.prog (Qaw QWC):=Qh QUM QIs ok19
def s59:List D→Option D:=sp2 Qoe (QJ Qg0) QaY fun s l=>if l.length < 1000000 then some (QQi s l)else none
theorem ok59:∀ds d,s59 ds=some d→PureC Tryz.prog 69 ds d:=Qay fun s l r hr=>by
 split at hr
 ·rename_i hlm;cases hr;refine Qf (QP1 del2 21 QIm []) Tryz.func69 rfl rfl (Nat.le_of_ble_eq_true rfl) (by kernel_rfl) ?_
  rw[Tryz.results69];unfold QQi;cases h1:Qbz s
  ·simp[QIm,QWC,s19,h1]
  ·rcases Qhs (fun x:ByteArray=>x.toList==s.toList) l with⟨e1,hall⟩ | ⟨k,hk,e1,hbad,hgood⟩
   ·rw[e1];simp[QIm,QWC,s19,h1]
    (generalize hLoopQ:Cx.loop _ _ _=rLoopQ; apply Qi hLoopQ (fun k=>⟨[(0,.d (DS s)),(1,.d (.sl 1 (l.map Qg0.enc))),(5,.d (DI k))],[],[],[]⟩) l.length rfl; rotate_left; (show _ < 281474976710656; omega); rfl; rotate_left; all_goals clear hLoopQ)
    ·intro j hj;have w1:=Qa ((j:Int)+1) (by omega) (by omega)
     have hjl:(j:Int) < l.length:=by omega
     have hn:=hall j hj;simp[QIm,hj,hjl,hn,w1]
    ·simp[QIm]
   ·rw[e1];simp[QIm,QWC,s19,h1]
    (generalize hLoopQ:Cx.loop _ _ _=rLoopQ; apply Qi hLoopQ (fun k=>⟨[(0,.d (DS s)),(1,.d (.sl 1 (l.map Qg0.enc))),(5,.d (DI k))],[],[],[]⟩) k rfl; rotate_left; (show _ < 281474976710656; omega); rfl; rotate_left; all_goals clear hLoopQ)
    ·intro j hj';have hj:j < l.length:=by omega
     have w1:=Qa ((j:Int)+1) (by omega) (by omega)
     have hjl:(j:Int) < l.length:=by omega
     have hn:=hgood j hj hj';simp[QIm,hj,hjl,hn,w1]
    ·have hkl:(k:Int) < l.length:=by omega
     simp[QIm,hk,hkl,hbad]
 ·cases hr
theorem QJ3 (xs:Array Value) (w:World):(callFunc 69 xs).run Tryz.prog w= .ok (.enter 69 xs) w:=by kernel_rfl
def s85:List D→Option D:=sp3 (Qcf QP7) QaY QaY QaY fun s lo hi=>some (QS9 s lo hi)
theorem ok85:∀ds d,s85 ds=some d→PureC Tryz.prog 147 ds d:=QcN fun s lo hi r hr=>by
 cases hr;refine Qf (QP1 QUM 26 QOr []) Tryz.func147 rfl rfl (Nat.le_of_ble_eq_true rfl) (by kernel_rfl) ?_
 rw[Tryz.results147];unfold QS9;cases h1:inR s.lo lo hi<;>cases h2:inR s.hi lo hi<;>by_cases h3:s.hi < s.lo<;>simp[QOr,QQ1,s58,QP0,h1,h2,h3]
theorem QMi (xs:Array Value) (w:World):(callFunc 147 xs).run Tryz.prog w= .ok (.enter 147 xs) w:=by kernel_rfl
theorem QSK (s:Spn):QQU s=0∨QQU s=2∨QQU s=7:=by
 unfold QQU QS9;split
 ·simp
 ·split<;>simp
def QWZ:List (Nat×(List D→Option D)):=(147,s85)::QQ1
theorem Q09:QaE Tryz.prog (Qaw QWZ):=Qh QUM QMi ok85
def QSW (l:List Spn) (k:Nat):Int:=if(l.take k).any (fun s=>QQU s==2)then 2 else 0
theorem QS3 {l:List Spn} {j:Nat} (h:j < l.length):QSW l (j+1)=if QQU l[j]=2 then 2 else QSW l j:=by
 unfold QSW;rw[List.take_succ_eq_append_getElem h,List.any_append];simp only[List.any_cons,List.any_nil,Bool.or_false,Bool.or_eq_true,beq_iff_eq];by_cases h1:QQU l[j]=2
 ·simp[h1]
 ·simp[h1]
def s60:List D→Option D:=sp2 (QJ QP7) QaY QaY fun l many=>if many≤99 then some (QQO l many)else none
set_option maxHeartbeats 1000000 in
theorem QOt:∀ds d,s60 ds=some d→PureC Tryz.prog 70 ds d:=Qay fun l many r hr=>by
 split at hr
 ·rename_i hlm0;cases hr;refine Qf (QP1 Q09 29 QXw []) Tryz.func70 rfl rfl (Nat.le_of_ble_eq_true rfl) (by kernel_rfl) ?_
  rw[Tryz.results70];unfold QQO;by_cases h1:(l.length:Int)=many
  ·subst h1;have hlm:l.length≤99:=by omega
   rw[if_neg (by simp)]
   rcases Qhs (fun s=>QQU s==7) l with⟨e1,hall⟩ | ⟨k,hk,e1,hbad,hgood⟩
   ·have e2:(if l.any (fun s=>QQU s==2)then(2:Int)else 0)=QSW l l.length:=by unfold QSW; rw[List.take_length]
    rw[e1,e2];simp[QXw,QP6]
    (generalize hLoopQ:Cx.loop _ _ _=rLoopQ; apply Qi hLoopQ (fun k=>⟨[(0,.d (.sl 2 (l.map QP7.enc))),(1,.d (DI l.length)),(5,.d (DI (QSW l k))),(6,.d (DI k))],[],[],[]⟩) l.length rfl; rotate_left; (show _ < 281474976710656; omega); rfl; rotate_left; all_goals clear hLoopQ)
    ·intro j hj;have w1:=Qa ((j:Int)+1) (by omega) (by omega)
     have hjl:(j:Int) < l.length:=by omega
     have hn:¬QQU l[j]=7:=by have:=hall j hj; simpa using this
     have hw:=QS3 hj;have hv:QS9 l[j] 0 100000=QQU l[j]:=rfl;rcases QSK l[j]with h | h | h
     ·rw[h]at hv hw;simp[QXw,QWZ,s85,QP0,QP4,hj,hjl,hv,hw,w1]
     ·rw[h]at hv hw;simp[QXw,QWZ,s85,QP0,QP4,hj,hjl,hv,hw,w1]
     ·exact absurd h hn
    ·simp[QXw]
   ·rw[e1];simp[QXw,QP6]
    (generalize hLoopQ:Cx.loop _ _ _=rLoopQ; apply Qi hLoopQ (fun k=>⟨[(0,.d (.sl 2 (l.map QP7.enc))),(1,.d (DI l.length)),(5,.d (DI (QSW l k))),(6,.d (DI k))],[],[],[]⟩) k rfl; rotate_left; (show _ < 281474976710656; omega); rfl; rotate_left; all_goals clear hLoopQ)
    ·intro j hj';have hj:j < l.length:=by omega
     have w1:=Qa ((j:Int)+1) (by omega) (by omega)
     have hjl:(j:Int) < l.length:=by omega
     have hn:¬QQU l[j]=7:=by have:=hgood j hj hj'; simpa using this
     have hw:=QS3 hj;have hv:QS9 l[j] 0 100000=QQU l[j]:=rfl;rcases QSK l[j]with h | h | h
     ·rw[h]at hv hw;simp[QXw,QWZ,s85,QP0,QP4,hj,hjl,hv,hw,w1]
     ·rw[h]at hv hw;simp[QXw,QWZ,s85,QP0,QP4,hj,hjl,hv,hw,w1]
     ·exact absurd h hn
    ·have hkl:(k:Int) < l.length:=by omega
     have hv:QS9 l[k] 0 100000=7:=by
      have hbb:QQU l[k]=7:=by simpa using hbad
      exact hbb
     simp[QXw,QWZ,s85,QP0,QP4,hk,hkl,hv]
  ·rw[if_pos h1];have h1':((l.length:Int) != many)=true:=by simpa using h1
   simp[QXw,QP6,h1']
 ·cases hr
theorem Qzp (xs:Array Value) (w:World):(callFunc 70 xs).run Tryz.prog w= .ok (.enter 70 xs) w:=by kernel_rfl
def QTL:List (Nat×(List D→Option D)):=(70,s60)::(69,s59)::QQ1
theorem Q1P:QaE Tryz.prog (Qaw QTL):=Qh (Qh QUM QJ3 ok59) Qzp QOt
theorem QTe {α:Type} (f:α→ByteArray) {l:List α} {j:Nat} (h:j < l.length):(l.take (j+1)).map f=(l.take j).map f++[f l[j]]:=by
 rw[List.take_succ_eq_append_getElem h,List.map_append]; rfl
end Go.Proofs.YticoemblgkemiaaGreatDoor
namespace Go.Proofs.YticoemblgkemiaaGreatDoor
open Go.RowKit
def nmP (x:Tbl) (j:Nat):List ByteArray:=(x.props.take j).map (·.name)
def nmK (x:Tbl) (j:Nat):List ByteArray:=(x.kinds.take j).map (·.name)
theorem QTT {x:Tbl} {j:Nat} (h:j≤x.props.length):(nmP x j).length=j:=by simp[nmP]; omega
theorem QU1 {x:Tbl} {j:Nat} (h:j≤x.kinds.length):(nmK x j).length=j:=by simp[nmK]; omega
theorem QT8 {x:Tbl} {j:Nat} (h:j < x.props.length):nmP x (j+1)=nmP x j++[x.props[j].name]:=QTe _ h
theorem QVA {x:Tbl} {j:Nat} (h:j < x.kinds.length):nmK x (j+1)=nmK x j++[x.kinds[j].name]:=QTe _ h
theorem QQJ {x:Tbl} {i:Nat} {p:Prp} (h:QWh x i p=0):QQi p.name (nmP x i)=0∧inR p.err 0 10000=true:=by
 unfold QWh at h;split at h
 ·rename_i h1;refine⟨h1,?_⟩;cases h2:inR p.err 0 10000
  ·rw[h2]at h; simp at h
  ·rfl
 ·rename_i h1; exact absurd h h1
theorem QVw {x:Tbl} {i:Nat} {p:Prp} (h:¬QWh x i p=0):(QQi p.name (nmP x i)=0∧inR p.err 0 10000=false∧QWh x i p=7)∨(¬QQi p.name (nmP x i)=0∧QWh x i p=QQi p.name (nmP x i)):=by
 unfold QWh at h⊢;by_cases h1:QQi p.name (nmP x i)=0
 ·left;have h1':QQi p.name ((x.props.take i).map (·.name))=0:=h1;rw[if_pos h1']at h⊢;cases h2:inR p.err 0 10000
  ·simp[h1]
  ·rw[h2]at h; simp at h
 ·right;have h1':¬QQi p.name ((x.props.take i).map (·.name))=0:=h1;rw[if_neg h1'];exact⟨h1,rfl⟩
theorem QQ4 {x:Tbl} {i:Nat} {k:Knd} (h:QVv x i k=0):QQi k.name (nmK x i)=0∧QQO k.props x.props.length=0:=by
 unfold QVv at h;split at h
 ·rename_i h1; exact⟨h1,h⟩
 ·rename_i h1; exact absurd h h1
theorem QVH {x:Tbl} {i:Nat} {k:Knd} (h:¬QVv x i k=0):(QQi k.name (nmK x i)=0∧QVv x i k=QQO k.props x.props.length∧¬QQO k.props x.props.length=0)∨(¬QQi k.name (nmK x i)=0∧QVv x i k=QQi k.name (nmK x i)):=by
 by_cases h1:QQi k.name (nmK x i)=0
 ·left;have h1':QQi k.name ((x.kinds.take i).map (·.name))=0:=h1;have e:QVv x i k=QQO k.props x.props.length:=by unfold QVv; rw[if_pos h1']
  exact⟨h1,e,by rw[←e]; exact h⟩
 ·right;have h1':¬QQi k.name ((x.kinds.take i).map (·.name))=0:=h1;exact⟨h1,by unfold QVv; rw[if_neg h1']; rfl⟩
theorem QWJ {n:Int} (h:¬n=0):(n != 0)=true:=by simpa using h
theorem Q1f {n:Int} (h:¬n=0):(n==0)=false:=by simpa using h
def QWG:List D→Option D:=sp1 (Qcf QRf) (Qmy QaY QaY QaY) fun x=>some (chk x)
set_option maxHeartbeats 4000000 in
theorem Q1c:∀ds d,QWG ds=some d→PureC Tryz.prog 18 ds d:=Qbr fun x r hr=>by
 cases hr;refine Qf (QP1 Q1P 106 QQH []) Tryz.func18 rfl rfl (Nat.le_of_ble_eq_true rfl) (by kernel_rfl) ?_
 rw[Tryz.results18];unfold chk;cases h1:inR x.props.length 1 5
 ·simp[QQH,QPZ,QP9,QP5,QTL,QQ1,s58,h1]
 cases h2:inR x.kinds.length 1 8
 ·simp[QQH,QPZ,QP9,QP5,QTL,QQ1,s58,h1,h2]
 cases h3:inR x.purity 1 1000
 ·simp[QQH,QPZ,QP9,QP5,QTL,QQ1,s58,h1,h2,h3]
 have hp:=Qal.1 h1;have hk:=Qal.1 h2;have hp99:(x.props.length:Int)≤99:=by omega
 rcases QdP (QWh x) x.props with⟨e1,hall⟩ | ⟨k,hk1,e1,hbad,hgood⟩
 ·rw[e1];rcases QdP (QVv x) x.kinds with⟨e2,hall2⟩ | ⟨k,hk2,e2,hbad,hgood⟩
  ·rw[e2];simp[QQH,QPZ,QP9,QP5,QTL,QQ1,s58,h1,h2,h3]
   (generalize hLoopQ:Cx.loop _ _ _=rLoopQ; apply Qi hLoopQ (fun k=>⟨[(1,.loc 1 0),(5,.sl 1 ((nmP x k).map Qg0.enc) (.tok 5)),(6,.d (DI k))],[(1,[.d (.sl 2 (x.props.map QQt.enc)),.d (.sl 2 (x.kinds.map QQw.enc)),.d (DI x.purity)])],[5],[]⟩) x.props.length rfl; rotate_left; (show _ < 281474976710656; omega); rfl; rotate_left; all_goals clear hLoopQ)
   ·intro j hj0;have hj:j < x.props.length:=by omega
    have w1:=Qa ((j:Int)+1) (by omega) (by omega)
    have hjl:(j:Int) < x.props.length:=by omega
    obtain⟨q1,q2⟩:=QQJ (hall j hj);have hlen:=QTT (x:=x) (j:=j) (by omega)
    have c1:j+1≤140737488355328:=by omega
    have c2:(j+1)*16≤140737488355328:=by omega
    have c3:j < 1000000:=by omega
    rw[QT8 hj];generalize nmP x j=NL at*;simp[QQH,QTL,QQ1,s58,s59,Qa7,Qcy,QP2,hj,hjl,hlen,q1,q2,w1,c1,c2,c3]
   ·simp[QQH]
    (generalize hLoopQ:Cx.loop _ _ _=rLoopQ; apply Qi hLoopQ (fun k=>⟨[(1,.loc 1 0),(5,.sl 1 ((nmK x k).map Qg0.enc) (.tok 5)),(8,.d (DI k))],[(1,[.d (.sl 2 (x.props.map QQt.enc)),.d (.sl 2 (x.kinds.map QQw.enc)),.d (DI x.purity)])],[5],[]⟩) x.kinds.length rfl; rotate_left; (show _ < 281474976710656; omega); rfl; rotate_left; all_goals clear hLoopQ)
    ·intro j hj0;have hj:j < x.kinds.length:=by omega
     have w1:=Qa ((j:Int)+1) (by omega) (by omega)
     have hjl:(j:Int) < x.kinds.length:=by omega
     obtain⟨q1,q2⟩:=QQ4 (hall2 j hj);have hlen:=QU1 (x:=x) (j:=j) (by omega)
     have c1:j+1≤140737488355328:=by omega
     have c2:(j+1)*16≤140737488355328:=by omega
     have c3:j < 1000000:=by omega
     rw[QVA hj];generalize nmK x j=NL at*;simp[QQH,QTL,QQ1,s58,s59,s60,Qa7,Qcy,QP3,QQd,hj,hjl,hlen,q1,q2,w1,c1,c2,c3,hp99]
    ·simp[QQH]
  ·rw[e2];simp[QQH,QPZ,QP9,QP5,QTL,QQ1,s58,h1,h2,h3,hbad]
   (generalize hLoopQ:Cx.loop _ _ _=rLoopQ; apply Qi hLoopQ (fun k=>⟨[(1,.loc 1 0),(5,.sl 1 ((nmP x k).map Qg0.enc) (.tok 5)),(6,.d (DI k))],[(1,[.d (.sl 2 (x.props.map QQt.enc)),.d (.sl 2 (x.kinds.map QQw.enc)),.d (DI x.purity)])],[5],[]⟩) x.props.length rfl; rotate_left; (show _ < 281474976710656; omega); rfl; rotate_left; all_goals clear hLoopQ)
   ·intro j hj0;have hj:j < x.props.length:=by omega
    have w1:=Qa ((j:Int)+1) (by omega) (by omega)
    have hjl:(j:Int) < x.props.length:=by omega
    obtain⟨q1,q2⟩:=QQJ (hall j hj);have hlen:=QTT (x:=x) (j:=j) (by omega)
    have c1:j+1≤140737488355328:=by omega
    have c2:(j+1)*16≤140737488355328:=by omega
    have c3:j < 1000000:=by omega
    rw[QT8 hj];generalize nmP x j=NL at*;simp[QQH,QTL,QQ1,s58,s59,Qa7,Qcy,QP2,hj,hjl,hlen,q1,q2,w1,c1,c2,c3]
   ·simp[QQH]
    (generalize hLoopQ:Cx.loop _ _ _=rLoopQ; apply Qi hLoopQ (fun k=>⟨[(1,.loc 1 0),(5,.sl 1 ((nmK x k).map Qg0.enc) (.tok 5)),(8,.d (DI k))],[(1,[.d (.sl 2 (x.props.map QQt.enc)),.d (.sl 2 (x.kinds.map QQw.enc)),.d (DI x.purity)])],[5],[]⟩) k rfl; rotate_left; (show _ < 281474976710656; omega); rfl; rotate_left; all_goals clear hLoopQ)
    ·intro j hj0;have hj:j < x.kinds.length:=by omega
     have w1:=Qa ((j:Int)+1) (by omega) (by omega)
     have hjl:(j:Int) < x.kinds.length:=by omega
     obtain⟨q1,q2⟩:=QQ4 (hgood j hj hj0);have hlen:=QU1 (x:=x) (j:=j) (by omega)
     have c1:j+1≤140737488355328:=by omega
     have c2:(j+1)*16≤140737488355328:=by omega
     have c3:j < 1000000:=by omega
     rw[QVA hj];generalize nmK x j=NL at*;simp[QQH,QTL,QQ1,s58,s59,s60,Qa7,Qcy,QP3,QQd,hj,hjl,hlen,q1,q2,w1,c1,c2,c3,hp99]
    ·have hkl:(k:Int) < x.kinds.length:=by omega
     have hlen:=QU1 (x:=x) (j:=k) (by omega)
     have c3:k < 1000000:=by omega
     rcases QVH hbad with⟨q1,q2,q3⟩ | ⟨q1,q2⟩
     ·rw[q2];have q4:=QWJ q3;generalize nmK x k=NL at*;simp[QQH,QTL,QQ1,s58,s59,s60,Qa7,Qcy,QP3,QQd,hk2,hkl,hlen,q1,q4,c3,hp99]
     ·rw[q2];have q3:=QWJ q1;have q4:=Q1f q1;generalize nmK x k=NL at*;simp[QQH,QTL,QQ1,s58,s59,s60,Qa7,Qcy,QP3,QQd,hk2,hkl,hlen,q3,q4,c3,hp99]
 ·rw[e1];simp[QQH,QPZ,QP9,QP5,QTL,QQ1,s58,h1,h2,h3,hbad]
  (generalize hLoopQ:Cx.loop _ _ _=rLoopQ; apply Qi hLoopQ (fun k=>⟨[(1,.loc 1 0),(5,.sl 1 ((nmP x k).map Qg0.enc) (.tok 5)),(6,.d (DI k))],[(1,[.d (.sl 2 (x.props.map QQt.enc)),.d (.sl 2 (x.kinds.map QQw.enc)),.d (DI x.purity)])],[5],[]⟩) k rfl; rotate_left; (show _ < 281474976710656; omega); rfl; rotate_left; all_goals clear hLoopQ)
  ·intro j hj0;have hj:j < x.props.length:=by omega
   have w1:=Qa ((j:Int)+1) (by omega) (by omega)
   have hjl:(j:Int) < x.props.length:=by omega
   obtain⟨q1,q2⟩:=QQJ (hgood j hj hj0);have hlen:=QTT (x:=x) (j:=j) (by omega)
   have c1:j+1≤140737488355328:=by omega
   have c2:(j+1)*16≤140737488355328:=by omega
   have c3:j < 1000000:=by omega
   rw[QT8 hj];generalize nmP x j=NL at*;simp[QQH,QTL,QQ1,s58,s59,Qa7,Qcy,QP2,hj,hjl,hlen,q1,q2,w1,c1,c2,c3]
  ·have hkl:(k:Int) < x.props.length:=by omega
   have hlen:=QTT (x:=x) (j:=k) (by omega)
   have c3:k < 1000000:=by omega
   rcases QVw hbad with⟨q1,q2,q3⟩ | ⟨q1,q2⟩
   ·rw[q3];generalize nmP x k=NL at*;simp[QQH,QTL,QQ1,s58,s59,Qa7,Qcy,QP2,hk1,hkl,hlen,q1,q2,c3]
   ·rw[q2];have q3:=QWJ q1;have q4:=Q1f q1;generalize nmP x k=NL at*;simp[QQH,QTL,QQ1,s58,s59,Qa7,Qcy,QP2,hk1,hkl,hlen,q3,q4,c3]
theorem QXR (xs:Array Value) (w:World):(callFunc 18 xs).run Tryz.prog w= .ok (.enter 18 xs) w:=by kernel_rfl
end Go.Proofs.YticoemblgkemiaaGreatDoor
namespace Go.Proofs.YticoemblgkemiaaGreatDoor
open Go.RowKit
structure Fine (x:Tbl):Prop where
 p1Wx:1≤x.props.length
 p5:x.props.length≤5
 k1:1≤x.kinds.length
 k8:x.kinds.length≤8
 u1:1≤x.purity
 u2:x.purity≤1000
 pr:∀p (h:p < x.props.length),QWh x p x.props[p]=0
 kn:∀k (h:k < x.kinds.length),QVv x k x.kinds[k]=0
theorem QQv {x:Tbl} (h:okT x):Fine x:=by
 unfold okT chk at h;split at h
 ·simp at h
 rename_i h1;split at h
 ·simp at h
 rename_i h2;split at h
 ·rename_i h3; exact absurd h h3
 rename_i h3;split at h
 ·rename_i h4; exact absurd h h4
 rename_i h4;have a1:inR x.props.length 1 5=true:=by
  cases q:inR x.props.length 1 5 with
  | true=>rfl
  | false=>exact absurd (.inl q) h1
 have a2:inR x.kinds.length 1 8=true:=by
  cases q:inR x.kinds.length 1 8 with
  | true=>rfl
  | false=>exact absurd (.inr q) h1
 have a3:inR x.purity 1 1000=true:=by
  cases q:inR x.purity 1 1000 with
  | true=>rfl
  | false=>exact absurd q h2
 have a1:=Qal.1 a1;have a2:=Qal.1 a2;have a3:=Qal.1 a3;refine⟨by omega,by omega,by omega,by omega,a3.1,a3.2,?_,?_⟩
 ·rcases QdP (QWh x) x.props with⟨_,hall⟩ | ⟨k,hk,e,hbad,_⟩
  ·exact hall
  ·rw[e]at h3; exact absurd hbad (by simpa using h3)
 ·rcases QdP (QVv x) x.kinds with⟨_,hall⟩ | ⟨k,hk,e,hbad,_⟩
  ·exact hall
  ·rw[e]at h4; exact absurd hbad (by simpa using h4)
theorem QRW {l:List Spn} {n:Int} (h:QQO l n=0):(l.length:Int)=n∧∀s∈l,0≤s.lo∧s.lo≤s.hi∧s.hi≤100000:=by
 unfold QQO at h;split at h
 ·simp at h
 rename_i h1;split at h
 ·simp at h
 rename_i h2;split at h
 ·simp at h
 rename_i h3;refine⟨by omega,fun s hs=>?_⟩
 have a:¬QQU s=7:=fun e=>h2 (List.any_eq_true.2 ⟨s,hs,by simpa using e⟩)
 have b:¬QQU s=2:=fun e=>h3 (List.any_eq_true.2 ⟨s,hs,by simpa using e⟩)
 unfold QQU QS9 at a b;split at a
 ·exact absurd rfl a
 ·rename_i h4;rw[if_neg h4]at b;simp only[Bool.or_eq_true,Bool.not_eq_true',not_or,Bool.not_eq_false]at h4;have q1:=Qal.1 h4.1;have q2:=Qal.1 h4.2;split at b
  ·exact absurd rfl b
  ·omega
theorem Fine.span {x:Tbl} (f:Fine x) (k:Nat) (hk:k < x.kinds.length):x.kinds[k].props.length=x.props.length∧∀s∈x.kinds[k].props,0≤s.lo∧s.lo≤s.hi∧s.hi≤100000:=by
 obtain⟨h1,h2⟩:=QRW (QQ4 (f.kn k hk)).2;exact⟨by omega,h2⟩
theorem Fine.err {x:Tbl} (f:Fine x) (p:Nat) (hp:p < x.props.length):0≤x.props[p].err∧x.props[p].err≤10000:=Qal.1 (QQJ (f.pr p hp)).2
def QXy (x:Tbl) (a:Int):Prop:=0≤a∧a < x.kinds.length
instance (x:Tbl) (a:Int):Decidable (QXy x a):=inferInstanceAs (Decidable (_∧_))
def okR (x:Tbl) (l:List Int):Prop:=QQj x l=0
instance (x:Tbl) (l:List Int):Decidable (okR x l):=inferInstanceAs (Decidable (_=_))
theorem QRQ {x:Tbl} {l:List Int} (h:okR x l):okT x∧l.length=x.props.length∧∀p (hp:p < l.length),l[p]= -1∨(0≤l[p]∧l[p]≤100000):=by
 unfold okR QQj at h;split at h
 ·rename_i h1; exact absurd h h1
 rename_i h1;split at h
 ·simp at h
 rename_i h2;split at h
 ·simp at h
 rename_i h3;refine⟨by unfold okT; omega,by omega,fun p hp=>?_⟩
 have hb:QWi l[p]=false:=by
  cases q:QWi l[p]with
  | false=>rfl
  | true=>exact absurd (QMD QWi hp q) h3
 unfold QWi at hb;by_cases e:l[p]= -1
 ·exact .inl e
 ·have e':(l[p]== -1)=false:=by simpa using e
  rw[e']at hb;simp only[Bool.not_false,Bool.true_and,Bool.not_eq_false']at hb;exact .inr (Qal.1 hb)
def QQe (x:Tbl) (k p:Nat):Spn:=(x.kinds.getD k default).props.getD p default
theorem Q0z {x:Tbl} {k p:Nat} (hk:k < x.kinds.length) (hp:p < x.kinds[k].props.length):QQe x k p=x.kinds[k].props[p]:=by
 unfold QQe; rw[Ql _ _ _ hk,Ql _ _ _ hp]
theorem Fine.rng {x:Tbl} (f:Fine x) {k p:Nat} (hk:k < x.kinds.length) (hp:p < x.props.length):∃h:p < x.kinds[k].props.length,x.kinds[k].props[p]=QQe x k p∧0≤(QQe x k p).lo∧(QQe x k p).lo≤(QQe x k p).hi∧(QQe x k p).hi≤100000:=by
 obtain⟨h1,h2⟩:=f.span k hk;have hp':p < x.kinds[k].props.length:=by omega
 rw[Q0z hk hp'];exact⟨hp',rfl,h2 _ (List.getElem_mem hp')⟩
def QUc (x:Tbl) (p a b:Nat) (n:Int):Spn:=⟨n*(QQe x a p).lo+(1000 - n)*(QQe x b p).lo,n*(QQe x a p).hi+(1000 - n)*(QQe x b p).hi⟩
def sp6 {α β γ δ ε ζ ρ:Type} (A:Cod α) (B:Cod β) (C:Cod γ) (E:Cod δ) (G:Cod ε) (H:Cod ζ) (R:Cod ρ) (f:α→β→γ→δ→ε→ζ→Option ρ):List D→Option D
 | [a,b,c,e,g,h]=>match A.dec a,B.dec b,C.dec c,E.dec e,G.dec g,H.dec h with | some x,some y,some z,some u,some v,some w=>(f x y z u v w).map R.enc | _,_,_,_,_,_=>none
 | _=>none
attribute [simp] sp6
def QQ5 (x:Tbl) (p:Nat):Int:=(x.props.getD p default).err
def QRs (x:Tbl) (a b:Nat) (n:Int) (p:Nat) (v:Int):Bool:=v== -1||!(decide (1000*(v+QQ5 x p) < (QUc x p a b n).lo)||decide ((QUc x p a b n).hi < 1000*(v - QQ5 x p)))
def QQ9 (x:Tbl) (l:List Int) (a b:Nat) (n:Int):Bool:=(List.range l.length).all fun p=>QRs x a b n p (l.getD p 0)
theorem QUD {x:Tbl} {l:List Int} {a b:Nat} {n:Int} :QQ9 x l a b n=true↔∀p,p < l.length→QRs x a b n p (l.getD p 0)=true:=by
 unfold QQ9;rw[List.all_eq_true];exact⟨fun h p hp=>h p (List.mem_range.2 hp),fun h p hp=>h p (List.mem_range.1 hp)⟩
end Go.Proofs.YticoemblgkemiaaGreatDoor
