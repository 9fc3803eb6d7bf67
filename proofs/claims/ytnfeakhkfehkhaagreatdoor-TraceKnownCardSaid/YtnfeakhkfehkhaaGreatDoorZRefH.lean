/-
  Reference functions of the trace chapter: the problem of a book, Check. Conditions: none.
-/
import Derived.Test.YtnfeakhkfehkhaaGreatDoorZRefF
import Derived.Test.YtnfeakhkfehkhaaGreatDoorZAmF
set_option linter.unusedSimpArgs false
set_option linter.unusedVariables false
namespace Go.Proofs.YtnfeakhkfehkhaaGreatDoor
open Go.RowKit
def Qxv (r:Nat):List (Nat×Option Nat):=match r with
 | 0=>kpn [0,2]
 | 1=>kpn [0,2,3,7]
 | 2=>kpn [0,2,3,4,7]
 | 3=>kpn [0,2,3,4,12,7]
 | 4=>kpn [0,2,3,4,7]
 | 5=>kpn [0,2,3,4,5,7]
 | 6=>kpn [0,2,3,4,5,19,7]
 | 7=>kpn [0,2,3,4,5,7]
 | 8=>kpn [0,2,3,4,7]
 | 9=>kpn [2,7]
 | _=>[]
def QpB (r:Nat):List (Nat×Option Nat):=match r with
 | 0=>[(0,none)]
 | 1=>kpn [0,12]
 | 2=>kpn [2,3,4]
 | 3=>kpn [0,5]
 | 4=>kpn [0,5,16]
 | 5=>kpn [0,5]
 | 6=>kpn [0,5,6]
 | 7=>kpn [0,5,6,23]
 | 8=>kpn [2,3,4]
 | 9=>kpn [0,29]
 | 10=>kpn [2,3,4]
 | 11=>kpn [0,7]
 | 12=>kpn [0,7,8]
 | 13=>kpn [0,7,8,35]
 | 14=>kpn [0,7,8]
 | 15=>kpn [0,7,8,42]
 | 16=>kpn [2,3,4]
 | 17=>[(47,none)]
 | 18=>kpn [2,3,4]
 | 19=>kpn [2,3,4]
 | _=>[]
def dI (l:List Int):List D:=l.map DI
theorem Qh6 (l:List Int):(dI l).map X.d=Qk l.length (fun j=>DI (l.getD j 0)):=by
 unfold dI;refine List.ext_getElem (by simp[Qk]) fun i h1 h2=>?_
 have hi:i < l.length:=by simpa using h1
 simp[Qk,List.getD_eq_getElem?_getD,hi]
def QnW (d:Nat) (l:List Int):List (Nat×List D):=[(d,dI l)]
theorem Qzz {b:List Bat} (h:BookOk b):QkS Tryz.prog 40 [(Qy QO).enc b] (.bs 100 0 b.length 1) (QnW 100 (QI b)):=by
 refine QkZ Tryz.func40 rfl rfl (Nat.le_of_ble_eq_true rfl) fun m w a I ha0=>QyX h I rfl fun g' a' w' tk I'=>?_;refine Qnz (QE QB 59 Quu []) I' (r:= .tmp 2) rfl rfl rfl (fun i ds hi=>?_) (fun i hi=>?_)
 ·simp only[QnW,Qv]at hi⊢;split at hi
  ·rename_i e;simp only[Option.some.injEq]at hi;subst hi;rw[if_pos e,Qh6,QN]
  ·cases hi
 ·simp only[X.locs,List.mem_singleton]at hi;subst hi;simp[QnW,Qv]
def Qv4:List (Nat×Nat×Nat):=[(3,1,1001),(5000,101,0)]
def Qho (b:List Bat) (k:Nat):List Int:=(QV b).take k
theorem Qrw {b:List Bat} {j:Nat} (h:j < b.length):Qho b (j+1)=Qho b j++[QfA b j]:=by
 unfold Qho;rw[List.take_succ_eq_append_getElem (by rw[QS]; exact h)]
 simp[QV]
theorem Qfg (n:Nat) (g:Nat→D) (b i:Nat) (hb:(b==3)=false) (h5:(b==5000)=false) (av nw:List Nat):Qaw [(3,1,1001),(5000,101,0)] b i (Qk n g) av nw=(Qk n g,av,nw):=Qbv Qv4 b _ i av nw (Qeh hb (Qeh h5 (Qeb b))) Qbr
theorem QuW {b:List Bat} (h:BookOk b) {j:Nat} (hj:j < b.length) (hl:b[j].lost=true):IntKind.i64.wrap (b[j].grams - b[j].fresh)=QfA b j:=by
 have hb:=h.at hj;have:=hb.grams;have:=hb.fresh;unfold QfA;rw[Qbf hj,if_pos hl];exact Qa _ (by omega) (by omega)
set_option maxHeartbeats 2000000 in
theorem QD4 {b:List Bat} (h:BookOk b) {m:Nat→Nat→Prop} {w:World} {a:Act} (I:Inv 38 m (Qdz w []) (Qts m) ⟨QoD 0 [(Qy QO).enc b],[],[],[]⟩ a w) {cd:Code} (hcd:Tryz.f41.body=some cd) {Q:Exit→Act→World→Prop}
  (hQ:∀g' a' w' tm tk,Inv 38 m (Qdz w []) g' ⟨(2,.loc 2 0)::tm,[(2,[.bs 100 0 b.length 1,.bs 101 0 b.length 1,.d (.v (.slice none 0 0))]),(100,Qk b.length (fun j=>DI ((QI b).getD j 0))),(101,Qk b.length (fun j=>DI ((QV b).getD j 0)))],tk,[]⟩ a' w'→Q .ret a' w'):cd.wpIn Fence.wide 0 Tryz.prog Q a w:=by
 cases hcd;have hle:=h.le;have hpos:=h.pos;have hcx:=QE QB 38 Qxv Qv4;refine QgG hcx 0 _ rfl (by kernel_rfl) (by kernel_rfl) (fun _ _=>rfl) _ _ _ _ I ?_
 simp[QeQ,Qxv,Qv4,Qe,QT];intro g1 a1 w1 I1;show Code.wpIn _ _ _ (Qon 0 _) _ _ _;refine wpIn_seq ?_;refine Qwc hcx 1 7 40 (.bs 100 0 b.length 1) (QnW 100 (QI b)) rfl rfl rfl rfl rfl (by decide) rfl rfl (by simp[Qan,QcP]) (fun _ _=>rfl) Qzm I1 ?_
 have hfr:=Qzz h;rw[Qbk]at hfr;simp[Qwl,Qxv,Qv4,Qe,frKs,QGU,Qrf,QnW,Qh6,QN,QCZ,Qaf,Qfg];refine⟨hfr,fun g2 a2 w2 I2=>?_⟩;show Code.wpIn _ _ _ _ _ _ _;refine QgG hcx 0 _ rfl (by kernel_rfl) (by kernel_rfl) (fun _ _=>rfl) _ _ _ _ I2 ?_
 simp[QeQ,Qxv,Qv4,Qe,Qaf,Qfg];have hK0:Qho b 0=[]:=by simp[Qho]
 (generalize hLoopQ:Cx.loop _ _ _=rLoopQ; apply Qc2 hLoopQ (fun k=>⟨[(0,.d (.sl 5 (b.map QO.enc))),(2,.loc 2 0),(3,.loc 3 0),(4,.d (DI k)),(7,.bs 100 0 b.length 1)],[(2,[.d (.sl 0 []),.d (.sl 0 []),.d (.sl 0 [])]),(3,[.bs 100 0 b.length 1,.sl 1 ((Qho b k).map Qt.enc) (.own 100301),.d (.v (.slice none 0 0))]),(100,Qk b.length (fun j=>DI ((QI b)[j]?.getD 0)))],[100301],[]⟩) b.length rfl; rotate_left; (show _ < 281474976710656; omega); (exact fun h=>h); rotate_left; all_goals clear hLoopQ)
 ·intro j hj;have w1:=Qa ((j:Int)+1) (by omega) (by omega)
  have hjl:(j:Int) < b.length:=by omega
  have hlen:(Qho b j).length=j:=by simp[Qho,QV]; omega
  have h1:j+1≤140737488355328:=by omega
  have h2:(j+1)*8≤140737488355328:=by omega
  rw[Qrw hj];cases hl:b[j].lost with
  | true=>
   have e:=QuW h hj hl;simp[Qxv,Qv4,hj,hjl,w1,Qh,Qe,Qc,Qg,Qaf,Qfg,hlen,h1,h2,hl,e]
  | false=>
   have e:QfA b j=0:=by unfold QfA; rw[Qbf hj,hl]; simp
   simp[Qxv,Qv4,hj,hjl,w1,Qh,Qe,Qc,Qg,Qaf,Qfg,hlen,h1,h2,hl,e]
 ·simp[Qxv,Qv4,Qe,Qaf,Qfg,QT];intro g3 a3 w3 I3;show Code.wpIn _ _ _ _ _ _ _;have hKn:Qho b b.length=QV b:=by unfold Qho; rw[←QS b,List.take_length]
  have hne:(Qho b b.length).map Qt.enc≠[]:=by
   intro h0;have:((Qho b b.length).map Qt.enc).length=0:=by rw[h0]; rfl
   rw[hKn,List.length_map,QS]at this;omega
  obtain⟨g4,I4⟩:=Qyo hcx (t:=3) (bx:=3) (off:=1) (d:=101) (k:=1) (tk:=100301) (rows:=(Qho b b.length).map Qt.enc) rfl rfl rfl (by simp) hne (by simp[Qan,QcP,Qaf]) rfl I3
  rw[hKn]at I4;simp only[Qu6,List.length_map,QS]at I4;refine QfO hcx (by kernel_rfl) (by kernel_rfl) I4 (fun _ _=>rfl) ?_
  simp[Qon,Qxv,Qv4,Qe,Qaf,Qfg,Qv,QT];intro g5 a5 w5 I5;refine hQ g5 a5 w5 _ _ (by simpa using I5)
def QpX (n:Nat):X:= .agb [.b 100 0 n 1,.b 101 0 n 1,.d (.v (.slice none 0 0))]
def Qhz (b:List Bat):List (Nat×List D):=[(100,dI (QI b)),(101,dI (QV b))]
theorem Qt2 {b:List Bat} (h:BookOk b):QkS Tryz.prog 41 [(Qy QO).enc b] (QpX b.length) (Qhz b):=by
 refine QkZ Tryz.func41 rfl rfl (Nat.le_of_ble_eq_true rfl) fun m w a I ha0=>QD4 h I rfl fun g' a' w' tm tk I'=>?_;refine Qnz (QE QB 38 Qxv Qv4) I' (r:= .cell 2 61) rfl (by simp[QGb,QpX]) rfl (fun i ds hi=>?_) (fun i hi=>?_)
 ·simp only[Qhz,Qv]at hi⊢;split at hi
  ·rename_i e;simp only[Option.some.injEq]at hi;subst hi e;simp[Qh6,QN]
  ·split at hi
   ·rename_i e;simp only[Option.some.injEq]at hi;subst hi e;simp[Qh6,QS]
   ·cases hi
 ·simp only[X.locs,QpX,QcM,List.mem_cons,List.not_mem_nil,or_false]at hi;rcases hi with rfl | rfl<;>simp[Qhz,Qv]
theorem Qmz (n:Nat) (l:List Int) (h:l.length=n):Qa9 (((dI l).map X.d).take n)=some (dI l):=by
 rw[List.take_of_length_le (by simp[dI]; omega)]
 unfold dI;clear h
 induction l with
 | nil=>rfl
 | cons a t ih=>simp only[List.map_cons,Qa9,X.data,ih]
theorem QlX (l:List Int):(dI l).map (fun d=>[d])=l.map Qt.enc:=by
 simp[dI,Qc]
theorem QE7 {b:List Bat} (h:BookOk b):PureC Tryz.prog 41 [(Qy QO).enc b] ((QeC Qqw).enc (Qac b)):=by
 have hle:=h.le;have hn:b.length≤140737488355328:=by omega
 have h1:=Qmz b.length (QI b) (QN b);have h2:=Qmz b.length (QV b) (QS b);have l1:(dI (QI b)).length=b.length:=by simp[dI,QN]
 have l2:(dI (QV b)).length=b.length:=by simp[dI,QS]
 have hp:=Qmo (d:= .agg [.sl 1 ((QI b).map Qt.enc),.sl 1 ((QV b).map Qt.enc),.sl 0 []]) (Qt2 h) (by
  rw[←QlX,←QlX];simp only[QpX,Qhz,X.snap,QcX,QhS,List.map_cons,List.map_nil,Qv,QjX,List.drop_zero];simp[h1,h2,l1,l2,hn])
 refine hp.out ((QeC Qqw).ed _ _ ?_);rw[Qbq];simp[Qqw,QQ,Qar,Qac]
noncomputable def s41:List D→Option D:=sp1 (Qy QO) (QeC Qqw) fun b=>if BookOk b then some (Qac b)else none
theorem ok41:∀ds d,s41 ds=some d→PureC Tryz.prog 41 ds d:=Qb2 fun b r hr=>by
 split at hr
 ·rename_i h;cases hr;exact QE7 h
 ·cases hr
theorem QtI (xs:Array Value) (w:World):(callFunc 41 xs).run Tryz.prog w= .ok (.enter 41 xs) w:=by kernel_rfl
noncomputable def l18:List (Nat×(List D→Option D)):=[(54,s54),(55,s55),(46,s46),(40,s40),(41,s41),(56,s56)]
theorem QHZ:Qay Tryz.prog (Qas l18):=Ql (Ql (Ql (Ql (Ql (Ql QB Qud QG3) QtI ok41) Qzm ok40) QtU QHU) QFZ ok55) QyW QKQ
noncomputable def s18:List D→Option D:=sp1 (Qy QO) (QlK Qbh Qbh Qbh) fun b=>if bkB b=true then some (Q5 b)else none
set_option maxHeartbeats 2000000 in
theorem QKw:∀ds d,s18 ds=some d→PureC Tryz.prog 18 ds d:=Qb2 fun b r hr=>by
 split at hr
 ·rename_i hbk;cases hr;refine Qm (QE QHZ 48 QpB []) Tryz.func18 rfl rfl (Nat.le_of_ble_eq_true rfl) (by kernel_rfl) ?_
  rw[Tryz.results18];unfold Q5;cases h1:inR b.length 1 8 with
  | false=>simp[QpB,l18,s54,Qe,h1]
  | true=>
   have hb:=Qau.1 h1;have hb8:b.length≤8:=by omega
   have h55:∀j,j < b.length→s55 [.sl 5 (b.map QO.enc),DI j]=some (DI (Qol b j (b.getD j default))):=fun j hj=>by
    have c:(0:Int)≤(j:Int)∧(j:Int) < b.length∧b.length≤8∧bkB b=true:=by refine⟨by omega,by omega,hb8,hbk⟩
    simp[s55,sp2,QR,c]
   rcases Qdb (Qol b) b with⟨h2,hall⟩ | ⟨k,hk,h2,hbad,hgood⟩
   ·rw[h2];have hok:BookOk b:=⟨hb8,by omega,hall⟩
    simp[QpB,l18,s54,Qe,h1]
    (generalize hLoopQ:Cx.loop _ _ _=rLoopQ; apply Qi hLoopQ (fun k=>⟨[(0,.d (.sl 5 (b.map QO.enc))),(5,.d (DI k))],[],[],[]⟩) b.length rfl; rotate_left; (show _ < 281474976710656; omega); rfl; rotate_left; all_goals clear hLoopQ)
    ·intro j hj;have w1:=Qa ((j:Int)+1) (by omega) (by omega)
     have hjl:(j:Int) < b.length:=by omega
     have h55j:=h55 j hj;rw[Qbf hj,hall j hj]at h55j;simp[QpB,l18,Qe,hjl,h55j,w1]
    ·by_cases h3:3 < (QU b).length
     ·have h3':(3:Int) < (QU b).length:=by omega
      simp[QpB,l18,s46,Qe,QR,Qg,hb8,h3,h3']
     ·have h3':¬(3:Int) < (QU b).length:=by omega
      have hkl:=QN b;have hpr:=Qe2 hok;have h56:s56 [.agg (Qqw.enc (Qac b))]=some (DB (QaT (Qac b))):=by
       simp[s56,sp1,Qbq,Qqw.de,hpr]
      have hlk:∀j (hj:j < b.length),Qd0 j ((QI b)[j]'(by rw[hkl]; exact hj))=if(QI b)[j]'(by rw[hkl]; exact hj) < 0 then 7 else 0:=fun j hj=>rfl
      rcases Qdb Qd0 (QI b)with⟨h4,hall4⟩ | ⟨k,hk,h4,hbad4,hgood4⟩
      ·rw[h4];simp[QpB,l18,s46,s40,Qe,QR,Qg,hb8,h3,h3',hok]
       (generalize hLoopQ:Cx.loop _ _ _=rLoopQ; apply Qi hLoopQ (fun k=>⟨[(0,.d (.sl 5 (b.map QO.enc))),(7,.d (.sl 1 ((QI b).map Qt.enc))),(8,.d (DI k))],[],[],[]⟩) b.length rfl; rotate_left; (show _ < 281474976710656; omega); rfl; rotate_left; all_goals clear hLoopQ)
       ·intro j hj;have w1:=Qa ((j:Int)+1) (by omega) (by omega)
        have hjl:(j:Int) < b.length:=by omega
        have hj2:j < (QI b).length:=by omega
        have hx:=hall4 j hj2;have hx':¬(QI b)[j] < 0:=by
         intro hn;unfold Qd0 at hx;rw[if_pos hn]at hx; cases hx
        simp[QpB,Qc,Qg,hkl,hj,hjl,hx',w1]
       ·cases h5:QaT (Qac b)with
        | false=>
         rw[h5]at h56;simp[QpB,l18,s41,QR,hkl,hok,h56]
        | true=>
         rw[h5]at h56;simp[QpB,l18,s41,QR,hkl,hok,h56]
      ·rw[h4];have hk2:k < b.length:=by omega
       have hbk4:(QI b)[k] < 0:=by
        unfold Qd0 at hbad4;split at hbad4
        ·assumption
        ·exact absurd rfl hbad4
       have hv:Qd0 k (QI b)[k]=7:=by unfold Qd0; rw[if_pos hbk4]
       rw[hv];simp[QpB,l18,s46,s40,Qe,QR,Qg,hb8,h3,h3',hok]
       (generalize hLoopQ:Cx.loop _ _ _=rLoopQ; apply Qi hLoopQ (fun k=>⟨[(0,.d (.sl 5 (b.map QO.enc))),(7,.d (.sl 1 ((QI b).map Qt.enc))),(8,.d (DI k))],[],[],[]⟩) k rfl; rotate_left; (show _ < 281474976710656; omega); rfl; rotate_left; all_goals clear hLoopQ)
       ·intro j hj';have hj:j < b.length:=by omega
        have w1:=Qa ((j:Int)+1) (by omega) (by omega)
        have hjl:(j:Int) < b.length:=by omega
        have hj2:j < (QI b).length:=by omega
        have hx:=hgood4 j hj2 hj';have hx':¬(QI b)[j] < 0:=by
         intro hn;unfold Qd0 at hx;rw[if_pos hn]at hx; cases hx
        simp[QpB,Qc,Qg,hkl,hj,hjl,hx',w1]
       ·have hkl2:(k:Int) < b.length:=by omega
        simp[QpB,Qc,Qg,hkl,hk2,hkl2,hbk4]
   ·rw[h2];have hne:(Qol b k b[k] != 0)=true:=bne_iff_ne.2 hbad;simp[QpB,l18,s54,Qe,h1,hbad]
    (generalize hLoopQ:Cx.loop _ _ _=rLoopQ; apply Qi hLoopQ (fun k=>⟨[(0,.d (.sl 5 (b.map QO.enc))),(5,.d (DI k))],[],[],[]⟩) k rfl; rotate_left; (show _ < 281474976710656; omega); rfl; rotate_left; all_goals clear hLoopQ)
    ·intro j hj';have hj:j < b.length:=by omega
     have w1:=Qa ((j:Int)+1) (by omega) (by omega)
     have hjl:(j:Int) < b.length:=by omega
     have h55j:=h55 j hj;rw[Qbf hj,hgood j hj hj']at h55j;simp[QpB,l18,Qe,hjl,h55j,w1]
    ·have hkl:(k:Int) < b.length:=by omega
     have h55j:=h55 k hk;rw[Qbf hk]at h55j;simp[QpB,l18,Qe,hkl,h55j,hne]
 ·cases hr
theorem QyE (xs:Array Value) (w:World):(callFunc 18 xs).run Tryz.prog w= .ok (.enter 18 xs) w:=by kernel_rfl
def QbH (b:List Bat) (i:Int):Int:=if(Q5 b).2.2=0 then(if inR i 0 ((b.length:Int) - 1)=true then 0 else 4)else(Q5 b).2.2
end Go.Proofs.YtnfeakhkfehkhaaGreatDoor
