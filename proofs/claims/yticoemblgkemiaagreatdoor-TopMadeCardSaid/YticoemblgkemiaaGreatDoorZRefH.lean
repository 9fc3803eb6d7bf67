/-
  Reference functions of the trace chapter: the problem of a book, Check. Conditions: none.
-/
import Derived.Test.YticoemblgkemiaaGreatDoorZRefF
set_option linter.unusedSimpArgs false
set_option linter.unusedVariables false
namespace Go.Proofs.YticoemblgkemiaaGreatDoor
open Go.RowKit
def QCc (r:Nat):List (Nat×Option Nat):=match r with
 | 0=>kpn [0,2]
 | 1=>kpn [0,2,3,7]
 | 2=>kpn [0,2,3,4,7]
 | 3=>kpn [0,2,3,4,12,7]
 | 4=>kpn [0,2,3,4,7]
 | 5=>kpn [0,2,3,4,5,7]
 | 6=>kpn [0,2,3,4,5,19,7]
 | 7=>kpn [0,2,3,4,5,7]
 | 8=>kpn [0,2,3,4,7]
 | 9=>kpn [2,7]
 | _=>[]
def Qrh (r:Nat):List (Nat×Option Nat):=match r with
 | 0=>[(0,none)]
 | 1=>kpn [0,12]
 | 2=>kpn [2,3,4]
 | 3=>kpn [0,5]
 | 4=>kpn [0,5,16]
 | 5=>kpn [0,5]
 | 6=>kpn [0,5,6]
 | 7=>kpn [0,5,6,23]
 | 8=>kpn [2,3,4]
 | 9=>kpn [0,29]
 | 10=>kpn [2,3,4]
 | 11=>kpn [0,7]
 | 12=>kpn [0,7,8]
 | 13=>kpn [0,7,8,35]
 | 14=>kpn [0,7,8]
 | 15=>kpn [0,7,8,42]
 | 16=>kpn [2,3,4]
 | 17=>[(47,none)]
 | 18=>kpn [2,3,4]
 | 19=>kpn [2,3,4]
 | _=>[]
def dI (l:List Int):List D:=l.map DI
theorem QhX (l:List Int):(dI l).map X.d=Qk l.length (λj=>DI (l.getD j 0)):=by
 unfold dI;refine List.ext_getElem (by simp[Qk]) λi h1 h2=>?_
 have hi:i < l.length:=by simpa using h1
 simp[Qk,Zd,hi]
def QoV (d:Nat) (l:List Int):List (Nat×List D):=[(d,dI l)]
theorem QFU {b:List Bat} (h:BookOk b):QlR Tryz.prog 15 [(QJ QQ).enc b] (.bs 100 0 b.length 1) (QoV 100 (QT b)):=by
 refine QlZ Tryz.func15 rfl rfl (Zb rfl) λm w a I uA=>QDL h I rfl λg' a' w' tk I'=>?_;refine Qoh (Qw Qs 59 Qwf []) I' (r:= .tmp 2) rfl rfl rfl (λi ds hi=>?_) (λi hi=>?_)
 .simp only[QoV,Qt]at hi|-;split at hi
  .rename_i e;simp only[Zs]at hi;subst hi;rw[if_pos e,QhX,QU]
  .cases hi
 .simp only[X.locs,List.mem_singleton]at hi;subst hi;simp[QoV,Qt]
def QzS:List (Nat×Nat×Nat):=[(3,1,1001),(5000,101,0)]
def Qh2 (b:List Bat) (k:Nat):List Int:=(QaD b).take k
theorem QuS {b:List Bat} {j:Nat} (h:j < b.length):Qh2 b (j+1)=Qh2 b j++[Qdt b j]:=by
 unfold Qh2;rw[List.take_succ_eq_append_getElem (by rw[Qah]; exact h)]
 simp[QaD]
theorem QfR (n:Nat) (g:Nat->D) (b i:Nat) (hb:(b==3)=false) (h5:(b==5000)=false) (av nw:List Nat):Qaz [(3,1,1001),(5000,101,0)] b i (Qk n g) av nw=(Qk n g,av,nw):=QbM QzS b _ i av nw (Qd3 hb (Qd3 h5 (QeM b))) QbJ
theorem Qyz {b:List Bat} (h:BookOk b) {j:Nat} (hj:j < b.length) (hl:b[j].lost=true):IntKind.i64.wrap (b[j].grams - b[j].fresh)=Qdt b j:=by
 have hb:=h.at hj;have:=hb.grams;have:=hb.fresh;unfold Qdt;rw[Qao hj,if_pos hl];exact Qa _ (by omega) (by omega)
set_option maxHeartbeats 2000000 in
theorem QL8 {b:List Bat} (h:BookOk b) {m:Nat->Nat->Prop} {w:World} {a:Act} (I:Inv 38 m (Qed w []) (Qzh m) ⟨Qqm 0 [(QJ QQ).enc b],[],[],[]⟩ a w) {cd:Code} (vI:Tryz.f30.body=some cd) {Q:Exit->Act->World->Prop}
  (hQ:∀g' a' w' tm tk,Inv 38 m (Qed w []) g' ⟨(2,.loc 2 0)::tm,[(2,[.bs 100 0 b.length 1,.bs 101 0 b.length 1,.d (.v (.slice none 0 0))]),(100,Qk b.length (λj=>DI ((QT b).getD j 0))),(101,Qk b.length (λj=>DI ((QaD b).getD j 0)))],tk,[]⟩ a' w'->Q .ret a' w'):cd.wpIn Fence.wide 0 Tryz.prog Q a w:=by
 cases vI;have bE:=h.le;have gD:=h.pos;have bU:=Qw Qs 38 QCc QzS;refine Qdm bU 0 _ rfl (by kernel_rfl) (by kernel_rfl) (λ_ _=>rfl) _ _ _ _ I ?_
 simp[Qeh,QCc,QzS,Qj,QG];intro g1 a1 w1 I1;show Code.wpIn _ _ _ (QiP 0 _) _ _ _;refine wpIn_seq ?_;refine Qs3 bU 1 7 15 (.bs 100 0 b.length 1) (QoV 100 (QT b)) rfl rfl rfl rfl rfl (by decide) rfl rfl (by simp[Qav,Qcz]) (λ_ _=>rfl) Qxx I1 ?_
 have cE:=QFU h;rw[QbL]at cE;simp[QvY,QCc,QzS,QN3,QMA,Qoz,QoV,QhX,QU,Qw9,QfR];refine⟨cE,λg2 a2 w2 I2=>?_⟩;show Code.wpIn _ _ _ _ _ _ _;refine Qdm bU 0 _ rfl (by kernel_rfl) (by kernel_rfl) (λ_ _=>rfl) _ _ _ _ I2 ?_
 simp[Qeh,QCc,QzS,Qaj,QfR];have zS:Qh2 b 0=[]:=by simp[Qh2]
 (generalize aC:Cx.loop _ _ _=aE; apply QcQ aC (λk=>⟨[(0,.d (.sl 5 (b.map QQ.enc))),(2,.loc 2 0),(3,.loc 3 0),(4,.d (DI k)),(7,.bs 100 0 b.length 1)],[(2,[.d (.sl 0 []),.d (.sl 0 []),.d (.sl 0 [])]),(3,[.bs 100 0 b.length 1,.sl 1 ((Qh2 b k).map QH.enc) (.own 100301),.d (.v (.slice none 0 0))]),(100,Qk b.length (λj=>DI ((QT b)[j]?.getD 0)))],[100301],[]⟩) b.length rfl; rotate_left; (show _ < 281474976710656; omega); (exact λh=>h); rotate_left; all_goals clear aC)
 .intro j hj;have w1:=Qa ((j:Int)+1) (by omega) (by omega)
  have aO:(j:Int) < b.length:=by omega
  have aI:(Qh2 b j).length=j:=by simp[Qh2,QaD]; omega
  have h1:j+1<=140737488355328:=by omega
  have h2:(j+1)*8<=140737488355328:=by omega
  rw[QuS hj];cases hl:b[j].lost with
  | true=>
   have e:=Qyz h hj hl;simp[QCc,hj,aO,w1,Qe,Qd,Qaj,QfR,aI,h1,h2,hl,e]
  | false=>
   have e:Qdt b j=0:=by unfold Qdt; rw[Qao hj,hl]; simp
   simp[QCc,hj,aO,w1,Qe,Qd,Qaj,QfR,aI,h1,h2,hl,e]
 .simp[QCc,Qaj,QfR,QG];intro g3 a3 w3 I3;show Code.wpIn _ _ _ _ _ _ _;have hKn:Qh2 b b.length=QaD b:=by unfold Qh2; rw[<-Qah b,List.take_length]
  have aS:(Qh2 b b.length).map QH.enc≠[]:=by
   intro h0;have:((Qh2 b b.length).map QH.enc).length=0:=by rw[h0]; rfl
   rw[hKn,List.length_map,Qah]at this;omega
  obtain⟨g4,I4⟩:=QBr bU (t:=3) (bx:=3) (off:=1) (d:=101) (k:=1) (tk:=100301) (rows:=(Qh2 b b.length).map QH.enc) rfl rfl rfl (by simp) aS (by simp[Qav,Qcz,Qaj]) rfl I3
  rw[hKn]at I4;simp only[QDs,List.length_map,Qah]at I4;refine Qdk bU (by kernel_rfl) (by kernel_rfl) I4 (λ_ _=>rfl) ?_
  simp[QiP,QCc,QzS,Qaj,QfR,Qt,QG];intro g5 a5 w5 I5;refine hQ g5 a5 w5 _ _ (by simpa using I5)
def Qly (n:Nat):X:= .agb [.b 100 0 n 1,.b 101 0 n 1,.d (.v (.slice none 0 0))]
def Qix (b:List Bat):List (Nat×List D):=[(100,dI (QT b)),(101,dI (QaD b))]
theorem Qx2 {b:List Bat} (h:BookOk b):QlR Tryz.prog 30 [(QJ QQ).enc b] (Qly b.length) (Qix b):=by
 refine QlZ Tryz.func30 rfl rfl (Zb rfl) λm w a I uA=>QL8 h I rfl λg' a' w' tm tk I'=>?_;refine Qoh (Qw Qs 38 QCc QzS) I' (r:= .cell 2 93) rfl (by simp[QMX,Qly]) rfl (λi ds hi=>?_) (λi hi=>?_)
 .simp only[Qix,Qt]at hi|-;split at hi
  .rename_i e;simp only[Zs]at hi;subst hi e;simp[QhX,QU]
  .split at hi
   .rename_i e;simp only[Zs]at hi;subst hi e;simp[QhX,Qah]
   .cases hi
 .simp only[X.locs,Qly,Qc5,List.mem_cons,List.not_mem_nil,or_false]at hi;rcases hi with rfl | rfl<;>simp[Qix,Qt]
theorem QzA (n:Nat) (l:List Int) (h:l.length=n):Qbp (((dI l).map X.d).take n)=some (dI l):=by
 rw[List.take_of_length_le (by simp[dI]; omega)]
 unfold dI;clear h
 induction l with
 | nil=>rfl
 | cons a t ih=>simp only[List.map_cons,Qbp,X.data,ih]
theorem Qzi (l:List Int):(dI l).map (λd=>[d])=l.map QH.enc:=by
 simp[dI,Qd]
theorem QL4 {b:List Bat} (h:BookOk b):PureC Tryz.prog 30 [(QJ QQ).enc b] ((Qcf Qof).enc (QV b)):=by
 have bE:=h.le;have hn:b.length<=140737488355328:=by omega
 have h1:=QzA b.length (QT b) (QU b);have h2:=QzA b.length (QaD b) (Qah b);have l1:(dI (QT b)).length=b.length:=by simp[dI,QU]
 have l2:(dI (QaD b)).length=b.length:=by simp[dI,Qah]
 have hp:=Qnq (d:= .agg [.sl 1 ((QT b).map QH.enc),.sl 1 ((QaD b).map QH.enc),.sl 0 []]) (Qx2 h) (by
  rw[<-Qzi,<-Qzi];simp only[Qly,Qix,X.snap,Qdn,Qk9,List.map_cons,List.map_nil,Qt,Qlb,List.drop_zero];simp[h1,h2,l1,l2,hn])
 refine hp.out ((Qcf Qof).ed _ _ ?_);rw[QaQ];simp[Qof,Qap,Qb9,QV]
noncomputable def s41:List D->Option D:=sp1 (QJ QQ) (Qcf Qof) λb=>if BookOk b then some (QV b)else none
theorem ok41:∀ds d,s41 ds=some d->PureC Tryz.prog 30 ds d:=Qbr λb r hr=>by
 split at hr
 .rename_i h;cases hr;exact QL4 h
 .cases hr
theorem QDd (xs:Array Value) (w:World):(callFunc 30 xs).run Tryz.prog w= .ok (.enter 30 xs) w:=by kernel_rfl
noncomputable def l18:List (Nat×(List D->Option D)):=[(26,s54),(27,s55),(28,s46),(15,s40),(30,s41),(29,s56)]
theorem QOH:QaE Tryz.prog (Qaw l18):=Qh (Qh (Qh (Qh (Qh (Qh Qs QMn ok56) QDd ok41) Qxx ok40) QMt ok46) QME ok55) QCN ok54
noncomputable def s18:List D->Option D:=sp1 (QJ QQ) (Qmy QaY QaY QaY) λb=>if bkB b=true then some (Qaf b)else none
set_option maxHeartbeats 2000000 in
theorem ok18:∀ds d,s18 ds=some d->PureC Tryz.prog 6 ds d:=Qbr λb r hr=>by
 split at hr
 .rename_i cL;cases hr;refine Qf (Qw QOH 48 Qrh []) Tryz.func6 rfl rfl (Zb rfl) (by kernel_rfl) ?_
  rw[Tryz.results6];unfold Qaf;cases h1:inR b.length 1 8 with
  | false=>simp[Qrh,l18,s54,Qj,h1]
  | true=>
   have hb:=Qal.1 h1;have m7:b.length<=8:=by omega
   have h55:∀j,j < b.length->s55 [.sl 5 (b.map QQ.enc),DI j]=some (DI (QmK b j (b.getD j default))):=λj hj=>by
    have c:(0:Int)<=(j:Int)/\(j:Int) < b.length/\b.length<=8/\bkB b=true:=by refine⟨by omega,by omega,m7,cL⟩
    simp[s55,sp2,Q9,c]
   rcases QdP (QmK b) b with⟨h2,hall⟩ | ⟨k,hk,h2,aM,aT⟩
   .rw[h2];have aP:BookOk b:=⟨m7,by omega,hall⟩
    simp[Qrh,l18,s54,Qj,h1]
    (generalize aC:Cx.loop _ _ _=aE; apply Qi aC (λk=>⟨[(0,.d (.sl 5 (b.map QQ.enc))),(5,.d (DI k))],[],[],[]⟩) b.length rfl; rotate_left; (show _ < 281474976710656; omega); rfl; rotate_left; all_goals clear aC)
    .intro j hj;have w1:=Qa ((j:Int)+1) (by omega) (by omega)
     have aO:(j:Int) < b.length:=by omega
     have jN:=h55 j hj;rw[Qao hj,hall j hj]at jN;simp[Qrh,aO,jN,w1]
    .by_cases h3:3 < (Qae b).length
     .have jS:(3:Int) < (Qae b).length:=by omega
      simp[Qrh,s46,Q9,Qn,m7,h3,jS]
     .have jS:¬(3:Int) < (Qae b).length:=by omega
      have aX:=QU b;have hpr:=QeU aP;have zT:s56 [.agg (Qof.enc (QV b))]=some (DB (Qcj (QV b))):=by
       simp[s56,sp1,QaQ,Qof.de,hpr]
      have fC:∀j (hj:j < b.length),QeJ j ((QT b)[j]'(by rw[aX]; exact hj))=if(QT b)[j]'(by rw[aX]; exact hj) < 0 then 7 else 0:=λj hj=>rfl
      rcases QdP QeJ (QT b)with⟨h4,hall4⟩ | ⟨k,hk,h4,hbad4,hgood4⟩
      .rw[h4];simp[Qrh,s46,s40,Q9,Qn,m7,h3,jS,aP]
       (generalize aC:Cx.loop _ _ _=aE; apply Qi aC (λk=>⟨[(0,.d (.sl 5 (b.map QQ.enc))),(7,.d (.sl 1 ((QT b).map QH.enc))),(8,.d (DI k))],[],[],[]⟩) b.length rfl; rotate_left; (show _ < 281474976710656; omega); rfl; rotate_left; all_goals clear aC)
       .intro j hj;have w1:=Qa ((j:Int)+1) (by omega) (by omega)
        have aO:(j:Int) < b.length:=by omega
        have dY:j < (QT b).length:=by omega
        have hx:=hall4 j dY;have hx':¬(QT b)[j] < 0:=by
         intro hn;unfold QeJ at hx;rw[if_pos hn]at hx; cases hx
        simp[Qrh,Qd,aX,hj,aO,hx',w1]
       .cases h5:Qcj (QV b)with
        | false=>
         rw[h5]at zT;simp[Qrh,s41,Q9,aX,aP,zT]
        | true=>
         rw[h5]at zT;simp[Qrh,s41,Q9,aX,aP,zT]
      .rw[h4];have wK:k < b.length:=by omega
       have xM:(QT b)[k] < 0:=by
        unfold QeJ at hbad4;split at hbad4
        .assumption
        .exact absurd rfl hbad4
       have hv:QeJ k (QT b)[k]=7:=by unfold QeJ; rw[if_pos xM]
       rw[hv];simp[Qrh,s46,s40,Q9,Qn,m7,h3,jS,aP]
       (generalize aC:Cx.loop _ _ _=aE; apply Qi aC (λk=>⟨[(0,.d (.sl 5 (b.map QQ.enc))),(7,.d (.sl 1 ((QT b).map QH.enc))),(8,.d (DI k))],[],[],[]⟩) k rfl; rotate_left; (show _ < 281474976710656; omega); rfl; rotate_left; all_goals clear aC)
       .intro j cM;have hj:j < b.length:=by omega
        have w1:=Qa ((j:Int)+1) (by omega) (by omega)
        have aO:(j:Int) < b.length:=by omega
        have dY:j < (QT b).length:=by omega
        have hx:=hgood4 j dY cM;have hx':¬(QT b)[j] < 0:=by
         intro hn;unfold QeJ at hx;rw[if_pos hn]at hx; cases hx
        simp[Qrh,Qd,aX,hj,aO,hx',w1]
       .have hkl2:(k:Int) < b.length:=by omega
        simp[Qrh,Qd,aX,wK,hkl2,xM]
   .rw[h2];have aS:(QmK b k b[k] != 0)=true:=bne_iff_ne.2 aM;simp[Qrh,l18,s54,Qj,h1,aM]
    (generalize aC:Cx.loop _ _ _=aE; apply Qi aC (λk=>⟨[(0,.d (.sl 5 (b.map QQ.enc))),(5,.d (DI k))],[],[],[]⟩) k rfl; rotate_left; (show _ < 281474976710656; omega); rfl; rotate_left; all_goals clear aC)
    .intro j cM;have hj:j < b.length:=by omega
     have w1:=Qa ((j:Int)+1) (by omega) (by omega)
     have aO:(j:Int) < b.length:=by omega
     have jN:=h55 j hj;rw[Qao hj,aT j hj cM]at jN;simp[Qrh,aO,jN,w1]
    .have aX:(k:Int) < b.length:=by omega
     have jN:=h55 k hk;rw[Qao hk]at jN;simp[Qrh,aX,jN,aS]
 .cases hr
theorem QIZ (xs:Array Value) (w:World):(callFunc 6 xs).run Tryz.prog w= .ok (.enter 6 xs) w:=by kernel_rfl
def QbB (b:List Bat) (i:Int):Int:=if(Qaf b).2.2=0 then(if inR i 0 ((b.length:Int) - 1)=true then 0 else 4)else(Qaf b).2.2
end Go.Proofs.YticoemblgkemiaaGreatDoor
