/-
  Reference functions of the trace chapter: the problem of a book, Check. Conditions: none.
-/
import Derived.Test.YtnfeakhkfehkhaaGreatDoorZRefF
set_option linter.unusedSimpArgs false
set_option linter.unusedVariables false
namespace Go.Proofs.YtnfeakhkfehkhaaGreatDoor
open Go.RowKit
def Qxv (r:Nat):List (Nat×Option Nat):=match r with
 | 0=>kpn [0,2]
 | 1=>kpn [0,2,3,7]
 | 2=>kpn [0,2,3,4,7]
 | 3=>kpn [0,2,3,4,12,7]
 | 4=>kpn [0,2,3,4,7]
 | 5=>kpn [0,2,3,4,5,7]
 | 6=>kpn [0,2,3,4,5,19,7]
 | 7=>kpn [0,2,3,4,5,7]
 | 8=>kpn [0,2,3,4,7]
 | 9=>kpn [2,7]
 | _=>[]
def QpB (r:Nat):List (Nat×Option Nat):=match r with
 | 0=>[(0,none)]
 | 1=>kpn [0,12]
 | 2=>kpn [2,3,4]
 | 3=>kpn [0,5]
 | 4=>kpn [0,5,16]
 | 5=>kpn [0,5]
 | 6=>kpn [0,5,6]
 | 7=>kpn [0,5,6,23]
 | 8=>kpn [2,3,4]
 | 9=>kpn [0,29]
 | 10=>kpn [2,3,4]
 | 11=>kpn [0,7]
 | 12=>kpn [0,7,8]
 | 13=>kpn [0,7,8,35]
 | 14=>kpn [0,7,8]
 | 15=>kpn [0,7,8,42]
 | 16=>kpn [2,3,4]
 | 17=>[(47,none)]
 | 18=>kpn [2,3,4]
 | 19=>kpn [2,3,4]
 | _=>[]
def dI (l:List Int):List D:=l.map DI
theorem Qh6 (l:List Int):(dI l).map X.d=QPw l.length (λj=>DI (l.getD j 0)):=by
 unfold dI;refine List.ext_getElem (by simp[QPw]) λi h1 h2=>?_
 have hi:i < l.length:=by simpa using h1
 simp[QPw,Zd,hi]
def QnW (d:Nat) (l:List Int):List (Nat×List D):=[(d,dI l)]
theorem Qzz {b:List Bat} (h:BookOk b):QkS Tryz.prog 40 [(Qy QO).enc b] (.bs 100 0 b.length 1) (QnW 100 (QI b)):=by
 refine QkZ Tryz.func40 rfl rfl (Zb rfl) λm w a I tV=>QyX h I rfl λg' a' w' tk I'=>?_;refine Qnz (QE QB 59 Quu []) I' (r:= .tmp 2) rfl rfl rfl (λi ds hi=>?_) (λi hi=>?_)
 .simp only[QnW,Qv]at hi|-;split at hi
  .rename_i e;simp only[Zs]at hi;subst hi;rw[if_pos e,Qh6,QN]
  .cases hi
 .simp only[X.locs,List.mem_singleton]at hi;subst hi;simp[QnW,Qv]
def Qv4:List (Nat×Nat×Nat):=[(3,1,1001),(5000,101,0)]
def Qho (b:List Bat) (k:Nat):List Int:=(QV b).take k
theorem Qrw {b:List Bat} {j:Nat} (h:j < b.length):Qho b (j+1)=Qho b j++[QfA b j]:=by
 unfold Qho;rw[List.take_succ_eq_append_getElem (by rw[QS]; exact h)]
 simp[QV]
theorem Qfg (n:Nat) (g:Nat->D) (b i:Nat) (hb:(b==3)=false) (h5:(b==5000)=false) (av nw:List Nat):Qaw [(3,1,1001),(5000,101,0)] b i (QPw n g) av nw=(QPw n g,av,nw):=Qbv Qv4 b _ i av nw (Qeh hb (Qeh h5 (Qeb b))) Qbr
theorem QuW {b:List Bat} (h:BookOk b) {j:Nat} (hj:j < b.length) (hl:b[j].lost=true):IntKind.i64.wrap (b[j].grams - b[j].fresh)=QfA b j:=by
 have hb:=h.at hj;have:=hb.grams;have:=hb.fresh;unfold QfA;rw[Qbf hj,if_pos hl];exact Qa _ (by omega) (by omega)
set_option maxHeartbeats 2000000 in
theorem QD4 {b:List Bat} (h:BookOk b) {m:Nat->Nat->Prop} {w:World} {a:Act} (I:Inv 38 m (Qdz w []) (Qts m) ⟨QoD 0 [(Qy QO).enc b],[],[],[]⟩ a w) {cd:Code} (vC:Tryz.f41.body=some cd) {Q:Exit->Act->World->Prop}
  (hQ:∀g' a' w' tm tk,Inv 38 m (Qdz w []) g' ⟨(2,.loc 2 0)::tm,[(2,[.bs 100 0 b.length 1,.bs 101 0 b.length 1,.d (.v (.slice none 0 0))]),(100,QPw b.length (λj=>DI ((QI b).getD j 0))),(101,QPw b.length (λj=>DI ((QV b).getD j 0)))],tk,[]⟩ a' w'->Q .ret a' w'):cd.wpIn Fence.wide 0 Tryz.prog Q a w:=by
 cases vC;have aX:=h.le;have gW:=h.pos;have cS:=QE QB 38 Qxv Qv4;refine QgG cS 0 _ rfl (by kernel_rfl) (by kernel_rfl) (λ_ _=>rfl) _ _ _ _ I ?_
 simp[QeQ,Qxv,Qv4,Qe,QT];intro g1 a1 w1 I1;show Code.wpIn _ _ _ (Qon 0 _) _ _ _;refine wpIn_seq ?_;refine Qwc cS 1 7 40 (.bs 100 0 b.length 1) (QnW 100 (QI b)) rfl rfl rfl rfl rfl (by decide) rfl rfl (by simp[Qan,QcP]) (λ_ _=>rfl) Qzm I1 ?_
 have cH:=Qzz h;rw[Qbk]at cH;simp[Qwl,Qxv,Qv4,QLf,QGU,Qrf,QnW,Qh6,QN,QCZ,Qfg];refine⟨cH,λg2 a2 w2 I2=>?_⟩;show Code.wpIn _ _ _ _ _ _ _;refine QgG cS 0 _ rfl (by kernel_rfl) (by kernel_rfl) (λ_ _=>rfl) _ _ _ _ I2 ?_
 simp[QeQ,Qxv,Qv4,Qaf,Qfg];have hK0:Qho b 0=[]:=by simp[Qho]
 (generalize aC:Cx.loop _ _ _=aE; apply Qc2 aC (λk=>⟨[(0,.d (.sl 5 (b.map QO.enc))),(2,.loc 2 0),(3,.loc 3 0),(4,.d (DI k)),(7,.bs 100 0 b.length 1)],[(2,[.d (.sl 0 []),.d (.sl 0 []),.d (.sl 0 [])]),(3,[.bs 100 0 b.length 1,.sl 1 ((Qho b k).map Qt.enc) (.own 100301),.d (.v (.slice none 0 0))]),(100,QPw b.length (λj=>DI ((QI b)[j]?.getD 0)))],[100301],[]⟩) b.length rfl; rotate_left; (show _ < 281474976710656; omega); (exact λh=>h); rotate_left; all_goals clear aC)
 .intro j hj;have w1:=Qa ((j:Int)+1) (by omega) (by omega)
  have aO:(j:Int) < b.length:=by omega
  have aI:(Qho b j).length=j:=by simp[Qho,QV]; omega
  have h1:j+1<=140737488355328:=by omega
  have h2:(j+1)*8<=140737488355328:=by omega
  rw[Qrw hj];cases hl:b[j].lost with
  | true=>
   have e:=QuW h hj hl;simp[Qxv,hj,aO,w1,Qh,Qc,Qaf,Qfg,aI,h1,h2,hl,e]
  | false=>
   have e:QfA b j=0:=by unfold QfA; rw[Qbf hj,hl]; simp
   simp[Qxv,hj,aO,w1,Qh,Qc,Qaf,Qfg,aI,h1,h2,hl,e]
 .simp[Qxv,Qaf,Qfg,QT];intro g3 a3 w3 I3;show Code.wpIn _ _ _ _ _ _ _;have hKn:Qho b b.length=QV b:=by unfold Qho; rw[<-QS b,List.take_length]
  have aS:(Qho b b.length).map Qt.enc≠[]:=by
   intro h0;have:((Qho b b.length).map Qt.enc).length=0:=by rw[h0]; rfl
   rw[hKn,List.length_map,QS]at this;omega
  obtain⟨g4,I4⟩:=Qyo cS (t:=3) (bx:=3) (off:=1) (d:=101) (k:=1) (tk:=100301) (rows:=(Qho b b.length).map Qt.enc) rfl rfl rfl (by simp) aS (by simp[Qan,QcP,Qaf]) rfl I3
  rw[hKn]at I4;simp only[Qu6,List.length_map,QS]at I4;refine QfO cS (by kernel_rfl) (by kernel_rfl) I4 (λ_ _=>rfl) ?_
  simp[Qon,Qxv,Qv4,Qaf,Qfg,Qv,QT];intro g5 a5 w5 I5;refine hQ g5 a5 w5 _ _ (by simpa using I5)
def QpX (n:Nat):X:= .agb [.b 100 0 n 1,.b 101 0 n 1,.d (.v (.slice none 0 0))]
def Qhz (b:List Bat):List (Nat×List D):=[(100,dI (QI b)),(101,dI (QV b))]
theorem Qt2 {b:List Bat} (h:BookOk b):QkS Tryz.prog 41 [(Qy QO).enc b] (QpX b.length) (Qhz b):=by
 refine QkZ Tryz.func41 rfl rfl (Zb rfl) λm w a I tV=>QD4 h I rfl λg' a' w' tm tk I'=>?_;refine Qnz (QE QB 38 Qxv Qv4) I' (r:= .cell 2 61) rfl (by simp[QGb,QpX]) rfl (λi ds hi=>?_) (λi hi=>?_)
 .simp only[Qhz,Qv]at hi|-;split at hi
  .rename_i e;simp only[Zs]at hi;subst hi e;simp[Qh6,QN]
  .split at hi
   .rename_i e;simp only[Zs]at hi;subst hi e;simp[Qh6,QS]
   .cases hi
 .simp only[X.locs,QpX,QcM,List.mem_cons,List.not_mem_nil,or_false]at hi;rcases hi with rfl | rfl<;>simp[Qhz,Qv]
theorem Qmz (n:Nat) (l:List Int) (h:l.length=n):Qa9 (((dI l).map X.d).take n)=some (dI l):=by
 rw[List.take_of_length_le (by simp[dI]; omega)]
 unfold dI;clear h
 induction l with
 | nil=>rfl
 | cons a t ih=>simp only[List.map_cons,Qa9,X.data,ih]
theorem QlX (l:List Int):(dI l).map (λd=>[d])=l.map Qt.enc:=by
 simp[dI,Qc]
theorem QE7 {b:List Bat} (h:BookOk b):PureC Tryz.prog 41 [(Qy QO).enc b] ((QeC Qqw).enc (Qac b)):=by
 have aX:=h.le;have hn:b.length<=140737488355328:=by omega
 have h1:=Qmz b.length (QI b) (QN b);have h2:=Qmz b.length (QV b) (QS b);have l1:(dI (QI b)).length=b.length:=by simp[dI,QN]
 have l2:(dI (QV b)).length=b.length:=by simp[dI,QS]
 have hp:=Qmo (d:= .agg [.sl 1 ((QI b).map Qt.enc),.sl 1 ((QV b).map Qt.enc),.sl 0 []]) (Qt2 h) (by
  rw[<-QlX,<-QlX];simp only[QpX,Qhz,X.snap,QcX,QhS,List.map_cons,List.map_nil,Qv,QjX,List.drop_zero];simp[h1,h2,l1,l2,hn])
 refine hp.out ((QeC Qqw).ed _ _ ?_);rw[Qbq];simp[Qqw,QQ,Qar,Qac]
noncomputable def s41:List D->Option D:=sp1 (Qy QO) (QeC Qqw) λb=>if BookOk b then some (Qac b)else none
theorem QRK:∀ds d,s41 ds=some d->PureC Tryz.prog 41 ds d:=Qb2 λb r hr=>by
 split at hr
 .rename_i h;cases hr;exact QE7 h
 .cases hr
theorem QtI (xs:Array Value) (w:World):(callFunc 41 xs).run Tryz.prog w= .ok (.enter 41 xs) w:=by kernel_rfl
noncomputable def l18:List (Nat×(List D->Option D)):=[(54,s54),(55,s55),(46,s46),(40,s40),(41,s41),(56,s56)]
theorem QHZ:Qay Tryz.prog (Qas l18):=Ql (Ql (Ql (Ql (Ql (Ql QB Qud QG3) QtI QRK) Qzm QRE) QtU QHU) QFZ ok55) QyW QKQ
noncomputable def s18:List D->Option D:=sp1 (Qy QO) (QlK Qbh Qbh Qbh) λb=>if bkB b=true then some (Q5 b)else none
set_option maxHeartbeats 2000000 in
theorem QKw:∀ds d,s18 ds=some d->PureC Tryz.prog 18 ds d:=Qb2 λb r hr=>by
 split at hr
 .rename_i cO;cases hr;refine Qm (QE QHZ 48 QpB []) Tryz.func18 rfl rfl (Zb rfl) (by kernel_rfl) ?_
  rw[Tryz.results18];unfold Q5;cases h1:inR b.length 1 8 with
  | false=>simp[QpB,l18,s54,Qe,h1]
  | true=>
   have hb:=Qau.1 h1;have mP:b.length<=8:=by omega
   have h55:∀j,j < b.length->s55 [.sl 5 (b.map QO.enc),DI j]=some (DI (Qol b j (b.getD j default))):=λj hj=>by
    have c:(0:Int)<=(j:Int)/\(j:Int) < b.length/\b.length<=8/\bkB b=true:=by refine⟨by omega,by omega,mP,cO⟩
    simp[s55,sp2,QR,c]
   rcases Qdb (Qol b) b with⟨h2,hall⟩ | ⟨k,hk,h2,aL,aM⟩
   .rw[h2];have aQ:BookOk b:=⟨mP,by omega,hall⟩
    simp[QpB,l18,s54,Qe,h1]
    (generalize aC:Cx.loop _ _ _=aE; apply Qi aC (λk=>⟨[(0,.d (.sl 5 (b.map QO.enc))),(5,.d (DI k))],[],[],[]⟩) b.length rfl; rotate_left; (show _ < 281474976710656; omega); rfl; rotate_left; all_goals clear aC)
    .intro j hj;have w1:=Qa ((j:Int)+1) (by omega) (by omega)
     have aO:(j:Int) < b.length:=by omega
     have jC:=h55 j hj;rw[Qbf hj,hall j hj]at jC;simp[QpB,aO,jC,w1]
    .by_cases h3:3 < (QU b).length
     .have jK:(3:Int) < (QU b).length:=by omega
      simp[QpB,s46,QR,Qg,mP,h3,jK]
     .have jK:¬(3:Int) < (QU b).length:=by omega
      have bB:=QN b;have hpr:=Qe2 aQ;have y6:s56 [.agg (Qqw.enc (Qac b))]=some (DB (QaT (Qac b))):=by
       simp[s56,sp1,Qbq,Qqw.de,hpr]
      have fB:∀j (hj:j < b.length),Qd0 j ((QI b)[j]'(by rw[bB]; exact hj))=if(QI b)[j]'(by rw[bB]; exact hj) < 0 then 7 else 0:=λj hj=>rfl
      rcases Qdb Qd0 (QI b)with⟨h4,hall4⟩ | ⟨k,hk,h4,hbad4,hgood4⟩
      .rw[h4];simp[QpB,s46,s40,QR,Qg,mP,h3,jK,aQ]
       (generalize aC:Cx.loop _ _ _=aE; apply Qi aC (λk=>⟨[(0,.d (.sl 5 (b.map QO.enc))),(7,.d (.sl 1 ((QI b).map Qt.enc))),(8,.d (DI k))],[],[],[]⟩) b.length rfl; rotate_left; (show _ < 281474976710656; omega); rfl; rotate_left; all_goals clear aC)
       .intro j hj;have w1:=Qa ((j:Int)+1) (by omega) (by omega)
        have aO:(j:Int) < b.length:=by omega
        have dW:j < (QI b).length:=by omega
        have hx:=hall4 j dW;have hx':¬(QI b)[j] < 0:=by
         intro hn;unfold Qd0 at hx;rw[if_pos hn]at hx; cases hx
        simp[QpB,Qc,bB,hj,aO,hx',w1]
       .cases h5:QaT (Qac b)with
        | false=>
         rw[h5]at y6;simp[QpB,s41,QR,bB,aQ,y6]
        | true=>
         rw[h5]at y6;simp[QpB,s41,QR,bB,aQ,y6]
      .rw[h4];have hk2:k < b.length:=by omega
       have wO:(QI b)[k] < 0:=by
        unfold Qd0 at hbad4;split at hbad4
        .assumption
        .exact absurd rfl hbad4
       have hv:Qd0 k (QI b)[k]=7:=by unfold Qd0; rw[if_pos wO]
       rw[hv];simp[QpB,s46,s40,QR,Qg,mP,h3,jK,aQ]
       (generalize aC:Cx.loop _ _ _=aE; apply Qi aC (λk=>⟨[(0,.d (.sl 5 (b.map QO.enc))),(7,.d (.sl 1 ((QI b).map Qt.enc))),(8,.d (DI k))],[],[],[]⟩) k rfl; rotate_left; (show _ < 281474976710656; omega); rfl; rotate_left; all_goals clear aC)
       .intro j cM;have hj:j < b.length:=by omega
        have w1:=Qa ((j:Int)+1) (by omega) (by omega)
        have aO:(j:Int) < b.length:=by omega
        have dW:j < (QI b).length:=by omega
        have hx:=hgood4 j dW cM;have hx':¬(QI b)[j] < 0:=by
         intro hn;unfold Qd0 at hx;rw[if_pos hn]at hx; cases hx
        simp[QpB,Qc,bB,hj,aO,hx',w1]
       .have hkl2:(k:Int) < b.length:=by omega
        simp[QpB,Qc,bB,hk2,hkl2,wO]
   .rw[h2];have aS:(Qol b k b[k] != 0)=true:=bne_iff_ne.2 aL;simp[QpB,l18,s54,Qe,h1,aL]
    (generalize aC:Cx.loop _ _ _=aE; apply Qi aC (λk=>⟨[(0,.d (.sl 5 (b.map QO.enc))),(5,.d (DI k))],[],[],[]⟩) k rfl; rotate_left; (show _ < 281474976710656; omega); rfl; rotate_left; all_goals clear aC)
    .intro j cM;have hj:j < b.length:=by omega
     have w1:=Qa ((j:Int)+1) (by omega) (by omega)
     have aO:(j:Int) < b.length:=by omega
     have jC:=h55 j hj;rw[Qbf hj,aM j hj cM]at jC;simp[QpB,aO,jC,w1]
    .have bB:(k:Int) < b.length:=by omega
     have jC:=h55 k hk;rw[Qbf hk]at jC;simp[QpB,bB,jC,aS]
 .cases hr
theorem QyE (xs:Array Value) (w:World):(callFunc 18 xs).run Tryz.prog w= .ok (.enter 18 xs) w:=by kernel_rfl
def QbH (b:List Bat) (i:Int):Int:=if(Q5 b).2.2=0 then(if inR i 0 ((b.length:Int) - 1)=true then 0 else 4)else(Q5 b).2.2
end Go.Proofs.YtnfeakhkfehkhaaGreatDoor
