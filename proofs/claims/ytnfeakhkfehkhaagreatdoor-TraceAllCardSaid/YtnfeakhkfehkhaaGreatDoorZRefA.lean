/-
  Reference functions of the trace chapter: numbers, names, lost cards. Conditions: none.
-/
import Derived.Test.YtnfeakhkfehkhaaGreatDoorZTys
set_option linter.unusedSimpArgs false
set_option linter.unusedVariables false
namespace Go.Proofs.YtnfeakhkfehkhaaGreatDoor
open Go.RowKit
def kp54 (r:Nat):List (Nat×Option Nat):=match r with
 | 0=>kpn [0,1,2]
 | 1=>[(6,none)]
 | _=>[]
def QEu (r:Nat):List (Nat×Option Nat):=match r with
 | 0=>kpn [0,1,2]
 | 1=>[(6,none)]
 | _=>[]
def Qlh (r:Nat):List (Nat×Option Nat):=match r with
 | 0=>[(0,none)]
 | 1=>kpn [0,20]
 | 2=>[(2,none)]
 | 3=>kpn [0,3]
 | 4=>kpn [0,3,24]
 | 5=>kpn [0,3]
 | 6=>kpn [0,3,55]
 | 7=>[(2,none)]
 | 8=>[(2,none)]
 | _=>[]
def QF5 (r:Nat):List (Nat×Option Nat):=match r with
 | 0=>[(0,none)]
 | 1=>[(0,none),(3,some 1)]
 | 2=>[(0,none),(3,some 1),(4,none)]
 | 3=>[(0,none),(3,some 1),(4,none),(8,none)]
 | 4=>[(0,none),(3,some 1),(4,none)]
 | 5=>[(0,none),(3,some 1),(4,none),(15,none)]
 | 6=>[(0,none),(3,some 1),(4,none)]
 | 7=>[(2,some 1)]
 | _=>[]
def QGp (r:Nat):List (Nat×Option Nat):=match r with
 | 0=>[(0,none)]
 | 1=>kpn [0,3]
 | 2=>kpn [0,3,4]
 | 3=>kpn [0,3,4,7]
 | 4=>kpn [0,3,4]
 | 5=>kpn [0,3,4]
 | 6=>[(2,none)]
 | _=>[]
def s54:List D->Option D:=sp3 Qbh Qbh Qbh QaI λn lo hi=>some (inR n lo hi)
theorem QKQ:∀ds d,s54 ds=some d->PureC Tryz.prog 54 ds d:=QcG λn lo hi r hr=>by
 cases hr;refine Qm (QE QB 15 kp54 []) Tryz.func54 rfl rfl (Zb rfl) (by kernel_rfl) ?_
 rw[Tryz.results54];unfold inR;by_cases h:lo<=n<;>simp[kp54,h]
theorem QyW (xs:Array Value) (w:World):(callFunc 54 xs).run Tryz.prog w= .ok (.enter 54 xs) w:=by kernel_rfl
def Qod:List D->Option D:=sp3 Qbh Qbh Qbh QaI λn lo hi=>some (inR n lo hi)
theorem QHQ:∀ds d,Qod ds=some d->PureC Tryz.prog 118 ds d:=QcG λn lo hi r hr=>by
 cases hr;refine Qm (QE QB 15 QEu []) Tryz.func118 rfl rfl (Zb rfl) (by kernel_rfl) ?_
 rw[Tryz.results118];unfold inR;by_cases h:lo<=n<;>simp[QEu,h]
theorem QBN (xs:Array Value) (w:World):(callFunc 118 xs).run Tryz.prog w= .ok (.enter 118 xs) w:=by kernel_rfl
def l1:List (Nat×(List D->Option D)):=[(118,Qod)]
theorem del1:Qay Tryz.prog (Qas l1):=Ql QB QBN QHQ
theorem QiX (s:ByteArray) (i:Nat):0<=Qaq s i/\Qaq s i<=255:=by
 unfold Qaq;have:=(s[i]?.getD 0).toNat_lt;omega
def s96:List D->Option D:=sp1 QmM QaI λs=>some (Qbe s)
theorem ok96:∀ds d,s96 ds=some d->PureC Tryz.prog 96 ds d:=Qb2 λs r hr=>by
 cases hr;refine Qm (QE del1 56 Qlh []) Tryz.func96 rfl rfl (Zb rfl) (by kernel_rfl) ?_
 rw[Tryz.results96];cases h1:inR s.size 1 20 with
 | false=>simp[Qlh,Qbe,h1,l1,Qod,ty9]
 | true=>
  have hs:1<=(s.size:Int)/\(s.size:Int)<=20:=by simpa[inR]using h1
  have cC:(0:Int) < (s.size:Int):=by omega
  have mQ:0 < s.size:=by omega
  cases h2:Qaq s 0==45 with
  | true=>simp[Qlh,Qbe,h1,h2,l1,Qod,ty9,mQ]
  | false=>
   have hw:IntKind.i64.wrap ((s.size:Int) - 1)=((s.size - 1:Nat):Int):=by rw[Qa _ (by omega) (by omega)]; omega
   have aR:((s.size - 1:Nat):Int) < (s.size:Int):=by omega
   cases h3:Qaq s (s.size - 1)==45 with
   | true=>simp[Qlh,Qbe,h1,h2,h3,l1,Qod,ty9,mQ,hw,aR]
   | false=>
    have fW:∀k,(Qaq s k==45)=false/\(inR (Qaq s k) 97 122=Qv7 s k)\/(Qaq s k==45)=true/\k=0/\Qv7 s k=true\/(Qaq s k==45)=true/\0 < k/\(Qaq s (k - 1)==45)=!Qv7 s k:=by
     intro k;unfold Qv7;cases hb:Qaq s k==45 with
     | false=>left; simp
     | true=>
      right;by_cases hk:k=0
      .left; simp[hk]
      .right; simp; omega
    rcases QaK (Qv7 s) s.size with hall | ⟨k,hk,aL,aM⟩
    .have hr:Qbe s=true:=by simp[Qbe,h1,h2,h3]; exact hall
     rw[hr];simp[Qlh,h1,h2,h3,l1,Qod,ty9,mQ,hw,aR];generalize hL:Cx.loop _ _ _=R;have hR:R=some (.exit 0,⟨[(0,.d (DS s)),(3,.d (DI s.size)),(24,.d (DB false))],[],[],[]⟩):=by
      rw[<-hL];refine Qdv (λk=>⟨[(0,.d (DS s)),(3,.d (DI k))],[],[],[]⟩) _ _ s.size (by simp) (λj hj=>?_) ?_ (by simp only[Qbx]; omega)
      .have cM:(j:Int) < (s.size:Int):=by omega
       have h2:=Qa ((j:Int)+1) (by omega) (by omega)
       have hn:=hall j hj;have jU:=QiX s j;have nP:=Qa (Qaq s j) (by omega) (by omega)
       rcases fW j with⟨c1,c2⟩ | ⟨c1,c2,c3⟩ | ⟨c1,c2,c3⟩
       .rw[hn]at c2;by_cases fQ:0 < j
        .simp[Qlh,ty9,ty5,ty3,hj,h2,c1,c2,nP,fQ,bne]
        .simp[Qlh,ty9,ty5,ty3,hj,h2,c1,c2,nP,fQ,bne]
       .subst c2;simp[Qlh,ty9,hj,c1,bne]
       .rw[hn]at c3;have vY:IntKind.i64.wrap ((j:Int) - 1)=((j - 1:Nat):Int):=by rw[Qa _ (by omega) (by omega)]; omega
        have mR:j - 1 < s.size:=by omega
        simp[Qlh,ty9,hj,h2,c1,c3,c2,bne,vY,mR]
      .simp[Qlh,ty9]
     rw[hR];simp[Qlh]
    .have hr:Qbe s=false:=by
      have:¬∀i,i < s.size->Qv7 s i=true:=λh=>by rw[h k hk]at aL; cases aL
      simp[Qbe,this]
     rw[hr];simp[Qlh,h1,h2,h3,l1,Qod,ty9,mQ,hw,aR];generalize hL:Cx.loop _ _ _=R;have hR:R=some (.ret,⟨[(2,.d (DB false))],[],[],[]⟩):=by
      rw[<-hL];refine Qdv (λk=>⟨[(0,.d (DS s)),(3,.d (DI k))],[],[],[]⟩) _ _ k (by simp) (λj hj=>?_) ?_ (by simp only[Qbx]; omega)
      .have n5:j < s.size:=by omega
       have h2:=Qa ((j:Int)+1) (by omega) (by omega)
       have hn:=aM j hj;have jU:=QiX s j;have nP:=Qa (Qaq s j) (by omega) (by omega)
       rcases fW j with⟨c1,c2⟩ | ⟨c1,c2,c3⟩ | ⟨c1,c2,c3⟩
       .rw[hn]at c2;by_cases fQ:0 < j
        .simp[Qlh,ty9,ty5,ty3,n5,h2,c1,c2,nP,fQ,bne]
        .simp[Qlh,ty9,ty5,ty3,n5,h2,c1,c2,nP,fQ,bne]
       .subst c2;simp[Qlh,ty9,n5,c1,bne]
       .rw[hn]at c3;have vY:IntKind.i64.wrap ((j:Int) - 1)=((j - 1:Nat):Int):=by rw[Qa _ (by omega) (by omega)]; omega
        have mR:j - 1 < s.size:=by omega
        simp[Qlh,ty9,n5,h2,c1,c3,c2,bne,vY,mR]
      .have jU:=QiX s k;have nP:=Qa (Qaq s k) (by omega) (by omega)
       rcases fW k with⟨c1,c2⟩ | ⟨c1,c2,c3⟩ | ⟨c1,c2,c3⟩
       .rw[aL]at c2;simp[Qlh,ty9,ty5,ty3,hk,c1,c2,nP,bne]
       .rw[aL]at c3; cases c3
       .rw[aL]at c3;have vY:IntKind.i64.wrap ((k:Int) - 1)=((k - 1:Nat):Int):=by rw[Qa _ (by omega) (by omega)]; omega
        have mR:k - 1 < s.size:=by omega
        simp[Qlh,ty9,hk,c1,c3,c2,bne,vY,mR]
     rw[hR];simp
theorem QFe (xs:Array Value) (w:World):(callFunc 96 xs).run Tryz.prog w= .ok (.enter 96 xs) w:=by kernel_rfl
def l2:List (Nat×(List D->Option D)):=(96,s96)::l1
def l3:List (Nat×(List D->Option D)):=[(54,s54)]
theorem QRM:Qay Tryz.prog (Qas l3):=Ql QB QyW QKQ
def QhW (b:List Bat) (k:Nat):List Int:=((List.range k).filter λi=>(b.getD i default).lost).map λ(i:Nat)=>(i:Int)
theorem Qut (b:List Bat) (k:Nat):(QhW b k).length<=k:=by
 unfold QhW;rw[List.length_map];exact Nat.le_trans (List.length_filter_le _ _) (by simp)
theorem Qs0 (b:List Bat):QhW b b.length=QU b:=rfl
theorem QsX {b:List Bat} {k:Nat} (h:(b.getD k default).lost=true):QhW b (k+1)=QhW b k++[(k:Int)]:=by
 rw[Zd]at h;simp[QhW,List.range_succ,List.filter_append,h]
theorem QxG {b:List Bat} {k:Nat} (h:(b.getD k default).lost=false):QhW b (k+1)=QhW b k:=by
 rw[Zd]at h;simp[QhW,List.range_succ,List.filter_append,h]
def s46:List D->Option D:=sp1 (Qy QO) (Qy Qt) λb=>if b.length<=8 then some (QU b)else none
theorem QHU:∀ds d,s46 ds=some d->PureC Tryz.prog 46 ds d:=Qb2 λb r hr=>by
 split at hr
 .rename_i hb;cases hr;refine Qm (QE QB 21 QF5 []) Tryz.func46 rfl rfl (Zb rfl) (by kernel_rfl) ?_
  rw[Tryz.results46,<-Qs0];simp[QF5,Qe]
  (generalize aC:Cx.loop _ _ _=aE; apply Qi aC (λk=>⟨[(0,.d (.sl 5 (b.map QO.enc))),(3,.sl 1 ((QhW b k).map Qt.enc) (.tok 3)),(4,.d (DI k))],[],[3],[]⟩) b.length rfl; rotate_left; (show _ < 281474976710656; omega); rfl; rotate_left; all_goals clear aC)
  .intro j hj;have w1:=Qa ((j:Int)+1) (by omega) (by omega)
   have aO:(j:Int) < b.length:=by omega
   have hk:=Qut b j;have h1:(QhW b j).length+1<=140737488355328:=by omega
   have h2:((QhW b j).length+1)*8<=140737488355328:=by omega
   have hg:b.getD j default=b[j]:=Qj b j _ hj;cases hl:b[j].lost with
   | true=>
    have e:=QsX (b:=b) (k:=j) (by rw[hg]; exact hl)
    rw[e];simp[QF5,hj,aO,w1,Qh,hl,h1,h2]
   | false=>
    have e:=QxG (b:=b) (k:=j) (by rw[hg]; exact hl)
    rw[e];simp[QF5,hj,aO,w1,Qh,hl]
  .simp[QF5]
 .cases hr
theorem QtU (xs:Array Value) (w:World):(callFunc 46 xs).run Tryz.prog w= .ok (.enter 46 xs) w:=by kernel_rfl
def s97:List D->Option D:=sp1 Qbh Qbh λn=>if 0<=n/\n<=60 then some (2 ^ n.toNat)else none
theorem ok97:∀ds d,s97 ds=some d->PureC Tryz.prog 97 ds d:=Qb2 λn r hr=>by
 split at hr
 .rename_i hn;cases hr;obtain⟨m,rfl⟩:∃m:Nat,n=m:=⟨n.toNat,by omega⟩
  refine Qm (QE QB 13 QGp []) Tryz.func97 rfl rfl (Zb rfl) (by kernel_rfl) ?_
  rw[Tryz.results97];simp[QGp]
  (generalize aC:Cx.loop _ _ _=aE; apply Qi aC (λk=>⟨[(0,.d (DI m)),(3,.d (DI ((2:Int) ^ k))),(4,.d (DI k))],[],[],[]⟩) m rfl; rotate_left; (show _ < 281474976710656; omega); rfl; rotate_left; all_goals clear aC)
  .intro j hj;have w1:=Qa ((j:Int)+1) (by omega) (by omega)
   have aO:(j:Int) < m:=by omega
   have hp:(2:Nat) ^ (j+1)<=2 ^ 60:=Nat.pow_le_pow_right (by omega) (by omega)
   have rL:((2:Int) ^ (j+1))=((2 ^ (j+1):Nat):Int):=by simp
   have e:(2:Int)*2 ^ j=2 ^ (j+1):=by rw[Int.pow_succ]; omega
   have w2:IntKind.i64.wrap (2*2 ^ j)=(2:Int) ^ (j+1):=by
    rw[e,rL];generalize(2:Nat) ^ (j+1)=q at hp;exact Qa _ (by omega) (by omega)
   simp[QGp,aO,w1,w2]
  .simp[QGp]
 .cases hr
theorem Qzc (xs:Array Value) (w:World):(callFunc 97 xs).run Tryz.prog w= .ok (.enter 97 xs) w:=by kernel_rfl
def Qf9 (r:Nat):List (Nat×Option Nat):=match r with
 | 0=>kpn [0,1]
 | 1=>kpn [0,1,5]
 | 2=>kpn [0,1,5,18]
 | 3=>[(4,none)]
 | 4=>kpn [0,1,5,6]
 | 5=>kpn [0,1,5,6,21]
 | 6=>kpn [0,1,5,6]
 | 7=>kpn [0,1,5,6,31]
 | 8=>[(4,none)]
 | 9=>kpn [1,5,43]
 | 10=>[(4,none)]
 | 11=>kpn [1,5,51]
 | 12=>[(4,none)]
 | 13=>kpn [1,5,7]
 | 14=>kpn [1,5,7,56]
 | 15=>kpn [1,5,7]
 | 16=>kpn [1,5,7,68]
 | 17=>[(4,none)]
 | 18=>kpn [5,8]
 | 19=>kpn [5,8,73]
 | 20=>kpn [5,8]
 | 21=>kpn [5,8,89]
 | 22=>[(4,none)]
 | 23=>kpn [5,9]
 | 24=>kpn [5,9,10]
 | 25=>kpn [5,9,10,96]
 | 26=>kpn [5,9,10]
 | 27=>kpn [5,9,10,106]
 | 28=>[(4,none)]
 | 29=>kpn [5,9,10]
 | 30=>[(123,none)]
 | 31=>[(4,none)]
 | 32=>[(4,none)]
 | _=>[]
def l4:List (Nat×(List D->Option D)):=(96,s96)::l3
theorem del4:Qay Tryz.prog (Qas l4):=Ql QRM QFe ok96
def bkB (b:List Bat):Bool:=b.all λx=>decide (x.takes.length<=17592186044416)
theorem QuP {b:List Bat} (h:bkB b=true) {i:Nat} (hi:i < b.length):b[i].takes.length<=17592186044416:=by
 have:=Zl.1 h b[i] (Ze hi);simpa using this
def Ql5 (l:List Tak) (k:Nat):Int:=QaS (l.take k)
@[simp] theorem takK_zero (l : List Tak) : Ql5 l 0 = 0 := by simp [Ql5, QaS]
theorem Qgp {l:List Tak} {j:Nat} (h:j < l.length):Ql5 l (j+1)=Ql5 l j+l[j].gr:=by
 unfold Ql5 QaS;rw[List.take_succ_eq_append_getElem h,List.map_append,List.sum_append]; simp
theorem Ql7 {l:List Tak} :∀k,k<=l.length->(∀j (hj:j < l.length),j < k->1<=l[j].gr/\l[j].gr<=100000)->0<=Ql5 l k/\Ql5 l k<=100000*(k:Int)
 | 0,_,_=>by simp[Ql5,QaS]
 | k+1,hk,h=>by
  have ih:=Ql7 k (by omega) λj hj tA=>h j hj (by omega)
  have:=h k (by omega) (by omega)
  rw[Qgp (by omega)]
  omega
def s55:List D->Option D:=sp2 (Qy QO) Qbh Qbh λb n=>if 0<=n/\n < b.length/\b.length<=8/\bkB b=true then some (Qol b n.toNat (b.getD n.toNat default))else none
set_option maxHeartbeats 4000000 in
theorem ok55:∀ds d,s55 ds=some d->PureC Tryz.prog 55 ds d:=QaR λb n r hr=>by
 split at hr
 .rename_i hc;obtain⟨h0,h1,h8,cO⟩:=hc;obtain⟨i,rfl⟩:∃i:Nat,n=i:=⟨n.toNat,by omega⟩
  cases hr;have hi:i < b.length:=by omega
  have dC:(i:Int) < b.length:=by omega
  have ht:=QuP cO hi;rw[Int.toNat_natCast,Qj b i _ hi];refine Qm (QE del4 124 Qf9 []) Tryz.func55 rfl rfl (Zb rfl) (by kernel_rfl) ?_
  rw[Tryz.results55];generalize hx:b[i]=x at*;unfold Qol;generalize kZ:x.takes.any (λt=>!inR t.fr 0 ((i:Int) - 1))=A4;generalize hA7:x.takes.any (λt=>!inR t.gr 1 100000)=A7;cases e1:Qbe x.name with
  | false=>simp[Qf9,l3,l4,s54,s96,Qh,Qe,hi,hx,e1]
  | true=>
   rcases Qfq (λy:Bat=>y.name.toList==x.name.toList) (b.take i)with⟨e2,hall⟩ | ⟨k,hk,e2,aL,aM⟩
   .rw[e2];simp[Qf9,l3,l4,s54,s96,Qh,Qe,hi,hx,e1]
    (generalize aC:Cx.loop _ _ _=aE; apply Qi aC (λk=>⟨[(0,.d (.sl 5 (b.map QO.enc))),(1,.d (DI i)),(5,.loc 5 0),(6,.d (DI k))],[(5,[.d (DS x.name),.d (DI x.grams),.d (DI x.fresh),.d (DB x.lost),.d (.sl 2 (x.takes.map Qb1.enc))])],[],[]⟩) i rfl; rotate_left; (show _ < 281474976710656; omega); rfl; rotate_left; all_goals clear aC)
    .intro j hj;have w1:=Qa ((j:Int)+1) (by omega) (by omega)
     have oC:j < b.length:=by omega
     have aO:(j:Int) < b.length:=by omega
     have hn:=hall j (by simp; omega)
     simp only[List.getElem_take]at hn;simp[Qf9,Qh,hj,oC,aO,hn,w1]
    .cases e3:inR x.grams 1 100000 with
     | false=>simp[Qf9,e3]
     | true=>
      cases e4:inR x.fresh 0 x.grams with
      | false=>simp[Qf9,e3,e4]
      | true=>
       have tW:=Qau.1 e3;have hb4:=Qau.1 e4;have pY:IntKind.i64.wrap ((i:Int) - 1)=(i:Int) - 1:=Qa _ (by omega) (by omega)
       by_cases e5:x.lost=true/\0 < x.takes.length
       .have e5':(0:Int) < x.takes.length:=by omega
        simp[Qf9,e3,e4,e5.1,e5.2]
       .rw[if_neg e5];cases hl:x.lost with
        | false=>
         rcases Qfq (λt:Tak=>!inR t.fr 0 ((i:Int) - 1)) x.takes with⟨e6,mS⟩ | ⟨k,hk,e6,mT,j3⟩
         .rw[e6]at kZ; subst kZ;simp[Qf9,e3,e4]
          (generalize aC:Cx.loop _ _ _=aE; apply Qi aC (λk=>⟨[(1,.d (DI i)),(5,.loc 5 0),(7,.d (DI k))],[(5,[.d (DS x.name),.d (DI x.grams),.d (DI x.fresh),.d (DB false),.d (.sl 2 (x.takes.map Qb1.enc))])],[],[]⟩) x.takes.length rfl; rotate_left; (show _ < 281474976710656; omega); rfl; rotate_left; all_goals clear aC)
          .intro j hj;have w1:=Qa ((j:Int)+1) (by omega) (by omega)
           have aO:(j:Int) < x.takes.length:=by omega
           have hn:inR x.takes[j].fr 0 ((i:Int) - 1)=true:=by have:=mS j hj; simpa using this
           simp[Qf9,Qo,hj,aO,hn,w1,pY]
          .rcases QaK (λk=>!(decide (0 < k)&&decide ((x.takes.getD k default).fr<=(x.takes.getD (k - 1) default).fr))) x.takes.length with vZ | ⟨k,hk,kL,sE⟩
           .have e7:QpK x.takes=true:=by
             unfold QpK;refine decide_eq_true λk hk h0=>?_;have:=vZ k hk;simp only[h0,decide_true,Bool.true_and,Bool.not_eq_true',decide_eq_false_iff_not]at this;omega
            rw[e7];simp[Qf9]
            (generalize aC:Cx.loop _ _ _=aE; apply Qi aC (λk=>⟨[(5,.loc 5 0),(8,.d (DI ((k:Int)+1)))],[(5,[.d (DS x.name),.d (DI x.grams),.d (DI x.fresh),.d (DB false),.d (.sl 2 (x.takes.map Qb1.enc))])],[],[]⟩) (x.takes.length - 1) rfl; rotate_left; (show _ < 281474976710656; omega); rfl; rotate_left; all_goals clear aC)
            .intro j hj;have w1:=Qa ((j:Int)+1+1) (by omega) (by omega)
             have w2:IntKind.i64.wrap (j:Int)=(j:Int):=Qa _ (by omega) (by omega)
             have eE:j+1 < x.takes.length:=by omega
             have fQ:j < x.takes.length:=by omega
             have aO:(j:Int)+1 < x.takes.length:=by omega
             have m8:((j:Int)+1).toNat=j+1:=by omega
             have v6:(0:Int)<=(j:Int)+1:=by omega
             have hn:¬x.takes[j+1].fr<=x.takes[j].fr:=by
              have:=vZ (j+1) eE;rw[Qj x.takes (j+1) _ eE,Nat.add_sub_cancel,Qj x.takes j _ fQ]at this;simpa using this
             simp[Qf9,Qo,eE,fQ,aO,(by omega:(j:Int) < x.takes.length),m8,v6,hn,w1,w2]
            .have cY:¬(((x.takes.length - 1:Nat):Int)+1 < x.takes.length):=by omega
             simp[Qf9,cY];rcases Qfq (λt:Tak=>!inR t.gr 1 100000) x.takes with⟨e8,v7⟩ | ⟨k,hk,e8,v8,sF⟩
             .rw[e8]at hA7; subst hA7;have oQ:∀q (hq:q < x.takes.length),q < x.takes.length->inR x.takes[q].gr 1 100000=true:=λq hq _=>by have:=v7 q hq; simpa using this
              (generalize aC:Cx.loop _ _ _=aE; apply Qi aC (λk=>⟨[(5,.loc 5 0),(9,.d (DI (x.fresh+Ql5 x.takes k))),(10,.d (DI k))],[(5,[.d (DS x.name),.d (DI x.grams),.d (DI x.fresh),.d (DB false),.d (.sl 2 (x.takes.map Qb1.enc))])],[],[]⟩) x.takes.length (by first | (simp; done) | (simp; rfl) | (simp; simp[*])); rotate_left; (show _ < 281474976710656; omega); rfl; rotate_left; all_goals clear aC)
              .intro j hj;have w1:=Qa ((j:Int)+1) (by omega) (by omega)
               have aO:(j:Int) < x.takes.length:=by omega
               have hb:=Ql7 (l:=x.takes) j (by omega) λq hq hqj=>Qau.1 (oQ q hq (by omega))
               have hn:=oQ j hj (by omega)
               have d7:=Qau.1 hn;have hs:=Qgp (l:=x.takes) (j:=j) hj;have ws:IntKind.i64.wrap (x.fresh+Ql5 x.takes j+x.takes[j].gr)=x.fresh+Ql5 x.takes (j+1):=by
                rw[Qa _ (by omega) (by omega)]; omega
               simp[Qf9,Qo,hj,aO,hn,w1,ws]
              .have wA:Ql5 x.takes x.takes.length=QaS x.takes:=by rw[Ql5,List.take_length]
               rw[wA];by_cases h9:x.fresh+QaS x.takes=x.grams
               .simp[Qf9,h9]
               .have h9':(x.fresh+QaS x.takes != x.grams)=true:=by simpa using h9
                simp[Qf9,h9,h9']
             .rw[e8]at hA7; subst hA7;have oQ:∀q (hq:q < x.takes.length),q < k->inR x.takes[q].gr 1 100000=true:=λq hq hqk=>by have:=sF q hq hqk; simpa using this
              (generalize aC:Cx.loop _ _ _=aE; apply Qi aC (λk=>⟨[(5,.loc 5 0),(9,.d (DI (x.fresh+Ql5 x.takes k))),(10,.d (DI k))],[(5,[.d (DS x.name),.d (DI x.grams),.d (DI x.fresh),.d (DB false),.d (.sl 2 (x.takes.map Qb1.enc))])],[],[]⟩) k (by first | (simp; done) | (simp; rfl) | (simp; simp[*])); rotate_left; (show _ < 281474976710656; omega); rfl; rotate_left; all_goals clear aC)
              .intro j hj;have jX:j < x.takes.length:=by omega
               have w1:=Qa ((j:Int)+1) (by omega) (by omega)
               have aO:(j:Int) < x.takes.length:=by omega
               have hb:=Ql7 (l:=x.takes) j (by omega) λq hq hqj=>Qau.1 (oQ q hq (by omega))
               have hn:=oQ j jX (by omega)
               have d7:=Qau.1 hn;have hs:=Qgp (l:=x.takes) (j:=j) jX;have ws:IntKind.i64.wrap (x.fresh+Ql5 x.takes j+x.takes[j].gr)=x.fresh+Ql5 x.takes (j+1):=by
                rw[Qa _ (by omega) (by omega)]; omega
               simp[Qf9,Qo,jX,aO,hn,w1,ws]
              .have bB:(k:Int) < x.takes.length:=by omega
               have hn:inR x.takes[k].gr 1 100000=false:=by simpa using v8
               simp[Qf9,Qo,hk,bB,hn]
           .have e7:QpK x.takes=false:=by
             unfold QpK;refine decide_eq_false λh=>?_;simp only[Bool.not_eq_false',Za,decide_eq_true_eq]at kL;have:=h k hk kL.1;omega
            simp only[Bool.not_eq_false',Za,decide_eq_true_eq]at kL;obtain⟨hk0,oO⟩:=kL;obtain⟨k,rfl⟩:∃q,k=q+1:=⟨k - 1,by omega⟩
            rw[e7];simp[Qf9]
            (generalize aC:Cx.loop _ _ _=aE; apply Qi aC (λk=>⟨[(5,.loc 5 0),(8,.d (DI ((k:Int)+1)))],[(5,[.d (DS x.name),.d (DI x.grams),.d (DI x.fresh),.d (DB false),.d (.sl 2 (x.takes.map Qb1.enc))])],[],[]⟩) k rfl; rotate_left; (show _ < 281474976710656; omega); rfl; rotate_left; all_goals clear aC)
            .intro j hj;have w1:=Qa ((j:Int)+1+1) (by omega) (by omega)
             have w2:IntKind.i64.wrap (j:Int)=(j:Int):=Qa _ (by omega) (by omega)
             have eE:j+1 < x.takes.length:=by omega
             have fQ:j < x.takes.length:=by omega
             have aO:(j:Int)+1 < x.takes.length:=by omega
             have kM:(j:Int) < x.takes.length:=by omega
             have m8:((j:Int)+1).toNat=j+1:=by omega
             have v6:(0:Int)<=(j:Int)+1:=by omega
             have hn:¬x.takes[j+1].fr<=x.takes[j].fr:=by
              have:=sE (j+1) (by omega)
              rw[Qj x.takes (j+1) _ eE,Nat.add_sub_cancel,Qj x.takes j _ fQ]at this;simpa using this
             simp[Qf9,Qo,eE,fQ,aO,kM,m8,v6,hn,w1,w2]
            .have w2:IntKind.i64.wrap (k:Int)=(k:Int):=Qa _ (by omega) (by omega)
             have fQ:k < x.takes.length:=by omega
             have aO:(k:Int)+1 < x.takes.length:=by omega
             have kM:(k:Int) < x.takes.length:=by omega
             have m8:((k:Int)+1).toNat=k+1:=by omega
             have v6:(0:Int)<=(k:Int)+1:=by omega
             have hn:x.takes[k+1].fr<=x.takes[k].fr:=by
              rw[Qj x.takes (k+1) _ hk,Nat.add_sub_cancel,Qj x.takes k _ fQ]at oO;exact oO
             simp[Qf9,Qo,hk,fQ,aO,kM,m8,v6,hn,w2]
         .rw[e6]at kZ; subst kZ;simp[Qf9,e3,e4]
          (generalize aC:Cx.loop _ _ _=aE; apply Qi aC (λk=>⟨[(1,.d (DI i)),(5,.loc 5 0),(7,.d (DI k))],[(5,[.d (DS x.name),.d (DI x.grams),.d (DI x.fresh),.d (DB false),.d (.sl 2 (x.takes.map Qb1.enc))])],[],[]⟩) k rfl; rotate_left; (show _ < 281474976710656; omega); rfl; rotate_left; all_goals clear aC)
          .intro j hj;have w1:=Qa ((j:Int)+1) (by omega) (by omega)
           have jX:j < x.takes.length:=by omega
           have aO:(j:Int) < x.takes.length:=by omega
           have hn:inR x.takes[j].fr 0 ((i:Int) - 1)=true:=by have:=j3 j jX hj; simpa using this
           simp[Qf9,Qo,jX,aO,hn,w1,pY]
          .have bB:(k:Int) < x.takes.length:=by omega
           have hn:inR x.takes[k].fr 0 ((i:Int) - 1)=false:=by simpa using mT
           simp[Qf9,Qo,hk,bB,hn,pY]
        | true=>
         have hz:x.takes.length=0:=by
          rcases Nat.eq_zero_or_pos x.takes.length with h | h
          .exact h
          .exact absurd ⟨hl,h⟩ e5
         have hz':x.takes=[]:=List.length_eq_zero_iff.1 hz;rw[hz']at kZ hA7|-;simp at kZ hA7;subst kZ hA7;have e7:QpK []=true:=rfl;simp[Qf9,e3,e4,e7]
         (generalize aC:Cx.loop _ _ _=aE; apply Qi aC (λk=>⟨[(1,.d (DI i)),(5,.loc 5 0),(7,.d (DI k))],[(5,[.d (DS x.name),.d (DI x.grams),.d (DI x.fresh),.d (DB true),.d (.sl 2 [])])],[],[]⟩) 0 rfl; rotate_left; (show _ < 281474976710656; omega); rfl; rotate_left; all_goals clear aC)
         .intro j hj; omega
         .simp[Qf9]
          (generalize aC:Cx.loop _ _ _=aE; apply Qi aC (λk=>⟨[(5,.loc 5 0),(8,.d (DI ((k:Int)+1)))],[(5,[.d (DS x.name),.d (DI x.grams),.d (DI x.fresh),.d (DB true),.d (.sl 2 [])])],[],[]⟩) 0 rfl; rotate_left; (show _ < 281474976710656; omega); rfl; rotate_left; all_goals clear aC)
          .intro j hj; omega
          .simp[Qf9]
           (generalize aC:Cx.loop _ _ _=aE; apply Qi aC (λk=>⟨[(5,.loc 5 0),(9,.d (DI x.fresh)),(10,.d (DI k))],[(5,[.d (DS x.name),.d (DI x.grams),.d (DI x.fresh),.d (DB true),.d (.sl 2 [])])],[],[]⟩) 0 rfl; rotate_left; (show _ < 281474976710656; omega); rfl; rotate_left; all_goals clear aC)
           .intro j hj; omega
           .simp[Qf9]
   .rw[e2];have wB:k < i:=by simp at hk; omega
    simp[Qf9,l3,l4,s54,s96,Qh,Qe,hi,hx,e1]
    (generalize aC:Cx.loop _ _ _=aE; apply Qi aC (λk=>⟨[(0,.d (.sl 5 (b.map QO.enc))),(1,.d (DI i)),(5,.loc 5 0),(6,.d (DI k))],[(5,[.d (DS x.name),.d (DI x.grams),.d (DI x.fresh),.d (DB x.lost),.d (.sl 2 (x.takes.map Qb1.enc))])],[],[]⟩) k rfl; rotate_left; (show _ < 281474976710656; omega); rfl; rotate_left; all_goals clear aC)
    .intro j hj;have w1:=Qa ((j:Int)+1) (by omega) (by omega)
     have oE:j < i:=by omega
     have oC:j < b.length:=by omega
     have aO:(j:Int) < b.length:=by omega
     have hn:=aM j (by simp; omega) hj
     simp only[List.getElem_take]at hn;simp[Qf9,Qh,oE,oC,aO,hn,w1]
    .have oO:k < b.length:=by omega
     have bB:(k:Int) < b.length:=by omega
     simp only[List.getElem_take]at aL;simp[Qf9,Qh,wB,oO,bB,aL]
 .cases hr
theorem QFZ (xs:Array Value) (w:World):(callFunc 55 xs).run Tryz.prog w= .ok (.enter 55 xs) w:=by kernel_rfl
end Go.Proofs.YtnfeakhkfehkhaaGreatDoor
namespace Go.Proofs.YtnfeakhkfehkhaaGreatDoor
open Go.RowKit
def Qw7 (r:Nat):List (Nat×Option Nat):=match r with
 | 0=>kpn [1,2,3]
 | 1=>kpn [1,2,3,7]
 | 2=>kpn [1,2,3,7,12]
 | 3=>kpn [1,2,3,7]
 | 4=>kpn [1,2,3,7,32]
 | 5=>[(6,none)]
 | 6=>[(6,none)]
 | _=>[]
def Qy4 (r:Nat):List (Nat×Option Nat):=match r with
 | 0=>kpn [0,1]
 | 1=>kpn [0,1,10]
 | 2=>[(4,none)]
 | 3=>kpn [0,1,5]
 | 4=>kpn [0,1,5,14]
 | 5=>kpn [0,1,5]
 | 6=>kpn [0,1,5,25]
 | 7=>[(4,none)]
 | 8=>[(4,none)]
 | _=>[]
def QND (r:Nat):List (Nat×Option Nat):=match r with
 | 0=>kpn [0,1]
 | 1=>kpn [0,1,5]
 | 2=>kpn [0,1,5,9]
 | 3=>kpn [0,1,5]
 | 4=>kpn [0,1,5,17]
 | 5=>[(4,none)]
 | 6=>[(4,none)]
 | _=>[]
def QwI (l:List Int) (n:Int):Bool:=l.any (λx=>x==n)
def s39:List D->Option D:=sp2 (Qy Qt) Qbh QaI λl n=>if l.length<=17592186044416 then some (QwI l n)else none
theorem ok39:∀ds d,s39 ds=some d->PureC Tryz.prog 39 ds d:=QaR λl n r hr=>by
 split at hr
 .rename_i hb;cases hr;refine Qm (QE QB 18 QND []) Tryz.func39 rfl rfl (Zb rfl) (by kernel_rfl) ?_
  rw[Tryz.results39];unfold QwI;rcases Qfq (λx:Int=>x==n) l with⟨e,hall⟩ | ⟨k,hk,e,aL,aM⟩
  .rw[e];simp[QND,Qg]
   (generalize aC:Cx.loop _ _ _=aE; apply Qi aC (λk=>⟨[(0,.d (.sl 1 (l.map Qt.enc))),(1,.d (DI n)),(5,.d (DI k))],[],[],[]⟩) l.length rfl; rotate_left; (show _ < 281474976710656; omega); rfl; rotate_left; all_goals clear aC)
   .intro j hj;have w1:=Qa ((j:Int)+1) (by omega) (by omega)
    have aO:(j:Int) < l.length:=by omega
    have hn:=hall j hj;simp[QND,hj,aO,hn,w1,Qc]
   .simp[QND]
  .rw[e];simp[QND,Qg]
   (generalize aC:Cx.loop _ _ _=aE; apply Qi aC (λk=>⟨[(0,.d (.sl 1 (l.map Qt.enc))),(1,.d (DI n)),(5,.d (DI k))],[],[],[]⟩) k rfl; rotate_left; (show _ < 281474976710656; omega); rfl; rotate_left; all_goals clear aC)
   .intro j cM;have hj:j < l.length:=by omega
    have w1:=Qa ((j:Int)+1) (by omega) (by omega)
    have aO:(j:Int) < l.length:=by omega
    have hn:=aM j hj cM;simp[QND,hj,aO,hn,w1,Qc]
   .have bB:(k:Int) < l.length:=by omega
    simp[QND,hk,bB,aL,Qc]
 .cases hr
theorem QNp (xs:Array Value) (w:World):(callFunc 39 xs).run Tryz.prog w= .ok (.enter 39 xs) w:=by kernel_rfl
def Qnc (b:List Bat) (l:List Int):Bool:=!l.any λn=>!inR n 0 ((b.length:Int) - 1)
def QPx (i n:Int):Int:=if i=n then n+1 else if i=n+1 then n else i
def QAz (p:Pro) (x t:Int):Bool:=!(p.never.any λe=>e.fr==x&&e.to==t)&&decide (x < t)
def s98:List D->Option D:=sp3 (QeC Qqw) Qbh Qbh QaI λp x t=>if p.never.length<=1000000 then some (QAz p x t)else none
theorem ok98:∀ds d,s98 ds=some d->PureC Tryz.prog 98 ds d:=QcG λp x t r hr=>by
 split at hr
 .rename_i hb;cases hr;refine Qm (QE QB 36 Qw7 []) Tryz.func98 rfl rfl (Zb rfl) (by kernel_rfl) ?_
  rw[Tryz.results98];unfold QAz;rcases Qfq (λe:Edg=>e.fr==x&&e.to==t) p.never with⟨e,hall⟩ | ⟨k,hk,e,aL,aM⟩
  .rw[e];simp[Qw7,QK]
   (generalize aC:Cx.loop _ _ _=aE; apply Qi aC (λk=>⟨[(1,.d (DI x)),(2,.d (DI t)),(3,.loc 3 0),(7,.d (DI k))],[(3,[.d (.sl 1 (p.has.map Qt.enc)),.d (.sl 1 (p.needs.map Qt.enc)),.d (.sl 2 (p.never.map Qcg.enc))])],[],[]⟩) p.never.length rfl; rotate_left; (show _ < 281474976710656; omega); rfl; rotate_left; all_goals clear aC)
   .intro j hj;have w1:=Qa ((j:Int)+1) (by omega) (by omega)
    have aO:(j:Int) < p.never.length:=by omega
    have hn:=hall j hj;cases h1:p.never[j].fr==x with
    | false=>simp[Qw7,hj,aO,h1,w1,QJ]
    | true=>
     rw[h1,Bool.true_and]at hn;simp[Qw7,hj,aO,h1,hn,w1,QJ]
   .simp[Qw7]
  .rw[e];simp[Qw7,QK]
   (generalize aC:Cx.loop _ _ _=aE; apply Qi aC (λk=>⟨[(1,.d (DI x)),(2,.d (DI t)),(3,.loc 3 0),(7,.d (DI k))],[(3,[.d (.sl 1 (p.has.map Qt.enc)),.d (.sl 1 (p.needs.map Qt.enc)),.d (.sl 2 (p.never.map Qcg.enc))])],[],[]⟩) k rfl; rotate_left; (show _ < 281474976710656; omega); rfl; rotate_left; all_goals clear aC)
   .intro j cM;have hj:j < p.never.length:=by omega
    have w1:=Qa ((j:Int)+1) (by omega) (by omega)
    have aO:(j:Int) < p.never.length:=by omega
    have hn:=aM j hj cM;cases h1:p.never[j].fr==x with
    | false=>simp[Qw7,hj,aO,h1,w1,QJ]
    | true=>
     rw[h1,Bool.true_and]at hn;simp[Qw7,hj,aO,h1,hn,w1,QJ]
   .have bB:(k:Int) < p.never.length:=by omega
    rw[Za]at aL;simp[Qw7,hk,bB,aL.1,aL.2,QJ]
 .cases hr
theorem QFr (xs:Array Value) (w:World):(callFunc 98 xs).run Tryz.prog w= .ok (.enter 98 xs) w:=by kernel_rfl
end Go.Proofs.YtnfeakhkfehkhaaGreatDoor
