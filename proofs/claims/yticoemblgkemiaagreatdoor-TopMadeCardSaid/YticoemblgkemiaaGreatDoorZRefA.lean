/-
  Reference functions of the trace chapter: numbers, names, lost cards. Conditions: none.
-/
import Derived.Test.YticoemblgkemiaaGreatDoorZTys
set_option linter.unusedSimpArgs false
set_option linter.unusedVariables false
namespace Go.Proofs.YticoemblgkemiaaGreatDoor
open Go.RowKit
def kp54 (r:Nat):List (Nat×Option Nat):=match r with
 | 0=>kpn [0,1,2]
 | 1=>[(6,none)]
 | _=>[]
def QJo (r:Nat):List (Nat×Option Nat):=match r with
 | 0=>kpn [0,1,2]
 | 1=>[(6,none)]
 | _=>[]
def QnZ (r:Nat):List (Nat×Option Nat):=match r with
 | 0=>[(0,none)]
 | 1=>kpn [0,20]
 | 2=>[(2,none)]
 | 3=>kpn [0,3]
 | 4=>kpn [0,3,24]
 | 5=>kpn [0,3]
 | 6=>kpn [0,3,55]
 | 7=>[(2,none)]
 | 8=>[(2,none)]
 | _=>[]
def QMC (r:Nat):List (Nat×Option Nat):=match r with
 | 0=>[(0,none)]
 | 1=>[(0,none),(3,some 1)]
 | 2=>[(0,none),(3,some 1),(4,none)]
 | 3=>[(0,none),(3,some 1),(4,none),(8,none)]
 | 4=>[(0,none),(3,some 1),(4,none)]
 | 5=>[(0,none),(3,some 1),(4,none),(15,none)]
 | 6=>[(0,none),(3,some 1),(4,none)]
 | 7=>[(2,some 1)]
 | _=>[]
def QNs (r:Nat):List (Nat×Option Nat):=match r with
 | 0=>[(0,none)]
 | 1=>kpn [0,3]
 | 2=>kpn [0,3,4]
 | 3=>kpn [0,3,4,7]
 | 4=>kpn [0,3,4]
 | 5=>kpn [0,3,4]
 | 6=>[(2,none)]
 | _=>[]
def s54:List D->Option D:=sp3 QaY QaY QaY QaW λn lo hi=>some (inR n lo hi)
theorem ok54:∀ds d,s54 ds=some d->PureC Tryz.prog 26 ds d:=QcN λn lo hi r hr=>by
 cases hr;refine Qf (Qw Qs 15 kp54 []) Tryz.func26 rfl rfl (Zb rfl) (by kernel_rfl) ?_
 rw[Tryz.results26];unfold inR;by_cases h:lo<=n<;>simp[kp54,h]
theorem QCN (xs:Array Value) (w:World):(callFunc 26 xs).run Tryz.prog w= .ok (.enter 26 xs) w:=by kernel_rfl
def Qo5:List D->Option D:=sp3 QaY QaY QaY QaW λn lo hi=>some (inR n lo hi)
theorem QOE:∀ds d,Qo5 ds=some d->PureC Tryz.prog 68 ds d:=QcN λn lo hi r hr=>by
 cases hr;refine Qf (Qw Qs 15 QJo []) Tryz.func68 rfl rfl (Zb rfl) (by kernel_rfl) ?_
 rw[Tryz.results68];unfold inR;by_cases h:lo<=n<;>simp[QJo,h]
theorem QFY (xs:Array Value) (w:World):(callFunc 68 xs).run Tryz.prog w= .ok (.enter 68 xs) w:=by kernel_rfl
def l1:List (Nat×(List D->Option D)):=[(68,Qo5)]
theorem del1:QaE Tryz.prog (Qaw l1):=Qh Qs QFY QOE
theorem Qkr (s:ByteArray) (i:Nat):0<=QaL s i/\QaL s i<=255:=by
 unfold QaL;have:=(s[i]?.getD 0).toNat_lt;omega
def s96:List D->Option D:=sp1 Qoe QaW λs=>some (Qbz s)
theorem ok96:∀ds d,s96 ds=some d->PureC Tryz.prog 102 ds d:=Qbr λs r hr=>by
 cases hr;refine Qf (Qw del1 56 QnZ []) Tryz.func102 rfl rfl (Zb rfl) (by kernel_rfl) ?_
 rw[Tryz.results102];cases h1:inR s.size 1 20 with
 | false=>simp[QnZ,Qbz,h1,l1,Qo5,ty9]
 | true=>
  have hs:1<=(s.size:Int)/\(s.size:Int)<=20:=by simpa[inR]using h1
  have bJ:(0:Int) < (s.size:Int):=by omega
  have mX:0 < s.size:=by omega
  cases h2:QaL s 0==45 with
  | true=>simp[QnZ,Qbz,h1,h2,l1,Qo5,ty9,mX]
  | false=>
   have hw:IntKind.i64.wrap ((s.size:Int) - 1)=((s.size - 1:Nat):Int):=by rw[Qa _ (by omega) (by omega)]; omega
   have aQ:((s.size - 1:Nat):Int) < (s.size:Int):=by omega
   cases h3:QaL s (s.size - 1)==45 with
   | true=>simp[QnZ,Qbz,h1,h2,h3,l1,Qo5,ty9,mX,hw,aQ]
   | false=>
    have fY:∀k,(QaL s k==45)=false/\(inR (QaL s k) 97 122=QzJ s k)\/(QaL s k==45)=true/\k=0/\QzJ s k=true\/(QaL s k==45)=true/\0 < k/\(QaL s (k - 1)==45)=!QzJ s k:=by
     intro k;unfold QzJ;cases hb:QaL s k==45 with
     | false=>left; simp
     | true=>
      right;by_cases hk:k=0
      .left; simp[hk]
      .right; simp; omega
    rcases Qbf (QzJ s) s.size with hall | ⟨k,hk,aM,aT⟩
    .have hr:Qbz s=true:=by simp[Qbz,h1,h2,h3]; exact hall
     rw[hr];simp[QnZ,h1,h2,h3,l1,Qo5,ty9,mX,hw,aQ];generalize hL:Cx.loop _ _ _=R;have hR:R=some (.exit 0,⟨[(0,.d (DS s)),(3,.d (DI s.size)),(24,.d (DB false))],[],[],[]⟩):=by
      rw[<-hL];refine Qec (λk=>⟨[(0,.d (DS s)),(3,.d (DI k))],[],[],[]⟩) _ _ s.size (by simp) (λj hj=>?_) ?_ (by simp only[QbK]; omega)
      .have cM:(j:Int) < (s.size:Int):=by omega
       have h2:=Qa ((j:Int)+1) (by omega) (by omega)
       have hn:=hall j hj;have jU:=Qkr s j;have nY:=Qa (QaL s j) (by omega) (by omega)
       rcases fY j with⟨c1,c2⟩ | ⟨c1,c2,c3⟩ | ⟨c1,c2,c3⟩
       .rw[hn]at c2;by_cases fD:0 < j
        .simp[QnZ,ty9,ty5,ty3,hj,h2,c1,c2,nY,fD,bne]
        .simp[QnZ,ty9,ty5,ty3,hj,h2,c1,c2,nY,fD,bne]
       .subst c2;simp[QnZ,ty9,hj,c1,bne]
       .rw[hn]at c3;have jC:IntKind.i64.wrap ((j:Int) - 1)=((j - 1:Nat):Int):=by rw[Qa _ (by omega) (by omega)]; omega
        have mY:j - 1 < s.size:=by omega
        simp[QnZ,ty9,hj,h2,c1,c3,c2,bne,jC,mY]
      .simp[QnZ,ty9]
     rw[hR];simp[QnZ]
    .have hr:Qbz s=false:=by
      have:¬∀i,i < s.size->QzJ s i=true:=λh=>by rw[h k hk]at aM; cases aM
      simp[Qbz,this]
     rw[hr];simp[QnZ,h1,h2,h3,l1,Qo5,ty9,mX,hw,aQ];generalize hL:Cx.loop _ _ _=R;have hR:R=some (.ret,⟨[(2,.d (DB false))],[],[],[]⟩):=by
      rw[<-hL];refine Qec (λk=>⟨[(0,.d (DS s)),(3,.d (DI k))],[],[],[]⟩) _ _ k (by simp) (λj hj=>?_) ?_ (by simp only[QbK]; omega)
      .have oR:j < s.size:=by omega
       have h2:=Qa ((j:Int)+1) (by omega) (by omega)
       have hn:=aT j hj;have jU:=Qkr s j;have nY:=Qa (QaL s j) (by omega) (by omega)
       rcases fY j with⟨c1,c2⟩ | ⟨c1,c2,c3⟩ | ⟨c1,c2,c3⟩
       .rw[hn]at c2;by_cases fD:0 < j
        .simp[QnZ,ty9,ty5,ty3,oR,h2,c1,c2,nY,fD,bne]
        .simp[QnZ,ty9,ty5,ty3,oR,h2,c1,c2,nY,fD,bne]
       .subst c2;simp[QnZ,ty9,oR,c1,bne]
       .rw[hn]at c3;have jC:IntKind.i64.wrap ((j:Int) - 1)=((j - 1:Nat):Int):=by rw[Qa _ (by omega) (by omega)]; omega
        have mY:j - 1 < s.size:=by omega
        simp[QnZ,ty9,oR,h2,c1,c3,c2,bne,jC,mY]
      .have jU:=Qkr s k;have nY:=Qa (QaL s k) (by omega) (by omega)
       rcases fY k with⟨c1,c2⟩ | ⟨c1,c2,c3⟩ | ⟨c1,c2,c3⟩
       .rw[aM]at c2;simp[QnZ,ty9,ty5,ty3,hk,c1,c2,nY,bne]
       .rw[aM]at c3; cases c3
       .rw[aM]at c3;have jC:IntKind.i64.wrap ((k:Int) - 1)=((k - 1:Nat):Int):=by rw[Qa _ (by omega) (by omega)]; omega
        have mY:k - 1 < s.size:=by omega
        simp[QnZ,ty9,hk,c1,c3,c2,bne,jC,mY]
     rw[hR];simp
theorem QKU (xs:Array Value) (w:World):(callFunc 102 xs).run Tryz.prog w= .ok (.enter 102 xs) w:=by kernel_rfl
def l2:List (Nat×(List D->Option D)):=(102,s96)::l1
def l3:List (Nat×(List D->Option D)):=[(26,s54)]
theorem del3:QaE Tryz.prog (Qaw l3):=Qh Qs QCN ok54
def Qi1 (b:List Bat) (k:Nat):List Int:=((List.range k).filter λi=>(b.getD i default).lost).map λ(i:Nat)=>(i:Int)
theorem QxO (b:List Bat) (k:Nat):(Qi1 b k).length<=k:=by
 unfold Qi1;rw[List.length_map];exact Nat.le_trans (List.length_filter_le _ _) (by simp)
theorem Qv2 (b:List Bat):Qi1 b b.length=Qae b:=rfl
theorem Qwd {b:List Bat} {k:Nat} (h:(b.getD k default).lost=true):Qi1 b (k+1)=Qi1 b k++[(k:Int)]:=by
 rw[Zd]at h;simp[Qi1,List.range_succ,List.filter_append,h]
theorem QBS {b:List Bat} {k:Nat} (h:(b.getD k default).lost=false):Qi1 b (k+1)=Qi1 b k:=by
 rw[Zd]at h;simp[Qi1,List.range_succ,List.filter_append,h]
def s46:List D->Option D:=sp1 (QJ QQ) (QJ QH) λb=>if b.length<=8 then some (Qae b)else none
theorem ok46:∀ds d,s46 ds=some d->PureC Tryz.prog 28 ds d:=Qbr λb r hr=>by
 split at hr
 .rename_i hb;cases hr;refine Qf (Qw Qs 21 QMC []) Tryz.func28 rfl rfl (Zb rfl) (by kernel_rfl) ?_
  rw[Tryz.results28,<-Qv2];simp[QMC,Qj]
  (generalize aC:Cx.loop _ _ _=aE; apply Qi aC (λk=>⟨[(0,.d (.sl 5 (b.map QQ.enc))),(3,.sl 1 ((Qi1 b k).map QH.enc) (.tok 3)),(4,.d (DI k))],[],[3],[]⟩) b.length rfl; rotate_left; (show _ < 281474976710656; omega); rfl; rotate_left; all_goals clear aC)
  .intro j hj;have w1:=Qa ((j:Int)+1) (by omega) (by omega)
   have aO:(j:Int) < b.length:=by omega
   have hk:=QxO b j;have h1:(Qi1 b j).length+1<=140737488355328:=by omega
   have h2:((Qi1 b j).length+1)*8<=140737488355328:=by omega
   have hg:b.getD j default=b[j]:=Ql b j _ hj;cases hl:b[j].lost with
   | true=>
    have e:=Qwd (b:=b) (k:=j) (by rw[hg]; exact hl)
    rw[e];simp[QMC,hj,aO,w1,Qe,hl,h1,h2]
   | false=>
    have e:=QBS (b:=b) (k:=j) (by rw[hg]; exact hl)
    rw[e];simp[QMC,hj,aO,w1,Qe,hl]
  .simp[QMC]
 .cases hr
theorem QMt (xs:Array Value) (w:World):(callFunc 28 xs).run Tryz.prog w= .ok (.enter 28 xs) w:=by kernel_rfl
def s97:List D->Option D:=sp1 QaY QaY λn=>if 0<=n/\n<=60 then some (2 ^ n.toNat)else none
theorem ok97:∀ds d,s97 ds=some d->PureC Tryz.prog 103 ds d:=Qbr λn r hr=>by
 split at hr
 .rename_i hn;cases hr;obtain⟨m,rfl⟩:∃m:Nat,n=m:=⟨n.toNat,by omega⟩
  refine Qf (Qw Qs 13 QNs []) Tryz.func103 rfl rfl (Zb rfl) (by kernel_rfl) ?_
  rw[Tryz.results103];simp[QNs]
  (generalize aC:Cx.loop _ _ _=aE; apply Qi aC (λk=>⟨[(0,.d (DI m)),(3,.d (DI ((2:Int) ^ k))),(4,.d (DI k))],[],[],[]⟩) m rfl; rotate_left; (show _ < 281474976710656; omega); rfl; rotate_left; all_goals clear aC)
  .intro j hj;have w1:=Qa ((j:Int)+1) (by omega) (by omega)
   have aO:(j:Int) < m:=by omega
   have hp:(2:Nat) ^ (j+1)<=2 ^ 60:=Nat.pow_le_pow_right (by omega) (by omega)
   have oD:((2:Int) ^ (j+1))=((2 ^ (j+1):Nat):Int):=by simp
   have e:(2:Int)*2 ^ j=2 ^ (j+1):=by rw[Int.pow_succ]; omega
   have w2:IntKind.i64.wrap (2*2 ^ j)=(2:Int) ^ (j+1):=by
    rw[e,oD];generalize(2:Nat) ^ (j+1)=q at hp;exact Qa _ (by omega) (by omega)
   simp[QNs,aO,w1,w2]
  .simp[QNs]
 .cases hr
theorem QLg (xs:Array Value) (w:World):(callFunc 103 xs).run Tryz.prog w= .ok (.enter 103 xs) w:=by kernel_rfl
def QgZ (r:Nat):List (Nat×Option Nat):=match r with
 | 0=>kpn [0,1]
 | 1=>kpn [0,1,5]
 | 2=>kpn [0,1,5,18]
 | 3=>[(4,none)]
 | 4=>kpn [0,1,5,6]
 | 5=>kpn [0,1,5,6,21]
 | 6=>kpn [0,1,5,6]
 | 7=>kpn [0,1,5,6,31]
 | 8=>[(4,none)]
 | 9=>kpn [1,5,43]
 | 10=>[(4,none)]
 | 11=>kpn [1,5,51]
 | 12=>[(4,none)]
 | 13=>kpn [1,5,7]
 | 14=>kpn [1,5,7,56]
 | 15=>kpn [1,5,7]
 | 16=>kpn [1,5,7,68]
 | 17=>[(4,none)]
 | 18=>kpn [5,8]
 | 19=>kpn [5,8,73]
 | 20=>kpn [5,8]
 | 21=>kpn [5,8,89]
 | 22=>[(4,none)]
 | 23=>kpn [5,9]
 | 24=>kpn [5,9,10]
 | 25=>kpn [5,9,10,96]
 | 26=>kpn [5,9,10]
 | 27=>kpn [5,9,10,106]
 | 28=>[(4,none)]
 | 29=>kpn [5,9,10]
 | 30=>[(123,none)]
 | 31=>[(4,none)]
 | 32=>[(4,none)]
 | _=>[]
def l4:List (Nat×(List D->Option D)):=(102,s96)::l3
theorem del4:QaE Tryz.prog (Qaw l4):=Qh del3 QKU ok96
def bkB (b:List Bat):Bool:=b.all λx=>decide (x.takes.length<=17592186044416)
theorem Qvs {b:List Bat} (h:bkB b=true) {i:Nat} (hi:i < b.length):b[i].takes.length<=17592186044416:=by
 have:=Zl.1 h b[i] (Ze hi);simpa using this
def Qm4 (l:List Tak) (k:Nat):Int:=QaR (l.take k)
@[simp] theorem takK_zero (l : List Tak) : Qm4 l 0 = 0 := by simp [Qm4, QaR]
theorem Qht {l:List Tak} {j:Nat} (h:j < l.length):Qm4 l (j+1)=Qm4 l j+l[j].gr:=by
 unfold Qm4 QaR;rw[List.take_succ_eq_append_getElem h,List.map_append,List.sum_append]; simp
theorem QnH {l:List Tak} :∀k,k<=l.length->(∀j (hj:j < l.length),j < k->1<=l[j].gr/\l[j].gr<=100000)->0<=Qm4 l k/\Qm4 l k<=100000*(k:Int)
 | 0,_,_=>by simp[Qm4,QaR]
 | k+1,hk,h=>by
  have ih:=QnH k (by omega) λj hj t6=>h j hj (by omega)
  have:=h k (by omega) (by omega)
  rw[Qht (by omega)]
  omega
def s55:List D->Option D:=sp2 (QJ QQ) QaY QaY λb n=>if 0<=n/\n < b.length/\b.length<=8/\bkB b=true then some (QmK b n.toNat (b.getD n.toNat default))else none
set_option maxHeartbeats 4000000 in
theorem ok55:∀ds d,s55 ds=some d->PureC Tryz.prog 27 ds d:=Qay λb n r hr=>by
 split at hr
 .rename_i hc;obtain⟨h0,h1,h8,cL⟩:=hc;obtain⟨i,rfl⟩:∃i:Nat,n=i:=⟨n.toNat,by omega⟩
  cases hr;have hi:i < b.length:=by omega
  have dW:(i:Int) < b.length:=by omega
  have ht:=Qvs cL hi;rw[Int.toNat_natCast,Ql b i _ hi];refine Qf (Qw del4 124 QgZ []) Tryz.func27 rfl rfl (Zb rfl) (by kernel_rfl) ?_
  rw[Tryz.results27];generalize hx:b[i]=x at*;unfold QmK;generalize lF:x.takes.any (λt=>!inR t.fr 0 ((i:Int) - 1))=A4;generalize lG:x.takes.any (λt=>!inR t.gr 1 100000)=A7;cases e1:Qbz x.name with
  | false=>simp[QgZ,l3,l4,s54,s96,Qe,Qj,hi,hx,e1]
  | true=>
   rcases Qhs (λy:Bat=>y.name.toList==x.name.toList) (b.take i)with⟨e2,hall⟩ | ⟨k,hk,e2,aM,aT⟩
   .rw[e2];simp[QgZ,l3,l4,s54,s96,Qe,Qj,hi,hx,e1]
    (generalize aC:Cx.loop _ _ _=aE; apply Qi aC (λk=>⟨[(0,.d (.sl 5 (b.map QQ.enc))),(1,.d (DI i)),(5,.loc 5 0),(6,.d (DI k))],[(5,[.d (DS x.name),.d (DI x.grams),.d (DI x.fresh),.d (DB x.lost),.d (.sl 2 (x.takes.map Qce.enc))])],[],[]⟩) i rfl; rotate_left; (show _ < 281474976710656; omega); rfl; rotate_left; all_goals clear aC)
    .intro j hj;have w1:=Qa ((j:Int)+1) (by omega) (by omega)
     have oQ:j < b.length:=by omega
     have aO:(j:Int) < b.length:=by omega
     have hn:=hall j (by simp; omega)
     simp only[List.getElem_take]at hn;simp[QgZ,Qe,hj,oQ,aO,hn,w1]
    .cases e3:inR x.grams 1 100000 with
     | false=>simp[QgZ,e3]
     | true=>
      cases e4:inR x.fresh 0 x.grams with
      | false=>simp[QgZ,e3,e4]
      | true=>
       have wB:=Qal.1 e3;have hb4:=Qal.1 e4;have o9:IntKind.i64.wrap ((i:Int) - 1)=(i:Int) - 1:=Qa _ (by omega) (by omega)
       by_cases e5:x.lost=true/\0 < x.takes.length
       .have e5':(0:Int) < x.takes.length:=by omega
        simp[QgZ,e3,e4,e5.1,e5.2]
       .rw[if_neg e5];cases hl:x.lost with
        | false=>
         rcases Qhs (λt:Tak=>!inR t.fr 0 ((i:Int) - 1)) x.takes with⟨e6,mZ⟩ | ⟨k,hk,e6,m3,kA⟩
         .rw[e6]at lF; subst lF;simp[QgZ,e3,e4]
          (generalize aC:Cx.loop _ _ _=aE; apply Qi aC (λk=>⟨[(1,.d (DI i)),(5,.loc 5 0),(7,.d (DI k))],[(5,[.d (DS x.name),.d (DI x.grams),.d (DI x.fresh),.d (DB false),.d (.sl 2 (x.takes.map Qce.enc))])],[],[]⟩) x.takes.length rfl; rotate_left; (show _ < 281474976710656; omega); rfl; rotate_left; all_goals clear aC)
          .intro j hj;have w1:=Qa ((j:Int)+1) (by omega) (by omega)
           have aO:(j:Int) < x.takes.length:=by omega
           have hn:inR x.takes[j].fr 0 ((i:Int) - 1)=true:=by have:=mZ j hj; simpa using this
           simp[QgZ,Qr,hj,aO,hn,w1,o9]
          .rcases Qbf (λk=>!(decide (0 < k)&&decide ((x.takes.getD k default).fr<=(x.takes.getD (k - 1) default).fr))) x.takes.length with wC | ⟨k,hk,kT,sO⟩
           .have e7:Qp0 x.takes=true:=by
             unfold Qp0;refine decide_eq_true λk hk h0=>?_;have:=wC k hk;simp only[h0,decide_true,Bool.true_and,Bool.not_eq_true',decide_eq_false_iff_not]at this;omega
            rw[e7];simp[QgZ]
            (generalize aC:Cx.loop _ _ _=aE; apply Qi aC (λk=>⟨[(5,.loc 5 0),(8,.d (DI ((k:Int)+1)))],[(5,[.d (DS x.name),.d (DI x.grams),.d (DI x.fresh),.d (DB false),.d (.sl 2 (x.takes.map Qce.enc))])],[],[]⟩) (x.takes.length - 1) rfl; rotate_left; (show _ < 281474976710656; omega); rfl; rotate_left; all_goals clear aC)
            .intro j hj;have w1:=Qa ((j:Int)+1+1) (by omega) (by omega)
             have w2:IntKind.i64.wrap (j:Int)=(j:Int):=Qa _ (by omega) (by omega)
             have eE:j+1 < x.takes.length:=by omega
             have fD:j < x.takes.length:=by omega
             have aO:(j:Int)+1 < x.takes.length:=by omega
             have lW:((j:Int)+1).toNat=j+1:=by omega
             have wD:(0:Int)<=(j:Int)+1:=by omega
             have hn:¬x.takes[j+1].fr<=x.takes[j].fr:=by
              have:=wC (j+1) eE;rw[Ql x.takes (j+1) _ eE,Nat.add_sub_cancel,Ql x.takes j _ fD]at this;simpa using this
             simp[QgZ,Qr,eE,fD,aO,(by omega:(j:Int) < x.takes.length),lW,wD,hn,w1,w2]
            .have cY:¬(((x.takes.length - 1:Nat):Int)+1 < x.takes.length):=by omega
             simp[QgZ,cY];rcases Qhs (λt:Tak=>!inR t.gr 1 100000) x.takes with⟨e8,wE⟩ | ⟨k,hk,e8,wF,sP⟩
             .rw[e8]at lG; subst lG;have pA:∀q (hq:q < x.takes.length),q < x.takes.length->inR x.takes[q].gr 1 100000=true:=λq hq _=>by have:=wE q hq; simpa using this
              (generalize aC:Cx.loop _ _ _=aE; apply Qi aC (λk=>⟨[(5,.loc 5 0),(9,.d (DI (x.fresh+Qm4 x.takes k))),(10,.d (DI k))],[(5,[.d (DS x.name),.d (DI x.grams),.d (DI x.fresh),.d (DB false),.d (.sl 2 (x.takes.map Qce.enc))])],[],[]⟩) x.takes.length (by first | (simp; done) | (simp; rfl) | (simp; simp[*])); rotate_left; (show _ < 281474976710656; omega); rfl; rotate_left; all_goals clear aC)
              .intro j hj;have w1:=Qa ((j:Int)+1) (by omega) (by omega)
               have aO:(j:Int) < x.takes.length:=by omega
               have hb:=QnH (l:=x.takes) j (by omega) λq hq hqj=>Qal.1 (pA q hq (by omega))
               have hn:=pA j hj (by omega)
               have eB:=Qal.1 hn;have hs:=Qht (l:=x.takes) (j:=j) hj;have ws:IntKind.i64.wrap (x.fresh+Qm4 x.takes j+x.takes[j].gr)=x.fresh+Qm4 x.takes (j+1):=by
                rw[Qa _ (by omega) (by omega)]; omega
               simp[QgZ,Qr,hj,aO,hn,w1,ws]
              .have m4:Qm4 x.takes x.takes.length=QaR x.takes:=by rw[Qm4,List.take_length]
               rw[m4];by_cases h9:x.fresh+QaR x.takes=x.grams
               .simp[QgZ,h9]
               .have h9':(x.fresh+QaR x.takes != x.grams)=true:=by simpa using h9
                simp[QgZ,h9,h9']
             .rw[e8]at lG; subst lG;have pA:∀q (hq:q < x.takes.length),q < k->inR x.takes[q].gr 1 100000=true:=λq hq hqk=>by have:=sP q hq hqk; simpa using this
              (generalize aC:Cx.loop _ _ _=aE; apply Qi aC (λk=>⟨[(5,.loc 5 0),(9,.d (DI (x.fresh+Qm4 x.takes k))),(10,.d (DI k))],[(5,[.d (DS x.name),.d (DI x.grams),.d (DI x.fresh),.d (DB false),.d (.sl 2 (x.takes.map Qce.enc))])],[],[]⟩) k (by first | (simp; done) | (simp; rfl) | (simp; simp[*])); rotate_left; (show _ < 281474976710656; omega); rfl; rotate_left; all_goals clear aC)
              .intro j hj;have j5:j < x.takes.length:=by omega
               have w1:=Qa ((j:Int)+1) (by omega) (by omega)
               have aO:(j:Int) < x.takes.length:=by omega
               have hb:=QnH (l:=x.takes) j (by omega) λq hq hqj=>Qal.1 (pA q hq (by omega))
               have hn:=pA j j5 (by omega)
               have eB:=Qal.1 hn;have hs:=Qht (l:=x.takes) (j:=j) j5;have ws:IntKind.i64.wrap (x.fresh+Qm4 x.takes j+x.takes[j].gr)=x.fresh+Qm4 x.takes (j+1):=by
                rw[Qa _ (by omega) (by omega)]; omega
               simp[QgZ,Qr,j5,aO,hn,w1,ws]
              .have aX:(k:Int) < x.takes.length:=by omega
               have hn:inR x.takes[k].gr 1 100000=false:=by simpa using wF
               simp[QgZ,Qr,hk,aX,hn]
           .have e7:Qp0 x.takes=false:=by
             unfold Qp0;refine decide_eq_false λh=>?_;simp only[Bool.not_eq_false',Za,decide_eq_true_eq]at kT;have:=h k hk kT.1;omega
            simp only[Bool.not_eq_false',Za,decide_eq_true_eq]at kT;obtain⟨nN,nZ⟩:=kT;obtain⟨k,rfl⟩:∃q,k=q+1:=⟨k - 1,by omega⟩
            rw[e7];simp[QgZ]
            (generalize aC:Cx.loop _ _ _=aE; apply Qi aC (λk=>⟨[(5,.loc 5 0),(8,.d (DI ((k:Int)+1)))],[(5,[.d (DS x.name),.d (DI x.grams),.d (DI x.fresh),.d (DB false),.d (.sl 2 (x.takes.map Qce.enc))])],[],[]⟩) k rfl; rotate_left; (show _ < 281474976710656; omega); rfl; rotate_left; all_goals clear aC)
            .intro j hj;have w1:=Qa ((j:Int)+1+1) (by omega) (by omega)
             have w2:IntKind.i64.wrap (j:Int)=(j:Int):=Qa _ (by omega) (by omega)
             have eE:j+1 < x.takes.length:=by omega
             have fD:j < x.takes.length:=by omega
             have aO:(j:Int)+1 < x.takes.length:=by omega
             have kU:(j:Int) < x.takes.length:=by omega
             have lW:((j:Int)+1).toNat=j+1:=by omega
             have wD:(0:Int)<=(j:Int)+1:=by omega
             have hn:¬x.takes[j+1].fr<=x.takes[j].fr:=by
              have:=sO (j+1) (by omega)
              rw[Ql x.takes (j+1) _ eE,Nat.add_sub_cancel,Ql x.takes j _ fD]at this;simpa using this
             simp[QgZ,Qr,eE,fD,aO,kU,lW,wD,hn,w1,w2]
            .have w2:IntKind.i64.wrap (k:Int)=(k:Int):=Qa _ (by omega) (by omega)
             have fD:k < x.takes.length:=by omega
             have aO:(k:Int)+1 < x.takes.length:=by omega
             have kU:(k:Int) < x.takes.length:=by omega
             have lW:((k:Int)+1).toNat=k+1:=by omega
             have wD:(0:Int)<=(k:Int)+1:=by omega
             have hn:x.takes[k+1].fr<=x.takes[k].fr:=by
              rw[Ql x.takes (k+1) _ hk,Nat.add_sub_cancel,Ql x.takes k _ fD]at nZ;exact nZ
             simp[QgZ,Qr,hk,fD,aO,kU,lW,wD,hn,w2]
         .rw[e6]at lF; subst lF;simp[QgZ,e3,e4]
          (generalize aC:Cx.loop _ _ _=aE; apply Qi aC (λk=>⟨[(1,.d (DI i)),(5,.loc 5 0),(7,.d (DI k))],[(5,[.d (DS x.name),.d (DI x.grams),.d (DI x.fresh),.d (DB false),.d (.sl 2 (x.takes.map Qce.enc))])],[],[]⟩) k rfl; rotate_left; (show _ < 281474976710656; omega); rfl; rotate_left; all_goals clear aC)
          .intro j hj;have w1:=Qa ((j:Int)+1) (by omega) (by omega)
           have j5:j < x.takes.length:=by omega
           have aO:(j:Int) < x.takes.length:=by omega
           have hn:inR x.takes[j].fr 0 ((i:Int) - 1)=true:=by have:=kA j j5 hj; simpa using this
           simp[QgZ,Qr,j5,aO,hn,w1,o9]
          .have aX:(k:Int) < x.takes.length:=by omega
           have hn:inR x.takes[k].fr 0 ((i:Int) - 1)=false:=by simpa using m3
           simp[QgZ,Qr,hk,aX,hn,o9]
        | true=>
         have hz:x.takes.length=0:=by
          rcases Nat.eq_zero_or_pos x.takes.length with h | h
          .exact h
          .exact absurd ⟨hl,h⟩ e5
         have hz':x.takes=[]:=List.length_eq_zero_iff.1 hz;rw[hz']at lF lG|-;simp at lF lG;subst lF lG;have e7:Qp0 []=true:=rfl;simp[QgZ,e3,e4,e7]
         (generalize aC:Cx.loop _ _ _=aE; apply Qi aC (λk=>⟨[(1,.d (DI i)),(5,.loc 5 0),(7,.d (DI k))],[(5,[.d (DS x.name),.d (DI x.grams),.d (DI x.fresh),.d (DB true),.d (.sl 2 [])])],[],[]⟩) 0 rfl; rotate_left; (show _ < 281474976710656; omega); rfl; rotate_left; all_goals clear aC)
         .intro j hj; omega
         .simp[QgZ]
          (generalize aC:Cx.loop _ _ _=aE; apply Qi aC (λk=>⟨[(5,.loc 5 0),(8,.d (DI ((k:Int)+1)))],[(5,[.d (DS x.name),.d (DI x.grams),.d (DI x.fresh),.d (DB true),.d (.sl 2 [])])],[],[]⟩) 0 rfl; rotate_left; (show _ < 281474976710656; omega); rfl; rotate_left; all_goals clear aC)
          .intro j hj; omega
          .simp[QgZ]
           (generalize aC:Cx.loop _ _ _=aE; apply Qi aC (λk=>⟨[(5,.loc 5 0),(9,.d (DI x.fresh)),(10,.d (DI k))],[(5,[.d (DS x.name),.d (DI x.grams),.d (DI x.fresh),.d (DB true),.d (.sl 2 [])])],[],[]⟩) 0 rfl; rotate_left; (show _ < 281474976710656; omega); rfl; rotate_left; all_goals clear aC)
           .intro j hj; omega
           .simp[QgZ]
   .rw[e2];have hki:k < i:=by simp at hk; omega
    simp[QgZ,l3,l4,s54,s96,Qe,Qj,hi,hx,e1]
    (generalize aC:Cx.loop _ _ _=aE; apply Qi aC (λk=>⟨[(0,.d (.sl 5 (b.map QQ.enc))),(1,.d (DI i)),(5,.loc 5 0),(6,.d (DI k))],[(5,[.d (DS x.name),.d (DI x.grams),.d (DI x.fresh),.d (DB x.lost),.d (.sl 2 (x.takes.map Qce.enc))])],[],[]⟩) k rfl; rotate_left; (show _ < 281474976710656; omega); rfl; rotate_left; all_goals clear aC)
    .intro j hj;have w1:=Qa ((j:Int)+1) (by omega) (by omega)
     have lA:j < i:=by omega
     have oQ:j < b.length:=by omega
     have aO:(j:Int) < b.length:=by omega
     have hn:=aT j (by simp; omega) hj
     simp only[List.getElem_take]at hn;simp[QgZ,Qe,lA,oQ,aO,hn,w1]
    .have nZ:k < b.length:=by omega
     have aX:(k:Int) < b.length:=by omega
     simp only[List.getElem_take]at aM;simp[QgZ,Qe,hki,nZ,aX,aM]
 .cases hr
theorem QME (xs:Array Value) (w:World):(callFunc 27 xs).run Tryz.prog w= .ok (.enter 27 xs) w:=by kernel_rfl
end Go.Proofs.YticoemblgkemiaaGreatDoor
namespace Go.Proofs.YticoemblgkemiaaGreatDoor
open Go.RowKit
def QAm (r:Nat):List (Nat×Option Nat):=match r with
 | 0=>kpn [1,2,3]
 | 1=>kpn [1,2,3,7]
 | 2=>kpn [1,2,3,7,12]
 | 3=>kpn [1,2,3,7]
 | 4=>kpn [1,2,3,7,32]
 | 5=>[(6,none)]
 | 6=>[(6,none)]
 | _=>[]
def QCS (r:Nat):List (Nat×Option Nat):=match r with
 | 0=>kpn [0,1]
 | 1=>kpn [0,1,10]
 | 2=>[(4,none)]
 | 3=>kpn [0,1,5]
 | 4=>kpn [0,1,5,14]
 | 5=>kpn [0,1,5]
 | 6=>kpn [0,1,5,25]
 | 7=>[(4,none)]
 | 8=>[(4,none)]
 | _=>[]
def QD2 (p:Pro) (x t:Int):Bool:=!(p.never.any λe=>e.fr==x&&e.to==t)&&decide (x < t)
def s98:List D->Option D:=sp3 (Qcf Qof) QaY QaY QaW λp x t=>if p.never.length<=1000000 then some (QD2 p x t)else none
theorem ok98:∀ds d,s98 ds=some d->PureC Tryz.prog 104 ds d:=QcN λp x t r hr=>by
 split at hr
 .rename_i hb;cases hr;refine Qf (Qw Qs 36 QAm []) Tryz.func104 rfl rfl (Zb rfl) (by kernel_rfl) ?_
  rw[Tryz.results104];unfold QD2;rcases Qhs (λe:Edg=>e.fr==x&&e.to==t) p.never with⟨e,hall⟩ | ⟨k,hk,e,aM,aT⟩
  .rw[e];simp[QAm,Qu]
   (generalize aC:Cx.loop _ _ _=aE; apply Qi aC (λk=>⟨[(1,.d (DI x)),(2,.d (DI t)),(3,.loc 3 0),(7,.d (DI k))],[(3,[.d (.sl 1 (p.has.map QH.enc)),.d (.sl 1 (p.needs.map QH.enc)),.d (.sl 2 (p.never.map Qci.enc))])],[],[]⟩) p.never.length rfl; rotate_left; (show _ < 281474976710656; omega); rfl; rotate_left; all_goals clear aC)
   .intro j hj;have w1:=Qa ((j:Int)+1) (by omega) (by omega)
    have aO:(j:Int) < p.never.length:=by omega
    have hn:=hall j hj;cases h1:p.never[j].fr==x with
    | false=>simp[QAm,hj,aO,h1,w1,QI]
    | true=>
     rw[h1,Bool.true_and]at hn;simp[QAm,hj,aO,h1,hn,w1,QI]
   .simp[QAm]
  .rw[e];simp[QAm,Qu]
   (generalize aC:Cx.loop _ _ _=aE; apply Qi aC (λk=>⟨[(1,.d (DI x)),(2,.d (DI t)),(3,.loc 3 0),(7,.d (DI k))],[(3,[.d (.sl 1 (p.has.map QH.enc)),.d (.sl 1 (p.needs.map QH.enc)),.d (.sl 2 (p.never.map Qci.enc))])],[],[]⟩) k rfl; rotate_left; (show _ < 281474976710656; omega); rfl; rotate_left; all_goals clear aC)
   .intro j cM;have hj:j < p.never.length:=by omega
    have w1:=Qa ((j:Int)+1) (by omega) (by omega)
    have aO:(j:Int) < p.never.length:=by omega
    have hn:=aT j hj cM;cases h1:p.never[j].fr==x with
    | false=>simp[QAm,hj,aO,h1,w1,QI]
    | true=>
     rw[h1,Bool.true_and]at hn;simp[QAm,hj,aO,h1,hn,w1,QI]
   .have aX:(k:Int) < p.never.length:=by omega
    rw[Za]at aM;simp[QAm,hk,aX,aM.1,aM.2,QI]
 .cases hr
theorem QJr (xs:Array Value) (w:World):(callFunc 104 xs).run Tryz.prog w= .ok (.enter 104 xs) w:=by kernel_rfl
end Go.Proofs.YticoemblgkemiaaGreatDoor
