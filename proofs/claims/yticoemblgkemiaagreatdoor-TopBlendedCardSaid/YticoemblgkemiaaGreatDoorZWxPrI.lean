/-
  The program of the wax chapter: Sets and Within. Conditions: the names are strings.
-/
import Derived.Test.YticoemblgkemiaaGreatDoorZWxPrH
set_option linter.unusedSimpArgs false
set_option linter.unusedVariables false
namespace Go.Proofs.YticoemblgkemiaaGreatDoor
open Go.RowKit
def QLX (r:Nat):List (Nat×Option Nat):=match r with
 | 0=>kpn [1,2]
 | 1=>kpn [6,7]
 | 2=>kpn [6,7,15]
 | 3=>kpn [4,5]
 | 4=>kpn [4,5]
 | _=>[]
def QZr (r:Nat):List (Nat×Option Nat):=match r with
 | 0=>[(1,none),(2,none),(4,some 1),(5,some 1)]
 | 1=>[(2,none),(4,some 1),(5,some 1),(6,none),(7,none)]
 | 2=>[(2,none),(4,some 1),(5,some 1),(6,none),(7,none),(20,none)]
 | 3=>[(4,some 1),(5,some 1),(6,none)]
 | 4=>[(2,none),(4,some 1),(5,some 1),(7,none),(8,none),(9,none)]
 | 5=>[(2,none),(4,some 1),(5,some 1),(8,none),(9,none),(23,none),(24,none),(25,none)]
 | 6=>[(2,none),(4,some 1),(5,some 1),(8,none),(9,none),(23,none),(24,none),(25,none),(26,none)]
 | 7=>[(2,none),(4,some 1),(5,some 1),(8,none),(9,none),(11,none),(23,none),(24,none),(25,none)]
 | 8=>[(2,none),(4,some 1),(5,some 1),(8,none),(9,none),(11,none),(23,none),(24,none),(25,none)]
 | 9=>[(2,none),(4,some 1),(5,some 1),(8,none),(9,none),(23,none),(24,none),(25,none)]
 | 10=>[(2,none),(4,some 1),(5,some 1),(8,none),(9,none),(23,none),(24,none),(25,none)]
 | 11=>[(2,none),(4,some 1),(5,some 1),(8,none),(9,none),(37,none)]
 | 12=>[(4,some 1),(5,some 1),(6,none)]
 | 13=>[(4,some 1),(5,some 1),(8,none),(9,none),(40,none),(41,none)]
 | 14=>[(4,some 1),(5,some 1),(8,none),(9,none),(40,none),(41,none),(42,none)]
 | 15=>[(4,some 1),(5,some 1),(8,none),(9,none),(12,none),(40,none),(41,none)]
 | 16=>[(4,some 1),(5,some 1),(8,none),(9,none),(12,none),(40,none),(41,none),(48,none)]
 | 17=>[(4,some 1),(5,some 1),(8,none),(9,none),(12,none),(40,none),(41,none)]
 | 18=>[(4,some 1),(5,some 1),(8,none),(9,none),(12,none),(40,none),(41,none),(57,none)]
 | 19=>[(4,some 1),(5,some 1),(8,none),(9,none),(40,none),(41,none)]
 | 20=>[(4,some 1),(5,some 1),(8,none),(9,none),(40,none),(41,none)]
 | 21=>[(4,some 1),(5,some 1),(6,none)]
 | _=>[]
theorem QRv (a:Nat) (h:a < 256):(BitVec.ofInt 64 (a:Int)).toNat=a:=by
 rw[BitVec.ofInt_natCast,BitVec.toNat_ofNat]; exact Nat.mod_eq_of_lt (by omega)
theorem QVC {a b:Nat} (ha:a < 256) (hb:b < 256):bits BinOp.and IntKind.i64 (a:Int) (b:Int)=((a&&& b:Nat):Int):=by
 show IntKind.i64.wrap (((BitVec.ofInt 64 (a:Int))&&& (BitVec.ofInt 64 (b:Int))).toNat:Int)=_;rw[BitVec.toNat_and,QRv a ha,QRv b hb];have:=Nat.and_le_left (n:=a) (m:=b);exact Qa _ (by omega) (by omega)
theorem Q1r {a b:Nat} (ha:a < 256) (hb:b < 256):(a||| b) < 256:=Nat.or_lt_two_pow (n:=8) ha hb
theorem QZQ {a b:Nat} (ha:a < 256) (hb:b < 256):bits BinOp.or IntKind.i64 (a:Int) (b:Int)=((a||| b:Nat):Int):=by
 show IntKind.i64.wrap (((BitVec.ofInt 64 (a:Int))||| (BitVec.ofInt 64 (b:Int))).toNat:Int)=_
 rw[BitVec.toNat_or,QRv a ha,QRv b hb];have:=Q1r ha hb;exact Qa _ (by omega) (by omega)
theorem QYg {b:Nat} (hb:b < 256):bits BinOp.and IntKind.i64 (-1) (b:Int)=(b:Int):=by
 show IntKind.i64.wrap (((BitVec.ofInt 64 (-1))&&& (BitVec.ofInt 64 (b:Int))).toNat:Int)=_;have e:BitVec.ofInt 64 (-1)=BitVec.allOnes 64:=by decide
 rw[e,BitVec.allOnes_and,QRv b hb];exact Qa _ (by omega) (by omega)
theorem QSw {s k:Nat} (hk:k≤40):QRP (s:Int) k=s.testBit k:=by
 unfold QRP QRJ;rw[Nat.testBit_eq_decide_div_mod_eq];have:((s:Int) / 2 ^ k % 2)=((s / 2 ^ k % 2:Nat):Int):=by simp
 rw[this];by_cases h:s / 2 ^ k % 2=1
 ·rw[h]; rfl
 ·have:((s / 2 ^ k % 2:Nat):Int)≠1:=by omega
  simp only[h,decide_false];exact beq_eq_false_iff_ne.2 this
def Q0K (l:List Int):Int:=l.foldl (fun a s=>bits BinOp.and IntKind.i64 a s) (-1)
def orF (l:List Int):Int:=l.foldl (fun a s=>bits BinOp.or IntKind.i64 a s) 0
@[simp] theorem andF_nil : Q0K [] = -1 := rfl
@[simp] theorem orF_nil : orF [] = 0 := rfl
theorem QUS {α β:Type} (f:β→α→β) (z:β) {l:List α} {j:Nat} (h:j < l.length):(l.take (j+1)).foldl f z=f ((l.take j).foldl f z) l[j]:=by
 rw[List.take_add_one,List.getElem?_eq_getElem h,Option.toList_some,List.foldl_append]; rfl
theorem QZo:∀(l:List Int) (n:Nat),n < 256→(∀s∈l,0≤s∧s≤255)→∃n':Nat,l.foldl (fun a s=>bits BinOp.or IntKind.i64 a s) (n:Int)=n'∧n' < 256∧∀k,n'.testBit k=(n.testBit k||l.any fun s=>s.toNat.testBit k)
 | [],n,hn,_=>⟨n,rfl,hn,fun k=>by simp⟩
 | s::t,n,hn,h=>by
  obtain⟨s0,s1⟩:=h s (by simp)
  obtain⟨S,rfl⟩:∃S:Nat,s=S:=⟨s.toNat,by omega⟩
  obtain⟨n',h1,h2,h3⟩:=QZo t (n||| S) (Q1r hn (by omega)) fun s hs=>h s (by simp[hs])
  refine⟨n',?_,h2,fun k=>?_⟩
  ·simp only[List.foldl_cons];rw[QZQ hn (by omega)]; exact h1
  ·rw[h3,Nat.testBit_or]; simp[Bool.or_assoc]
theorem QXu:∀(l:List Int) (n:Nat),n < 256→(∀s∈l,0≤s∧s≤255)→∃n':Nat,l.foldl (fun a s=>bits BinOp.and IntKind.i64 a s) (n:Int)=n'∧n' < 256∧∀k,n'.testBit k=(n.testBit k&&l.all fun s=>s.toNat.testBit k)
 | [],n,hn,_=>⟨n,rfl,hn,fun k=>by simp⟩
 | s::t,n,hn,h=>by
  obtain⟨s0,s1⟩:=h s (by simp)
  obtain⟨S,rfl⟩:∃S:Nat,s=S:=⟨s.toNat,by omega⟩
  have hle:=Nat.and_le_left (n:=n) (m:=S);obtain⟨n',h1,h2,h3⟩:=QXu t (n&&& S) (by omega) fun s hs=>h s (by simp[hs])
  refine⟨n',?_,h2,fun k=>?_⟩
  ·simp only[List.foldl_cons];rw[QVC hn (by omega)]; exact h1
  ·rw[h3,Nat.testBit_and]; simp[Bool.and_assoc]
theorem QYO {l:List Int} (hne:l≠[]) (h:∀s∈l,0≤s∧s≤255):∃n:Nat,Q0K l=n∧n < 256∧∀k,k≤40→n.testBit k=QSj l k:=by
 cases l with
 | nil=>exact absurd rfl hne
 | cons s t=>
  obtain⟨s0,s1⟩:=h s (by simp)
  obtain⟨S,rfl⟩:∃S:Nat,s=S:=⟨s.toNat,by omega⟩
  obtain⟨n',h1,h2,h3⟩:=QXu t S (by omega) fun s hs=>h s (by simp[hs])
  refine⟨n',?_,h2,fun k hk=>?_⟩
  ·unfold Q0K; simp only[List.foldl_cons]; rw[QYg (by omega)]; exact h1
  ·rw[h3];unfold QSj;rw[List.all_cons,QSw hk];congr 1;rw[Bool.eq_iff_iff,List.all_eq_true,List.all_eq_true];refine forall_congr' fun s=>imp_congr_right fun hs=>?_;obtain⟨q0,q1⟩:=h s (by simp[hs])
   have:=QSw (s:=s.toNat) hk;rw[show((s.toNat:Nat):Int)=s by omega]at this
   rw[this]
theorem QZS {l:List Int} (h:∀s∈l,0≤s∧s≤255):∃n:Nat,orF l=n∧n < 256∧∀k,k≤40→n.testBit k=QRj l k:=by
 obtain⟨n',h1,h2,h3⟩:=QZo l 0 (by omega) h
 refine⟨n',h1,h2,fun k hk=>?_⟩;rw[h3];unfold QRj;rw[Nat.zero_testBit,Bool.false_or,Bool.eq_iff_iff,List.any_eq_true,List.any_eq_true];refine exists_congr fun s=>and_congr_right fun hs=>?_;obtain⟨q0,q1⟩:=h s hs;have:=QSw (s:=s.toNat) hk;rw[show((s.toNat:Nat):Int)=s by omega]at this
 rw[this]
theorem QXs {n k:Nat} (hn:n < 256) (hk:k < 8):(bits BinOp.and IntKind.i64 ((n:Int) / 2 ^ (min k IntKind.i64.bits)) 1==1)=n.testBit k:=by
 have e:min k IntKind.i64.bits=k:=by show min k 64=k; omega
 have e2:(n:Int) / 2 ^ k=((n / 2 ^ k:Nat):Int):=by simp
 have hle:n / 2 ^ k≤n:=Nat.div_le_self _ _;have e3:bits BinOp.and IntKind.i64 ((n / 2 ^ k:Nat):Int) 1=((n / 2 ^ k&&& 1:Nat):Int):=QVC (b:=1) (by omega) (by omega)
 rw[e,e2,e3,Nat.and_one_is_mod,Nat.testBit_eq_decide_div_mod_eq];by_cases h:n / 2 ^ k % 2=1
 ·rw[h]; rfl
 ·have:((n / 2 ^ k % 2:Nat):Int)≠1:=by omega
  simp only[h,decide_false];exact beq_eq_false_iff_ne.2 this
def QYu (x:Tbl) (l:List Int):List Int×Int:=if ¬QQj x l=0 then([],QQj x l)else(QQA (QRp x l),0)
def g25:List (Nat×(List D→Option D)):=(84,s62)::(85,QYA)::[]
theorem dg25:QaE Tryz.prog (Qaw g25):=Qh (Qh Qs QZa Q04) QWl Q2o
def s25:List D→Option D:=sp2 (Qcf QRf) (QJ QH) (Qgw (QJ QH) QaY) fun x l=>if QQh x then some (QYu x l)else none
theorem ok25:∀ds d,s25 ds=some d→PureC Tryz.prog 72 ds d:=Qay fun x l r hr=>by
 split at hr
 ·rename_i hnm;cases hr;refine QdB (Qgw (QJ QH) QaY) (QYu x l) (QP1 dg25 19 QLX []) Tryz.func72 rfl rfl (Nat.le_of_ble_eq_true rfl) (by kernel_rfl) ?_
  rw[Tryz.results72];unfold QYu;by_cases h1:QQj x l=0
  ·have hO:=QR0 h1;have hR:okR x l:=h1;simp[QLX,QPZ,QP8,g25,s62,QYA,QSP,hnm,hO,h1,hR]
  ·have hO:=QSA h1;have h2:(QQj x l != 0)=true:=by simpa using h1
   simp[QLX,QPZ,QP8,g25,s62,hnm,hO,h1,h2]
 ·cases hr
theorem QDD (xs:Array Value) (w:World):(callFunc 72 xs).run Tryz.prog w= .ok (.enter 72 xs) w:=by kernel_rfl
theorem QZW {m:Mix} (h:(0≤m.a∧m.a < 8)∧0≤m.b∧m.b < 8):1≤QQQ m∧QQQ m≤255:=by
 have:=(QXI m.a.toNat (by omega) m.b.toNat (by omega)).2
 have h1:2 ^ m.a.toNat≤(2 ^ m.a.toNat||| 2 ^ m.b.toNat):=Nat.left_le_or
 have h2:1≤2 ^ m.a.toNat:=Nat.one_le_two_pow;unfold QQQ; omega
theorem QWK {x:Tbl} {l:List Int} (h0:okR x l):∀s∈QQA (QRp x l),1≤s∧s≤255:=fun s hs=>by
 have hk8:=(QQv (QRQ h0).1).k8;have hb:∀m∈QRp x l,1≤QQQ m∧QQQ m≤255:=fun m hm=>by
  obtain⟨⟨a0,a1⟩,⟨b0,b1⟩,_⟩:=QWW h0 hm;exact QZW ⟨⟨a0,by omega⟩,b0,by omega⟩
 rw[QTU fun m hm=>by have:=hb m hm; omega]at hs
 obtain⟨m,hm,rfl⟩:=List.mem_map.1 hs;exact hb m hm
def QVV (x:Tbl) (l:List Int):List Int×List Int×Int:=
 if ¬QQj x l=0 then([],[],QQj x l)else if(QQA (QRp x l)).length=0 then([],[],9)else(QQu (QSj (QQA (QRp x l))) x.kinds.length,QQu (QRj (QQA (QRp x l))) x.kinds.length,0)
def s28:List D→Option D:=sp2 (Qcf QRf) (QJ QH) (Qmy (QJ QH) (QJ QH) QaY) fun x l=>if QQh x then some (QVV x l)else none
set_option maxHeartbeats 4000000 in
theorem ok28:∀ds d,s28 ds=some d→PureC Tryz.prog 21 ds d:=Qay fun x l r hr=>by
 split at hr
 ·rename_i hnm;cases hr;refine QdB (Qmy (QJ QH) (QJ QH) QaY) (QVV x l) (QP1 dg25 65 QZr []) Tryz.func21 rfl rfl (Nat.le_of_ble_eq_true rfl) (by kernel_rfl) ?_
  rw[Tryz.results21];unfold QVV;by_cases h1:QQj x l=0
  ·have hO:=QR0 h1;have hR:okR x l:=h1;have hk8:=(QQv (QRQ hR).1).k8;have hmem:=QWK hR;have hlen:=QVE (QRp x l);simp[QZr,QPZ,QP8,g25,s62,QYA,QSP,hnm,hO,h1,hR];generalize QQA (QRp x l)=L at*;obtain⟨nb,hnb,hnb2,hnb3⟩:=QZS (l:=L) fun s hs=>by have:=hmem s hs; omega
   (generalize hLoopQ:Cx.loop _ _ _=rLoopQ; apply Qi hLoopQ (fun k=>⟨[(2,.loc 2 0),(4,.sl 1 [] (.tok 4)),(5,.sl 1 [] (.tok 5)),(8,.d (DI (Q0K (L.take k)))),(9,.d (DI (orF (L.take k)))),(23,.d (.sl 1 (L.map QH.enc))),(24,.d (DI L.length)),(25,.d (DI k))],[(2,[.d (.sl 2 (x.props.map QQt.enc)),.d (.sl 2 (x.kinds.map QQw.enc)),.d (DI x.purity)])],[5,4],[]⟩) L.length (by first | (simp; done) | (simp; rfl) | (simp; simp[*])); rotate_left; (show _ < 281474976710656; omega); rfl; rotate_left; all_goals clear hLoopQ)
   ·intro j hj;have w1:=Qa ((j:Int)+1) (by omega) (by omega)
    have hjl:(j:Int) < L.length:=by omega
    have e1:Q0K (L.take (j+1))=bits BinOp.and IntKind.i64 (Q0K (L.take j)) L[j]:=QUS _ _ hj;have e2:orF (L.take (j+1))=bits BinOp.or IntKind.i64 (orF (L.take j)) L[j]:=QUS _ _ hj;rw[e1,e2];simp[QZr,hj,hjl,w1]
   ·rw[List.take_length,hnb];by_cases hL:L=[]
    ·subst hL;have hz:nb=0:=by
      have:orF []=0:=rfl;rw[this]at hnb; omega
     subst hz;simp[QZr];done
    ·have hnz:nb≠0:=fun e=>by
      subst e;obtain⟨s,hs⟩:=List.exists_mem_of_ne_nil L hL;obtain⟨s0,s1⟩:=hmem s hs;obtain⟨i,hi⟩:=Nat.exists_testBit_of_ne_zero (show s.toNat≠0 by omega)
      have hi8:i < 8:=by
       rcases Nat.lt_or_ge i 8 with h | h
       ·exact h
       ·have:s.toNat < 2 ^ i:=Nat.lt_of_lt_of_le (show s.toNat < 2 ^ 8 by omega) (Nat.pow_le_pow_right (by omega) h)
        rw[Nat.testBit_lt_two_pow this]at hi; cases hi
      have:=hnb3 i (by omega)
      rw[Nat.zero_testBit]at this;have h2:=QSw (s:=s.toNat) (k:=i) (by omega)
      rw[show((s.toNat:Nat):Int)=s by omega,hi]at h2
      have:QRj L i=true:=List.any_eq_true.2 ⟨s,hs,h2⟩
      simp_all
     obtain⟨na,hna,hna2,hna3⟩:=QYO hL fun s hs=>by have:=hmem s hs; omega
     have hnzI:((nb:Int)==0)=false:=beq_eq_false_iff_ne.2 (by omega)
     rw[hna];simp[QZr,hL,hnz,hnzI,QP5]
     (generalize hLoopQ:Cx.loop _ _ _=rLoopQ; apply Qi hLoopQ (fun k=>⟨[(4,.sl 1 ((QQu (QSj L) k).map QH.enc) (.tok 4)),(5,.sl 1 ((QQu (QRj L) k).map QH.enc) (.tok 5)),(8,.d (DI na)),(9,.d (DI nb)),(40,.d (DI x.kinds.length)),(41,.d (DI k))],[],[5,4],[]⟩) x.kinds.length (by first | (simp; done) | (simp; rfl) | (simp; simp[*])); rotate_left; (show _ < 281474976710656; omega); rfl; rotate_left; all_goals clear hLoopQ)
     ·intro j hj;have w1:=Qa ((j:Int)+1) (by omega) (by omega)
      have hjl:(j:Int) < x.kinds.length:=by omega
      have QQ1:=QRH (QSj L) j;have QWC:=QRH (QRj L) j;have b1:=QXs (k:=j) hna2 (by omega)
      have b2:=QXs (k:=j) hnb2 (by omega)
      rw[hna3 j (by omega)]at b1
      rw[hnb3 j (by omega)]at b2
      simp only[QQu];generalize QQu (QSj L) j=M1 at*;generalize QQu (QRj L) j=M2 at*;have c1:M1.length+1≤140737488355328:=by omega
      have c2:(M1.length+1)*8≤140737488355328:=by omega
      have c3:M2.length+1≤140737488355328:=by omega
      have c4:(M2.length+1)*8≤140737488355328:=by omega
      generalize QSj L j=p1Wx at*;generalize QRj L j=QR9 at*;cases p1Wx<;>cases QR9<;>simp[QZr,hjl,w1,b1,b2,c1,c2,c3,c4,Qd]
     ·simp[QZr];done
  ·have hO:=QSA h1;have h2:(QQj x l != 0)=true:=by simpa using h1
   simp[QZr,QPZ,QP8,g25,s62,hnm,hO,h1,h2]
 ·cases hr
theorem QZA (xs:Array Value) (w:World):(callFunc 21 xs).run Tryz.prog w= .ok (.enter 21 xs) w:=by kernel_rfl
end Go.Proofs.YticoemblgkemiaaGreatDoor
