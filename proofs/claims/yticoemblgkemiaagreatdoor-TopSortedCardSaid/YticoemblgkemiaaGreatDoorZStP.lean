/-
  Stubs: lines of scales, the points of a line. Conditions: short lines.
-/
import Derived.Test.YticoemblgkemiaaGreatDoorZStJ
import Derived.Test.YticoemblgkemiaaGreatDoorZAmE
import Derived.Test.YticoemblgkemiaaGreatDoorZAmF
import Derived.Test.YticoemblgkemiaaGreatDoorZTrB
import Derived.RangeFuncNested
import Derived.RangeFuncBound
import Derived.RangeFuncCalls
import Derived.RangeFuncLeaves
import Derived.RangeFuncBox
import Derived.Shelf.Abstract
import Derived.Shelf.RegionOpen
import Derived.OwnWalkIn
import Derived.TacticsInMore
import Derived.LoopNIn
import Derived.LoopIn
set_option linter.unusedSimpArgs false
set_option linter.unusedVariables false
namespace Go.Proofs.YticoemblgkemiaaGreatDoor
open Go.RowKit Go.Shelf
attribute [local go_sem] Oper.semAt_some
structure Stp where
 name:ByteArray
 lo:Int
 hi:Int
 err:Int
deriving Inhabited
structure Ln where
 err:Int
 steps:List Stp
 rd:List Int
def Qkh:Row Stp:=⟨4,fun x=>[DS x.name,DI x.lo,DI x.hi,DI x.err],fun d=>match d with | [.v (.string a),.v (.int .i64 b),.v (.int .i64 c),.v (.int .i64 e)]=>some ⟨a,b,c,e⟩ | _=>none,fun _=>rfl,fun d x h=>by
 split at h
 ·cases h; exact LImp.refl _
 ·cases h⟩
theorem Qsk (x:Stp):Qkh.enc x=[DS x.name,DI x.lo,DI x.hi,DI x.err]:=rfl
theorem Qtg:Qkh.k=4:=rfl
theorem QvT (l:List Stp):(QJ Qkh).dec (.sl 4 (l.map Qkh.enc))=some l:=Qbd Qkh l 4 rfl
def rLn:Row Ln:=⟨3,fun x=>[DI x.err,.sl 4 (x.steps.map Qkh.enc),.sl 1 (x.rd.map QH.enc)],fun d=>match d with
 | [.v (.int .i64 a),y,z]=>(match(QJ Qkh).dec y,(QJ QH).dec z with | some s,some r=>some ⟨a,s,r⟩ | _,_=>none)
 | _=>none,fun x=>by simp[DI,QvT,Qap],fun d x h=>by
 split at h
 ·split at h
  ·rename_i h1 h2;cases h;exact QaX (DImp.refl _) (QaX ((QJ Qkh).ed _ _ h1) (QaX ((QJ QH).ed _ _ h2) (LImp.refl _)))
  ·cases h
 ·cases h⟩
theorem Qef (x:Ln):rLn.enc x=[DI x.err,.sl 4 (x.steps.map Qkh.enc),.sl 1 (x.rd.map QH.enc)]:=rfl
def wrN (L:Ln):Nat→Int
 | 0=>L.err
 | j+1=>if j=0 then L.err else(L.steps.getD (j - 1) default).err
def Qto (L:Ln) (j:Nat):List Value:=
 [.int .i64 j,if L.rd.getD j 0= -1 then .agg #[.int .i64 0,.int .i64 1000000]else .agg #[.int .i64 (max 0 (L.rd.getD j 0 - wrN L (j+1))),.int .i64 (min 1000000 (L.rd.getD j 0+wrN L (j+1)))]]
def QcT (L:Ln):List (List Value):=(List.range L.rd.length).map (Qto L)
def QkW (n:Int):Bool:=decide (-10000000≤n∧n≤10000000)
def lnB (L:Ln):Bool:=decide (L.rd.length≤100∧L.rd.length≤L.steps.length+1∧QkW L.err=true)&&L.rd.all QkW&&L.steps.all fun s=>QkW s.err
def QIb:List D→Option (List (List Value)):=fun ds=>match ds with
 | [.dat 3 [cs] 0 0]=>(match rLn.dec cs with
  | some x=>if lnB x=true then some (QcT x)else none
  | none=>none)
 | _=>none
theorem QFb {k:Nat} {a b:List D} (h:LImp a b):DImp (.dat k [a] 0 0) (.dat k [b] 0 0):=fun m w v hr=>by
 simp only[Rel,RelRows]at hr⊢;obtain⟨h0,bb,o,h1,⟨h2,h3⟩,h4⟩:=hr;exact⟨h0,bb,o,h1,⟨by rw[←h.length]; exact h2,h.cells h3⟩,trivial⟩
theorem QDW {P:Program} {gf:Nat} {a b:List D} {l:List (List Value)} (h:LImp a b) (hs:QC4 P gf b l):QC4 P gf a l:=fun n m w lb h1 h2 hr=>hs n m w lb h1 h2 (h.rel hr)
theorem QeW {n:Int} (h:QkW n=true): -10000000≤n∧n≤10000000:=by simpa[QkW]using h
theorem Qzx {L:Ln} {j:Nat} (h:j < L.rd.length):(QcT L)[j]?=some (Qto L j):=by simp[QcT,h]
set_option maxHeartbeats 2000000 in
theorem QJz:∀ds r,QIb ds=some r→QC4 Tryz.prog 188 ds r:=by
 intro ds r hr;unfold QIb at hr;split at hr
 ·rename_i cs;split at hr
  ·rename_i L hx;split at hr
   ·rename_i hc;cases hr;refine QDW (b:=[.dat 3 [rLn.enc L] 0 0]) ⟨_,_,rfl,QFb (rLn.ed _ _ hx),LImp.refl _⟩ ?_;unfold lnB at hc;simp only[Bool.and_eq_true,decide_eq_true_eq,List.all_eq_true]at hc;obtain⟨⟨⟨h100,hst,her⟩,hrd⟩,hse⟩:=hc;have her:=QeW her;intro n m w lb hm hG hr ln J Jx hJ hJx hround hJ0;rw[Qef]at hr;simp only[RelL,Rel,RelRows,RelCells,and_true,List.length_map,true_and,Nat.zero_mul,Nat.add_zero,Nat.zero_add]at hr;obtain⟨_,_,rfl,⟨_,b,p,rfl,_,⟨_,m0,c0,_,rfl⟩,⟨v1,m1,c1,_,_,a1,n1,rfl,hn1,q1⟩,v2,m2,c2,_,hl2,a2,n2,rfl,hn2,q2⟩,rfl⟩:=hr;have hrow:∀j (hj:j < L.rd.length),∃b2 o2,a2=some ⟨b2,o2,none⟩∧m b2 (o2+j)∧w.cell? ⟨b2,o2+j,none⟩=some (.int .i64 L.rd[j]):=fun j hj=>by
     rcases q2 with q2 | ⟨b2,o2,rfl,q2⟩
     ·exact absurd (congrArg List.length q2) (by simp only[List.length_map,List.length_nil]; omega)
     ·obtain⟨_,q3⟩:=q2.get j (QH.enc L.rd[j]) (by simp[hj])
      simp only[Qd,RelCells,Rel,and_true,Nat.mul_one]at q3;obtain⟨_,h1,h2,_,rfl⟩:=q3;exact⟨b2,o2,rfl,h1,h2⟩
    have hstp:∀j (hj:j < L.steps.length),∃b2 o2,a1=some ⟨b2,o2,none⟩∧m b2 (o2+j*4+3)∧w.cell? ⟨b2,o2+j*4+3,none⟩=some (.int .i64 L.steps[j].err):=fun j hj=>by
     rcases q1 with q1 | ⟨b2,o2,rfl,q1⟩
     ·exact absurd (congrArg List.length q1) (by simp only[List.length_map,List.length_nil]; omega)
     ·obtain⟨_,q3⟩:=q1.get j (Qkh.enc L.steps[j]) (by simp[hj])
      simp only[Qsk,RelCells,Rel,and_true]at q3;obtain⟨_,_,_,_,h1,h2,_,rfl⟩:=q3;exact⟨b2,o2,rfl,h1,h2⟩
    clear q1 q2;refine callsIn_of_wp Tryz.func188 rfl trivial ?_ rfl;simp only[Tryz.ntmps188,List.size_toArray,List.length_cons,List.length_nil,Nat.reduceAdd,Nat.reduceSub,Array.replicate_succ,Array.replicate_zero,List.push_toArray,List.append_toArray,List.nil_append,List.cons_append,List.singleton_append];have HY:=Lib.hid hround; clear hround;have HJ:=Lib.hid hJ; clear hJ;have HX:=Lib.hid hJx; clear hJx;have HP:=Lib.hid hrow; clear hrow;have HS:=Lib.hid hstp; clear hstp
    gi_wp2
    gi_loopw [3,13] (fun x i wr=>∃k:Nat,k≤L.rd.length∧x= .int .i64 (wrN L k)∧i= .int .i64 k∧J ((QcT L).take k) wr∧w.heap.size≤wr.heap.size∧∀b o,m b o→wr.cell? ⟨b,o,none⟩=w.cell? ⟨b,o,none⟩) (fun x i _=>L.rd.length - (match i with | .int _ z=>z.toNat | _=>0))
    case atStart=>exact⟨0,Nat.zero_le _,rfl,rfl,hJ0,Nat.le_refl _,fun _ _ _=>rfl⟩
    case round=>
     obtain⟨k,hk,rfl,rfl,hJs,hsz,hcell⟩:=hrel;by_cases hlt:k < L.rd.length
     ·obtain⟨b2,o2,rfl,hm2,x0⟩:=HP.out k hlt;have y0:=(hcell b2 (o2+k) hm2).trans x0;have z0:=(hcell b p m0).trans c0;have z1:=(hcell b (p+1) m1).trans c1;have z2:=(hcell b (p+1+1) m2).trans c2;have hp:=QrB (Qzx hlt);have hs:=Qki (Qzx hlt);have hHY:∀W1,Below wr.heap.size wr W1→YieldAt Fence.wide (n - 1) Tryz.prog ln (Qto L k).toArray W1 fun e W'=>((e= .returned (.bool true)∧J ((QcT L).take (k+1)) W')∨(e= .returned (.bool false)∧Jx W'))∧W1.heap.size≤W'.heap.size∧∀b o,m b o→W'.cell? ⟨b,o,none⟩=W1.cell? ⟨b,o,none⟩:=fun W1 hb=>by
       have:=HY.out _ _ W1 (HJ.out _ _ _ hJs hb) hp;rw[hs]at this;exact this
      have HYk:=Lib.hid hHY; clear hHY;clear x0 c0 c1 c2 hp hs;have hkI:(k:Int) < (L.rd.length:Int):=by omega
      have hr:=QeW (hrd _ (List.getElem_mem hlt));have hgk:L.rd.getD k 0=L.rd[k]:=Ql _ _ _ hlt;generalize hrk:L.rd[k]=r at*;by_cases hk0:0 < k
      ·obtain⟨q,rfl⟩:∃q,k=q+1:=⟨k - 1,by omega⟩
       have hqs:q < L.steps.length:=by omega
       obtain⟨b1,o1,rfl,hm1,s0⟩:=HS.out q hqs;have y1:=(hcell b1 (o1+q*4+3) hm1).trans s0;have hw1:wrN L (q+1+1)=L.steps[q].err:=by
        have e:wrN L (q+1+1)=if q+1=0 then L.err else(L.steps.getD (q+1 - 1) default).err:=rfl;rw[e,if_neg (by omega),show q+1 - 1=q from rfl,Ql _ _ _ hqs]
       have hse1:=QeW (hse _ (List.getElem_mem hqs));generalize L.steps[q].err=e1 at*;have hqI:(q:Int) < (L.steps.length:Int):=by omega
       clear s0;by_cases hq:r= -1
       ·subst hq;have hpv:Qto L (q+1)=[.int .i64 ((q:Int)+1),.agg #[.int .i64 0,.int .i64 1000000]]:=by
         unfold Qto; rw[hgk,if_pos rfl,Int.natCast_add]; rfl
        have hb1:Below wr.heap.size wr (wr.alloc (.cells #[.int .i64 0,.int .i64 1000000] 39)):=(Below.refl _ _).alloc (Nat.le_refl _) _;obtain⟨fn,tmps,assign,body,hy,hR⟩:=HYk.out _ hb1;rw[hpv]at hy;clear hk0 hpv;have H_hcell:=Lib.hid hcell; clear hcell; have H_hsz:=Lib.hid hsz; clear hsz; have H_hw1:=Lib.hid hw1; clear hw1; have H_hb1:=Lib.hid hb1; clear hb1
        gi_wp2
        refine⟨fun h=>(by cases h),hR.mono ?_⟩
        rintro e W3 ⟨⟨rfl,hJ3⟩ | ⟨rfl,hJx3⟩,hsz3,hc3⟩
        ·have H_hJ3:=Lib.hid hJ3; clear hJ3; have H_hsz3:=Lib.hid hsz3; clear hsz3; have H_hc3:=Lib.hid hc3; clear hc3
         gi_wp2
         exact⟨⟨q+1+1,by omega,by rw[H_hw1.out],by push_cast; rfl,H_hJ3.out,Nat.le_trans H_hsz.out (Nat.le_trans H_hb1.out.size H_hsz3.out),fun b o h=>(H_hc3.out b o h).trans ((H_hb1.out.cell (p:=⟨b,o,none⟩) (Nat.lt_of_lt_of_le (hm b o h) H_hsz.out)).trans (H_hcell.out b o h))⟩,by simp; omega⟩
        ·have H_hJx3:=Lib.hid hJx3; clear hJx3
         gi_wp2
         refine bodyPost_ret (results_none rfl _ _ _) rfl ?_;exact⟨⟨_,rfl⟩,.inr H_hJx3.out⟩
       ·have hpv:Qto L (q+1)=[.int .i64 ((q:Int)+1),.agg #[.int .i64 (max 0 (r - e1)),.int .i64 (min 1000000 (r+e1))]]:=by
         unfold Qto; rw[hgk,if_neg hq,hw1,Int.natCast_add]; rfl
        have hb1:Below wr.heap.size wr (wr.alloc (.cells #[.int .i64 (max 0 (r - e1)),.int .i64 (min 1000000 (r+e1))] 39)):=(Below.refl _ _).alloc (Nat.le_refl _) _;obtain⟨fn,tmps,assign,body,hy,hR⟩:=HYk.out _ hb1;rw[hpv]at hy;clear hk0 hpv;have H_hcell:=Lib.hid hcell; clear hcell; have H_hsz:=Lib.hid hsz; clear hsz; have H_hw1:=Lib.hid hw1; clear hw1; have H_hb1:=Lib.hid hb1; clear hb1
        gi_wp2
        refine⟨fun h=>(by cases h),hR.mono ?_⟩
        rintro e W3 ⟨⟨rfl,hJ3⟩ | ⟨rfl,hJx3⟩,hsz3,hc3⟩
        ·have H_hJ3:=Lib.hid hJ3; clear hJ3; have H_hsz3:=Lib.hid hsz3; clear hsz3; have H_hc3:=Lib.hid hc3; clear hc3
         gi_wp2
         exact⟨⟨q+1+1,by omega,by rw[H_hw1.out],by push_cast; rfl,H_hJ3.out,Nat.le_trans H_hsz.out (Nat.le_trans H_hb1.out.size H_hsz3.out),fun b o h=>(H_hc3.out b o h).trans ((H_hb1.out.cell (p:=⟨b,o,none⟩) (Nat.lt_of_lt_of_le (hm b o h) H_hsz.out)).trans (H_hcell.out b o h))⟩,by simp; omega⟩
        ·have H_hJx3:=Lib.hid hJx3; clear hJx3
         gi_wp2
         refine bodyPost_ret (results_none rfl _ _ _) rfl ?_;exact⟨⟨_,rfl⟩,.inr H_hJx3.out⟩
      ·have hk0I:¬(0:Int) < (k:Int):=by omega
       have hw0:wrN L k=L.err:=by
        obtain rfl:k=0:=by omega
        rfl
       have hw1:wrN L (k+1)=L.err:=if_pos (by omega)
       by_cases hq:r= -1
       ·subst hq;have hpv:Qto L k=[.int .i64 k,.agg #[.int .i64 0,.int .i64 1000000]]:=by
         unfold Qto; rw[hgk,if_pos rfl]
        have hb1:Below wr.heap.size wr (wr.alloc (.cells #[.int .i64 0,.int .i64 1000000] 39)):=(Below.refl _ _).alloc (Nat.le_refl _) _;obtain⟨fn,tmps,assign,body,hy,hR⟩:=HYk.out _ hb1;rw[hpv]at hy;clear hk0 hpv;have H_hcell:=Lib.hid hcell; clear hcell; have H_hsz:=Lib.hid hsz; clear hsz; have H_hw1:=Lib.hid hw1; clear hw1; have H_hb1:=Lib.hid hb1; clear hb1
        gi_wp2
        refine⟨fun h=>(by cases h),hR.mono ?_⟩
        rintro e W3 ⟨⟨rfl,hJ3⟩ | ⟨rfl,hJx3⟩,hsz3,hc3⟩
        ·have H_hJ3:=Lib.hid hJ3; clear hJ3; have H_hsz3:=Lib.hid hsz3; clear hsz3; have H_hc3:=Lib.hid hc3; clear hc3
         gi_wp2
         exact⟨⟨k+1,by omega,by rw[H_hw1.out],by push_cast; rfl,H_hJ3.out,Nat.le_trans H_hsz.out (Nat.le_trans H_hb1.out.size H_hsz3.out),fun b o h=>(H_hc3.out b o h).trans ((H_hb1.out.cell (p:=⟨b,o,none⟩) (Nat.lt_of_lt_of_le (hm b o h) H_hsz.out)).trans (H_hcell.out b o h))⟩,by simp; omega⟩
        ·have H_hJx3:=Lib.hid hJx3; clear hJx3
         gi_wp2
         refine bodyPost_ret (results_none rfl _ _ _) rfl ?_;exact⟨⟨_,rfl⟩,.inr H_hJx3.out⟩
       ·have hpv:Qto L k=[.int .i64 k,.agg #[.int .i64 (max 0 (r - L.err)),.int .i64 (min 1000000 (r+L.err))]]:=by
         unfold Qto; rw[hgk,if_neg hq,hw1]
        have hb1:Below wr.heap.size wr (wr.alloc (.cells #[.int .i64 (max 0 (r - L.err)),.int .i64 (min 1000000 (r+L.err))] 39)):=(Below.refl _ _).alloc (Nat.le_refl _) _;obtain⟨fn,tmps,assign,body,hy,hR⟩:=HYk.out _ hb1;rw[hpv]at hy;clear hk0 hpv;have H_hcell:=Lib.hid hcell; clear hcell; have H_hsz:=Lib.hid hsz; clear hsz; have H_hw1:=Lib.hid hw1; clear hw1; have H_hb1:=Lib.hid hb1; clear hb1
        gi_wp2
        refine⟨fun h=>(by cases h),hR.mono ?_⟩
        rintro e W3 ⟨⟨rfl,hJ3⟩ | ⟨rfl,hJx3⟩,hsz3,hc3⟩
        ·have H_hJ3:=Lib.hid hJ3; clear hJ3; have H_hsz3:=Lib.hid hsz3; clear hsz3; have H_hc3:=Lib.hid hc3; clear hc3
         gi_wp2
         exact⟨⟨k+1,by omega,by rw[H_hw1.out],by push_cast; rfl,H_hJ3.out,Nat.le_trans H_hsz.out (Nat.le_trans H_hb1.out.size H_hsz3.out),fun b o h=>(H_hc3.out b o h).trans ((H_hb1.out.cell (p:=⟨b,o,none⟩) (Nat.lt_of_lt_of_le (hm b o h) H_hsz.out)).trans (H_hcell.out b o h))⟩,by simp; omega⟩
        ·have H_hJx3:=Lib.hid hJx3; clear hJx3
         gi_wp2
         refine bodyPost_ret (results_none rfl _ _ _) rfl ?_;exact⟨⟨_,rfl⟩,.inr H_hJx3.out⟩
     ·obtain rfl:k=L.rd.length:=by omega
      have hall:(QcT L).take L.rd.length=QcT L:=List.take_of_length_le (by simp[QcT])
      rw[hall]at hJs;have H_hJs:=Lib.hid hJs; clear hJs; have H_hcell:=Lib.hid hcell; clear hcell; have H_hsz:=Lib.hid hsz; clear hsz; have H_hall:=Lib.hid hall; clear hall
      gi_wp2
      go_end0
      exact⟨⟨_,rfl⟩,.inl H_hJs.out⟩
   ·cases hr
  ·cases hr
 ·cases hr
theorem QCE (xs:Array Value) (w:World):(callFunc 188 xs).run Tryz.prog w= .ok (.enter 188 xs) w:=by kernel_rfl
theorem Qy2:QpD Tryz.prog (QiT [(188,QIb)]):=QAU Qcx QCE QJz
end Go.Proofs.YticoemblgkemiaaGreatDoor
namespace Go.Proofs.YticoemblgkemiaaGreatDoor
open Go.RowKit
def QEZ (r:Nat):List (Nat×Option Nat):=match r with
 | 0=>[(0,none)]
 | 1=>kpn [0,7]
 | 2=>[(0,none)]
 | 3=>kpn [0,3]
 | 4=>kpn [0,3,4]
 | 5=>kpn [0,3,4,15]
 | 6=>kpn [0,3,4]
 | 7=>kpn [0,3,4]
 | 8=>[(2,none)]
 | _=>[]
def QLL (r:Nat):List (Nat×Option Nat):=match r with
 | 0=>[]
 | _=>[]
def QDY:List D→Option D:=sp1 (QJ QH) QaY fun l=>match l with | [a]=>some a | _=>none
theorem QMN:∀ds d,QDY ds=some d→PureC Tryz.prog 232 ds d:=Qbr fun l r hr=>by
 split at hr
 ·rename_i a;cases hr;refine Qf (Qw Qs 25 QEZ []) Tryz.func232 rfl rfl (Nat.le_of_ble_eq_true rfl) (by kernel_rfl) ?_
  rw[Tryz.results232];simp[QEZ,Qd,Qn]
  (generalize hLoopQ:Cx.loop _ _ _=rLoopQ; apply Qi hLoopQ (fun k=>⟨[(0,.d (.sl 1 [[DI r]])),(3,.d (DI r)),(4,.d (DI 1))],[],[],[]⟩) 0 (by first | (simp; done) | (simp; rfl) | (simp; simp[*])); rotate_left; (show _ < 281474976710656; omega); rfl; rotate_left; all_goals clear hLoopQ)
  ·intro k hk; omega
  ·simp[QEZ]
 ·cases hr
theorem QAz (xs:Array Value) (w:World):(callFunc 232 xs).run Tryz.prog w= .ok (.enter 232 xs) w:=by kernel_rfl
def jl1:List (Nat×(List D→Option D)):=[(232,QDY)]
theorem djl1:QaE Tryz.prog (Qaw jl1):=Qh Qs QAz QMN
abbrev Sq:= {L:List Int // L.length=64}
def Sq.put (L:Sq) (p:Nat) (v:Int):Sq:=⟨L.1.set p v,by simp[L.2]⟩
def Sq.nth (L:Sq) (k:Nat):Int:=L.1.getD k 0
theorem QJP (L:Sq) {p:Nat} (h:p < 64) (v:Int):QZ (fun j=>DI (L.nth j)) p (DI v)=fun j=>DI ((L.put p v).nth j):=Qn0 (by rw[L.2]; exact h)
def sqC (L:Sq):List X:=Qk 64 fun k=>DI (L.nth k)
theorem QK6 {L M:Sq} (h:sqC L=sqC M):L=M:=by
 refine Subtype.ext (List.ext_getElem (by rw[L.2,M.2]) fun k h1 h2=>?_)
 have:=Qdw h k (by have:=L.2; omega)
 simp only[D.v.injEq,Value.int.injEq,true_and]at this;unfold Sq.nth at this;rw[Ql _ _ _ h1,Ql _ _ _ h2]at this;exact this
structure LA where
 L:Sq
 p:Nat
 v:Int
def QpO (a:LA):List X×List Cont×List Nat:=([.loc 1000 a.p,.d (.sl 1 [[DI a.v]])],[.cells (sqC a.L)],[])
def Qph (a:LA):Option (D×List Cont×List Nat):=if a.p < 64 then some (.tup [],[.cells (sqC (a.L.put a.p (if a.v < a.L.nth a.p then a.v else a.L.nth a.p)))],[])else none
theorem QMs (a b:LA) (h:QpO a=QpO b):Qph a=Qph b:=by
 obtain⟨L,p,v⟩:=a;obtain⟨M,q,u⟩:=b;simp only[QpO,Prod.mk.injEq,List.cons.injEq,X.loc.injEq,X.d.injEq,D.sl.injEq,D.v.injEq,Value.int.injEq,Cont.cells.injEq,and_true,true_and]at h;obtain⟨⟨h1,h2⟩,h3⟩:=h;subst h1; subst h2;rw[QK6 h3]
noncomputable def QDi:QfF:=Qns QpO Qph
theorem QNY:Qdl Tryz.prog 187 QDi:=Qeb fun a r hr=>by
 obtain⟨L,p,v⟩:=a;unfold Qph at hr;split at hr
 ·rename_i hp;cases hr;dsimp only at hp;refine QbO (Qby djl1 Qb6 Qbn Qcx 12 QLL [] (fun _=>[]) (fun _=>0)) Tryz.func187 rfl rfl (Nat.le_of_ble_eq_true rfl) (by kernel_rfl) (by kernel_rfl) ?_
  rw[Tryz.results187];simp only[QpO,sqC];have e1:QDY [.sl 1 [[DI v]]]=some (DI v):=rfl;have hp':p≤63:=by omega
  have e2:=QJP L hp (if v < L.nth p then v else L.nth p);simp[QLL,jl1,Qaj,QA,Qb,Qg,Qc,Qo,QaG,Qv,QbT,QaT,hp,hp',e1,e2]
 ·cases hr
theorem QBv (xs:Array Value) (w:World):(callFunc 187 xs).run Tryz.prog w= .ok (.enter 187 xs) w:=by kernel_rfl
theorem Qy6 (L:Sq) {p:Nat} (hp:p < 64) (v:Int):QDi [.loc 1000 p,.d (.sl 1 [[DI v]])] [.cells (sqC L)] []=some (.tup [],[.cells (sqC (L.put p (if v < L.nth p then v else L.nth p)))],[]):=by
 have:=Qgh QMs ⟨L,p,v⟩ (xs:=[.loc 1000 p,.d (.sl 1 [[DI v]])]) (cs:=[.cells (sqC L)]) (tl:=[]) rfl;unfold QDi;rw[this];unfold Qph;rw[if_pos hp]
end Go.Proofs.YticoemblgkemiaaGreatDoor
