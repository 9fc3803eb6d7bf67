/-
  Blends: fitting's recursion at the example: which recipes it yields. Conditions: none.
-/
import Derived.Test.YticoemblgkemiaaGreatDoorZBlT
import Derived.Test.YticoemblgkemiaaGreatDoorZAmF
import Derived.RangeFuncNested
import Derived.RangeFuncBound
import Derived.RangeFuncCalls
import Derived.RangeFuncLeaves
import Derived.RangeFuncBox
import Derived.Shelf.Abstract
import Derived.Shelf.RegionOpen
import Derived.OwnWalkIn
import Derived.TacticsInMore
import Derived.LoopNIn
import Derived.LoopIn
set_option linter.unusedSimpArgs false
set_option linter.unusedVariables false
namespace Go.Proofs.YticoemblgkemiaaGreatDoor
open Go.RowKit Go.Shelf
attribute [local go_sem] Oper.semAt_some
theorem Q37 {F:Fence} (hd:F.depth=none) (k:Nat):F.room k:=fun d h=>by rw[hd]at h; cases h
theorem RoundIn.anyB {F:Fence} (hd:F.depth=none) {m m':Nat} {P:Program} {l:Nat} {f:FuncId} {tmps:Array Value} {assign body:Code} {w:World} {R:Ending→World→Prop}
  (h:RoundIn F m P l f tmps assign body w R):RoundIn F m' P l f tmps assign body w R:=⟨h.1,fun c cs _=>h.2 c cs (Q37 hd _)⟩
theorem YieldAt.anyB {F:Fence} (hd:F.depth=none) {m:Nat} (m':Nat) {P:Program} {l:Nat} {args:Array Value} {W:World} {R:Ending→World→Prop} (h:YieldAt F m P l args W R):YieldAt F m' P l args W R:=by
 obtain⟨fn,tmps,assign,body,hy,hR⟩:=h;exact⟨fn,tmps,assign,body,hy,RoundIn.anyB hd hR⟩
def Q9F (s:Nat) (b:Nat):Prop:=b=s∨b=s+1∨b=s+2∨b=s+3
structure FW (J:List (List D)→(Nat→Prop)→World→Prop) (m:Nat→Nat→Prop) (w:World) (ln:Nat) (fv:Value) (pre:List (List D)) (x0 x1 x2:Int) (W:World):Prop where
 j:J pre (Q9F w.heap.size) W
 size:w.heap.size+4≤W.heap.size
 cells:∀b o,m b o→W.cell? ⟨b,o,none⟩=w.cell? ⟨b,o,none⟩
 y:W.heap[w.heap.size]?=some (.cells #[.func (.yield ln) #[] #[]] 315 (0,0))
 a:W.heap[w.heap.size+1]?=some (.cells #[.int .i64 x0,.int .i64 x1,.int .i64 x2] 3 (0,0))
 r:W.heap[w.heap.size+2]?=some (.cells #[.slice (some ⟨w.heap.size+1,0,none⟩) 3 3] 34 (0,0))
 f:W.heap[w.heap.size+3]?=some (.cells #[fv] 53 (0,0))
section
variable {J:List (List D)→(Nat→Prop)→World→Prop} {m:Nat→Nat→Prop} {w:World} {ln:Nat} {fv:Value} {pre:List (List D)} {x0 x1 x2:Int} {W W':World}
def Q3r (J:List (List D)→(Nat→Prop)→World→Prop):Prop:=∀pre B B' W W',J pre B W→KeepsW W B W'→(∀b,B' b→B b∨(W.heap.size≤b∧b < W'.heap.size))→J pre B' W'
theorem FW.later (hJ:Q3r J) (hm:∀b o,m b o→b < w.heap.size) (h:FW J m w ln fv pre x0 x1 x2 W) (hb:Below W.heap.size W W'):FW J m w ln fv pre x0 x1 x2 W':=by
 have hs:=h.size;refine⟨hJ _ _ _ _ _ h.j ⟨hb.os,hb.tape,hb.output,hb.size,fun k hk _=>hb.block k hk⟩ fun b h=> .inl h,Nat.le_trans hs hb.size,fun b o hbo=>(hb.cell (p:=⟨b,o,none⟩) (by show b < _; have:=hm b o hbo; omega)).trans (h.cells b o hbo),(hb.block _ (by omega)).trans h.y,(hb.block _ (by omega)).trans h.a,(hb.block _ (by omega)).trans h.r,(hb.block _ (by omega)).trans h.f⟩
theorem set3 {W:World} {b:Nat} {v0 v1 v2:Value} {t:TypeId} (h:W.heap[b]?=some (.cells #[v0,v1,v2] t (0,0))) (k:Nat) (u:Value):(W.setCell ⟨b,k,none⟩ u).heap[b]?=some (.cells (#[v0,v1,v2].setIfInBounds k u) t (0,0)):=by
 have hlt:=lt_of_block h;have h':W.heap[b]= .cells #[v0,v1,v2] t (0,0):=by simpa[Array.getElem?_eq_getElem hlt]using h
 show(W.heap.modify b _)[b]?=_;rw[Array.getElem?_eq_getElem (by simpa using hlt),Array.getElem_modify_self,h']
 rfl
theorem FW.set (hJ:Q3r J) (hm:∀b o,m b o→b < w.heap.size) (h:FW J m w ln fv pre x0 x1 x2 W) (k:Nat) (v y0 y1 y2:Int) (hv:(#[Value.int .i64 x0,.int .i64 x1,.int .i64 x2].setIfInBounds k (.int .i64 v))= #[.int .i64 y0,.int .i64 y1,.int .i64 y2]):FW J m w ln fv pre y0 y1 y2 (W.setCell ⟨w.heap.size+1,k,none⟩ (.int .i64 v)):=by
 have hoth:∀b,b≠w.heap.size+1→(W.setCell ⟨w.heap.size+1,k,none⟩ (.int .i64 v)).heap[b]?=W.heap[b]?:=fun b hb=>Below.heap_setCell _ _ _ _ hb;have hsz:(W.setCell ⟨w.heap.size+1,k,none⟩ (.int .i64 v)).heap.size=W.heap.size:=by simp[World.setCell]
 refine⟨hJ _ _ _ _ _ h.j ⟨rfl,rfl,rfl,by rw[hsz]; exact Nat.le_refl _,fun b _ hb=>hoth b fun e=>hb (.inr (.inl e))⟩ fun b h=> .inl h,by rw[hsz]; exact h.size,fun b o hbo=>(World.cell?_of_block (hoth b (by have:=hm b o hbo; omega))).trans (h.cells b o hbo),(hoth _ (by omega)).trans h.y,by rw[←hv]; exact set3 h.a k _,(hoth _ (by omega)).trans h.r,(hoth _ (by omega)).trans h.f⟩
end
structure Capt (m:Nat→Nat→Prop) (w:World) (bl ol bw ow:Nat) (al:Option Addr) (c bp op cp:Nat):Prop where
 ml:m bl ol
 cl:w.cell? ⟨bl,ol,none⟩=some (.slice al 3 c)
 rl:Rel m w (.sl 7 exL) (.slice al 3 c)
 w0:m bw ow∧w.cell? ⟨bw,ow,none⟩=some (.slice (some ⟨bp,op,none⟩) 3 cp)
 w1:m bw (ow+1)∧w.cell? ⟨bw,ow+1,none⟩=some (.int .i64 560)
 w2:m bw (ow+2)∧w.cell? ⟨bw,ow+2,none⟩=some (.int .i64 620)
 w3:m bw (ow+3)∧w.cell? ⟨bw,ow+3,none⟩=some (.int .i64 0)
 w4:m bw (ow+4)∧w.cell? ⟨bw,ow+4,none⟩=some (.int .i64 140)
 p0:m bp op∧w.cell? ⟨bp,op,none⟩=some (.int .i64 4)
 p1:m bp (op+1)∧w.cell? ⟨bp,op+1,none⟩=some (.int .i64 5)
 p2:m bp (op+2)∧w.cell? ⟨bp,op+2,none⟩=some (.int .i64 0)
 p3:m bp (op+2+1)∧w.cell? ⟨bp,op+2+1,none⟩=some (.int .i64 20)
 rp:Rel m w (.sl 2 exP) (.slice (some ⟨bp,op,none⟩) 3 cp)
theorem Q58 {J:List (List D)→(Nat→Prop)→World→Prop} {m:Nat→Nat→Prop} {w:World} (hm:∀b o,m b o→b < w.heap.size) (hG:GlobIn m w) {ln bl ol bw ow c bp op cp:Nat} {al:Option Addr} (C:Capt m w bl ol bw ow al c bp op cp)
  {fv:Value} {pre:List (List D)} {a b:Nat} (ha:a=4∨a=5) (hb:a+b≤20) {W:World} (I:FW J m w ln fv pre a b (20 - a - b:Nat) W):
  Calls Tryz.prog 168 #[.slice al 3 c,.agg #[.slice (some ⟨bp,op,none⟩) 3 cp,.int .i64 560,.int .i64 620,.int .i64 0,.int .i64 140],.slice (some ⟨w.heap.size+1,0,none⟩) 3 3] W fun e w'=>e= .returned (.int .i64 (Q4b a b))∧Below W.heap.size W w':=by
 have hs:=I.size;have hE:ExtM m w (fun b o=>m b o∨b=w.heap.size+1) W:=⟨fun b o h=> .inl h,I.cells⟩;refine((Q8J ha hb) (fun b o=>m b o∨b=w.heap.size+1) W [.slice al 3 c,.agg #[.slice (some ⟨bp,op,none⟩) 3 cp,.int .i64 560,.int .i64 620,.int .i64 0,.int .i64 140],.slice (some ⟨w.heap.size+1,0,none⟩) 3 3] (fun b o h=>?_) (hG.ext hE) ?_).mono ?_
 ·rcases h with h | rfl
  ·have:=hm b o h; omega
  ·omega
 ·simp only[RelL];refine⟨_,_,rfl,Rel.ext hE _ _ C.rl,_,_,rfl,?_,_,_,rfl,?_,rfl⟩
  ·simp only[Rel,exW];refine⟨[.slice (some ⟨bp,op,none⟩) 3 cp,.int .i64 560,.int .i64 620,.int .i64 0,.int .i64 140],rfl,?_,?_⟩
   ·intro v hv;simp only[List.mem_cons,List.not_mem_nil,or_false]at hv;rcases hv with rfl | rfl | rfl | rfl | rfl
    all_goals rfl
   ·simp only[RelL];exact⟨_,_,rfl,Rel.ext hE _ _ C.rp,_,_,rfl,by simp[DI,Rel],_,_,rfl,by simp[DI,Rel],_,_,rfl,by simp[DI,Rel],_,_,rfl,by simp[DI,Rel],rfl⟩
  ·have c0:∀k v,(#[Value.int .i64 a,.int .i64 b,.int .i64 (20 - a - b:Nat)]:Array Value)[k]?=some v→W.cell? ⟨w.heap.size+1,k,none⟩=some v:=fun k v hk=>by simp[World.cell?,I.a,hk]
   simp only[rcp,Rel,RelRows,RelCells,DI,and_true,List.length_cons,List.length_nil,true_and,Nat.zero_add];refine⟨by omega,some ⟨w.heap.size+1,0,none⟩,3,rfl,by omega,.inr ⟨w.heap.size+1,0,rfl,⟨_,.inr rfl,c0 0 _ rfl,rfl,rfl⟩,⟨_,.inr rfl,c0 1 _ rfl,rfl,rfl⟩,⟨_,.inr rfl,c0 2 _ rfl,rfl,rfl⟩⟩⟩
 ·rintro e w' ⟨v,m',rfl,hbl,_,hr⟩;have hv:v= .int .i64 (Q4b a b):=by simpa[DI,Rel]using hr
  exact⟨by rw[hv],hbl⟩
set_option maxHeartbeats 2000000 in
theorem Q4r {J:List (List D)→(Nat→Prop)→World→Prop} (hJ:Q3r J) {m:Nat→Nat→Prop} {w:World} (hm:∀b o,m b o→b < w.heap.size) (hG:GlobIn m w) {ln bl ol bw ow c bp op cp:Nat} {al:Option Addr} (C:Capt m w bl ol bw ow al c bp op cp)
  (fv:Value) (pre:List (List D)) (a b:Nat) (ha:a=4∨a=5) (hb:a+b≤20) (x2:Int) (n:Nat) (W:World) (I:FW J m w ln fv pre a b x2 W)
  (hY:Q4b a b=0→∀W1,FW J m w ln fv pre a b (20 - a - b:Nat) W1→YieldAt Fence.wide (n - 1) Tryz.prog ln #[.slice (some ⟨w.heap.size+1,0,none⟩) 3 3] W1 fun e W2=>e= .returned (.bool true)∧FW J m w ln fv (pre++[[rcp a b (20 - a - b:Nat)]]) a b (20 - a - b:Nat) W2):
  CallsIn Fence.wide n Tryz.prog 227 #[.int .i64 2,.int .i64 (20 - a - b:Nat),.pointer (some ⟨bl,ol,none⟩),.pointer (some ⟨w.heap.size+2,0,none⟩),.pointer (some ⟨bw,ow,none⟩),.pointer (some ⟨w.heap.size,0,none⟩),.pointer (some ⟨w.heap.size+3,0,none⟩)] W fun e W'=>e= .returned (.bool true)∧FW J m w ln fv (if Q4b a b=0 then pre++[[rcp a b (20 - a - b:Nat)]]else pre) a b (20 - a - b:Nat) W':=by
 have hcl:=(I.cells bl ol C.ml).trans C.cl;have hr:W.cell? ⟨w.heap.size+2,0,none⟩=some (.slice (some ⟨w.heap.size+1,0,none⟩) 3 3):=cell_of_one I.r;have ha2:W.cell? ⟨w.heap.size+1,2,none⟩=some (.int .i64 x2):=by simp[World.cell?,I.a]
 have hz2:W.frozen? ⟨w.heap.size+1,2,none⟩=false:=by simp[World.frozen?,I.a]
 have I1:=I.set hJ hm 2 (20 - a - b:Nat) a b (20 - a - b:Nat) rfl;have HC:=Q58 hm hG C ha hb I1;have hcl1:=(I1.cells bl ol C.ml).trans C.cl;have hr1:=cell_of_one I1.r;have hw0:=(I1.cells _ _ C.w0.1).trans C.w0.2;have hw1:=(I1.cells _ _ C.w1.1).trans C.w1.2;have hw2:=(I1.cells _ _ C.w2.1).trans C.w2.2;have hw3:=(I1.cells _ _ C.w3.1).trans C.w3.2;have hw4:=(I1.cells _ _ C.w4.1).trans C.w4.2;generalize hW1:W.setCell ⟨w.heap.size+1,2,none⟩ (.int .i64 (20 - a - b:Nat))=W1 at*;refine callsIn_of_wp Tryz.func227 rfl trivial ?_ rfl;simp only[Tryz.ntmps227,List.size_toArray,List.length_cons,List.length_nil,Nat.reduceAdd,Nat.reduceSub,Array.replicate_succ,Array.replicate_zero,List.push_toArray,List.append_toArray,List.nil_append,List.cons_append,List.singleton_append];by_cases hz:Q4b a b=0
 ·have hYz:=hY hz;rw[if_pos hz];have HYz:=Lib.hid hYz;clear hYz hY
  gi_wp2
  refine⟨trivial,(fun h=>by cases h),?_⟩
  gi_at_call 168
  refine(callsIn_wide.2 HC).mono ?_;rintro e w1 ⟨rfl,hbl⟩;have I2:=I1.later hJ hm hbl;have hy2:=cell_of_one I2.y;have hr2:=cell_of_one I2.r;rw[hz];obtain⟨fn,tmps,assign,body,hyy,hR⟩:=HYz.out _ I2
  gi_wp2
  refine⟨fun h=>(by cases h),hR.mono ?_⟩
  rintro e w2 ⟨rfl,I3⟩;clear HC hR hyy HYz
  gi_wp2
  go_ret
  exact⟨rfl,I3⟩
 ·rw[if_neg hz];clear hY
  gi_wp2
  refine⟨trivial,(fun h=>by cases h),?_⟩
  gi_at_call 168
  refine(callsIn_wide.2 HC).mono ?_;rintro e w1 ⟨rfl,hbl⟩;have I2:=I1.later hJ hm hbl
  gi_wp2
  refine⟨fun _ h=>(by cases h),?_⟩
  gi_wp2
  go_ret
  exact⟨rfl,I2⟩
def Q5J:List (List D):=[[rcp 4 15 1],[rcp 5 14 1],[rcp 5 15 0]]
def Q3v (a b:Nat):List (List D):=Q5J.take (if a≤4 then(if b≤15 then 0 else 1)else if a=5 then(if b≤14 then(if b≤13 then 1 else 1)else if b=15 then 2 else 3)else 3)
theorem Q3E {a b:Nat} (ha:a=4∨a=5) (hb:a+b≤20):(if Q4b a b=0 then Q3v a b++[[rcp a b (20 - a - b:Nat)]]else Q3v a b)=Q3v a (b+1)∧(Q4b a b=0→Q3v a b++[[rcp a b (20 - a - b:Nat)]] <+:Q5J):=by
 rcases ha with rfl | rfl
 ·by_cases h:b < 15
  ·have hw:Q4b 4 b=1:=if_pos (by omega)
   rw[hw,if_neg (by decide)]
   exact⟨by unfold Q3v; simp[show b≤15 by omega,show b+1≤15 by omega],fun h=>by cases h⟩
  ·rcases(by omega:b=15∨b=16)with rfl | rfl
   ·exact⟨rfl,fun _=>⟨[[rcp 5 14 1],[rcp 5 15 0]],rfl⟩⟩
   ·exact⟨rfl,fun h=>by cases h⟩
 ·by_cases h:b < 14
  ·have hw:Q4b 5 b=1:=if_pos (by omega)
   rw[hw,if_neg (by decide)]
   exact⟨by unfold Q3v; simp[show b≤14 by omega,show b≤13 by omega,show b+1≤14 by omega],fun h=>by cases h⟩
  ·rcases(by omega:b=14∨b=15)with rfl | rfl
   ·exact⟨rfl,fun _=>⟨[[rcp 5 15 0]],rfl⟩⟩
   ·exact⟨rfl,fun _=>⟨[],rfl⟩⟩
def Q25 (bl ol bw ow s:Nat):Value:= .func (.func 227) #[] #[.pointer (some ⟨bl,ol,none⟩),.pointer (some ⟨s+2,0,none⟩),.pointer (some ⟨bw,ow,none⟩),.pointer (some ⟨s,0,none⟩),.pointer (some ⟨s+3,0,none⟩)]
def Q5Q (J:List (List D)→(Nat→Prop)→World→Prop) (m:Nat→Nat→Prop) (w:World) (ln:Nat) (fv:Value):Prop:=∀(a b n:Nat),(a=4∨a=5)→a+b≤20→Q4b a b=0→∀W1,FW J m w ln fv (Q3v a b) a b (20 - a - b:Nat) W1→YieldAt Fence.wide n Tryz.prog ln #[.slice (some ⟨w.heap.size+1,0,none⟩) 3 3] W1 fun e W2=>e= .returned (.bool true)∧FW J m w ln fv (Q3v a b++[[rcp a b (20 - a - b:Nat)]]) a b (20 - a - b:Nat) W2
set_option maxRecDepth 100000 in
set_option maxHeartbeats 2000000 in
theorem Q6g {J:List (List D)→(Nat→Prop)→World→Prop} (hJ:Q3r J) {m:Nat→Nat→Prop} {w:World} (hm:∀b o,m b o→b < w.heap.size) (hG:GlobIn m w) {ln bl ol bw ow c bp op cp:Nat} {al:Option Addr} (C:Capt m w bl ol bw ow al c bp op cp)
  (hY:Q5Q J m w ln (Q25 bl ol bw ow w.heap.size)) (a:Nat) (ha:a=4∨a=5) (x1 x2:Int) (n:Nat) (W:World) (I:FW J m w ln (Q25 bl ol bw ow w.heap.size) (Q3v a 0) a x1 x2 W):
  CallsIn Fence.wide n Tryz.prog 227 #[.int .i64 1,.int .i64 (20 - a:Nat),.pointer (some ⟨bl,ol,none⟩),.pointer (some ⟨w.heap.size+2,0,none⟩),.pointer (some ⟨bw,ow,none⟩),.pointer (some ⟨w.heap.size,0,none⟩),.pointer (some ⟨w.heap.size+3,0,none⟩)] W fun e W'=>e= .returned (.bool true)∧∃x1 x2,FW J m w ln (Q25 bl ol bw ow w.heap.size) (Q3v a (21 - a)) a x1 x2 W':=by
 have hcl:=(I.cells bl ol C.ml).trans C.cl;have hw0:=(I.cells _ _ C.w0.1).trans C.w0.2;have hp2:=(I.cells _ _ C.p2.1).trans C.p2.2;refine callsIn_of_wp Tryz.func227 rfl trivial ?_ rfl;simp only[Tryz.ntmps227,List.size_toArray,List.length_cons,List.length_nil,Nat.reduceAdd,Nat.reduceSub,Array.replicate_succ,Array.replicate_zero,List.push_toArray,List.append_toArray,List.nil_append,List.cons_append,List.singleton_append]
 gi_wp2
 gi_loopw [10] (fun x wr=>∃b:Nat,b≤21 - a∧x= .int .i64 b∧∃y1 y2,FW J m w ln (Q25 bl ol bw ow w.heap.size) (Q3v a b) a y1 y2 wr) (fun x _=>21 - a - (match x with | .int _ z=>z.toNat | _=>0))
 case atStart=>exact⟨0,by omega,rfl,x1,x2,I⟩
 case round=>
  obtain⟨b,hb,rfl,y1,y2,Ik⟩:=hrel;have hw0:=(Ik.cells _ _ C.w0.1).trans C.w0.2;have hp3:=(Ik.cells _ _ C.p3.1).trans C.p3.2;by_cases hlt:b≤20 - a
  ·have hltI:(b:Int)≤(20 - a:Nat):=by omega
   have hmin:min ((20 - a:Nat):Int) 20=(20 - a:Nat):=by omega
   have hr:=cell_of_one Ik.r;have ha1:wr.cell? ⟨w.heap.size+1,1,none⟩=some (.int .i64 y1):=by simp[World.cell?,Ik.a]
   have hz1:wr.frozen? ⟨w.heap.size+1,1,none⟩=false:=by simp[World.frozen?,Ik.a]
   have I1:=Ik.set hJ hm 1 b a b y2 rfl;have hf1:=cell_of_one I1.f;simp only[Q25]at hf1;generalize hW1:wr.setCell ⟨w.heap.size+1,1,none⟩ (.int .i64 b)=W1 at*;have hL:=Q4r hJ hm hG C (Q25 bl ol bw ow w.heap.size) (Q3v a b) a b ha (by omega) y2 (n - 1) W1 I1 fun hz W2 I2=>hY a b _ ha (by omega) hz W2 I2
   rw[(Q3E ha (by omega)).1]at hL
   have hsub:((20 - a:Nat):Int) - b=(20 - a - b:Nat):=by omega
   have HL:=Lib.hid hL;clear hL
   gi_wp2
   refine⟨trivial,(fun h=>by cases h),?_⟩
   refine HL.out.mono ?_;rintro e w1 ⟨rfl,I2⟩;clear HL
   gi_wp2
   exact⟨⟨b+1,by omega,by push_cast; rfl,_,_,I2⟩,by simp; omega⟩
  ·have hltI:¬(b:Int)≤(20 - a:Nat):=by omega
   have hmin:min ((20 - a:Nat):Int) 20=(20 - a:Nat):=by omega
   gi_wp2
   go_ret
   obtain rfl:b=21 - a:=by omega
   exact⟨rfl,y1,y2,Ik⟩
set_option maxRecDepth 100000 in
set_option maxHeartbeats 2000000 in
theorem Q6k {J:List (List D)→(Nat→Prop)→World→Prop} (hJ:Q3r J) {m:Nat→Nat→Prop} {w:World} (hm:∀b o,m b o→b < w.heap.size) (hG:GlobIn m w) {ln bl ol bw ow c bp op cp:Nat} {al:Option Addr} (C:Capt m w bl ol bw ow al c bp op cp)
  (hY:Q5Q J m w ln (Q25 bl ol bw ow w.heap.size)) (n:Nat) (W:World) (I:FW J m w ln (Q25 bl ol bw ow w.heap.size) [] 0 0 0 W):
  CallsIn Fence.wide n Tryz.prog 227 #[.int .i64 0,.int .i64 20,.pointer (some ⟨bl,ol,none⟩),.pointer (some ⟨w.heap.size+2,0,none⟩),.pointer (some ⟨bw,ow,none⟩),.pointer (some ⟨w.heap.size,0,none⟩),.pointer (some ⟨w.heap.size+3,0,none⟩)] W fun e W'=>e= .returned (.bool true)∧J Q5J (Q9F w.heap.size) W':=by
 have hcl:=(I.cells bl ol C.ml).trans C.cl;have hw0:=(I.cells _ _ C.w0.1).trans C.w0.2;have hp0:=(I.cells _ _ C.p0.1).trans C.p0.2;refine callsIn_of_wp Tryz.func227 rfl trivial ?_ rfl;simp only[Tryz.ntmps227,List.size_toArray,List.length_cons,List.length_nil,Nat.reduceAdd,Nat.reduceSub,Array.replicate_succ,Array.replicate_zero,List.push_toArray,List.append_toArray,List.nil_append,List.cons_append,List.singleton_append]
 gi_wp2
 gi_loopw [10] (fun x wr=>∃a:Nat,4≤a∧a≤6∧x= .int .i64 a∧∃y0 y1 y2,FW J m w ln (Q25 bl ol bw ow w.heap.size) (Q3v a 0) y0 y1 y2 wr) (fun x _=>6 - (match x with | .int _ z=>z.toNat | _=>0))
 case atStart=>exact⟨4,by omega,by omega,rfl,0,0,0,I⟩
 case round=>
  obtain⟨a,h4,h6,rfl,y0,y1,y2,Ik⟩:=hrel;have hw0:=(Ik.cells _ _ C.w0.1).trans C.w0.2;have hp1:=(Ik.cells _ _ C.p1.1).trans C.p1.2;by_cases hlt:a≤5
  ·have hltI:(a:Int)≤5:=by omega
   have hr:=cell_of_one Ik.r;have ha0:wr.cell? ⟨w.heap.size+1,0,none⟩=some (.int .i64 y0):=by simp[World.cell?,Ik.a]
   have hz0:wr.frozen? ⟨w.heap.size+1,0,none⟩=false:=by simp[World.frozen?,Ik.a]
   have I1:=Ik.set hJ hm 0 a a y1 y2 rfl;have hf1:=cell_of_one I1.f;simp only[Q25]at hf1;generalize hW1:wr.setCell ⟨w.heap.size+1,0,none⟩ (.int .i64 a)=W1 at*;have hL:=Q6g hJ hm hG C hY a (by omega) y1 y2 (n - 1) W1 I1
   have hpre:Q3v a (21 - a)=Q3v (a+1) 0:=by
    rcases(by omega:a=4∨a=5)with rfl | rfl<;>rfl
   rw[hpre]at hL;have hsub:(20:Int) - a=(20 - a:Nat):=by omega
   have HL:=Lib.hid hL;clear hL
   gi_wp2
   refine⟨trivial,(fun h=>by cases h),?_⟩
   refine HL.out.mono ?_;rintro e w1 ⟨rfl,z1,z2,I2⟩;clear HL
   gi_wp2
   exact⟨⟨a+1,by omega,by omega,by push_cast; rfl,_,_,_,I2⟩,by simp; omega⟩
  ·have hltI:¬(a:Int)≤5:=by omega
   gi_wp2
   go_ret
   obtain rfl:a=6:=by omega
   exact⟨rfl,Ik.j⟩
end Go.Proofs.YticoemblgkemiaaGreatDoor
namespace Go.Proofs.YticoemblgkemiaaGreatDoor
open Go.RowKit Go.Shelf
attribute [local go_sem] Oper.semAt_some
theorem Q8X {n:Nat} {m:Nat→Nat→Prop} {w:World} (hm:∀b o,m b o→b < w.heap.size) {ln:Nat} {J:List (List D)→(Nat→Prop)→World→Prop} {fv:Value}
  (hround:∀pre x B W xs (mb:Nat→Nat→Prop),J pre B W→(pre++[x]) <+:Q5J→(∀b o,mb b o→B b)→RelL (fun b o=>m b o∨mb b o) W x xs→YieldAt Fence.wide (n - 1) Tryz.prog ln xs.toArray W fun e W'=>e= .returned (.bool true)∧J (pre++[x]) B W'∧W.heap.size≤W'.heap.size∧(∀b o,m b o→W'.cell? ⟨b,o,none⟩=W.cell? ⟨b,o,none⟩)∧∀b,B b→W'.heap[b]?=W.heap[b]?):Q5Q J m w ln fv:=by
 intro a b k ha hb hz W1 I;have c0:∀k v,(#[Value.int .i64 a,.int .i64 b,.int .i64 (20 - a - b:Nat)]:Array Value)[k]?=some v→W1.cell? ⟨w.heap.size+1,k,none⟩=some v:=fun k v hk=>by simp[World.cell?,I.a,hk]
 refine YieldAt.anyB rfl k ((hround (Q3v a b) [rcp a b (20 - a - b:Nat)] (Q9F w.heap.size) W1 [.slice (some ⟨w.heap.size+1,0,none⟩) 3 3] (fun b o=>b=w.heap.size+1) I.j ((Q3E ha hb).2 hz) (fun b o h=> .inr (.inl h)) ?_).mono ?_)
 ·simp only[RelL,rcp,Rel,RelRows,RelCells,DI,and_true,List.length_cons,List.length_nil,true_and,Nat.zero_add];exact⟨_,_,rfl,⟨by omega,some ⟨w.heap.size+1,0,none⟩,3,rfl,by omega,.inr ⟨w.heap.size+1,0,rfl,⟨_,.inr rfl,c0 0 _ rfl,rfl,rfl⟩,⟨_,.inr rfl,c0 1 _ rfl,rfl,rfl⟩,⟨_,.inr rfl,c0 2 _ rfl,rfl,rfl⟩⟩⟩,rfl⟩
 ·rintro e W2 ⟨rfl,hj,hs,hc,hB⟩;exact⟨rfl,hj,Nat.le_trans I.size hs,fun b o h=>(hc b o h).trans (I.cells b o h),(hB _ (.inl rfl)).trans I.y,(hB _ (.inr (.inl rfl))).trans I.a,(hB _ (.inr (.inr (.inl rfl)))).trans I.r,(hB _ (.inr (.inr (.inr rfl)))).trans I.f⟩
theorem Q8s {m:Nat→Nat→Prop} {w:World} {lb:List Value} (hr:RelL m w [.dat 1 [[.sl 7 exL]] 0 0,.dat 5 [exW] 0 0] lb):∃bl ol bw ow c bp op cp al,lb=[.pointer (some ⟨bl,ol,none⟩),.pointer (some ⟨bw,ow,none⟩)]∧Capt m w bl ol bw ow al c bp op cp:=by
 unfold exW at hr;generalize hdL:D.sl 7 exL=dL at hr;generalize hdP:D.sl 2 exP=dP at hr;simp only[RelL,Rel,RelRows,RelCells,DI,and_true,List.length_cons,List.length_nil,true_and,Nat.zero_mul,Nat.add_zero,Nat.zero_add,Nat.reduceAdd,Nat.lt_add_one]at hr;obtain⟨_,_,rfl,⟨bl,ol,rfl,v,ml,cl,_,rl⟩,_,_,rfl,⟨bw,ow,rfl,⟨vp,m0,c0,_,rp⟩,⟨_,m1,c1,_,rfl⟩,⟨_,m2,c2,_,rfl⟩,⟨_,m3,c3,_,rfl⟩,_,m4,c4,_,rfl⟩,rfl⟩:=hr;subst hdL hdP;have rl':=rl;have rp':=rp;simp only[Rel]at rl' rp';obtain⟨_,al,c,rfl,_⟩:=rl';obtain⟨_,ap,cp,rfl,_,q⟩:=rp';rcases q with q | ⟨bp,op,rfl,q⟩
 ·cases q
 ·simp only[exP,RelRows,RelCells,Rel,DI,and_true,List.length_cons,List.length_nil,true_and]at q;obtain⟨⟨⟨_,n0,d0,_,rfl⟩,_,n1,d1,_,rfl⟩,⟨⟨_,n2,d2,_,rfl⟩,_,n3,d3,_,rfl⟩,_⟩:=q;exact⟨bl,ol,bw,ow,c,bp,op,cp,al,rfl,ml,cl,rl,⟨m0,c0⟩,⟨m1,c1⟩,⟨m2,c2⟩,⟨m3,c3⟩,⟨m4,c4⟩,⟨n0,d0⟩,⟨n1,d1⟩,⟨n2,d2⟩,⟨n3,d3⟩,rp⟩
theorem Q9L (W:World):(Instr.makeSlice 34 (.int .i64 3) (.int .i64 3)).run Tryz.prog W= .ok (.slice (some ⟨W.heap.size,0,none⟩) 3 3) (W.alloc (.cells #[.int .i64 0,.int .i64 0,.int .i64 0] 3)):=by
 obtain⟨fi,h1,h2,h3,h4⟩:=QOF.inf;have h:=run_make (P:=Tryz.prog) W 34 3 fi (.int .i64 0) Tryz.underlying34 h1 h4 .i64 .i64 3 3 (by decide) (by decide) (by rw[h3]; decide) (by decide)
 rw[h2]at h;refine h.trans ?_;have e:madeCells (Value.int .i64 0).cells (Int.toNat 3*ty3.size)= #[.int .i64 0,.int .i64 0,.int .i64 0]:=Array.toList_inj.1 (QBf (.int .i64 0) 3);rw[e]; rfl
theorem Q3X {P:Program} {W:World} {a:Addr} {f:Fn} {x y:Array Value} {u:Value} (h:W.cell? a=some u) (hz:W.frozen? a=false):(store a (.func f x y)).run P W= .ok () (W.setCell a (.func f x y)):=by
 rw[run_store P W a _ _ rfl];simp[stored,h,hz]
set_option maxRecDepth 100000 in
set_option maxHeartbeats 2000000 in
theorem Q4l:SeqD Tryz.prog 226 [.dat 1 [[.sl 7 exL]] 0 0,.dat 5 [exW] 0 0] Q5J:=by
 intro n m w lb hm hG hr ln J hJ hround h0;obtain⟨bl,ol,bw,ow,c,bp,op,cp,al,rfl,C⟩:=Q8s hr;have hY:Q5Q J m w ln (Q25 bl ol bw ow w.heap.size):=Q8X hm hround;have hT:=Q6k hJ hm hG C hY (n - 1);have hcl:=C.cl;have hlt:=hm _ _ C.ml;clear hround hY;refine callsIn_of_wp Tryz.func226 rfl trivial ?_ rfl;simp only[Tryz.ntmps226,List.size_toArray,List.length_cons,List.length_nil,Nat.reduceAdd,Nat.reduceSub,Array.replicate_succ,Array.replicate_zero,List.push_toArray,List.append_toArray,List.nil_append,List.cons_append,List.singleton_append];have HT:=Lib.hid hT;have HJ:=Lib.hid hJ;clear hT hJ;have hmk:=Q9L;obtain⟨W4,hW4⟩:∃W4,W4=(((w.alloc (.cells #[.func (.yield ln) #[] #[]] 315)).alloc (.cells #[.int .i64 0,.int .i64 0,.int .i64 0] 3)).alloc (.cells #[.slice (some ⟨w.heap.size+1,0,none⟩) 3 3] 34)).alloc (.cells #[.nilFunc] 53):=⟨_,rfl⟩;have b1:Below (w.heap.size+1) (w.alloc (.cells #[.func (.yield ln) #[] #[]] 315)) W4:=by
  rw[hW4]; exact(((Below.refl _ _).alloc (by simp) _).alloc (by simp) _).alloc (by simp) _
 have b2:Below (w.heap.size+2) ((w.alloc (.cells #[.func (.yield ln) #[] #[]] 315)).alloc (.cells #[.int .i64 0,.int .i64 0,.int .i64 0] 3)) W4:=by
  rw[hW4]; exact((Below.refl _ _).alloc (by simp) _).alloc (by simp) _
 have b3:Below (w.heap.size+3) (((w.alloc (.cells #[.func (.yield ln) #[] #[]] 315)).alloc (.cells #[.int .i64 0,.int .i64 0,.int .i64 0] 3)).alloc (.cells #[.slice (some ⟨w.heap.size+1,0,none⟩) 3 3] 34)) W4:=by
  rw[hW4]; exact(Below.refl _ _).alloc (by simp) _
 have b0:Below w.heap.size w W4:=by
  rw[hW4]; exact((((Below.refl _ _).alloc (by simp) _).alloc (by simp) _).alloc (by simp; omega) _).alloc (by simp; omega) _
 have z4:W4.heap.size=w.heap.size+4:=by rw[hW4]; simp
 have k0:W4.heap[w.heap.size]?=some (.cells #[.func (.yield ln) #[] #[]] 315 (0,0)):=(b1.block _ (by omega)).trans (Qbi w _)
 have k1:W4.heap[w.heap.size+1]?=some (.cells #[.int .i64 0,.int .i64 0,.int .i64 0] 3 (0,0)):=(b2.block _ (by omega)).trans (by have:=Qbi (w.alloc (.cells #[.func (.yield ln) #[] #[]] 315)) (.cells #[.int .i64 0,.int .i64 0,.int .i64 0] 3); rwa [World.size_alloc]at this)
 have k2:W4.heap[w.heap.size+2]?=some (.cells #[.slice (some ⟨w.heap.size+1,0,none⟩) 3 3] 34 (0,0)):=(b3.block _ (by omega)).trans (by have:=Qbi ((w.alloc (.cells #[.func (.yield ln) #[] #[]] 315)).alloc (.cells #[.int .i64 0,.int .i64 0,.int .i64 0] 3)) (.cells #[.slice (some ⟨w.heap.size+1,0,none⟩) 3 3] 34); rwa [World.size_alloc,World.size_alloc]at this)
 have k3:W4.heap[w.heap.size+3]?=some (.cells #[.nilFunc] 53 (0,0)):=by
  have:=Qbi (((w.alloc (.cells #[.func (.yield ln) #[] #[]] 315)).alloc (.cells #[.int .i64 0,.int .i64 0,.int .i64 0] 3)).alloc (.cells #[.slice (some ⟨w.heap.size+1,0,none⟩) 3 3] 34)) (.cells #[.nilFunc] 53);rw[World.size_alloc,World.size_alloc,World.size_alloc,←hW4]at this;exact this
 have hkw:KeepsW w (fun _=>False) W4:=⟨b0.os,b0.tape,b0.output,b0.size,fun k hk _=>b0.block k hk⟩;have hcm:∀b o,m b o→W4.cell? ⟨b,o,none⟩=w.cell? ⟨b,o,none⟩:=fun b o h=>b0.cell (p:=⟨b,o,none⟩) (hm b o h);have h3:W4.cell? ⟨w.heap.size+1+1+1,0,none⟩=some .nilFunc:=cell_of_one k3;have f3:W4.frozen? ⟨w.heap.size+1+1+1,0,none⟩=false:=free_of_one k3;have I5:FW J m w ln (Q25 bl ol bw ow w.heap.size) [] 0 0 0 (W4.setCell ⟨w.heap.size+3,0,none⟩ (Q25 bl ol bw ow w.heap.size)):=by
  have hoth:∀b,b≠w.heap.size+3→(W4.setCell ⟨w.heap.size+3,0,none⟩ (Q25 bl ol bw ow w.heap.size)).heap[b]?=W4.heap[b]?:=fun b hb=>Below.heap_setCell _ _ _ _ hb;have hsz:(W4.setCell ⟨w.heap.size+3,0,none⟩ (Q25 bl ol bw ow w.heap.size)).heap.size=W4.heap.size:=by simp[World.setCell]
  have hj4:=HJ.out [] _ (Q9F w.heap.size) w W4 h0 hkw fun b hb=> .inr (by rcases hb with rfl | rfl | rfl | rfl<;>exact⟨by omega,by omega⟩)
  exact⟨HJ.out [] _ _ _ _ hj4 ⟨rfl,rfl,rfl,by rw[hsz]; exact Nat.le_refl _,fun b _ hb=>hoth b fun e=>hb (.inr (.inr (.inr e)))⟩ fun b h=> .inl h,by rw[hsz,z4]; exact Nat.le_refl _,fun b o h=>(World.cell?_of_block (hoth b (by have:=hm b o h; omega))).trans (hcm b o h),(hoth _ (by omega)).trans k0,(hoth _ (by omega)).trans k1,(hoth _ (by omega)).trans k2,one_setCell k3⟩
 have hE:=hW4.symm;have hst:=fun f x y=>Q3X (P:=Tryz.prog) (f:=f) (x:=x) (y:=y) h3 f3;clear hW4 b0 b1 b2 b3
 gi_wp2
 refine⟨trivial,(fun h=>by cases h),?_⟩
 refine(HT.out _ I5).mono ?_;rintro e w1 ⟨rfl,hjf⟩;clear HT I5
 gi_wp2
 go_end0
 exact⟨⟨_,rfl⟩,_,hjf⟩
end Go.Proofs.YticoemblgkemiaaGreatDoor
