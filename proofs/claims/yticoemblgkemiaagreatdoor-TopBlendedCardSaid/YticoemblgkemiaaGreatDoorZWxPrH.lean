/-
  The keys of a map of ints, sorted. Conditions: none.
-/
import Derived.Test.YticoemblgkemiaaGreatDoorZKeys
import Derived.Test.YticoemblgkemiaaGreatDoorZShelf
import Derived.Test.YticoemblgkemiaaGreatDoorZWxPrF
import Derived.Maps.Keyed
import Derived.Test.YticoemblgkemiaaGreatDoorZStT
import Derived.Test.YticoemblgkemiaaGreatDoorZTopP
import Derived.Test.YticoemblgkemiaaGreatDoorZTrB
import Derived.Test.YticoemblgkemiaaGreatDoorZAmF
set_option linter.unusedSectionVars false
set_option linter.unusedSimpArgs false
set_option linter.unusedVariables false
namespace Go.Proofs.YticoemblgkemiaaGreatDoor
open Go.RowKit Go.Maps Go.Shelf
theorem QZz {v:Value} (h:shK v=1):∃a,v= .int .i64 a:=by
 cases v with
 | agg cs=>simp only[shK]at h; omega
 | int q a=>cases q<;>simp[shK,sh1]at h; exact⟨a,rfl⟩
 | _=>simp[shK,sh1]at h
theorem Q1o:KeyOk Tryz.prog 3 1 where
 law:=int_keyed Tryz.underlying3
 key:=fun v h1 h2=>by
  obtain⟨a,rfl⟩:=QZz h1;exact⟨_,keyOf_int_mk Tryz.underlying3 h2⟩
theorem Q2w:∀(K:TypeId) (sh:Nat),Qt [(3,1)] K=some sh→KeyOk Tryz.prog K sh:=fun K sh h=>by
 simp only[Qt]at h;split at h
 ·rename_i e; simp only[Option.some.injEq]at h; subst h; subst e; exact Q1o
 ·cases h
def QYL (x:MapEntry):Int:=match x.key with
 | .int _ a=>a
 | _=>0
theorem wfZ {x:Int} (h0:0≤x) (h1:x≤1000000):(Lit.int .i64 x).wf=true:=by
 have e1:IntKind.i64.min= -9223372036854775808:=by decide
 have e2:IntKind.i64.max=9223372036854775807:=by decide
 simp only[Lit.wf,e1,e2,Bool.and_eq_true,decide_eq_true_eq];omega
theorem Q1w (m:Nat):AnyZI.SortsIn Tryz.prog Tryz.sortedI_ren Fence.wide m:=
 ⟨fun blk off cap ss W hH hblk hsz=>callsIn_wide.2 (Tryz.slices_Sort_int blk off cap ss W hH hblk hsz),fun p cap W=>callsIn_wide.2 (Tryz.slices_Sort_int_none p cap W)⟩
theorem Q2y (M:Nat) (w:World):Calls Tryz.prog 158 #[.map (some M)] w fun e w'=>e= .returned (.func (.func 217) #[] #[.pointer (some ⟨w.heap.size,0,none⟩)])∧w'=w.alloc (.cells #[.map (some M)] 260):=
 callsIn_wide.1 (AnyZI.keys_in Tryz.keysI Fence.wide 5 trivial rfl (some M) w)
def QTa:Value→Option (DataW Unit×List MemPlace):=fun _=>some (.nil,[])
theorem QWo (xs:Array Value) (w:World):(callFunc 217 xs).run Tryz.prog w= .ok (.enter 217 xs) w:=by kernel_rfl
theorem QWS (xs:Array Value) (w:World):(callFunc 216 xs).run Tryz.prog w= .ok (.enter 216 xs) w:=by kernel_rfl
theorem QYh (xs:Array Value) (w:World):(callFunc 157 xs).run Tryz.prog w= .ok (.enter 157 xs) w:=by kernel_rfl
theorem QXX (xs:Array Value) (w:World):(callFunc 158 xs).run Tryz.prog w= .ok (.enter 158 xs) w:=by kernel_rfl
theorem Q0w (M Bm:Nat) (es:List (Value×Value)) (w:World) (hM:MapAt w M (1,es)) (hlen:es.length≤1000000) (hBm:Bm < w.heap.size) (hc:w.cell? ⟨Bm,0,none⟩=some (.map (some M))) (T:List Int) (hT:T.Pairwise (· < ·)) (hw:∀k∈T,0≤k∧k≤1000000) (hmem:∀k,k∈T↔∃v,QcG es (.int .i64 k)=some v):
  Calls Tryz.prog 157 #[.func (.func 217) #[] #[.pointer (some ⟨Bm,0,none⟩)]] w fun e w'=>∃v,e= .returned v∧w'.ownsRow w.heap.size 3 1 v T.length (T.map (Value.int .i64))∧Below w.heap.size w w':=by
 obtain⟨l,cl,hb,hs,hn,hl,hcc⟩:=hM;simp only at hn hl hcc;have hrd:∀x∈l.toList,∃a,x.key= .int .i64 a∧(Lit.int .i64 a).wf=true∧Go.WideElems.rd Tryz.prog 3 QTa x=some (.int .i64 a,.nil):=fun x hx=>by
  obtain⟨q1,q2,_⟩:=hl x hx;obtain⟨a,ha⟩:=QZz q1;rw[ha]at q2;refine⟨a,ha,q2,?_⟩;have:=keyOf_int_mk (k:=3) Tryz.underlying3 q2;simp[Go.WideElems.rd,ha,this,QTa]
 have hown:w.ownsMap Tryz.prog 3 QTa M l.size (.map ((l.toList.map (Go.WideElems.rg Tryz.prog 3 QTa)).foldr DataW.insert [])):=
  ⟨l,cl,hb,⟨by unfold maxLen; omega,hs,fun x hx=>by obtain⟨a,_,_,h⟩:=hrd x hx; exact⟨_,h⟩⟩,Nat.le_refl _,rfl⟩
 have hsz:Maps.size (.map ((l.toList.map (Go.WideElems.rg Tryz.prog 3 QTa)).foldr DataW.insert []):DataW Unit)=l.size:=by rw[Maps.size_eq,length_read]
 have hperm:(intKeys (.map ((l.toList.map (Go.WideElems.rg Tryz.prog 3 QTa)).foldr DataW.insert []):DataW Unit)).Perm (l.toList.map QYL):=by
  have h1:=(Go.WideShapes.sorted_perm (l.toList.map (Go.WideElems.rg Tryz.prog 3 QTa))).map (fun p=>Go.intOf p.1);refine h1.trans ?_;rw[List.map_map];have:l.toList.map ((fun p=>Go.intOf p.1) ∘ Go.WideElems.rg Tryz.prog 3 QTa)=l.toList.map QYL:=List.map_congr_left fun x hx=>by
   obtain⟨a,h1,_,h2⟩:=hrd x hx;simp[Go.WideElems.rg,h2,Go.intOf,QYL,h1]
  rw[this]
 have hnd:(l.toList.map QYL).Nodup:=by
  have hp:=((Go.MapKept.stamped_iff l cl).1 hs).2.2;refine List.pairwise_map.2 (hp.imp_of_mem fun {p q} hp' hq' hne e=>hne ?_);obtain⟨a,ha,_⟩:=hrd p hp';obtain⟨b,hb,_⟩:=hrd q hq';simp only[QYL,ha,hb]at e;rw[ha,hb,e]
 have hTn:T.Nodup:=hT.imp fun h e=>by omega
 have hTp:(l.toList.map QYL).Perm T:=(List.perm_ext_iff_of_nodup hnd hTn).2 fun x=>by
  rw[List.mem_map,hmem];constructor
  ·rintro⟨e,he,rfl⟩;obtain⟨a,ha,_⟩:=hrd e he;refine⟨e.val,?_⟩;have:=(hl e he).2.2;rw[ha]at this;simp only[QYL,ha];exact this
  ·rintro⟨v,hv⟩;have hx:x∈T:=(hmem x).2 ⟨v,hv⟩;obtain⟨h0,h1⟩:=hw x hx;have hwf:(Lit.int .i64 x).wf=true:=wfZ h0 h1;obtain⟨e,he,hk⟩:=hcc (.int .i64 x) v hwf hv;exact⟨e,he,by simp[QYL,hk]⟩
 have hfin:∀ss:List Int,ss.Perm (l.toList.map QYL)→ss.mergeSort (fun x y=>decide (x≤y))=T:=fun ss h=>by
  have h1:(ss.mergeSort fun x y=>decide (x≤y)).Perm T:=(List.mergeSort_perm ss _).trans (h.trans hTp);have h2:=List.pairwise_mergeSort (le:=fun x y:Int=>decide (x≤y)) (by intro a b c h1 h2; simp at*; omega) (by intro a b; simp; omega) ss
  refine List.Perm.eq_of_pairwise (le:=fun a b:Int=>decide (a≤b)=true) (fun a b _ _ h1 h2=>?_) h2 (hT.imp fun h=>decide_eq_true (Int.le_of_lt h)) h1;simp at h1 h2; omega
 have hseq:SeqGives Fence.wide 2 Tryz.prog 217 #[.pointer (some ⟨Bm,0,none⟩)] encZ (fun ss=>ss.Perm (intKeys (.map ((l.toList.map (Go.WideElems.rg Tryz.prog 3 QTa)).foldr DataW.insert []):DataW Unit))) (Maps.size (.map ((l.toList.map (Go.WideElems.rg Tryz.prog 3 QTa)).foldr DataW.insert []):DataW Unit)) w:=
  AnyZI.keys_gives (ρ:=Tryz.keysI_ren) { Tryz.keysI with} Fence.wide _ trivial rfl (by omega) Bm M l.size _ w hBm hc hown
 have cS:=AnyZI.sorted_in Tryz.sortedI Fence.wide 5 trivial trivial trivial trivial rfl (by omega) (Q1w _) QWS 217 #[.pointer (some ⟨Bm,0,none⟩)] trivial QWo _ _ (by rw[hsz]; unfold maxLen; omega) (by rw[hsz]; omega) _ hseq
 change CallsIn _ _ Tryz.prog 157 _ _ _ at cS;refine callsIn_wide.1 (cS.mono ?_);rintro e w' ⟨v,ss,rfl,hS,hrow,_,hB⟩;refine⟨v,rfl,?_,hB⟩;have h1:=hfin ss (hS.trans hperm);have h2:ss.length=T.length:=by rw[←h1]; simp
 rw[h1,h2]at hrow;exact hrow
end Go.Proofs.YticoemblgkemiaaGreatDoor
namespace Go.Proofs.YticoemblgkemiaaGreatDoor
open Go.RowKit
def QUq (w:World):Base:=⟨w,fun _=>none,fun _=>none,[],True,[]⟩
theorem QSv (w:World) (b:Nat):¬(QUq w).writ b:=by
 rintro(⟨i,hi⟩ | ⟨t,ht⟩)
 ·cases hi
 ·cases ht
section
variable {P:Program} {c:Cx} {m0:Nat→Nat→Prop} {g g':Gh} {σ σ':St} {a:Act} {w:World} {e:AEx}
theorem QVZ {f:Nat} {fn:Func} {cd:Code} (hf:P.funcs[f]?=some fn) (hb:fn.body=some cd) {N:Nat} (hN:fn.ntmps=N) {ds:List D} {d:D} (hl:ds.length≤N)
  (h:∀(m:Nat→Nat→Prop) (w:World) (a:Act),Inv N m (QUq w) (Qzh m) ⟨Qqm 0 ds,[],[],[]⟩ a w→cd.wpIn Fence.wide 0 P (bodyPostM Fence.wide 0 P fn (RetR m w d)) a w):PureC P f ds d:=by
 intro m w vs hm hG hr;have I:=Qs0 (P:=P) hN hl hm hG hr;have I':Inv N m (QUq w) (Qzh m) ⟨Qqm 0 ds,[],[],[]⟩ { tmps:=vs.toArray++Array.replicate (fn.ntmps - vs.toArray.size) undef,defers:=[]} w:=
  ⟨KeepsW.refl _ _,I.size,⟨[],rfl,List.nodup_nil,fun D h=>by cases h⟩,I.lt,I.old,fun _ _ h=> .inl h,I.tmps,fun i b h=>(by cases h),I.boxi,fun t b h=>(by cases h),I.toki,I.boxes,fun i b h=>(by cases h),fun p hp=>(by cases hp),I.maps,I.cells⟩
 exact(callsIn_wide (n:=0)).1 (callsIn_of_wp_marks hf hb trivial (h m w _ I'))
theorem QTP (hc:CxOk P c) {W:World} {cd:Code} (hd:QaO c.diff c.md c.pq cd=true) (I:Inv c.N m0 (QUq W) g σ a w) {Q:Exit→Act→World→Prop} (hQ:QHy c m0 (QUq W) Q (c.code cd σ)):cd.wpIn Fence.wide 0 P Q a w:=by
 cases h:c.code cd σ with
 | none=>rw[h]at hQ; exact hQ.elim
 | some r=>
  obtain⟨e,σ'⟩:=r;rw[h]at hQ;exact QiD hc cd hd Fence.wide 0 (.inl rfl) m0 (QUq W) (.inr ⟨rfl,trivial,rfl⟩) σ e σ' h (fun _ _=>rfl) g a w I Q hQ
theorem QWR (hc:CxOk P c) {W:World} (I:Inv c.N m0 (QUq W) g σ a w) {fn:Func} {r:List D} {d:D} (hres:Qgs c.Γ σ fn.results.toList=some r) (hd:Qfd r=d):bodyPostM Fence.wide 0 P fn (RetR m0 W d) .ret a w:=by
 subst hd;show LeavesInM Fence.wide 0 P fn a.tmps _ a.defers .returning w;obtain⟨Ds,h1,h2,h3⟩:=I.defers;have h1:a.defers=Ds.map Qgr:=by rw[h1]; exact List.append_nil _
 have I2:Inv c.N m0 (QUq W) g σ ⟨a.tmps,Ds.map Qgr⟩ w:=by rw[←h1]; exact I
 rw[h1];refine QiF rfl rfl (fun g2 w2 I'=>?_) Ds g w I2;obtain⟨us,h1,h2⟩:=QhZ hc I' fn.results.toList r hres;have hx:ExtM (Qlf g2) w2 (fun b o=>m0 b o∨(Qlf g2 b o∧W.heap.size≤b)) w2:=⟨fun b o h=>by
  rcases h with(h | ⟨i,h⟩) | ⟨s,h⟩
  ·exact(I'.new b o h).imp id fun h2=>⟨.inl (.inl h),h2.resolve_right (QSv W b)⟩
  ·exact .inr ⟨.inl (.inr ⟨i,h⟩),(I'.boxb i b h).1.resolve_right (QSv W b)⟩
  ·exact .inr ⟨.inr ⟨s,h⟩,(I'.tokb s b h).2.1.resolve_right (QSv W b)⟩,fun _ _ _=>rfl⟩
 obtain⟨v,h3,h4⟩:=QkQ h1 (RelL.ext hx _ _ h2);exact⟨v,h3,v,(fun b o=>Qlf g2 b o∧W.heap.size≤b),rfl,I'.below.below (fun k hk=>QSv W k hk),fun b o h=>⟨h.2,by
  rcases h.1 with(h | ⟨i,h⟩) | ⟨s,h⟩
  ·exact I'.lt b o h
  ·exact(I'.boxb i b h).2.1
  ·exact(I'.tokb s b h).1⟩,h4⟩
end
end Go.Proofs.YticoemblgkemiaaGreatDoor
namespace Go.Proofs.YticoemblgkemiaaGreatDoor
open Go.RowKit Go.Maps
def QTw (r:Nat):List (Nat×Option Nat):=match r with
 | 0=>kpn [0,2]
 | 1=>kpn [0,2,3]
 | 2=>kpn [2,3,7]
 | 3=>kpn [2,3,4]
 | 4=>kpn [2,3]
 | 5=>[(2,none)]
 | _=>[]
def QXz:List Int→List (Value×Value)
 | []=>[]
 | k::t=>(.int .i64 k,.int .i64 ((t.count k:Nat)+1:Int))::QXz t
theorem QSV (k:Int):∀t:List Int,QcG (QXz t) (.int .i64 k)=if k∈t then some (.int .i64 (t.count k:Nat))else none
 | []=>rfl
 | a::t=>by
  simp only[QXz,QcG];have he:eqK (.int .i64 a) (.int .i64 k)=decide (a=k):=by simp only[eqK,eq1,beq_self_eq_true,decide_true,Bool.true_and]; by_cases e:a=k<;>simp[e]
  rw[he,QSV k t];by_cases h:a=k
  ·subst h; simp
  ·have h':¬k=a:=fun e=>h e.symm;have hb:(a==k)=false:=by simpa using h
   simp[h,h',List.count_cons,hb]
theorem QYJ (k:Int) (t:List Int):(QcG (QXz t) (.int .i64 k)).getD (.int .i64 0)= .int .i64 (t.count k:Nat):=by
 rw[QSV];split
 ·rfl
 ·rename_i h; rw[List.count_eq_zero_of_not_mem h]; rfl
theorem QVr:∀t:List Int,(QXz t).length=t.length
 | []=>rfl
 | _::t=>by simp[QXz,QVr t]
theorem QZp:∀A:Nat,A < 8→IntKind.i64.wrap (2 ^ min A IntKind.i64.bits)=2 ^ A:=by decide
set_option maxRecDepth 100000 in
theorem QXI:∀A:Nat,A < 8→∀B:Nat,B < 8→bits BinOp.or IntKind.i64 (2 ^ A) (2 ^ B)=((2 ^ A||| 2 ^ B:Nat):Int)∧(2 ^ A||| 2 ^ B:Nat) < 256:=by decide
theorem QU8 {α:Type} {f:Nat→List α} {c:Nat} :∀{n:Nat},(∀k,k < n→(f k).length≤c)→(cat f n).length≤n*c
 | 0,_=>Nat.zero_le _
 | n+1,h=>by
  rw[cat,List.length_append,Nat.succ_mul];exact Nat.add_le_add (QU8 fun k hk=>h k (by omega)) (h n (by omega))
theorem QYH {x:Tbl} {l:List Int} (h:x.kinds.length≤8):(QRp x l).length≤64:=by
 have h1:∀a,a < x.kinds.length→(QRd x l a).length≤8:=fun a ha=>by
  have:=QU8 (f:=QRi x l a) (c:=1) (n:=a+1) fun b _=>by unfold QRi; split<;>simp
  unfold QRd; omega
 have:=QU8 (f:=QRd x l) (c:=8) (n:=x.kinds.length) h1;unfold QRp; omega
def QQQ (m:Mix):Int:=((2 ^ m.a.toNat||| 2 ^ m.b.toNat:Nat):Int)
def g66:List (Nat×(List D→Option D)):=[(148,s68)]
theorem dg66:QaE Tryz.prog (Qaw g66):=Qh Qs QLO ok68
def Q0O (r:Nat):Nat:=if r=4 then 1008 else 0
theorem Q2f:CxOk Tryz.prog (QSL g66 [] 22 QTw [] (fun _=>[]) Q0O [(3,1)] [(206,QVM)]):=QQW dg66 Qb6 Q2w Q1j 22 QTw [] (fun _=>[]) Q0O
def QQA (l:List Mix):List Int:=(List.range 256).filterMap fun(k:Nat)=>if(l.map QQQ).contains (k:Int)then some (k:Int)else none
theorem QTU {M:List Mix} (h:∀m∈M,0≤QQQ m∧QQQ m < 256) (k:Int):k∈QQA M↔k∈M.map QQQ:=by
 unfold QQA;rw[List.mem_filterMap];constructor
 ·rintro⟨n,_,hn⟩;split at hn
  ·rename_i hc;cases hn;simpa using hc
  ·cases hn
 ·intro hk;obtain⟨m,hm,rfl⟩:=List.mem_map.1 hk;obtain⟨h0,h1⟩:=h m hm;refine⟨(QQQ m).toNat,List.mem_range.2 (by omega),?_⟩
  have e:((QQQ m).toNat:Int)=QQQ m:=by omega
  rw[e,if_pos (by simpa using hk)]
theorem Q0e {M:List Mix} :∀k∈QQA M,0≤k∧k≤255:=fun k hk=>by
 unfold QQA at hk;obtain⟨n,hn,h⟩:=List.mem_filterMap.1 hk;have:=List.mem_range.1 hn;split at h
 ·cases h; omega
 ·cases h
theorem QUv (M:List Mix):(QQA M).Pairwise (· < ·):=by
 unfold QQA;rw[List.pairwise_filterMap];refine List.pairwise_lt_range.imp fun {a b} hab x hx y hy=>?_;split at hx
 ·split at hy
  ·cases hx; cases hy; omega
  ·cases hy
 ·cases hx
theorem QVE (M:List Mix):(QQA M).length≤256:=by
 unfold QQA;have:=List.length_filterMap_le (fun(k:Nat)=>if(M.map QQQ).contains (k:Int)then some (k:Int)else none) (List.range 256);simpa using this
theorem QYB {m:Nat→Nat→Prop} {w:World} {base:Nat} {v:Value} {l:List Int} (h:w.ownsRow base 3 1 v l.length (l.map (Value.int .i64))) (hl:l.length≤140737488355328):
  ∃m':Nat→Nat→Prop,(∀b o,m' b o→base≤b∧b < w.heap.size)∧Rel (fun b o=>m b o∨m' b o) w (.sl 1 (l.map QH.enc)) v:=by
 obtain⟨_,h⟩:=h;rcases h with⟨rfl,h0⟩ | ⟨g,cap,cur,rfl,hb,hg,hlc,hcm,hcs,hcur⟩
 ·obtain rfl:l=[]:=List.length_eq_zero_iff.1 h0;exact⟨fun _ _=>False,fun _ _ h=>h.elim,by simp[Rel]⟩
 ·refine⟨fun b _=>b=g,fun b o h=>by subst h; exact⟨hb,(Array.getElem?_eq_some_iff.1 hg).1⟩,?_⟩
  simp only[Rel,List.length_map];refine⟨hl,_,cap,rfl,hlc,.inr ⟨g,0,rfl,RelRows.of fun i r hi=>?_⟩⟩;rw[List.getElem?_map]at hi;cases hp:l[i]? with
  | none=>rw[hp]at hi; cases hi
  | some z=>
   rw[hp]at hi;simp only[Option.map_some,Option.some.injEq]at hi;subst hi;have hj:i < l.length:=(List.getElem?_eq_some_iff.1 hp).1;refine⟨rfl,?_⟩;simp only[Qd,RelCells,Rel];refine⟨⟨.int .i64 z,.inr trivial,?_,rfl,rfl⟩,trivial⟩;have hat:(l.map (Value.int .i64))[i]?=some (.int .i64 z):=by rw[List.getElem?_map,hp]; rfl
   rw[←hcur]at hat;rw[List.getElem?_take,if_pos (by omega)]at hat
   simp only[World.cell?,hg,Nat.zero_add,Option.isSome_none,Bool.false_eq_true,if_false,Nat.mul_one];simpa using hat
def QYA:List D→Option D:=sp1 QRL (QJ QH) fun x=>if okR x.t x.l then some (QQA (QRp x.t x.l))else none
set_option maxHeartbeats 4000000 in
theorem Q04:∀ds d,QYA ds=some d→PureC Tryz.prog 85 ds d:=Qbr fun x r hr=>by
 split at hr
 ·rename_i h0;cases hr;have f:=QQv (QRQ h0).1;have hk8:=f.k8;refine QVZ Tryz.func85 rfl rfl (Nat.le_of_ble_eq_true rfl) fun m w a I=>?_;refine wpIn_seq (QTP Q2f (by kernel_rfl) I ?_)
  simp[QTw,Q0O,QRg,QG];intro g2 a2 w2 I2;simp only[AEx.out,Exit.then];refine wpIn_seq (QTP Q2f (by kernel_rfl) I2 ?_)
  simp[QTw,Q0O,QG];intro g3 a3 w3 I3;simp only[AEx.out,Exit.then];refine wpIn_seq (QTP Q2f (by kernel_rfl) I3 ?_)
  simp[QTw,Q0O,QRg,g66,s68,QR1,QSO,QVM,h0];have hbd:∀j (hj:j < (QRp x.t x.l).length),_:=fun j hj=>QWW h0 (List.getElem_mem hj);have hva:∀j v,(vals (QRp x.t x.l))[j]?=some v→_:=fun j v h=>QWn h;have hvl:(vals (QRp x.t x.l)).length=(QRp x.t x.l).length:=by simp[vals]
  have hml:=QYH (l:=x.l) hk8;generalize QRp x.t x.l=M at*
  (generalize hLoopQ:Cx.rounds _ _ _ _ _ _ _ _=rLoopQ; have hEndQ:=QfA hLoopQ (fun j=>⟨[(2,.d (.sl 0 [])),(3,.loc 3 0),(7,.d (.fn 206 [] [.dat 1 [[.dat 4 [[.sl 2 (x.t.props.map QQt.enc),.sl 2 (x.t.kinds.map QQw.enc),DI x.t.purity,.sl 1 (x.l.map QH.enc)]] 0 0]] 0 0]))],[(3,[.mp 5])],[],[(5,(1,QXz ((M.take j).map QQQ).reverse))]⟩) (by first | rfl | (simp; done) | (simp; rfl)) ?_; rotate_left; all_goals clear hLoopQ)
  ·intro j v hv;obtain⟨hj,rfl⟩:=hva j v hv;obtain⟨⟨a0,a1⟩,⟨b0,b1⟩,_⟩:=hbd j hj;have hnx:((M.take (j+1)).map QQQ).reverse=QQQ M[j]::((M.take j).map QQQ).reverse:=by
    rw[List.take_add_one,List.getElem?_eq_getElem hj,List.map_append,List.reverse_append]; rfl
   rw[hnx];have htl:((M.take j).map QQQ).reverse.length≤64:=by simp; omega
   generalize((M.take j).map QQQ).reverse=t at*;generalize M[j]=m at*;obtain⟨A,hA⟩:∃A:Nat,m.a=A:=⟨m.a.toNat,by omega⟩
   obtain⟨B,hB⟩:∃B:Nat,m.b=B:=⟨m.b.toNat,by omega⟩
   have sA:=QZp A (by omega)
   have sB:=QZp B (by omega)
   have hm:QQQ m=((2 ^ A||| 2 ^ B:Nat):Int):=by unfold QQQ; rw[hA,hB]; rfl
   obtain⟨o1,o2⟩:=QXI A (by omega) B (by omega)
   rw[hm];generalize(2 ^ A||| 2 ^ B)=K at*
   have hw:(Lit.int .i64 (K:Int)).wf=true:=wfZ (by omega) (by omega)
   have hg:=QYJ (K:Int) t;have hcl:t.count (K:Int)≤t.length:=List.count_le_length;have w1:=Qa ((t.count (K:Int):Nat)+1:Int) (by omega) (by omega)
   simp[QTw,Q0O,hA,hB,sA,sB,o1,hw,hg,w1,QXz];done
  rw[hvl]at hEndQ;rw[hEndQ,List.take_length];simp[QG];intro g1 a1 w1 I1;simp only[AEx.out,Exit.then];obtain⟨b3,hb3,hv3⟩:=I1.tmps 3 (.loc 3 0) rfl;obtain⟨v19,hl19,M5,hM5,rfl⟩:=Qjr (P:=Tryz.prog) (T:=260) (x:= .loc 3 0) (y:= .mp 5) (boxes:=[(3,[.mp 5])]) (g:=g1) (w:=w1) (toks:=[]) QSC rfl ⟨b3,hb3,hv3⟩ I1.boxes;have hmap:=I1.maps 5 (1,QXz (M.map QQQ).reverse) (by simp[Qt]) M5 hM5
  have hsz:=I1.size;refine wpIn_seq ?_;refine wpIn_region_list ?_;unfold wpListIn;rw[if_pos (by simp[Region.wanted])]
  refine Qck (.inl rfl) (v:= .map (some M5)) (w':=w1) (by simp only[execOp,Act.eval,Sem.run_bind,hl19,Result.andThen_ok]; rfl) ?_
  unfold wpListIn;rw[if_pos (by simp[Region.wanted])]
  have e19:(a1.put (some 19) (.map (some M5))).tmps.getD 19 undef= .map (some M5):=by rw[Qcm _ _ _ _ (by rw[hsz]; decide),if_pos rfl]
  refine Qhl (.inl rfl) (f:=158) (args:= #[.map (some M5)]) (by simp[execOp,resolve,Deferred.ofValue,invoke,Act.eval,e19,QXX]) (Q2y M5 w1) ?_
  rintro e w2 ⟨rfl,rfl⟩;refine⟨_,rfl,?_⟩;unfold wpListIn;rw[if_pos (by simp[Region.wanted])]
  have J1:=I1.put (d:=some 19) (fun x h=>by cases h; decide) (x:= .mp 5) (v:= .map (some M5)) ⟨M5,hM5,rfl⟩
  have J2:=(J1.later ((Below.refl _ w1).alloc (Nat.le_refl _) (.cells #[.map (some M5)] 260))).put (d:=some 20) (fun x h=>by cases h; decide) (x:= .d .top) (v:= .func (.func 217) #[] #[.pointer (some ⟨w1.heap.size,0,none⟩)]) (by simp[RelX,Rel])
  have hsJ:=J2.size;have e20:(((a1.put (some 19) (.map (some M5))).put (some 20) (.func (.func 217) #[] #[.pointer (some ⟨w1.heap.size,0,none⟩)])).tmps).getD 20 undef= .func (.func 217) #[] #[.pointer (some ⟨w1.heap.size,0,none⟩)]:=by rw[Qcm _ _ _ _ (by rw[QbP,hsz]; decide),if_pos rfl]
  generalize(a1.put (some 19) (.map (some M5))).put (some 20) (.func (.func 217) #[] #[.pointer (some ⟨w1.heap.size,0,none⟩)])=a4 at*;have hMlt:M5 < w1.heap.size:=by
   obtain⟨l,cl,hb,_⟩:=hmap;exact(Array.getElem?_eq_some_iff.1 hb).1
  have hmask:∀m∈M,0≤QQQ m∧QQQ m < 256:=fun m hm=>by
   obtain⟨j,hj,rfl⟩:=List.getElem_of_mem hm;obtain⟨⟨a0,a1⟩,⟨b0,b1⟩,_⟩:=hbd j hj;have:=(QXI M[j].a.toNat (by omega) M[j].b.toNat (by omega)).2
   unfold QQQ; omega
  have hcall:=Q0w M5 w1.heap.size (QXz (M.map QQQ).reverse) (w1.alloc (.cells #[.map (some M5)] 260)) (hmap.keep (Below.heap_alloc _ _ M5 hMlt)) (by rw[QVr]; simp; omega) (by simp) (by simp) (QQA M) (QUv M) (fun k hk=>by have:=Q0e k hk; omega) (fun k=>by
   rw[QTU hmask,QSV];simp only[List.mem_reverse];split
   ·rename_i h; exact⟨fun _=>⟨_,rfl⟩,fun _=>h⟩
   ·rename_i h; exact⟨fun h'=>absurd h' h,fun⟨v,hv⟩=>by cases hv⟩)
  refine Qhl (.inl rfl) (f:=157) (args:= #[.func (.func 217) #[] #[.pointer (some ⟨w1.heap.size,0,none⟩)]]) (by simp[execOp,resolve,Deferred.ofValue,invoke,Act.eval,e20,QYh]) hcall ?_
  rintro e w5 ⟨v,rfl,hrow,hB⟩;refine⟨_,rfl,?_⟩;unfold wpListIn;rw[if_pos (by simp[Region.wanted])]
  obtain⟨m',hm1,hm2⟩:=QYB (m:=g1.imm) hrow (by have:=QVE M; omega)
  have J3:=(J2.grow hB m' hm1).1.put (d:=some 21) (fun x h=>by cases h; decide) (x:= .d (.sl 1 ((QQA M).map QH.enc))) (v:=v) hm2
  have J4:=J3.put (d:=some 2) (fun x h=>by cases h; decide) (x:= .d (.sl 1 ((QQA M).map QH.enc))) (v:=v) hm2
  have e21:(a4.put (some 21) v).tmps.getD 21 undef=v:=by rw[Qcm _ _ _ _ (by rw[hsJ]; decide),if_pos rfl]
  refine Qck (.inl rfl) (v:=v) (w':=w5) (by simp[execOp,Act.eval,e21]) ?_
  unfold wpListIn;simp only[Exit.then];refine wpIn_ret ?_;refine QWR Q2f J4 (r:=[.sl 1 ((QQA M).map QH.enc)]) ?_ rfl;rw[Tryz.results85]; simp
 ·cases hr
theorem QZa (xs:Array Value) (w:World):(callFunc 85 xs).run Tryz.prog w= .ok (.enter 85 xs) w:=by kernel_rfl
end Go.Proofs.YticoemblgkemiaaGreatDoor
