/-
  The listed package variables, as the row lays them: what the walks know of them. Conditions: none.
-/
import Derived.Test.YticoemblgkemiaaGreatDoorZAmE
import Derived.Test.YticoemblgkemiaaGreatDoorRows
import Derived.MakeChecks
import Derived.HandedShaped
import Derived.LaidMore
import Derived.Lay
import Derived.OpenShut
import Derived.ProofKit
import Derived.Shelf.Vars
import Derived.Test.YticoemblgkemiaaGreatDoorZBldM
import Derived.ChangeOld
import Derived.SevenTiedAt
import Derived.Stop.Joined
set_option linter.unusedSimpArgs false
set_option linter.unusedVariables false
namespace Go.Proofs.YticoemblgkemiaaGreatDoor
open Go Go.ChangeShapes Go.WideShapes Go.ChangeAt Go.RowKit
theorem QmX {P:Program} {w:World} {n:String} {g:Nat} {cs:Array Value} (hg:P.globalNamed n=some g) (h:w.var? P n=some cs):∃ty fr,w.heap[g]?=some (.cells cs ty fr):=by
 simp only[World.var?,hg,Option.bind_some]at h;split at h
 ·rename_i c t f hh;cases h;exact⟨t,f,hh⟩
 ·cases h
theorem Qon {W:World} (h:W.ShapedOpen Tryz.prog):∃m ty fr,W.heap[0]?=some (.cells #[.int .i64 m] ty fr):=by
 have h0:(((begin Tryz.prog (fun _ _=>0) default).world.heap[0]?).bind Obj.row?).map (fun x=>(x.1.size,x.2))=some (1,3):=by kernel_rfl
 cases hq:((begin Tryz.prog (fun _ _=>0) default).world.heap[0]?).bind Obj.row? with
 | none=>rw[hq]at h0; cases h0
 | some x=>
  rw[hq]at h0;simp only[Option.map_some,Option.some.injEq,Prod.mk.injEq]at h0;obtain⟨hz,ht⟩:=h0;obtain⟨zero,t⟩:=x;simp only at hz ht;subst ht;have hg:0 < Tryz.prog.globals.size:=by decide+kernel
  obtain⟨cs,hh,hs,_⟩:=h.1 0 zero 3 hg hq;obtain⟨m,hm⟩:=cell_of_shapedOpen_int h hg hq hz (by kernel_rfl) (by kernel_rfl) Tryz.underlying3
  have h1:cs[0]?=some (.int .i64 m):=by
   have:=hm;simpa[World.cell?,hh]using this
  have:cs= #[.int .i64 m]:=by
   apply Array.ext_getElem?;intro i;cases i with
   | zero=>simpa using h1
   | succ i=>rw[Array.getElem?_eq_none (by omega),Array.getElem?_eq_none (by simp)]
  subst this;exact⟨m,_,_,hh⟩
theorem QoX {W:World} {cs:Array Value} {QbK:Nat} {p:List MemPlace} (hd:DataW.trod (fun _=>()) Tryz.prog W 0 (fun _=>true) false QbK 369 cs.toList=some (Rows.laid_internal_strconv_uint64pow10,p)):cs=(Lib.pow10Tab.map fun z=>Value.int .u64 z).toArray:=by
 obtain⟨xs,m,_,ex,hlen,hl,hel⟩:=DataW.trod_array Tryz.underlying369 hd;have c5:Tryz.prog.cellsOf 343=1:=by kernel_rfl
 have c6:Tryz.prog.cellsOf 369=20:=by kernel_rfl
 have e3:(xs.map (·.1))=Lib.pow10Tab.map fun n=>(DataW.lit (.int .u64 n):DataW Unit):=(DataW.agg.inj (Prod.mk.inj ex).1).symm;have hpl:=Lib.pow10Tab_length;apply Array.ext_getElem?;intro r;by_cases hr:r < 20
 ·have hE:=hel r hr;rw[c5,Nat.mul_one,List.getElem?_eq_getElem (by omega)]at hE
  obtain⟨z,e1,e2,_⟩:=DataW.trod_int Tryz.underlying343 hE;have e4:(xs.map (·.1))[r]?=(Lib.pow10Tab.map fun n=>(DataW.lit (.int .u64 n):DataW Unit))[r]?:=by rw[e3]
  rw[List.getElem?_map,List.getElem?_map,List.getElem?_eq_getElem (by omega:r < xs.length),List.getElem?_eq_getElem (by omega:r < Lib.pow10Tab.length),e2]at e4
  have hz:z=Lib.pow10Tab[r]'(by omega):=by
   simpa using e4
  have:cs.toList[r]?=some (.int .u64 z):=by
   have h0:((cs.toList.drop r).take 1)[0]?=some (.int .u64 z):=by rw[e1]; rfl
   simpa using h0
  rw[←Array.getElem?_toList,this,hz];simp[hpl,hr]
 ·rw[Array.getElem?_eq_none (by rw[c6]at hlen; simp at hlen; omega),Array.getElem?_eq_none (by simp[hpl]; omega)]
set_option maxRecDepth 100000 in
theorem QHB {W:World} (hS:W.ShapedOpen Tryz.prog) (h:laidMetH Tryz.prog Rows.topMadeRow.laid W):GlobIn (QqW W) W:=by
 rw[MakeChecks.laidMetH_plain _ _ _ (by kernel_rfl)]at h
 obtain⟨ps,⟨_,_,_,_,_,_,_,_,_,_,⟨_,_,_,_,_,_,_,_,_,_,⟨g1,t1,cs1,f1,p1,q1,hg1,ht1,hv1,hd1,⟨_,_,_,_,_,_,_,_,_,_,⟨g3,t3,cs3,f3,p3,q3,hg3,ht3,hv3,hd3,⟨g2,t2,cs2,f2,p2,q2,hg2,ht2,hv2,hd2,_⟩,_⟩,_⟩,_⟩,_⟩,_⟩,_,_⟩:=h;obtain rfl:=Option.some.inj ((show Tryz.prog.globalNamed "internal/strconv.uint64pow10" =some 1 by kernel_rfl).symm.trans hg1)
 obtain rfl:=Option.some.inj ((show Tryz.prog.globalNamed "strconv.ErrRange" =some 3 by kernel_rfl).symm.trans hg3)
 obtain rfl:=Option.some.inj ((show Tryz.prog.globalNamed "strconv.ErrSyntax" =some 2 by kernel_rfl).symm.trans hg2)
 obtain rfl:=Option.some.inj ((show(Tryz.prog.globals[1]?).map (·.type)=some 369 by kernel_rfl).symm.trans ht1)
 obtain rfl:=Option.some.inj ((show(Tryz.prog.globals[3]?).map (·.type)=some 223 by kernel_rfl).symm.trans ht3)
 obtain rfl:=Option.some.inj ((show(Tryz.prog.globals[2]?).map (·.type)=some 223 by kernel_rfl).symm.trans ht2)
 obtain⟨m0,ty0,fr0,b0⟩:=Qon hS;obtain⟨ty1,fr1,b1⟩:=QmX hg1 hv1;obtain⟨ty3,fr3,b3⟩:=QmX hg3 hv3;obtain⟨ty2,fr2,b2⟩:=QmX hg2 hv2;obtain⟨_,u3,v3,e3,_⟩:=iface_of_trod Tryz.underlying223 hd3;obtain⟨_,u2,v2,e2,_⟩:=iface_of_trod Tryz.underlying223 hd2;have e3':=Array.eq_one_of_toList e3;have e2':=Array.eq_one_of_toList e2;have lt:∀{b:Nat} {o:Obj},W.heap[b]?=some o→b < W.heap.size:=fun h=>(Array.getElem?_eq_some_iff.1 h).1;intro x hx;simp only[QLU,List.mem_cons,List.mem_nil_iff,or_false]at hx;rcases hx with rfl | rfl | rfl | rfl
 ·exact⟨fun _=>lt b0,_,_,_,b0,by simp,m0,rfl⟩
 ·exact⟨fun _=>lt b1,_,_,_,b1,by rw[QoX hd1]; simp[Lib.pow10Tab_length],QoX hd1⟩
 ·exact⟨fun _=>lt b2,_,_,_,b2,by rw[e2']; simp,u2,v2,e2'⟩
 ·exact⟨fun _=>lt b3,_,_,_,b3,by rw[e3']; simp,u3,v3,e3'⟩
end Go.Proofs.YticoemblgkemiaaGreatDoor
namespace Go.Proofs.YticoemblgkemiaaGreatDoor
open Go Go.ChangeShapes Go.WideShapes Go.ChangeAt Go.RowKit
theorem ownK:ownKnob Tryz.prog.godebug=none:=by kernel_rfl
theorem Qti:laidOutB Tryz.prog=true:=by kernel_rfl
theorem QuT:Reads Tryz.prog 3 QH (fun n=>(Lit.int .i64 n).wf=true):=QE2 Tryz.underlying3 (by kernel_rfl)
theorem QO0:Reads Tryz.prog 9 Qg0 (fun s=>s.size≤reachBytes):=QHg Tryz.underlying9 (by kernel_rfl)
theorem Q0o:Reads Tryz.prog 39 QP7 (fun _=>True):=(Qjl (P:=Tryz.prog) (t:=39) QP7 (fun x:Int×Int×Unit=>⟨x.1,x.2.1⟩) Tryz.underlying39 (QaV QuT rfl (QaV QuT rfl (Qf0 _))) (by kernel_rfl) rfl (fun _=>rfl)).mono fun _ _=>trivial
theorem QY8:Reads Tryz.prog 75 (QwY QP7) (fun _=>True):=(QSz (P:=Tryz.prog) (t:=75) Tryz.underlying75 (by kernel_rfl) Q0o (by decide) (Nat.le_of_ble_eq_true (by kernel_rfl))).mono fun _ _=>trivial
theorem Q0i:Reads Tryz.prog 86 QQt (fun b=>b.name.size≤reachBytes):=(Qjl (P:=Tryz.prog) (t:=86) QQt (fun x:ByteArray×Int×Unit=>⟨x.1,x.2.1⟩) Tryz.underlying86 (QaV QO0 rfl (QaV QuT rfl (Qf0 _))) (by kernel_rfl) rfl (fun _=>rfl)).mono (by rintro _ ⟨x,rfl,h,_⟩; exact h)
theorem QXH:Reads Tryz.prog 56 (QwY QQt) (fun l=>∀c∈l,c.name.size≤reachBytes):=(QSz (P:=Tryz.prog) (t:=56) Tryz.underlying56 (by kernel_rfl) Q0i (by decide) (Nat.le_of_ble_eq_true (by kernel_rfl))).mono fun _ h=>h.1
theorem Q0l:Reads Tryz.prog 77 QQw (fun b=>b.name.size≤reachBytes):=(Qjl (P:=Tryz.prog) (t:=77) QQw (fun x:ByteArray×List Spn×Unit=>⟨x.1,x.2.1⟩) Tryz.underlying77 (QaV QO0 rfl (QaV QY8 rfl (Qf0 _))) (by kernel_rfl) rfl (fun _=>rfl)).mono (by rintro _ ⟨x,rfl,h,_⟩; exact h)
theorem QYp:Reads Tryz.prog 57 (QwY QQw) (fun l=>∀c∈l,c.name.size≤reachBytes):=(QSz (P:=Tryz.prog) (t:=57) Tryz.underlying57 (by kernel_rfl) Q0l (by decide) (Nat.le_of_ble_eq_true (by kernel_rfl))).mono fun _ h=>h.1
theorem QZN:Reads Tryz.prog 59 QRf QQh:=(Qjl (P:=Tryz.prog) (t:=59) QRf (fun x:List Prp×List Knd×Int×Unit=>⟨x.1,x.2.1,x.2.2.1⟩) Tryz.underlying59 (QaV QXH rfl (QaV QYp rfl (QaV QuT rfl (Qf0 _)))) (by kernel_rfl) rfl (fun _=>rfl)).mono (by
 rintro _ ⟨x,rfl,h,h2,_⟩;exact⟨fun c hc=>Nat.le_trans (h c hc) (by decide),fun c hc=>Nat.le_trans (h2 c hc) (by decide)⟩)
theorem QOd:Reads Tryz.prog 5 (rK .u8) (fun n=>(Lit.int .u8 n).wf=true):=Qqn Tryz.underlying5 (by kernel_rfl)
theorem wf8 {n:Int} (h:(Lit.int .u8 n).wf=true):0≤n∧n≤255:=by
 have e:IntKind.u8.min=0:=by decide
 have e2:IntKind.u8.max=255:=by decide
 simpa only[Lit.wf,e,e2,Bool.and_eq_true,decide_eq_true_eq]using h
theorem QKQ:Reads Tryz.prog 72 (rK .u32) (fun n=>(Lit.int .u32 n).wf=true):=Qqn Tryz.underlying72 (by kernel_rfl)
theorem wf32 {n:Int} (h:(Lit.int .u32 n).wf=true):0≤n∧n≤4294967295:=by
 have e:IntKind.u32.min=0:=by decide
 have e2:IntKind.u32.max=4294967295:=by decide
 simpa only[Lit.wf,e,e2,Bool.and_eq_true,decide_eq_true_eq]using h
theorem Q8r:Reads Tryz.prog 74 Q76 Q4G:=(Qjl (P:=Tryz.prog) (t:=74) Q76 (fun x:Int×Int×Int×Int×Int×Unit=>⟨x.1,x.2.1,x.2.2.1,x.2.2.2.1,x.2.2.2.2.1⟩) Tryz.underlying74 (QaV QOd rfl (QaV QOd rfl (QaV QOd rfl (QaV QOd rfl (QaV QKQ rfl (Qf0 _)))))) (by kernel_rfl) rfl (fun _=>rfl)).mono (by
 rintro _ ⟨x,rfl,h1,h2,h3,h4,h5,_⟩;exact⟨wf8 h1,wf8 h2,wf8 h3,wf8 h4,wf32 h5⟩)
noncomputable def QyZ (os:Os):World:=World.laidAll Tryz.prog os Rows.topBlendedRow.laid
theorem Qzd (os:Os) (args:Array Value):laidMetH Tryz.prog Rows.topBlendedRow.laid ((QyZ os).forCall (fun _ _=>0) ⟨#[],args,[]⟩).memory:=by
 rw[MakeChecks.laidMetH_plain _ _ _ (by kernel_rfl)]
 exact laidMet_laidAll _ (by kernel_rfl) (by kernel_rfl)
theorem QoL (os:Os) (args:Array Value):((QyZ os).forCall (fun _ _=>0) ⟨#[],args,[]⟩).Shaped Tryz.prog:=World.shaped_of_ZipB (by kernel_rfl) (by kernel_rfl)
end Go.Proofs.YticoemblgkemiaaGreatDoor
namespace Go.Proofs.YticoemblgkemiaaGreatDoor
open Go Go.ChangeShapes Go.WideShapes Go.ChangeAt Go.RowKit
theorem QqM {H:Type} {enc:TypeId×Value→H} {C:Checked} {os:Os} {f:FuncId} {fn:Func} {s:ChangeSpec} {conds:List PathCond} {Qg6 fresh handsOn again:Bool} {laid:List (String×DataW Unit)}
  (own:ownKnob C.prog.godebug=none) (started:os.Started) (noInit:C.prog.inits.idxOf? f=none) (hfn:C.prog.funcs[f]?=some fn)
  (witness:∃(w:World) (tape:Tape) (i:Input),w.os=os∧(w.forCall tape i).Shaped C.prog∧i.vars=[]∧Input.okWide C.prog (w.forCall tape i) .any w.heap.size f i∧
   ((s.pre enc C.prog fn conds Qg6 (w.forCall tape i).memory i.args∧laidMetH C.prog laid (w.forCall tape i).memory)∧sizedMet enc C.prog fn (OpenSpec.ofChange s) Qg6 (w.forCall tape i).memory i.args)∧({} :Assume).holds C.prog (lone (Frame.enter C.prog f i.args .normal) [] (w.forCall tape i)))
  (walk:∀(W:World) (base:Nat) (args:Array Value) (ds gs:List (DataW H)) (before:List MemPlace),
   (∀(j:Nat) t v,fn.params[j]?=some t→args[j]?=some v→Value.okWide C.prog W .any base t v)→
   DataW.Whole enc C.prog fn.params.toList s.vars Qg6 W args.toList ds gs before→
   (DataW.weightsEach C.prog (fn.params.toList++s.plain.varTypes C.prog) (ds++gs)).all (· ≤reachBytes)=true→
   W.ShapedOpen C.prog→laidMetH C.prog laid W→
   Calls C.prog f args W fun e W'=>∃v,e= .returned v∧s.post enc C.prog fn Qg6 fresh handsOn again W args v W'):
  ReturnsInHanded {} C os f .any (fun w args=>(s.pre enc C.prog fn conds Qg6 w args∧laidMetH C.prog laid w)∧sizedMet enc C.prog fn (OpenSpec.ofChange s) Qg6 w args) (s.post enc C.prog fn Qg6 fresh handsOn again):=by
 refine returnsInHanded_of_calls own started noInit witness ?_;intro w tape i _ hsh _ hok hpre _;obtain⟨_,_,_,fn',hfn',_,_,_,_,hval⟩:=hok;cases Option.some.inj (hfn'.symm.trans hfn);obtain⟨⟨⟨ds,gs,before,hw,_⟩,hL⟩,hz⟩:=hpre;refine(walk (w.forCall tape i) w.heap.size i.args ds gs before hval (DataW.Whole.of_heap (w':=w.forCall tape i) (by rfl) hw) (hz.weights hw) hsh (hL.of_heap (by rfl))).mono fun e W' ⟨v,he,hp⟩=>?_
 subst he;exact ChangeSpec.post_blind hp
theorem QuQ {P:Program} {fn:Func} {l:List TypeId} (hp:fn.params=l.toArray) (hall:(l.all fun u=>!P.wantsStandIn u)=true) (j:Nat) (t:TypeId) (ht:fn.params[j]?=some t):P.wantsStandIn t=false:=by
 rw[hp]at ht;have hm:t∈l:=by simpa using Array.mem_of_getElem? ht
 simpa using List.all_eq_true.1 hall t hm
end Go.Proofs.YticoemblgkemiaaGreatDoor
