/-
  The listed package variables, as the row lays them: what the walks know of them. Conditions: none.
-/
import Derived.Test.YticoemblgkemiaaGreatDoorRows
import Derived.HandedShaped
import Derived.LaidMore
import Derived.Lay
import Derived.Test.YticoemblgkemiaaGreatDoorZTopM
import Derived.SevenTiedAt
set_option linter.unusedSimpArgs false
set_option linter.unusedVariables false
namespace Go.Proofs.YticoemblgkemiaaGreatDoor
open Go Go.ChangeShapes Go.WideShapes Go.ChangeAt Go.RowKit
theorem QmX {P:Program} {w:World} {n:String} {g:Nat} {cs:Array Value} (hg:P.globalNamed n=some g) (h:w.var? P n=some cs):∃ty fr,w.heap[g]?=some (.cells cs ty fr):=by
 simp only[World.var?,hg,Option.bind_some]at h;split at h
 .rename_i c t f hh;cases h;exact⟨t,f,hh⟩
 .cases h
theorem Qon {W:World} (h:W.ShapedOpen Tryz.prog):∃m ty fr,W.heap[0]?=some (.cells #[.int .i64 m] ty fr):=by
 have h0:(((begin Tryz.prog (λ_ _=>0) default).world.heap[0]?).bind Obj.row?).map (λx=>(x.1.size,x.2))=some (1,3):=by kernel_rfl
 cases hq:((begin Tryz.prog (λ_ _=>0) default).world.heap[0]?).bind Obj.row? with
 | none=>rw[hq]at h0; cases h0
 | some x=>
  rw[hq]at h0;simp only[Option.map_some,Zs,Prod.mk.injEq]at h0;obtain⟨hz,ht⟩:=h0;obtain⟨zero,t⟩:=x;simp only at hz ht;subst ht;have hg:0 < Tryz.prog.globals.size:=by decide+kernel
  obtain⟨cs,hh,hs,_⟩:=h.1 0 zero 3 hg hq;obtain⟨m,hm⟩:=cell_of_shapedOpen_int h hg hq hz (by kernel_rfl) (by kernel_rfl) Tryz.underlying3
  have h1:cs[0]?=some (.int .i64 m):=by
   have:=hm;simpa[World.cell?,hh]using this
  have:cs= #[.int .i64 m]:=by
   apply Array.ext_getElem?;intro i;cases i with
   | zero=>simpa using h1
   | succ i=>rw[Array.getElem?_eq_none (by omega),Array.getElem?_eq_none (by simp)]
  subst this;exact⟨m,_,_,hh⟩
theorem QoX {W:World} {cs:Array Value} {QbK:Nat} {p:List MemPlace} (hd:DataW.trod (λ_=>()) Tryz.prog W 0 (λ_=>true) false QbK 369 cs.toList=some (Rows.laid_internal_strconv_uint64pow10,p)):cs=(Lib.pow10Tab.map λz=>Value.int .u64 z).toArray:=by
 obtain⟨xs,m,_,ex,aI,hl,zF⟩:=DataW.trod_array Tryz.underlying369 hd;have c5:Tryz.prog.cellsOf 343=1:=by kernel_rfl
 have c6:Tryz.prog.cellsOf 369=20:=by kernel_rfl
 have e3:(xs.map (·.1))=Lib.pow10Tab.map λn=>(DataW.lit (.int .u64 n):DataW Unit):=(DataW.agg.inj (Prod.mk.inj ex).1).symm;have c7:=Lib.pow10Tab_length;apply Array.ext_getElem?;intro r;by_cases hr:r < 20
 .have hE:=zF r hr;rw[c5,Nat.mul_one,Zg (by omega)]at hE
  obtain⟨z,e1,e2,_⟩:=DataW.trod_int Tryz.underlying343 hE;have e4:(xs.map (·.1))[r]?=(Lib.pow10Tab.map λn=>(DataW.lit (.int .u64 n):DataW Unit))[r]?:=by rw[e3]
  rw[List.getElem?_map,List.getElem?_map,Zg (by omega:r < xs.length),Zg (by omega:r < Lib.pow10Tab.length),e2]at e4
  have hz:z=Lib.pow10Tab[r]'(by omega):=by
   simpa using e4
  have:cs.toList[r]?=some (.int .u64 z):=by
   have h0:((cs.toList.drop r).take 1)[0]?=some (.int .u64 z):=by rw[e1]; rfl
   simpa using h0
  rw[<-Array.getElem?_toList,this,hz];simp[c7,hr]
 .rw[Array.getElem?_eq_none (by rw[c6]at aI; simp at aI; omega),Array.getElem?_eq_none (by simp[c7]; omega)]
set_option maxRecDepth 100000 in
theorem QHB {W:World} (hS:W.ShapedOpen Tryz.prog) (h:laidMetH Tryz.prog Rows.topMadeRow.laid W):GlobIn (QqW W) W:=by
 rw[MakeChecks.laidMetH_plain _ _ _ (by kernel_rfl)]at h
 obtain⟨ps,⟨_,_,_,_,_,_,_,_,_,_,⟨_,_,_,_,_,_,_,_,_,_,⟨g1,t1,cs1,f1,p1,q1,eA,lX,s9,k9,⟨_,_,_,_,_,_,_,_,_,_,⟨g3,t3,cs3,f3,p3,q3,hg3,ht3,hv3,wQ,⟨g2,t2,cs2,f2,p2,q2,lS,sC,qV,kN,_⟩,_⟩,_⟩,_⟩,_⟩,_⟩,_,_⟩:=h;obtain rfl:=Option.some.inj ((show Tryz.prog.globalNamed "internal/strconv.uint64pow10" =some 1 by kernel_rfl).symm.trans eA)
 obtain rfl:=Option.some.inj ((show Tryz.prog.globalNamed "strconv.ErrRange" =some 3 by kernel_rfl).symm.trans hg3)
 obtain rfl:=Option.some.inj ((show Tryz.prog.globalNamed "strconv.ErrSyntax" =some 2 by kernel_rfl).symm.trans lS)
 obtain rfl:=Option.some.inj ((show(Tryz.prog.globals[1]?).map (·.type)=some 369 by kernel_rfl).symm.trans lX)
 obtain rfl:=Option.some.inj ((show(Tryz.prog.globals[3]?).map (·.type)=some 223 by kernel_rfl).symm.trans ht3)
 obtain rfl:=Option.some.inj ((show(Tryz.prog.globals[2]?).map (·.type)=some 223 by kernel_rfl).symm.trans sC)
 obtain⟨m0,ty0,fr0,b0⟩:=Qon hS;obtain⟨ty1,fr1,b1⟩:=QmX eA s9;obtain⟨ty3,fr3,b3⟩:=QmX hg3 hv3;obtain⟨ty2,fr2,b2⟩:=QmX lS qV;obtain⟨_,u3,v3,e3,_⟩:=iface_of_trod Tryz.underlying223 wQ;obtain⟨_,u2,v2,e2,_⟩:=iface_of_trod Tryz.underlying223 kN;have m6:=Array.eq_one_of_toList e3;have e2':=Array.eq_one_of_toList e2;have lt:∀{b:Nat} {o:Obj},W.heap[b]?=some o->b < W.heap.size:=λh=>(Zj.1 h).1;intro x hx;simp only[QLU,List.mem_cons,List.mem_nil_iff,or_false]at hx;rcases hx with rfl | rfl | rfl | rfl
 .exact⟨λ_=>lt b0,_,_,_,b0,by simp,m0,rfl⟩
 .exact⟨λ_=>lt b1,_,_,_,b1,by rw[QoX k9]; simp[Lib.pow10Tab_length],QoX k9⟩
 .exact⟨λ_=>lt b2,_,_,_,b2,by rw[e2']; simp,u2,v2,e2'⟩
 .exact⟨λ_=>lt b3,_,_,_,b3,by rw[m6]; simp,u3,v3,m6⟩
end Go.Proofs.YticoemblgkemiaaGreatDoor
namespace Go.Proofs.YticoemblgkemiaaGreatDoor
open Go Go.ChangeShapes Go.WideShapes Go.ChangeAt Go.RowKit
theorem ownK:ownKnob Tryz.prog.godebug=none:=by kernel_rfl
theorem Qti:laidOutB Tryz.prog=true:=by kernel_rfl
theorem QuT:Reads Tryz.prog 3 QH (λn=>(Lit.int .i64 n).wf=true):=QE2 Tryz.underlying3 (by kernel_rfl)
theorem QO0:Reads Tryz.prog 9 Qg0 (λs=>s.size<=reachBytes):=QHg Tryz.underlying9 (by kernel_rfl)
def rBoo:Row Bool:=⟨1,λb=>[DB b],λd=>match d with | [.v (.bool b)]=>some b | _=>none,λ_=>rfl,λd x h=>by
 split at h
 .cases h; exact LImp.refl _
 .cases h⟩
theorem QOk:Reads Tryz.prog 4 rBoo (λ_=>True):=by
 refine⟨by kernel_rfl,λenc w QbK cs d ps h hw=>?_⟩
 cases QbK with
 | zero=>simp[DataW.trod]at h
 | succ QbK=>
  simp only[DataW.trod,Tryz.underlying4]at h;obtain⟨b,rfl⟩:∃b,cs=[Value.bool b]:=by split at h<;>simp_all
  exact⟨b,trivial,rfl,⟨_,_,rfl,by simp[Rel],rfl⟩,by simp[Value.oneCell']⟩
theorem QHi:Reads Tryz.prog 147 Qce (λ_=>True):=(Qjl (P:=Tryz.prog) (t:=147) Qce (λx:Int×Int×Unit=>⟨x.1,x.2.1⟩) Tryz.underlying147 (QaV QuT rfl (QaV QuT rfl (Qf0 _))) (by kernel_rfl) rfl (λ_=>rfl)).mono λ_ _=>trivial
theorem QB5:Reads Tryz.prog 43 (QwY Qce) (λl=>l.length<=17592186044416):=
 (QhQ (P:=Tryz.prog) (t:=43) 8796093022207 (by omega) Tryz.underlying43 (by kernel_rfl) QHi (by decide) (λn hn=>by
  have hb:16<=Tryz.prog.bytesOf 147:=Zb (by kernel_rfl)
  have:n*16<=reachBytes:=Nat.le_trans (Nat.mul_le_mul_left _ hb) hn;unfold reachBytes at this; omega)).mono λl h=>by have:=h.2; omega
theorem QFj:Reads Tryz.prog 45 QQ (λb=>b.name.size<=reachBytes/\b.takes.length<=17592186044416):=(Qjl (P:=Tryz.prog) (t:=45) QQ (λx:ByteArray×Int×Int×Bool×List Tak×Unit=>⟨x.1,x.2.1,x.2.2.1,x.2.2.2.1,x.2.2.2.2.1⟩) Tryz.underlying45 (QaV QO0 rfl (QaV QuT rfl (QaV QuT rfl (QaV QOk rfl (QaV QB5 rfl (Qf0 _)))))) (by kernel_rfl) rfl (λ_=>rfl)).mono (by rintro _ ⟨x,rfl,h1,_,_,_,h2,_⟩; exact⟨h1,h2⟩)
theorem QAW:Reads Tryz.prog 22 (QwY QQ) Qc0:=
 (QhQ (P:=Tryz.prog) (t:=22) 2199023255551 (by omega) Tryz.underlying22 (by kernel_rfl) QFj (by decide) (λn hn=>by
  have hb:64<=Tryz.prog.bytesOf 45:=Zb (by kernel_rfl)
  have:n*64<=reachBytes:=Nat.le_trans (Nat.mul_le_mul_left _ hb) hn;unfold reachBytes at this; omega)).mono λl h=>by
 refine⟨?_,λx hx=>Nat.le_trans (h.1 x hx).1 (by decide),by have:=h.2; omega⟩
 unfold bkB;rw[Zl];intro x hx;exact decide_eq_true (h.1 x hx).2
theorem QOd:Reads Tryz.prog 5 (rK .u8) (λn=>(Lit.int .u8 n).wf=true):=Qqn Tryz.underlying5 (by kernel_rfl)
theorem wf8 {n:Int} (h:(Lit.int .u8 n).wf=true):Qpy n:=by
 have e:IntKind.u8.min=0:=by decide
 have e2:IntKind.u8.max=255:=by decide
 unfold Qpy;simpa only[Lit.wf,e,e2,Za,decide_eq_true_eq]using h
theorem QKQ:Reads Tryz.prog 72 (rK .u32) (λn=>(Lit.int .u32 n).wf=true):=Qqn Tryz.underlying72 (by kernel_rfl)
theorem wf32 {n:Int} (h:(Lit.int .u32 n).wf=true):0<=n/\n<=4294967295:=by
 have e:IntKind.u32.min=0:=by decide
 have e2:IntKind.u32.max=4294967295:=by decide
 simpa only[Lit.wf,e,e2,Za,decide_eq_true_eq]using h
theorem QGq:Reads Tryz.prog 26 (QwY (rK .u32)) Qlg:=
 (QhQ (P:=Tryz.prog) (t:=26) 140737488355328 (by omega) Tryz.underlying26 (by kernel_rfl) QKQ (by decide) (λn hn=>by
  have hb:1<=Tryz.prog.bytesOf 72:=Zb (by kernel_rfl)
  have:n*1<=reachBytes:=Nat.le_trans (Nat.mul_le_mul_left _ hb) hn;unfold reachBytes at this; omega)).mono λl h=>λx hx=>by have:=wf32 (h.1 x hx); omega
theorem QAK:Reads Tryz.prog 25 (QwY (rK .u8)) QMm:=
 (QhQ (P:=Tryz.prog) (t:=25) 140737488355328 (by omega) Tryz.underlying25 (by kernel_rfl) QOd (by decide) (λn hn=>by
  have hb:1<=Tryz.prog.bytesOf 5:=Zb (by kernel_rfl)
  have:n*1<=reachBytes:=Nat.le_trans (Nat.mul_le_mul_left _ hb) hn;unfold reachBytes at this; omega)).mono λl h=>λx hx=>wf8 (h.1 x hx)
theorem QHq:Reads Tryz.prog 24 Qo3 (λ_=>True):=(Qjl (P:=Tryz.prog) (t:=24) Qo3 (λx:Int×Int×Unit=>⟨x.1,x.2.1⟩) Tryz.underlying24 (QaV QuT rfl (QaV QuT rfl (Qf0 _))) (by kernel_rfl) rfl (λ_=>rfl)).mono λ_ _=>trivial
theorem QD1:Reads Tryz.prog 28 QHd (λx=>QMm x.ks/\Qlg x.cards):=(Qjl (P:=Tryz.prog) (t:=28) QHd (λx:Srt×List Int×List Int×Unit=>⟨x.1,x.2.1,x.2.2.1⟩) Tryz.underlying28 (QaV QHq rfl (QaV QAK rfl (QaV QGq rfl (Qf0 _)))) (by kernel_rfl) rfl (λ_=>rfl)).mono (by rintro _ ⟨x,rfl,_,h1,h2,_⟩; exact⟨h1,h2⟩)
theorem QBH (l:List Bat):(QJ QQ).dec ((QJ QQ).enc l)=some l:=Qbd QQ l _ rfl
noncomputable def QyZ (os:Os):World:=World.laidAll Tryz.prog os Rows.topMadeRow.laid
theorem Qzd (os:Os) (args:Array Value):laidMetH Tryz.prog Rows.topMadeRow.laid ((QyZ os).forCall (λ_ _=>0) ⟨#[],args,[]⟩).memory:=by
 rw[MakeChecks.laidMetH_plain _ _ _ (by kernel_rfl)]
 exact laidMet_laidAll _ (by kernel_rfl) (by kernel_rfl)
theorem QoL (os:Os) (args:Array Value):((QyZ os).forCall (λ_ _=>0) ⟨#[],args,[]⟩).Shaped Tryz.prog:=World.shaped_of_ZipB (by kernel_rfl) (by kernel_rfl)
theorem QqM {H:Type} {enc:TypeId×Value->H} {C:Checked} {os:Os} {f:FuncId} {fn:Func} {s:ChangeSpec} {rJ:List PathCond} {Qg6 fresh kY rL:Bool} {laid:List (String×DataW Unit)}
  (own:ownKnob C.prog.godebug=none) (d9:os.Started) (tN:C.prog.inits.idxOf? f=none) (fL:C.prog.funcs[f]?=some fn)
  (pQ:∃(w:World) (tape:Tape) (i:Input),w.os=os/\(w.forCall tape i).Shaped C.prog/\i.vars=[]/\Input.okWide C.prog (w.forCall tape i) .any w.heap.size f i/\
   ((s.pre enc C.prog fn rJ Qg6 (w.forCall tape i).memory i.args/\laidMetH C.prog laid (w.forCall tape i).memory)/\sizedMet enc C.prog fn (OpenSpec.ofChange s) Qg6 (w.forCall tape i).memory i.args)/\({} :Assume).holds C.prog (lone (Frame.enter C.prog f i.args .normal) [] (w.forCall tape i)))
  (walk:∀(W:World) (base:Nat) (args:Array Value) (ds gs:List (DataW H)) (iK:List MemPlace),
   (∀(j:Nat) t v,fn.params[j]?=some t->args[j]?=some v->Value.okWide C.prog W .any base t v)->
   DataW.Whole enc C.prog fn.params.toList s.vars Qg6 W args.toList ds gs iK->
   (DataW.weightsEach C.prog (fn.params.toList++s.plain.varTypes C.prog) (ds++gs)).all (· <=reachBytes)=true->
   W.ShapedOpen C.prog->laidMetH C.prog laid W->
   Calls C.prog f args W λe W'=>∃v,e= .returned v/\s.post enc C.prog fn Qg6 fresh kY rL W args v W'):
  ReturnsInHanded {} C os f .any (λw args=>(s.pre enc C.prog fn rJ Qg6 w args/\laidMetH C.prog laid w)/\sizedMet enc C.prog fn (OpenSpec.ofChange s) Qg6 w args) (s.post enc C.prog fn Qg6 fresh kY rL):=by
 refine returnsInHanded_of_calls own d9 tN pQ ?_;intro w tape i _ qE _ aP iG _;obtain⟨_,_,_,fn',hfn',_,_,_,_,pR⟩:=aP;cases Option.some.inj (hfn'.symm.trans fL);obtain⟨⟨⟨ds,gs,iK,hw,_⟩,hL⟩,hz⟩:=iG;refine(walk (w.forCall tape i) w.heap.size i.args ds gs iK pR (DataW.Whole.of_heap (w':=w.forCall tape i) (by rfl) hw) (hz.weights hw) qE (hL.of_heap (by rfl))).mono λe W' ⟨v,he,hp⟩=>?_
 subst he;exact ChangeSpec.post_blind hp
theorem QuQ {P:Program} {fn:Func} {l:List TypeId} (hp:fn.params=l.toArray) (hall:(l.all λu=>!P.wantsStandIn u)=true) (j:Nat) (t:TypeId) (ht:fn.params[j]?=some t):P.wantsStandIn t=false:=by
 rw[hp]at ht;have hm:t∈l:=by simpa using Array.mem_of_getElem? ht
 simpa using Zl.1 hall t hm
end Go.Proofs.YticoemblgkemiaaGreatDoor
