/-
  The plain machine for whole pieces of code. For any program. No program here.
-/
import Derived.Test.YticoemblgkemiaaGreatDoorZAmA
import Derived.LoopNIn
set_option linter.unusedSectionVars false
set_option linter.unusedSimpArgs false
set_option linter.unusedVariables false
namespace Go.Proofs.YticoemblgkemiaaGreatDoor
open Go.RowKit
inductive Cont where
 | cells (xs:List X)
 | map (mc:Nat×List (Value×Value))
structure Cx where
 Γ:Tys
 eqs:List (TypeId×Nat)
 Δ:Nat→List D→Option D
 N:Nat
 F:Nat
 kp:Nat→List (Nat×Option Nat)
 kb:List (Nat×Nat×Nat)
 Δe:Nat→List X→List Cont→List Nat→Option (D×List Cont×List Nat):=fun _ _ _ _=>none
 diff:Nat→List (Nat×Nat):=fun _=>[]
  /-- How a region that draws its order is looked at: as it is (0); its last operation, which waits for all others, may write (1); a count in a map that is raised (2). -/
 md:Nat→Nat:=fun _=>0
  /-- The types of the keys of maps, and of what kind the keys are. -/
 keys:List (TypeId×Nat):=[]
  /-- What the functions yield that loops go over. -/
 seq:Nat→List D→Option (List (List Value)):=fun _ _=>none
  /-- Which calls panic, and with what. -/
 Δp:Nat→List D→Option Value:=fun _ _=>none
  /-- Are panics looked for? -/
 pan:Bool:=false
  /-- The operations of a region that draws its order that may panic, and those that wait for each. -/
 pq:Nat→List (Nat×List Nat):=fun _=>[]
def Cx.step (c:Cx) (ops:List Oper) (i:Nat) (o:Oper) (σ:St):Option St:=
 match Qa5 ops σ o with
 | some true=>match aop c.Γ c.eqs c.Δ o.op σ.ev σ.boxes σ.toks with
  | some r=>σ.put c.N i o.dst r
  | none=>none
 | some false=>σ.put c.N i o.dst .skip
 | none=>none
def Cx.ops (c:Cx) (ops:List Oper):Nat→List Oper→St→Option St
 | _,[],σ=>some σ
 | i,o::t,σ=>match c.step ops i o σ with
  | some σ'=>c.ops ops (i+1) t σ'
  | none=>none
def Qai (o:Oper):Option Nat:=match o.op with | .alloc _=>o.dst | .box _ _=>o.dst | .makeSlice _ _ _=>o.dst | .makeMap _ _=>o.dst | .call c=>if Qoy c=true then o.dst else none | _=>none
def QR:List Oper→List Nat
 | []=>[]
 | o::t=>match Qai o with
  | some d=>d::QR t
  | none=>QR t
def Qcz:List Nat→Bool
 | []=>true
 | x::t=>!t.contains x&&Qcz t
def QdV (al:List Nat):List (Sum Nat D)→Bool
 | []=>true
 | .inl b::t=>!al.contains b&&QdV al t
 | .inr _::t=>QdV al t
def X.plain (al:List Nat):X→Bool
 | .fx _ _ caps=>QdV al caps
 | .loc b _=>!al.contains b
 | .bs b _ _ _=>!al.contains b
 | .mp b=>!al.contains b
 | .agb _=>false
 | .sl _ _ (.tok t)=>decide (t < 1000000)
 | .sl _ _ (.own t)=>decide (t < 1000000)
 | _=>true
def Qav (al:List Nat) (σ:St):Bool:=Qcz al&&al.all (fun d=>decide (d < 1000))&&σ.tmps.all (fun p=>p.2.plain al)&&σ.boxes.all (fun p=>!al.contains p.1&&p.2.all (fun x=>x.plain al))&&σ.maps.all (fun p=>!al.contains p.1)
def X.strip:X→X
 | .sl k rows .ex=> .d (.sl k rows)
 | .sl k rows (.tok _)=> .d (.sl k rows)
 | .sl _ _ (.own _)=> .d .top
 | .agz cs=> .d (.agg (cs.map Qlb))
 | .agb _=> .d .top
 | x=>x
def QbR (k name:Nat) (x:X) (av nw:List Nat):X×List Nat×List Nat:=
 match x with
 | .sl k' rows .ex=>if(k'==k||(rows.isEmpty&&decide (k < 1000)))&&!nw.contains name then(.sl k rows (.tok name),av,name::nw)else if(decide (1000≤k)&&rows.isEmpty)&&!nw.contains name then(.sl (k - 1000) [] (.own name),av,name::nw)else(.d (.sl k' rows),av,nw)
 | .sl k' rows (.own t)=>if(k'+1000==k&&av.any (fun z=>z==t))&&!nw.contains name then(.sl k' rows (.own name),av.filter (fun z=>z != t),name::nw)else(.d .top,av,nw)
 | .sl k' rows (.tok t)=>if(k'==k&&av.any (fun z=>z==t))&&!nw.contains name then(.sl k rows (.tok name),av.filter (fun z=>z != t),name::nw)else(.d (.sl k' rows),av,nw)
 | .agb _=>(.d .top,av,nw)
 | x=>(x,av,nw)
def X.hn:X→X
 | .d (.v (.slice none 0 0))=> .sl 0 [] .ex
 | x=>x
def QgF (k name:Nat) (x:X) (av nw:List Nat):X×List Nat×List Nat:=QbR k name x.hn av nw
def Qe8 (tmps:List (Nat×X)):List (Nat×Option Nat)→List Nat→List Nat→List (Nat×X)×List Nat×List Nat
 | [],av,nw=>([],av,nw)
 | (u,sv)::t,av,nw=>match Qt tmps u with
  | none=>Qe8 tmps t av nw
  | some x=>match sv with
   | none=>let r:=Qe8 tmps t av nw
    ((u,x.strip)::r.1,r.2)
   | some k=>let y:=QgF k u x av nw
    let r:=Qe8 tmps t y.2.1 y.2.2
    ((u,y.1)::r.1,r.2)
def Qeu (kb:List (Nat×Nat×Nat)) (b off:Nat):Option Nat:=
 match kb with
 | []=>none
 | (b',o',k)::t=>if b=b'∧off=o' then some k else Qeu t b off
def Qaz (kb:List (Nat×Nat×Nat)) (b:Nat):Nat→List X→List Nat→List Nat→List X×List Nat×List Nat
 | _,[],av,nw=>([],av,nw)
 | off,x::t,av,nw=>match Qeu kb b off with
  | none=>let r:=Qaz kb b (off+1) t av nw
   (x.strip::r.1,r.2)
  | some k=>let y:=QgF k (100000+100*b+off) x av nw
   let r:=Qaz kb b (off+1) t y.2.1 y.2.2
   (y.1::r.1,r.2)
def QgA (kb:List (Nat×Nat×Nat)) (boxes:List (Nat×List X)):List Nat→List Nat→List Nat→List (Nat×List X)×List Nat×List Nat
 | [],av,nw=>([],av,nw)
 | b::t,av,nw=>match Qt boxes b with
  | none=>QgA kb boxes t av nw
  | some cs=>let y:=Qaz kb b 0 cs av nw
   let r:=QgA kb boxes t y.2.1 y.2.2
   ((b,y.1)::r.1,r.2)
def Qif:List (Sum Nat D)→List Nat→List Nat
 | [],l=>l
 | .inl b::t,l=>if(Qif t l).contains b then Qif t l else b::Qif t l
 | .inr _::t,l=>Qif t l
def Qd8:List (Nat×X)→List Nat
 | []=>[]
 | (_,.fx _ _ caps)::t=>Qif caps (Qd8 t)
 | (_,.loc b _)::t=>if(Qd8 t).contains b then Qd8 t else b::Qd8 t
 | (_,.bs b _ _ _)::t=>if(Qd8 t).contains b then Qd8 t else b::Qd8 t
 | (_,.mp b)::t=>if(Qd8 t).contains b then Qd8 t else b::Qd8 t
 | _::t=>Qd8 t
def Qf5:List (Nat×List X)→List Nat→List Nat
 | [],l=>l
 | (b,_)::t,l=>if decide (1000≤b)&&!(Qf5 t l).contains b then b::Qf5 t l else Qf5 t l
def QIy:List (Nat×(Nat×List (Value×Value)))→List (Nat×(Nat×List (Value×Value)))
 | []=>[]
 | p::t=>p::(QIy t).filter (fun q=>q.1 != p.1)
theorem QgQ {α:Type} {k:Nat} :∀{l:List (Nat×α)} {i:Nat} {x:α},Qt (l.filter (fun q=>q.1 != k)) i=some x→i≠k∧Qt l i=some x
 | [],i,x,h=>by cases h
 | (j,y)::t,i,x,h=>by
  simp only[List.filter_cons]at h;split at h
  ·rename_i hj;simp only[Qt]at h⊢;split at h
   ·rename_i e; subst e; rw[if_pos rfl]; exact⟨by simpa using hj,h⟩
   ·rename_i e; rw[if_neg e]; exact QgQ h
  ·rename_i hj;obtain⟨h1,h2⟩:=QgQ h;simp only[Qt];have:j=k:=by simpa using hj
   rw[if_neg (by omega)]; exact⟨h1,h2⟩
theorem QyS:∀{l:List (Nat×(Nat×List (Value×Value)))} {i:Nat} {mc:Nat×List (Value×Value)},Qt (QIy l) i=some mc→Qt l i=some mc
 | [],i,mc,h=>by cases h
 | (j,y)::t,i,mc,h=>by
  simp only[QIy,Qt]at h⊢;split at h
  ·rename_i e; rw[if_pos e]; exact h
  ·rename_i e; rw[if_neg e]; exact QyS (QgQ h).2
def QoE:List (Nat×Nat×Nat)→List Nat
 | []=>[]
 | (b,o,_)::t=>if b=5000 then o::QoE t else QoE t
def Cx.close (c:Cx) (id:Nat) (σ:St):St:=
 let r:=Qe8 σ.tmps (c.kp id) σ.toks []
 let q:=QgA c.kb σ.boxes (Qf5 σ.boxes (Qd8 r.1)++QoE c.kb) r.2.1 r.2.2
 { tmps:=r.1,boxes:=q.1,toks:=q.2.2,maps:=QIy σ.maps}
def Qbj:Op→Option Nat
 | .load _ (.tmp u)=>some u
 | .store _ (.tmp u) _=>some u
 | _=>none
def QhL (ops:List Oper):List Nat:=ops.filterMap (·.dst)
def QMU:X→X→Bool
 | .loc b _,.loc b' _=>b != b'
 | .loc _ _,.d (.dat _ _ _ _)=>true
 | .d (.dat _ _ _ _),.loc _ _=>true
 | _,_=>false
def Qil (ops:List Oper) (σ:St):List (Nat×Nat)→Bool
 | []=>true
 | (i,j)::t=>(match(ops[i]?).bind (fun a=>Qbj a.op),(ops[j]?).bind (fun b=>Qbj b.op)with
  | some u,some v=>!(QhL (ops.drop i)).contains u&&!(QhL (ops.drop j)).contains v&&QMU (σ.ev (.tmp u)) (σ.ev (.tmp v))
  | _,_=>false)&&Qil ops σ t
def Cx.region (c:Cx) (id:Nat) (ops:List Oper) (σ:St):Option St:=
 if Qav (QR ops) σ then(match c.ops ops 0 ops σ with
  | some σ'=>if Qil ops σ' (c.diff id)then some (c.close id σ')else none
  | none=>none)else none
def Qmx:List Nat→Nat→Nat
 | [],_=>0
 | x::t,b=>if b=x then 0 else Qmx t b+1
def QEO (ls:List Nat):List (Sum Nat D)→List (Sum Nat D)
 | []=>[]
 | .inl b::t=> .inl (1000+Qmx ls b)::QEO ls t
 | .inr d::t=> .inr d::QEO ls t
def QBZ:Nat:=900000
def X.ren (ls:List Nat) (t0:Option Nat):X→X
 | .loc b o=> .loc (1000+Qmx ls b) o
 | .bs b o n k=> .bs (1000+Qmx ls b) o n k
 | .mp b=> .mp (1000+Qmx ls b)
 | .fx f first caps=> .fx f first (QEO ls caps)
 | .sl k rows (.own t)=>if t0=some t then .sl k rows (.own QBZ)else .d .top
 | x=>x.strip
def Cont.ren (ls:List Nat) (t0:Option Nat):Cont→Cont
 | .cells xs=> .cells (xs.map (X.ren ls t0))
 | .map mc=> .map mc
def QIc:Sum Nat D→X
 | .inl b=> .loc b 0
 | .inr d=> .d d
def QqL:X→List X→Option (Nat×List X)
 | .d (.v (.func (.func g) first caps)),xs=>if first.isEmpty&&caps.isEmpty then some (g,xs)else none
 | .d (.fn g pre post),xs=>some (g,pre.map .d++(xs++post.map .d))
 | .fx g pre caps,xs=>some (g,pre.map .d++(xs++caps.map QIc))
 | _,_=>none
def QdL:List X→List Nat
 | []=>[]
 | x::t=>x.locs++QdL t
def St.cont (σ:St) (b:Nat):Option Cont:=
 match Qt σ.boxes b with
 | some xs=>some (.cells xs)
 | none=>match Qt σ.maps b with
  | some mc=>some (.map mc)
  | none=>none
def Cont.locs:Cont→List Nat
 | .cells xs=>QdL xs
 | .map _=>[]
def QfB (σ:St):List Nat→Option (List Cont)
 | []=>some []
 | b::t=>match σ.cont b,QfB σ t with
  | some c,some r=>some (c::r)
  | _,_=>none
def Qiw:List Cont→List Nat
 | []=>[]
 | c::t=>c.locs++Qiw t
def QrG (ls:List Nat):List Nat→List Nat
 | []=>ls
 | x::t=>if ls.contains x then QrG ls t else QrG (ls++[x]) t
def Qip (σ:St):Nat→List Nat→List Nat
 | 0,ls=>ls
 | n+1,ls=>match QfB σ ls with
  | some cs=>Qip σ n (QrG ls (Qiw cs))
  | none=>ls
def X.ownT:X→Option Nat
 | .sl _ _ (.own t)=>some t
 | _=>none
def QuO (toks:List Nat):List X→Option Nat
 | []=>none
 | x::r=>match x.ownT with
  | some t=>if toks.any (fun z=>z==t)then some t else QuO toks r
  | none=>QuO toks r
def Qtd (toks:List Nat):List Cont→Option Nat
 | []=>none
 | .cells xs::r=>(match QuO toks xs with
  | some t=>some t
  | none=>Qtd toks r)
 | .map _::r=>Qtd toks r
def QPe:Option Nat→List Nat
 | none=>[]
 | some _=>[QBZ]
def QpX (ls:List Nat):List (Sum Nat D)→Option (List (Sum Nat D))
 | []=>some []
 | .inl b::t=>(match QpX ls t with
  | some r=>if 1000≤b∧b - 1000 < ls.length then some (.inl (ls.getD (b - 1000) 0)::r)else none
  | none=>none)
 | .inr d::t=>(match QpX ls t with
  | some r=>some (.inr d::r)
  | none=>none)
def X.back (ls:List Nat) (i:Nat) (tl:List Nat):X→X
 | .loc b o=>if 1000≤b∧b - 1000 < ls.length then .loc (ls.getD (b - 1000) 0) o else .d .top
 | .bs b o n k=>if 1000≤b∧b - 1000 < ls.length then .bs (ls.getD (b - 1000) 0) o n k else .d .top
 | .mp b=>if 1000≤b∧b - 1000 < ls.length then .mp (ls.getD (b - 1000) 0)else .d .top
 | .fx f first caps=>(match QpX ls caps with | some r=> .fx f first r | none=> .d .top)
 | .sl k rows (.own t)=>if tl=[t]then .sl k rows (.own (QaN i))else .d .top
 | x=>x.strip
def QBJ (ls:List Nat) (i:Nat) (tl:List Nat):List Nat→List Cont→List (Nat×List X)→List (Nat×List X)
 | b::t,.cells xs::ns,boxes=>(b,xs.map (X.back ls i tl))::QBJ ls i tl t ns boxes
 | _::t,.map _::ns,boxes=>QBJ ls i tl t ns boxes
 | _,_,boxes=>boxes
def QzF:List Nat→List Cont→List (Nat×(Nat×List (Value×Value)))→List (Nat×(Nat×List (Value×Value)))
 | _::t,.cells _::ns,ms=>QzF t ns ms
 | b::t,.map mc::ns,ms=>(b,mc)::QzF t ns ms
 | _,_,ms=>ms
def QiW:List Cont→List Cont→Bool
 | [],[]=>true
 | .cells a::t,.cells b::u=>a.length==b.length&&QiW t u
 | .map a::t,.map b::u=>a.1==b.1&&QiW t u
 | _,_=>false
def oneB:List Nat→Bool
 | []=>true
 | [_]=>true
 | _=>false
def Qgg (i:Nat) (tl toks:List Nat) (t0:Option Nat):List Nat:=
 (match tl with | []=>[] | _=>[QaN i])++(match t0 with | none=>toks | some t=>toks.filter (fun z=>z != t))
def Cx.effCall (c:Cx) (i:Nat) (dst:Option Nat) (f:X) (args:List X) (σ:St):Option St:=
 match QqL f args with
 | none=>none
 | some (g,xs)=>
  let ls:=Qip σ 3 (QrG [] (QdL xs))
  match QfB σ ls with
  | none=>none
  | some cs=>
   if(Qiw cs).all (fun b=>ls.contains b)then
    let t0:=Qtd σ.toks cs
    match c.Δe g (xs.map (X.ren ls none)) (cs.map (Cont.ren ls t0)) (QPe t0)with
    | none=>none
    | some (d,ns,tl)=>
     if Qh0 c.N dst&&QiW cs ns&&oneB tl then some { tmps:=Qlm σ.tmps dst (.d d),boxes:=QBJ ls i tl ls ns σ.boxes,toks:=Qgg i tl σ.toks t0,maps:=QzF ls ns σ.maps} else none
   else none
def X.key:X→Option Value
 | .d (.v x)=>some x
 | .d (.agg cs)=>(match Qc8 cs with
  | some vs=>some (.agg vs.toArray)
  | none=>none)
 | _=>none
def QII:Value→Bool
 | .int k n=>(Lit.int k n).wf
 | .bool _=>true
 | .string s=>decide (s.size≤maxLen)
 | _=>false
def QEP:Value→Bool
 | .agg cs=>cs.toList.all QII
 | v=>QII v
def Cx.mapAt (c:Cx) (T:TypeId) (m:X) (σ:St):Option (Nat×Nat×List (Value×Value)×TypeId×TyI):=
 match m with
 | .mp b=>(match Qt σ.maps b,c.Γ T with
  | some (sh,es),some i=>(match i.desc with
   | .map k e=>(match Qt c.keys k,c.Γ e with
    | some sh',some j=>if sh'=sh then some (b,sh,es,e,j)else none
    | _,_=>none)
   | _=>none)
  | _,_=>none)
 | _=>none
def Cx.lookup (c:Cx) (T:TypeId) (m k:X) (σ:St):Option Value:=
 match c.mapAt T m σ,k.key with
 | some (_,sh,es,_,j),some kv=>if shK kv=sh∧QEP kv=true∧j.agg=false then some ((QcG es kv).getD j.zero)else none
 | _,_=>none
def Cx.lookup2 (c:Cx) (T:TypeId) (m k:X) (σ:St):Option (Value×Bool):=
 match c.mapAt T m σ,k.key with
 | some (_,sh,es,_,j),some kv=>if shK kv=sh∧QEP kv=true∧j.agg=false then some ((QcG es kv).getD j.zero,(QcG es kv).isSome)else none
 | _,_=>none
def QmZ:Value→Bool
 | .int _ _=>true
 | .bool _=>true
 | .string _=>true
 | _=>false
def X.outD (boxes:List (Nat×List X)) (toks:List Nat):X→Option D
 | .sl k rows (.own t)=>if toks.any (fun z=>z==t)then some (.sl k rows)else none
 | x=>x.snap boxes
def X.dataO (toks:List Nat):X→Option D
 | .sl k rows (.own t)=>if toks.any (fun z=>z==t)then some (.sl k rows)else none
 | x=>x.data
def Qfa (toks:List Nat):List X→Option (List D)
 | []=>some []
 | x::t=>(match x.dataO toks,Qfa toks t with
  | some d,some r=>some (d::r)
  | _,_=>none)
def QhO (boxes:List (Nat×List X)) (toks:List Nat):List (Sum Nat D)→Option (List D)
 | []=>some []
 | .inr d::t=>(match QhO boxes toks t with | some ds=>some (d::ds) | none=>none)
 | .inl b::t=>(match Qt boxes b with
  | some cs=>(match Qfa toks cs with
   | some ds=>(match QhO boxes toks t with | some r=>some (.dat ds.length [ds] 0 0::r) | none=>none)
   | none=>none)
  | none=>none)
def X.snapO (boxes:List (Nat×List X)) (toks:List Nat):X→Option D
 | .fx f first caps=>(match QhO boxes toks caps with | some cs=>some (.fn f first cs) | none=>none)
 | x=>x.outD boxes toks
def QlN (boxes:List (Nat×List X)) (toks:List Nat):List X→Option (List D)
 | []=>some []
 | x::t=>(match x.snapO boxes toks,QlN boxes toks t with
  | some d,some r=>some (d::r)
  | _,_=>none)
def QHV (boxes:List (Nat×List X)) (toks:List Nat):X→Option (Nat×List D×List D)
 | .d (.v (.func (.func g) first caps))=>if first.isEmpty&&caps.isEmpty then some (g,[],[])else none
 | .d (.fn g pre post)=>some (g,pre,post)
 | .fx g pre caps=>(match QhO boxes toks caps with | some post=>some (g,pre,post) | none=>none)
 | _=>none
def Cx.ownCall (c:Cx) (dst:Option Nat) (f:X) (args:List X) (σ:St):Option St:=
 match QHV σ.boxes σ.toks f,QlN σ.boxes σ.toks args with
 | some (g,pre,post),some ds=>(match c.Δ g (pre++ds++post)with
  | some d=>if QxL d&&Qh0 c.N dst then some { σ with tmps:=Qlm σ.tmps dst (.d d)} else none
  | none=>none)
 | _,_=>none
def Cx.orOwn (c:Cx) (dst:Option Nat) (f:X) (args:List X) (σ:St):Option St→Option St
 | some s=>some s
 | none=>c.ownCall dst f args σ
theorem Ql2 (c:Cx) (dst:Option Nat) (f:X) (args:List X) (σ s:St):c.orOwn dst f args σ (some s)=some s:=rfl
theorem Qmg (c:Cx) (dst:Option Nat) (f:X) (args:List X) (σ:St):c.orOwn dst f args σ none=c.ownCall dst f args σ:=rfl
def Cx.eff (c:Cx) (i:Nat) (o:Oper) (σ:St):Option St:=
 match o.op with
 | .call cc=>(match cc.callee with
  | .value f=>c.orOwn o.dst (σ.ev f) (cc.args.toList.map σ.ev) σ (c.effCall i o.dst (σ.ev f) (cc.args.toList.map σ.ev) σ)
  | .builtin .len=>(match cc.args.toList,cc.argTypes.toList with
   | [x],[T]=>(match σ.ev x,c.Γ T with
    | .sl _ rows (.own t),some ti=>(match ti.elem with
     | some _=>if σ.toks.any (fun z=>z==t)&&Qh0 c.N o.dst then some { σ with tmps:=Qlm σ.tmps o.dst (.d (.v (.int .i64 rows.length)))} else none
     | none=>none)
    | _,_=>none)
   | _,_=>none)
  | .builtin .append=>(match cc.args.toList,cc.argTypes.toList with
   | [s,x],[T,T']=>(match σ.ev s,c.Γ T,(σ.ev x).rows with
    | .sl k rows (.own t),some ti,some (k',rows')=>(match ti.elem with
     | some e=>(match c.Γ e with
      | some j=>if T=T'∧0 < j.size∧k=j.size∧(rows'=[]∨k'=j.size)∧rows.length+rows'.length≤140737488355328∧(rows.length+rows'.length)*j.bytes≤140737488355328∧σ.toks.any (fun z=>z==t)=true∧Qh0 c.N o.dst=true then
        some { σ with tmps:=Qlm σ.tmps o.dst (.sl k (rows++rows') (.own (QaN i))),toks:=Qb5 σ.toks (some t) (QaN i)} else none
      | none=>none)
     | none=>none)
    | _,_,_=>none)
   | _,_=>none)
  | _=>none)
 | .slice T x lo hi none=>(match σ.ev x,c.Γ T with
  | .sl k rows (.own t),some ti=>(match ti.elem with
   | some e=>(match c.Γ e,QdR (lo.map σ.ev) 0,QdR (hi.map σ.ev) rows.length with
    | some j,some l,some h=>if l=0∧0≤h∧h≤rows.length∧j.size=k∧σ.toks.any (fun z=>z==t)=true∧Qh0 c.N o.dst=true then
      some { σ with tmps:=Qlm σ.tmps o.dst (.sl k (rows.take h.toNat) (.own (QaN i))),toks:=Qb5 σ.toks (some t) (QaN i)} else none
    | _,_,_=>none)
   | none=>none)
  | _,_=>none)
 | .lookup T m k false=>(match c.lookup T (σ.ev m) (σ.ev k) σ with
  | some v=>if QmZ v&&Qh0 c.N o.dst then some { σ with tmps:=Qlm σ.tmps o.dst (.d (.v v))} else none
  | none=>none)
 | .lookup T m k true=>(match c.lookup2 T (σ.ev m) (σ.ev k) σ with
  | some (v,b)=>if QmZ v&&Qh0 c.N o.dst then some { σ with tmps:=Qlm σ.tmps o.dst (.d (.tup [.v v,.v (.bool b)]))} else none
  | none=>none)
 | .mapUpdate T m k x=>(match c.mapAt T (σ.ev m) σ,(σ.ev k).key,σ.ev x with
  | some (b,sh,es,_,_),some kv,.d (.v val)=>if shK kv=sh∧QEP kv=true∧QmZ val=true∧o.dst=none then some { σ with maps:=(b,(sh,(kv,val)::es))::σ.maps} else none
  | _,_,_=>none)
 | .makeMap T none=>(match c.Γ T,o.dst with
  | some ti,some d=>(match ti.desc with
   | .map k _=>(match Qt c.keys k with
    | some sh=>if d < c.N∧(Qt σ.boxes d).isNone=true then some { σ with tmps:=(d,.mp d)::σ.tmps,maps:=(d,(sh,[]))::σ.maps} else none
    | none=>none)
   | _=>none)
  | _,_=>none)
 | _=>none
def Cx.stepE (c:Cx) (ops:List Oper) (i:Nat) (o:Oper) (σ:St):Option St:=
 match c.step ops i o σ with
 | some σ'=>some σ'
 | none=>match Qa5 ops σ o with
  | some true=>c.eff i o σ
  | _=>none
def Cx.opsE (c:Cx) (ops:List Oper):Nat→List Oper→St→Option St
 | _,[],σ=>some σ
 | i,o::t,σ=>match c.stepE ops i o σ with
  | some σ'=>c.opsE ops (i+1) t σ'
  | none=>none
def Cx.regionE (c:Cx) (id:Nat) (ops:List Oper) (σ:St):Option St:=
 if Qav (QR ops) σ then(match c.opsE ops 0 ops σ with
  | some σ'=>some (c.close id σ')
  | none=>none)else none
def Cx.regionL (c:Cx) (id:Nat) (ops:List Oper) (σ:St):Option St:=
 let pr:=ops.take (ops.length - 1)
 if Qav (QR pr) σ then(match c.ops pr 0 pr σ with
  | some σ'=>if Qil pr σ' (c.diff id)then(match ops.drop (ops.length - 1)with
   | [o]=>(match o.guard,Qai o with
    | none,none=>(match c.eff (ops.length - 1) o σ' with
     | some σ''=>some (c.close id σ'')
     | none=>none)
    | _,_=>none)
   | _=>none)else none
  | none=>none)else none
structure IncI where
 T:TypeId
 m:Nat
 k:Nat
 dl:Nat
 da:Nat
 de:Nat
 dx:Nat
 ti:TypeId
def QXb:List Oper→Option IncI
 | [⟨some dl,.lookup T (.tmp m) (.tmp k) false,_,_,_,none⟩,⟨some da,.binOp .add ti (.tmp dl') (.const (.int .i64 1)) _,_,_,_,none⟩,⟨some de,.mapEntry T' (.tmp m') (.tmp k'),_,_,_,none⟩,⟨some dx,.extract (.tmp de') 1,_,_,_,none⟩,⟨none,.entryStore T'' (.tmp m'') (.tmp dx') (.tmp da'),_,_,_,none⟩]=>
  if(dl'=dl∧de'=de∧dx'=dx∧da'=da)∧(T'=T∧T''=T∧m'=m∧m''=m∧k'=k)∧Qcz [dl,da,de,dx]=true∧[dl,da,de,dx].contains m=false∧[dl,da,de,dx].contains k=false then some ⟨T,m,k,dl,da,de,dx,ti⟩else none
 | _=>none
def tops (q:IncI) (t:List (Nat×X)):List (Nat×X):=(q.dl,.d .top)::(q.da,.d .top)::(q.de,.d .top)::(q.dx,.d .top)::t
def Cx.regionI (c:Cx) (id:Nat) (ops:List Oper) (σ:St):Option St:=
 let pr:=ops.take (ops.length - 5)
 if Qav (QR pr) σ then(match c.ops pr 0 pr σ with
  | some σ'=>if Qil pr σ' (c.diff id)then(match QXb (ops.drop (ops.length - 5))with
   | some q=>(match c.mapAt q.T (σ'.ev (.tmp q.m)) σ',(σ'.ev (.tmp q.k)).key,c.lookup q.T (σ'.ev (.tmp q.m)) (σ'.ev (.tmp q.k)) σ' with
    | some (b,sh,es,_,_),some kv,some (.int .i64 n)=>if q.dl < c.N∧q.da < c.N∧q.de < c.N∧q.dx < c.N then some (c.close id { tmps:=tops q σ'.tmps,boxes:=σ'.boxes,toks:=σ'.toks,maps:=(b,(sh,(kv,.int .i64 (IntKind.i64.wrap (n+1)))::es))::σ'.maps})else none
    | _,_,_=>none)
   | none=>none)else none
  | none=>none)else none
def idO:Oper:= { dst:=none,op:= .move (.const (.bool true)),type:=0,pos:= "",after:= #[],guard:=none}
def QR5 (k:Nat) (ops:List Oper):List Oper:=List.replicate k idO++ops.drop k
def Cx.regionS (c:Cx) (id m:Nat) (ops:List Oper) (σ:St):Option St:=
 let pr:=ops.take m
 if Qav (QR pr) σ then(match c.ops pr 0 pr σ with
  | some σ1=>if Qil pr σ1 (c.diff id)then(match ops.drop m with
   | o::rest=>(match o.guard,Qai o with
    | none,none=>(match c.eff m o σ1 with
     | some σ2=>if Qav (QR rest) σ2 then(match c.ops (QR5 (m+1) ops) (m+1) rest σ2 with
      | some σ3=>some (c.close id σ3)
      | none=>none)else none
     | none=>none)
    | _,_=>none)
   | _=>none)else none
  | none=>none)else none
def Cx.regionC (c:Cx) (id m:Nat) (ops:List Oper) (σ:St):Option St:=
 if Qav (QR (ops.take m)) σ then(match c.ops (ops.take m) 0 (ops.take m) σ with
  | some σ1=>if Qil (ops.take m) σ1 (c.diff id)then(match c.opsE ops m (ops.drop m) σ1 with
   | some σ2=>some (c.close id σ2)
   | none=>none)else none
  | none=>none)else none
inductive AEx where
 | normal
 | exit (id:Nat)
 | ret
 | pan (v:Value)
def Cx.panF (c:Cx) (f:X) (args:List X):Option Value:=
 match f with
 | .d (.v (.func (.func g) first caps))=>if first.isEmpty&&caps.isEmpty then(match Qbp args with
  | some ds=>c.Δp g ds
  | none=>none)else none
 | _=>none
def Cx.panAt (c:Cx) (o:Oper) (σ:St):Option Value:=
 match o.op with
 | .call cc=>(match cc.callee with
  | .value f=>c.panF (σ.ev f) (cc.args.toList.map σ.ev)
  | _=>none)
 | _=>none
def Cx.runP (c:Cx) (id:Nat) (ops:List Oper):Nat→List Oper→St→Option (AEx×St)
 | _,[],σ=>some (.normal,c.close id σ)
 | i,o::t,σ=>match c.stepE ops i o σ with
  | some σ'=>c.runP id ops (i+1) t σ'
  | none=>(match Qa5 ops σ o with
   | some true=>(match c.panAt o σ with
    | some v=>some (.pan v,σ)
    | none=>none)
   | _=>none)
def qT (L:List (Nat×Nat×X)) (t0:List (Nat×X)):List (Nat×X):=L.map (fun p=>p.2)++t0
def Qfi (ds:List Nat):List (Nat×X)→List (Nat×X)
 | []=>[]
 | (u,x)::t=>if ds.contains u then Qfi ds t else(u,x)::Qfi ds t
def QzR:Res→Option X
 | .q x=>some x
 | .got d=>some (.d d)
 | .lay k rows=>some (.sl k rows .ex)
 | .new _=>some (.d .top)
 | _=>none
def Cx.opsQ (c:Cx) (σ:St) (t0:List (Nat×X)) (p:Nat) (bh:List Nat):Nat→List Oper→List (Nat×Nat×X)→Option (List (Nat×Nat×X))
 | _,[],L=>some L
 | j,o::t,L=>if(j==p||bh.contains j)=true then c.opsQ σ t0 p bh (j+1) t L else
  (match aop c.Γ c.eqs c.Δ o.op ({ σ with tmps:=qT L t0} :St).ev σ.boxes σ.toks,o.dst with
  | some r,some d=>if Qh0 c.N (some d)then(match QzR r with
   | some x=>c.opsQ σ t0 p bh (j+1) t ((j,d,x)::L)
   | none=>none)else none
  | _,_=>none)
def Qfm (bh:List Nat):Nat→List Oper→List Nat
 | _,[]=>[]
 | j,o::t=>if bh.contains j=true then Qfm bh (j+1) t else(match o.dst with
  | some d=>d::Qfm bh (j+1) t
  | none=>Qfm bh (j+1) t)
def Cx.oneQ (c:Cx) (ops:List Oper) (p:Nat) (bh:List Nat) (σ:St):Option Value:=
 if Qav (QR ops) σ then(match c.opsQ σ (Qfi (Qfm bh 0 ops) σ.tmps) p bh 0 ops [],ops[p]? with
  | some L,some o=>c.panAt o { σ with tmps:=qT L (Qfi (Qfm bh 0 ops) σ.tmps)}
  | _,_=>none)else none
def Cx.tryQ (c:Cx) (ops:List Oper) (σ:St):List (Nat×List Nat)→Option (AEx×St)
 | []=>none
 | (p,bh)::t=>match c.oneQ ops p bh σ with
  | some v=>some (.pan v,{ σ with tmps:=Qfi (QhL ops) σ.tmps})
  | none=>c.tryQ ops σ t
def iter (f:St→Option (AEx×St)):Nat→St→Option (AEx×St)
 | 0,_=>none
 | n+1,σ=>match f σ with
  | some (.normal,σ')=>iter f n σ'
  | r=>r
def Cx.regionD (c:Cx) (id:Nat) (ops:List Oper) (σ:St):Option St:=
 match c.md id with
 | 0=>c.region id ops σ
 | 1=>c.regionL id ops σ
 | 2=>c.regionI id ops σ
 | m+3=>if 997≤m then c.regionC id (m - 997) ops σ else c.regionS id m ops σ
def Cx.iterOf (c:Cx):X→Option (List (List Value))
 | .d (.fn gf [] caps)=>c.seq gf caps
 | _=>none
def Qva:List Nat→List Value→List (Nat×X)
 | p::t,v::u=>(p,Qle v)::Qva t u
 | _,_=>[]
def QF:Code→List Nat
 | .region _ ops _=>QR ops.toList
 | .seq a b=>QF a++QF b
 | .cond _ a b=>QF a++QF b
 | .block _ a=>QF a
 | .loop a=>QF a
 | .scope a=>QF a
 | .rangeFunc _ _ a b=>QF a++QF b
 | _=>[]
def X.keepP (al:List Nat) (x:X):X:=if x.plain al then x else .d .top
def Qut (al:List Nat):List (Nat×List X)→List (Nat×List X)
 | []=>[]
 | (b,cs)::t=>if al.contains b then Qut al t else(b,cs.map (X.keepP al))::Qut al t
def QtQ (al:List Nat):List (Nat×(Nat×List (Value×Value)))→List (Nat×(Nat×List (Value×Value)))
 | []=>[]
 | (b,mc)::t=>if al.contains b then QtQ al t else(b,mc)::QtQ al t
def Qds (al:List Nat):List (Nat×X)→List (Nat×X)
 | []=>[]
 | (t,x)::r=>(t,(x.strip).keepP al)::Qds al r
def QcH (al:List Nat) (t0:List (Nat×X)) (σ:St):St:= { tmps:=t0,boxes:=Qut al σ.boxes,toks:=σ.toks,maps:=QtQ al σ.maps}
def Qe1 (fa fb:St→Option (AEx×St)) (ps al:List Nat) (t0:List (Nat×X)):List (List Value)→St→Option (AEx×St)
 | [],σ=>some (.normal,σ)
 | xs::r,σ=>if xs.length=ps.length then(match fa { σ with tmps:=Qva ps xs++t0} with
  | some (.normal,σ1)=>(match fb σ1 with
   | some (.normal,σ2)=>Qe1 fa fb ps al t0 r (QcH al t0 σ2)
   | some (.pan _,_)=>none
   | some (e,σ2)=>some (e,QcH al t0 σ2)
   | none=>none)
  | _=>none)else none
def Cx.code (c:Cx):Code→St→Option (AEx×St)
 | .skip,σ=>some (.normal,σ)
 | .label _,σ=>some (.normal,σ)
 | .region id ops true,σ=>(match c.regionD id ops.toList σ with
  | some σ'=>some (.normal,σ')
  | none=>if c.pan then c.tryQ ops.toList σ (c.pq id)else none)
 | .region id ops false,σ=>if c.pan then(if Qav (QR ops.toList) σ then c.runP id ops.toList 0 ops.toList σ else none)else(match c.regionE id ops.toList σ with
  | some σ'=>some (.normal,σ')
  | none=>none)
 | .seq a b,σ=>match c.code a σ with
  | some (.normal,σ')=>c.code b σ'
  | r=>r
 | .cond x a b,σ=>match σ.ev x with
  | .d (.v (.bool t))=>match t with
   | true=>c.code a σ
   | false=>c.code b σ
  | _=>none
 | .block id a,σ=>match c.code a σ with
  | some (.exit j,σ')=>if j=id then some (.normal,σ')else some (.exit j,σ')
  | r=>r
 | .loop a,σ=>iter (c.code a) c.F σ
 | .exit id,σ=>some (.exit id,σ)
 | .scope a,σ=>c.code a σ
 | .ret,σ=>some (.ret,σ)
 | .rangeFunc g ps a b,σ=>(match c.iterOf (σ.ev g)with
  | some l=>if Qcz ps.toList&&ps.toList.all (fun p=>decide (p < c.N))then Qe1 (c.code a) (c.code b) ps.toList (QF a++QF b) (Qds (QF a++QF b) σ.tmps) l (QcH (QF a++QF b) (Qds (QF a++QF b) σ.tmps) σ)else none
  | none=>none)
 | _,_=>none
section
variable {N:Nat} {m0:Nat→Nat→Prop} {w0:Base} {g g':Gh} {σ:St} {a:Act} {w:World} {base:Nat}
structure Cl (g:Gh) (toks:List Nat) (g':Gh) (av nw:List Nat):Prop where
 imm:g'.imm=g.imm
 box:g'.box=g.box
 used:∀s,g'.used s→s∈nw
 tok:∀s b,g'.tok s=some b→s∈nw∧∃t,g.tok t=some b∧t∉av
 inj:∀s t b,g'.tok s=some b→g'.tok t=some b→s=t
 sub:∀t∈av,t∈toks
theorem Tr.refl (g:Gh) (w:World) (toks:List Nat):Tr g w toks g w toks:=⟨ExtM.refl _ _,fun _ _ h=>h,fun _ h=>h,fun t _ h=>⟨h,fun b hb=>⟨hb,fun _ h=>h,rfl⟩⟩⟩
theorem Tr.trans {g g' g'':Gh} {w w' w'':World} {a b c:List Nat} (h:Tr g w a g' w' b) (k:Tr g' w' b g'' w'' c):Tr g w a g'' w'' c:=
 ⟨h.ext.trans k.ext,fun i b x=>k.box i b (h.box i b x),fun t x=>k.used t (h.used t x),fun t x y=>by
  obtain⟨k1,k2⟩:=k.tok t (h.used t x) y;obtain⟨h1,h2⟩:=h.tok t x k1;refine⟨h1,fun b hb=>?_⟩;obtain⟨p1,p2,p3⟩:=h2 b hb;obtain⟨q1,q2,q3⟩:=k2 b p1;exact⟨q1,fun x hx=>p2 x (q2 x hx),q3.trans p3⟩⟩
theorem QhF (hi:g'.imm=g.imm) (hb:g'.box=g.box):∀{caps:List (Sum Nat D)} {vs:List Value},CapsR g w caps vs→CapsR g' w caps vs
 | [],_,h=>h
 | .inl b::t,vs,h=>by
  simp only[CapsR]at h⊢;obtain⟨v,vt,h1,⟨blk,h2,h3⟩,h4⟩:=h;exact⟨v,vt,h1,⟨blk,by rw[hb]; exact h2,h3⟩,QhF hi hb h4⟩
 | .inr d::t,vs,h=>by
  simp only[CapsR]at h⊢;obtain⟨v,vt,h1,h2,h4⟩:=h;exact⟨v,vt,h1,by rw[hi]; exact h2,QhF hi hb h4⟩
theorem Qhb {toks nw:List Nat} {x:X} {v:Value} (hi:g'.imm=g.imm) (hb:g'.box=g.box) (h:RelX g w base toks x v):RelX g' w base nw x.strip v:=by
 cases x with
 | d y=>simp only[X.strip,RelX]at h⊢; rw[hi]; exact h
 | agz cs=>simp only[X.strip,RelX]at h⊢; rw[hi]; exact QfH h
 | fx f a caps=>
  simp only[X.strip,RelX]at h⊢;obtain⟨fs,cs,h1,h2,h3⟩:=h;exact⟨fs,cs,h1,by rw[hi]; exact h2,QhF hi hb h3⟩
 | loc b o=>simp only[X.strip,RelX]at h⊢; rw[hb]; exact h
 | bs b o n k=>simp only[X.strip,RelX]at h⊢; rw[hb]; exact h
 | mp b=>simp only[X.strip,RelX]at h⊢; rw[hb]; exact h
 | agb cs=>simp only[X.strip,RelX,Rel]
 | sl k rows own=>
  cases own with
  | own t=>simp only[X.strip,RelX,Rel]
  | _=>
   have:Rel g.imm w (.sl k rows) v:=h.1;simp only[X.strip,RelX]; rw[hi]; exact this
theorem QqI (hinj:∀s t b,g.tok s=some b→g.tok t=some b→s=t) {toks:List Nat} (k name:Nat) (x:X) {av nw:List Nat} (C:Cl g toks g' av nw):
  ∃g'',Cl g toks g'' (QbR k name x av nw).2.1 (QbR k name x av nw).2.2∧Tr g' w nw g'' w (QbR k name x av nw).2.2∧∀v,RelX g w base toks x v→RelX g'' w base (QbR k name x av nw).2.2 (QbR k name x av nw).1 v:=by
 cases x with
 | d y=>exact⟨g',C,Tr.refl _ _ _,fun v h=>by simp only[QbR,RelX]at h⊢; rw[C.imm]; exact h⟩
 | agz cs=>exact⟨g',C,Tr.refl _ _ _,fun v h=>by simp only[QbR,RelX]at h⊢; rw[C.imm]; exact h⟩
 | fx f a caps=>
  exact⟨g',C,Tr.refl _ _ _,fun v h=>by
   simp only[QbR,RelX]at h⊢;obtain⟨fs,cs,h1,h2,h3⟩:=h;exact⟨fs,cs,h1,by rw[C.imm]; exact h2,QhF C.imm C.box h3⟩⟩
 | loc b o=>exact⟨g',C,Tr.refl _ _ _,fun v h=>by simp only[QbR,RelX]at h⊢; rw[C.box]; exact h⟩
 | bs b o n k=>exact⟨g',C,Tr.refl _ _ _,fun v h=>by simp only[QbR,RelX]at h⊢; rw[C.box]; exact h⟩
 | mp b=>exact⟨g',C,Tr.refl _ _ _,fun v h=>by simp only[QbR,RelX]at h⊢; rw[C.box]; exact h⟩
 | agb cs=>exact⟨g',C,Tr.refl _ _ _,fun v h=>by simp only[QbR,RelX,Rel]⟩
 | sl k' rows own=>
  cases own with
  | ex=>
   simp only[QbR];split
   ·rename_i hc;simp only[Bool.and_eq_true,Bool.or_eq_true,beq_iff_eq,List.isEmpty_iff,Bool.not_eq_true',List.contains_eq_mem,decide_eq_false_iff_not]at hc;obtain⟨hk,hnm⟩:=hc;have hk:=hk.imp_right And.left;refine⟨{ g' with used:=fun s=>g'.used s∨s=name},⟨C.imm,C.box,fun s hs=>?_,fun s b hb=>?_,C.inj,C.sub⟩,⟨⟨fun _ _ h=>h,fun _ _ _=>rfl⟩,fun _ _ h=>h,fun _ h=> .inl h,fun s hs _=>⟨C.used s hs,fun b hb=>⟨hb,fun _ h=>h,rfl⟩⟩⟩,fun v h=>⟨?_,.inr rfl,fun _=>?_⟩⟩
    ·rcases hs with hs | hs
     ·exact List.mem_cons_of_mem _ (C.used s hs)
     ·rw[hs]; simp
    ·exact⟨List.mem_cons_of_mem _ (C.tok s b hb).1,(C.tok s b hb).2⟩
    ·have h1:=h.1;simp only[Rel]at h1⊢;obtain⟨l0,ad,c,hv,hlc,hr⟩:=h1;refine⟨l0,ad,c,hv,hlc,hr.imp id ?_⟩;rintro⟨b,o,h2,h3⟩;refine⟨b,o,h2,?_⟩;rcases hk with rfl | rfl
     ·rw[C.imm]; exact h3
     ·simp[RelRows]
    ·obtain⟨ad,hv⟩:=h.2;exact⟨ad,rows.length,hv,.inl rfl⟩
   ·split
    ·rename_i hc;simp only[Bool.and_eq_true,decide_eq_true_eq,List.isEmpty_iff,Bool.not_eq_true',List.contains_eq_mem,decide_eq_false_iff_not]at hc;obtain⟨⟨_,rfl⟩,hnm⟩:=hc;refine⟨{ g' with used:=fun s=>g'.used s∨s=name},⟨C.imm,C.box,fun s hs=>?_,fun s b hb=>?_,C.inj,C.sub⟩,⟨⟨fun _ _ h=>h,fun _ _ _=>rfl⟩,fun _ _ h=>h,fun _ h=> .inl h,fun s hs _=>⟨C.used s hs,fun b hb=>⟨hb,fun _ h=>h,rfl⟩⟩⟩,fun v h=>?_⟩
     ·rcases hs with hs | hs
      ·exact List.mem_cons_of_mem _ (C.used s hs)
      ·rw[hs]; simp
     ·exact⟨List.mem_cons_of_mem _ (C.tok s b hb).1,(C.tok s b hb).2⟩
     ·obtain⟨ad,hv⟩:=h.2;exact⟨⟨ad,0,0,hv⟩,.inr rfl,fun _=>⟨ad,0,hv,Nat.le_refl _,by simp,.inl ⟨rfl,rfl⟩⟩⟩
    ·exact⟨g',C,Tr.refl _ _ _,fun v h=>by simp only[RelX]; rw[C.imm]; exact h.1⟩
  | own t=>
   simp only[QbR];split
   ·rename_i hc;simp only[Bool.and_eq_true,beq_iff_eq,List.any_eq_true,Bool.not_eq_true',List.contains_eq_mem,decide_eq_false_iff_not]at hc;obtain⟨⟨hk,hav⟩,hnm⟩:=hc;have hta:t∈av:=by obtain⟨z,hz,hz2⟩:=hav; rw[←hz2]; exact hz
    have hnt:∀b,g'.tok name≠some b:=fun b h'=>hnm (C.tok name b h').1;refine⟨{ g' with tok:=fun s=>if s=name then g.tok t else g'.tok s,used:=fun s=>g'.used s∨s=name},⟨C.imm,C.box,fun s hs=>?_,fun s b hb=>?_,fun s u b hs hu=>?_,fun z hz=>C.sub z (List.mem_filter.1 hz).1⟩,⟨⟨fun _ _ h=>h,fun _ _ _=>rfl⟩,fun _ _ h=>h,fun _ h=> .inl h,fun s hs _=>⟨C.used s hs,fun b hb=>⟨?_,fun _ h=>h,rfl⟩⟩⟩,fun v h=>⟨h.1,.inr rfl,fun _=>?_⟩⟩
    ·rcases hs with hs | hs
     ·exact List.mem_cons_of_mem _ (C.used s hs)
     ·rw[hs]; simp
    ·simp only at hb;by_cases hsn:s=name
     ·rw[if_pos hsn]at hb;refine⟨by rw[hsn]; simp,t,hb,fun hm=>?_⟩
      have:=(List.mem_filter.1 hm).2;simp at this
     ·rw[if_neg hsn]at hb;obtain⟨c1,t',c2,c3⟩:=C.tok s b hb;exact⟨List.mem_cons_of_mem _ c1,t',c2,fun hm=>c3 (List.mem_filter.1 hm).1⟩
    ·simp only at hs hu;by_cases h1:s=name<;>by_cases h2:u=name
     ·rw[h1,h2]
     ·rw[if_pos h1]at hs; rw[if_neg h2]at hu;obtain⟨_,t',c2,c3⟩:=C.tok u b hu;exact absurd (hinj t' t b c2 hs ▸ hta) c3
     ·rw[if_neg h1]at hs; rw[if_pos h2]at hu;obtain⟨_,t',c2,c3⟩:=C.tok s b hs;exact absurd (hinj t' t b c2 hu ▸ hta) c3
     ·rw[if_neg h1]at hs; rw[if_neg h2]at hu;exact C.inj s u b hs hu
    ·show(if s=name then g.tok t else g'.tok s)=some b;rw[if_neg (fun e:s=name=>hnt b (by rw[←e]; exact hb))]; exact hb
    ·obtain⟨ad,c,hv,h0,h1,hh⟩:=h.2.2 (C.sub t hta);refine⟨ad,c,hv,h0,h1,hh.imp id ?_⟩;rintro⟨b,o,q1,q2,q4,q5⟩;exact⟨b,o,by simpa using q1,q2,by rw[C.imm]; exact q4,by rw[C.imm]; exact q5⟩
   ·exact⟨g',C,Tr.refl _ _ _,fun v h=>by simp only[RelX,Rel]⟩
  | tok t=>
   simp only[QbR];split
   ·rename_i hc;simp only[Bool.and_eq_true,beq_iff_eq,List.any_eq_true,Bool.not_eq_true',List.contains_eq_mem,decide_eq_false_iff_not]at hc;obtain⟨⟨hk,hav⟩,hnm⟩:=hc;subst hk;have hta:t∈av:=by obtain⟨z,hz,hz2⟩:=hav; rw[←hz2]; exact hz
    have hnt:∀b,g'.tok name≠some b:=fun b h'=>hnm (C.tok name b h').1;refine⟨{ g' with tok:=fun s=>if s=name then g.tok t else g'.tok s,used:=fun s=>g'.used s∨s=name},⟨C.imm,C.box,fun s hs=>?_,fun s b hb=>?_,fun s u b hs hu=>?_,fun z hz=>C.sub z (List.mem_filter.1 hz).1⟩,⟨⟨fun _ _ h=>h,fun _ _ _=>rfl⟩,fun _ _ h=>h,fun _ h=> .inl h,fun s hs _=>⟨C.used s hs,fun b hb=>⟨?_,fun _ h=>h,rfl⟩⟩⟩,fun v h=>⟨?_,.inr rfl,fun _=>?_⟩⟩
    ·rcases hs with hs | hs
     ·exact List.mem_cons_of_mem _ (C.used s hs)
     ·rw[hs]; simp
    ·simp only at hb;by_cases hsn:s=name
     ·rw[if_pos hsn]at hb;refine⟨by rw[hsn]; simp,t,hb,fun hm=>?_⟩
      have:=(List.mem_filter.1 hm).2;simp at this
     ·rw[if_neg hsn]at hb;obtain⟨c1,t',c2,c3⟩:=C.tok s b hb;exact⟨List.mem_cons_of_mem _ c1,t',c2,fun hm=>c3 (List.mem_filter.1 hm).1⟩
    ·simp only at hs hu;by_cases h1:s=name<;>by_cases h2:u=name
     ·rw[h1,h2]
     ·rw[if_pos h1]at hs; rw[if_neg h2]at hu;obtain⟨_,t',c2,c3⟩:=C.tok u b hu;exact absurd (hinj t' t b c2 hs ▸ hta) c3
     ·rw[if_neg h1]at hs; rw[if_pos h2]at hu;obtain⟨_,t',c2,c3⟩:=C.tok s b hs;exact absurd (hinj t' t b c2 hu ▸ hta) c3
     ·rw[if_neg h1]at hs; rw[if_neg h2]at hu;exact C.inj s u b hs hu
    ·show(if s=name then g.tok t else g'.tok s)=some b;rw[if_neg (fun e:s=name=>hnt b (by rw[←e]; exact hb))]; exact hb
    ·rw[C.imm]; exact h.1
    ·obtain⟨ad,c,hv,hh⟩:=h.2.2 (C.sub t hta);refine⟨ad,c,hv,hh.imp id ?_⟩;rintro⟨b,o,q1,q2,q4,q5⟩;exact⟨b,o,by simpa using q1,q2,by rw[C.imm]; exact q4,q5⟩
   ·exact⟨g',C,Tr.refl _ _ _,fun v h=>by simp only[RelX]; rw[C.imm]; exact h.1⟩
theorem QK9 {toks:List Nat} {x:X} {v:Value} (h:RelX g w base toks x v):RelX g w base toks x.hn v:=by
 unfold X.hn;split
 ·simp only[RelX,Rel]at h;subst h;exact⟨by simp only[Rel]; exact⟨by simp,none,0,rfl,by simp,.inl trivial⟩,none,rfl⟩
 ·exact h
theorem QlM (hinj:∀s t b,g.tok s=some b→g.tok t=some b→s=t) {toks:List Nat} (k name:Nat) (x:X) {av nw:List Nat} (C:Cl g toks g' av nw):
  ∃g'',Cl g toks g'' (QgF k name x av nw).2.1 (QgF k name x av nw).2.2∧Tr g' w nw g'' w (QgF k name x av nw).2.2∧∀v,RelX g w base toks x v→RelX g'' w base (QgF k name x av nw).2.2 (QgF k name x av nw).1 v:=by
 obtain⟨g'',h1,h2,h3⟩:=QqI hinj k name x.hn C;exact⟨g'',h1,h2,fun v h=>h3 v (QK9 h)⟩
theorem QfP (hinj:∀s t b,g.tok s=some b→g.tok t=some b→s=t) {toks:List Nat} {tmps:List (Nat×X)} {f:Nat→Value} (ht:∀t x,Qt tmps t=some x→RelX g w base toks x (f t)):∀(l:List (Nat×Option Nat)) (g':Gh) (av nw:List Nat),Cl g toks g' av nw→
  ∃g'',Cl g toks g'' (Qe8 tmps l av nw).2.1 (Qe8 tmps l av nw).2.2∧Tr g' w nw g'' w (Qe8 tmps l av nw).2.2∧∀u y,Qt (Qe8 tmps l av nw).1 u=some y→RelX g'' w base (Qe8 tmps l av nw).2.2 y (f u)
 | [],g',av,nw,C=>⟨g',C,Tr.refl _ _ _,fun u y h=>by cases h⟩
 | (u,sv)::t,g',av,nw,C=>by
  simp only[Qe8];cases hu:Qt tmps u with
  | none=>exact QfP hinj ht t g' av nw C
  | some x=>
   cases sv with
   | none=>
    obtain⟨g'',C2,T2,h2⟩:=QfP hinj ht t g' av nw C;refine⟨g'',C2,T2,fun u' y h=>?_⟩;simp only[Qt]at h;by_cases e:u'=u
    ·rw[if_pos e]at h; cases h; subst e;exact Qhb C2.imm C2.box (ht _ _ hu)
    ·rw[if_neg e]at h; exact h2 u' y h
   | some k=>
    obtain⟨g1,C1,T1,h1⟩:=QlM (w:=w) (base:=base) hinj k u x C;obtain⟨g'',C2,T2,h2⟩:=QfP hinj ht t g1 _ _ C1;refine⟨g'',C2,T1.trans T2,fun u' y h=>?_⟩;simp only[Qt]at h;by_cases e:u'=u
    ·rw[if_pos e]at h; cases h; subst e;exact RelX.tr T2 (h1 _ (ht _ _ hu))
    ·rw[if_neg e]at h; exact h2 u' y h
theorem Qga (hinj:∀s t b,g.tok s=some b→g.tok t=some b→s=t) {toks:List Nat} (kb:List (Nat×Nat×Nat)) (b:Nat):∀(cs:List X) (off:Nat) (g':Gh) (av nw:List Nat),Cl g toks g' av nw→
  ∃g'',Cl g toks g'' (Qaz kb b off cs av nw).2.1 (Qaz kb b off cs av nw).2.2∧Tr g' w nw g'' w (Qaz kb b off cs av nw).2.2∧(Qaz kb b off cs av nw).1.length=cs.length∧
   ∀vs:List Value,(∀(j:Nat) (x:X) (v:Value),cs[j]?=some x→vs[j]?=some v→RelX g w base toks x v)→∀(j:Nat) (x:X) (v:Value),(Qaz kb b off cs av nw).1[j]?=some x→vs[j]?=some v→RelX g'' w base (Qaz kb b off cs av nw).2.2 x v
 | [],off,g',av,nw,C=>⟨g',C,Tr.refl _ _ _,rfl,fun vs _ j x v h=>by simp[Qaz]at h⟩
 | x::t,off,g',av,nw,C=>by
  simp only[Qaz];cases Qeu kb b off with
  | none=>
   obtain⟨g'',C2,T2,l2,h2⟩:=Qga hinj kb b t (off+1) g' av nw C;refine⟨g'',C2,T2,by simp[l2],fun vs hr j x' v' h h'=>?_⟩
   cases vs with
   | nil=>simp at h'
   | cons v vt=>
    cases j with
    | zero=>simp at h h'; subst h; subst h'; exact Qhb C2.imm C2.box (hr 0 x v rfl rfl)
    | succ j=>exact h2 vt (fun j x' v' h1 h2=>hr (j+1) x' v' (by simpa using h1) (by simpa using h2)) j x' v' (by simpa using h) (by simpa using h')
  | some k=>
   obtain⟨g1,C1,T1,h1⟩:=QlM (w:=w) (base:=base) hinj k (100000+100*b+off) x C;obtain⟨g'',C2,T2,l2,h2⟩:=Qga hinj kb b t (off+1) g1 _ _ C1;refine⟨g'',C2,T1.trans T2,by simp[l2],fun vs hr j x' v' h h'=>?_⟩
   cases vs with
   | nil=>simp at h'
   | cons v vt=>
    cases j with
    | zero=>simp at h h'; subst h; subst h'; exact RelX.tr T2 (h1 _ (hr 0 x v rfl rfl))
    | succ j=>exact h2 vt (fun j x' v' h1 h2=>hr (j+1) x' v' (by simpa using h1) (by simpa using h2)) j x' v' (by simpa using h) (by simpa using h')
theorem Qgk (hinj:∀s t b,g.tok s=some b→g.tok t=some b→s=t) {toks:List Nat} (kb:List (Nat×Nat×Nat)) {boxes:List (Nat×List X)} (hB:QcC g w base toks boxes):∀(l:List Nat) (g':Gh) (av nw:List Nat),Cl g toks g' av nw→
  ∃g'',Cl g toks g'' (QgA kb boxes l av nw).2.1 (QgA kb boxes l av nw).2.2∧Tr g' w nw g'' w (QgA kb boxes l av nw).2.2∧QcC g'' w base (QgA kb boxes l av nw).2.2 (QgA kb boxes l av nw).1
 | [],g',av,nw,C=>⟨g',C,Tr.refl _ _ _,fun b cs h=>by cases h⟩
 | b::t,g',av,nw,C=>by
  simp only[QgA];cases hb:Qt boxes b with
  | none=>exact Qgk hinj kb hB t g' av nw C
  | some cs=>
   cases hg:g.box b with
   | none=>
    obtain⟨g1,C1,T1,_⟩:=Qga (w:=w) (base:=base) hinj kb b cs 0 g' av nw C;obtain⟨g'',C2,T2,h2⟩:=Qgk hinj kb hB t g1 _ _ C1;refine⟨g'',C2,T1.trans T2,fun b' cs' h blk hblk=>?_⟩;simp only[Qt]at h;by_cases e:b'=b
    ·rw[e,C2.box,hg]at hblk; cases hblk
    ·rw[if_neg e]at h; exact h2 b' cs' h blk hblk
   | some blk0=>
    obtain⟨vs,ty,k1,k2,k3⟩:=hB b cs hb blk0 hg;obtain⟨g1,C1,T1,l1,h1⟩:=Qga (w:=w) (base:=base) hinj kb b cs 0 g' av nw C;have h1:=h1 vs.toList (fun j x v q1 q2=>(k3 j x v q1 (by simpa using q2)).2)
    obtain⟨g'',C2,T2,h2⟩:=Qgk hinj kb hB t g1 _ _ C1;refine⟨g'',C2,T1.trans T2,fun b' cs' h blk hblk=>?_⟩;simp only[Qt]at h;by_cases e:b'=b
    ·rw[e,C2.box,hg]at hblk; cases hblk;rw[if_pos e]at h; cases h;refine⟨vs,ty,k1,by rw[l1]; exact k2,fun j x v q1 q2=>?_⟩
     have hj:j < cs.length:=by rw[←l1]; exact(List.getElem?_eq_some_iff.1 q1).1
     exact⟨(k3 j cs[j] v (List.getElem?_eq_getElem hj) q2).1,RelX.tr T2 (h1 j x v q1 (by simpa using q2))⟩
    ·rw[if_neg e]at h; exact h2 b' cs' h blk hblk
end
end Go.Proofs.YticoemblgkemiaaGreatDoor
namespace Go.Proofs.YticoemblgkemiaaGreatDoor
open Go.RowKit
theorem QjY {g:Gh} {w:World} :∀{caps:List (Sum Nat D)} {vs:List Value},CapsR g w caps vs→∀b∈Qbx caps,g.box b≠none
 | [],_,_,b,hb=>by simp[Qbx]at hb
 | .inl c::t,vs,h,b,hb=>by
  simp only[CapsR]at h;obtain⟨v,vt,_,⟨blk,h2,_⟩,h4⟩:=h;simp only[Qbx,List.mem_cons]at hb;rcases hb with rfl | hb
  ·rw[h2]; simp
  ·exact QjY h4 b hb
 | .inr d::t,vs,h,b,hb=>by
  simp only[CapsR]at h;obtain⟨v,vt,_,_,h4⟩:=h;exact QjY h4 b hb
theorem QnU {g:Gh} {w:World} {base:Nat} {toks:List Nat} {x:X} {v:Value} (h:RelX g w base toks x v):∀b∈x.locs,g.box b≠none:=by
 intro b hb;cases x with
 | loc c o=>
  simp only[X.locs,List.mem_singleton]at hb;subst hb;obtain⟨blk,h1,_⟩:=h;rw[h1]; simp
 | fx f first caps=>
  obtain⟨fs,cs,_,_,h3⟩:=h;exact QjY h3 b hb
 | bs c o n k=>
  simp only[X.locs,List.mem_singleton]at hb;subst hb;obtain⟨blk,cc,h1,_⟩:=h;rw[h1]; simp
 | mp c=>
  simp only[X.locs,List.mem_singleton]at hb;subst hb;obtain⟨blk,h1,_⟩:=h;rw[h1]; simp
 | agb cs=>obtain⟨vs,_,h2⟩:=h; exact h2.box b hb
 | _=>simp[X.locs]at hb
theorem Qsr:∀{ls:List Nat} {b:Nat},b∈ls→ls[Qmx ls b]?=some b
 | [],b,h=>by simp at h
 | x::t,b,h=>by
  unfold Qmx;split
  ·rename_i e; simp[e]
  ·rename_i e;rcases List.mem_cons.1 h with h | h
   ·exact absurd h e
   ·simpa using Qsr h
theorem Qkk:∀{xs:List X} {x:X} {b:Nat},x∈xs→b∈x.locs→b∈QdL xs
 | y::t,x,b,hx,hb=>by
  unfold QdL;rw[List.mem_append];rcases List.mem_cons.1 hx with rfl | hx
  ·exact .inl hb
  ·exact .inr (Qkk hx hb)
theorem QiA:∀{xs:List X} {b:Nat},b∈QdL xs→∃x∈xs,b∈x.locs
 | [],b,h=>by simp[QdL]at h
 | y::t,b,h=>by
  unfold QdL at h;rcases List.mem_append.1 h with h | h
  ·exact⟨y,by simp,h⟩
  ·obtain⟨x,h1,h2⟩:=QiA h;exact⟨x,by simp[h1],h2⟩
def QcK:Nat→List Cont→List (Nat×List X)
 | _,[]=>[]
 | i,.cells xs::t=>(1000+i,xs)::QcK (i+1) t
 | i,.map _::t=>QcK (i+1) t
def Qff:Nat→List Cont→List (Nat×(Nat×List (Value×Value)))
 | _,[]=>[]
 | i,.cells _::t=>Qff (i+1) t
 | i,.map mc::t=>(1000+i,mc)::Qff (i+1) t
theorem Qhc:∀{cs:List Cont} {i n:Nat} {xs:List X},Qt (QcK i cs) n=some xs→∃j,n=1000+i+j∧cs[j]?=some (.cells xs)
 | [],i,n,xs,h=>by cases h
 | .cells ys::t,i,n,xs,h=>by
  simp only[QcK,Qt]at h;split at h
  ·rename_i e; cases h; exact⟨0,by omega,rfl⟩
  ·obtain⟨j,h1,h2⟩:=Qhc h;exact⟨j+1,by omega,by simpa using h2⟩
 | .map mc::t,i,n,xs,h=>by
  simp only[QcK]at h;obtain⟨j,h1,h2⟩:=Qhc h;exact⟨j+1,by omega,by simpa using h2⟩
theorem Qji:∀{cs:List Cont} {i n:Nat} {mc:Nat×List (Value×Value)},Qt (Qff i cs) n=some mc→∃j,n=1000+i+j∧cs[j]?=some (.map mc)
 | [],i,n,xs,h=>by cases h
 | .map ys::t,i,n,xs,h=>by
  simp only[Qff,Qt]at h;split at h
  ·rename_i e; cases h; exact⟨0,by omega,rfl⟩
  ·obtain⟨j,h1,h2⟩:=Qji h;exact⟨j+1,by omega,by simpa using h2⟩
 | .cells mc::t,i,n,xs,h=>by
  simp only[Qff]at h;obtain⟨j,h1,h2⟩:=Qji h;exact⟨j+1,by omega,by simpa using h2⟩
theorem Qj8:∀{cs:List Cont} {i j:Nat} {xs:List X},cs[j]?=some (.cells xs)→Qt (QcK i cs) (1000+i+j)=some xs
 | [],i,j,xs,h=>by simp at h
 | .cells ys::t,i,0,xs,h=>by simp at h; subst h; simp[QcK,Qt]
 | .cells ys::t,i,j+1,xs,h=>by
  simp only[QcK,Qt];rw[if_neg (by omega),show 1000+i+(j+1)=1000+(i+1)+j by omega]
  exact Qj8 (by simpa using h)
 | .map mc::t,i,0,xs,h=>by simp at h
 | .map mc::t,i,j+1,xs,h=>by
  simp only[QcK];rw[show 1000+i+(j+1)=1000+(i+1)+j by omega]
  exact Qj8 (by simpa using h)
theorem Qnx:∀{cs:List Cont} {i j:Nat} {mc:Nat×List (Value×Value)},cs[j]?=some (.map mc)→Qt (Qff i cs) (1000+i+j)=some mc
 | [],i,j,xs,h=>by simp at h
 | .map ys::t,i,0,xs,h=>by simp at h; subst h; simp[Qff,Qt]
 | .map ys::t,i,j+1,xs,h=>by
  simp only[Qff,Qt];rw[if_neg (by omega),show 1000+i+(j+1)=1000+(i+1)+j by omega]
  exact Qnx (by simpa using h)
 | .cells mc::t,i,0,xs,h=>by simp at h
 | .cells mc::t,i,j+1,xs,h=>by
  simp only[Qff];rw[show 1000+i+(j+1)=1000+(i+1)+j by omega]
  exact Qnx (by simpa using h)
def Qmm (blks:List Nat) (n:Nat):Option Nat:=if 1000≤n then blks[n - 1000]? else none
def Qpv (tb:Option Nat) (s:Nat):Option Nat:=if s=QBZ then tb else none
theorem Qdb {blks:List Nat} {i b:Nat} :Qmm blks i=some b↔1000≤i∧blks[i - 1000]?=some b:=by
 unfold Qmm;split
 ·rename_i h; exact⟨fun k=>⟨h,k⟩,fun k=>k.2⟩
 ·rename_i h; exact⟨fun k=>(by cases k),fun k=>absurd k.1 h⟩
theorem Qdd {tb:Option Nat} {s b:Nat} :Qpv tb s=some b↔s=QBZ∧tb=some b:=by
 unfold Qpv;split
 ·rename_i h; exact⟨fun k=>⟨h,k⟩,fun k=>k.2⟩
 ·rename_i h; exact⟨fun k=>(by cases k),fun k=>absurd k.1 h⟩
def QC3 (w:World) (blks:List Nat) (tb:Option Nat):Base:=⟨w,Qmm blks,Qpv tb,[],True,[]⟩
def QId (m:Nat→Nat→Prop) (blks:List Nat) (tb:Option Nat):Gh:= { imm:=m,box:=Qmm blks,tok:=Qpv tb,used:=fun s=>s=QBZ}
def RelXs (g:Gh) (w:World) (base:Nat) (toks:List Nat) (xs:List X) (vs:List Value):Prop:=vs.length=xs.length∧∀(j:Nat) (x:X) (v:Value),xs[j]?=some x→vs[j]?=some v→RelX g w base toks x v
def QNt (P:Program) (f:Nat) (xs:List X) (cs:List Cont) (tl:List Nat) (d:D) (ns:List Cont) (tl':List Nat):Prop:=
 ∀(m:Nat→Nat→Prop) (w:World) (blks:List Nat) (tb:Option Nat) (vs:List Value),blks.length=cs.length→Inv 0 m (QC3 w blks tb) (QId m blks tb) ⟨[],QcK 0 cs,tl,Qff 0 cs⟩ ⟨#[],[]⟩ w→RelXs (QId m blks tb) w w.heap.size tl xs vs→
  Calls P f vs.toArray w fun e w'=>∃(v:Value) (g':Gh),e= .returned v∧Inv 0 m (QC3 w blks tb) g' ⟨[],QcK 0 ns,tl',Qff 0 ns⟩ ⟨#[],[]⟩ w'∧Rel g'.imm w' d v
def Qnm (P:Program) (Δe:Nat→List X→List Cont→List Nat→Option (D×List Cont×List Nat)):Prop:=∀f xs cs tl d ns tl',Δe f xs cs tl=some (d,ns,tl')→(∀xs w,(callFunc f xs).run P w= .ok (.enter f xs) w)∧QNt P f xs cs tl d ns tl'
theorem QfW:∀{l ls:List Nat} {x:Nat},x∈QrG ls l↔x∈ls∨x∈l
 | [],ls,x=>by simp[QrG]
 | y::t,ls,x=>by
  unfold QrG;split
  ·rename_i h;have hy:y∈ls:=by simpa using h
   rw[QfW,List.mem_cons];constructor
   ·rintro(h | h)
    ·exact .inl h
    ·exact .inr (.inr h)
   ·rintro(h | rfl | h)
    ·exact .inl h
    ·exact .inl hy
    ·exact .inr h
  ·rw[QfW,List.mem_cons,List.mem_append,List.mem_singleton];constructor
   ·rintro((h | h) | h)
    ·exact .inl h
    ·exact .inr (.inl h)
    ·exact .inr (.inr h)
   ·rintro(h | h | h)
    ·exact .inl (.inl h)
    ·exact .inl (.inr h)
    ·exact .inr h
theorem Qf2:∀{l ls:List Nat},ls.Nodup→(QrG ls l).Nodup
 | [],ls,h=>h
 | y::t,ls,h=>by
  unfold QrG;split
  ·exact Qf2 h
  ·rename_i hy;have hy':y∉ls:=by simpa using hy
   refine Qf2 (List.nodup_append.2 ⟨h,by simp,fun a ha b hb=>?_⟩)
   simp only[List.mem_singleton]at hb;subst hb;exact fun e=>hy' (e ▸ ha)
theorem Qib {σ:St} :∀{ls:List Nat} {cs:List Cont},QfB σ ls=some cs→cs.length=ls.length∧∀(i b:Nat),ls[i]?=some b→∃c,σ.cont b=some c∧cs[i]?=some c
 | [],cs,h=>by simp only[QfB,Option.some.injEq]at h; subst h; exact⟨rfl,fun i b h=>by simp at h⟩
 | b::t,cs,h=>by
  simp only[QfB]at h;split at h
  ·rename_i c r hc hr;simp only[Option.some.injEq]at h; subst h;obtain⟨h1,h2⟩:=Qib hr;refine⟨by simp[h1],fun i b' hi=>?_⟩
   cases i with
   | zero=>simp at hi; subst hi; exact⟨c,hc,rfl⟩
   | succ i=>exact h2 i b' (by simpa using hi)
  ·cases h
theorem QfQ {σ:St} {b:Nat} {xs:List X} (h:σ.cont b=some (.cells xs)):Qt σ.boxes b=some xs:=by
 unfold St.cont at h;split at h
 ·rename_i ys hy; cases h; exact hy
 ·split at h<;>cases h
theorem QrV {σ:St} {b:Nat} {mc:Nat×List (Value×Value)} (h:σ.cont b=some (.map mc)):Qt σ.boxes b=none∧Qt σ.maps b=some mc:=by
 unfold St.cont at h;split at h
 ·cases h
 ·rename_i hb;split at h
  ·rename_i m hm; cases h; exact⟨hb,hm⟩
  ·cases h
theorem QkM:∀{cs:List Cont} {b:Nat},b∈Qiw cs→∃xs,Cont.cells xs∈cs∧b∈QdL xs
 | [],b,h=>by simp[Qiw]at h
 | .cells xs::t,b,h=>by
  simp only[Qiw,Cont.locs,List.mem_append]at h;rcases h with h | h
  ·exact⟨xs,by simp,h⟩
  ·obtain⟨ys,h1,h2⟩:=QkM h;exact⟨ys,by simp[h1],h2⟩
 | .map mc::t,b,h=>by
  simp only[Qiw,Cont.locs,List.nil_append]at h;obtain⟨ys,h1,h2⟩:=QkM h;exact⟨ys,by simp[h1],h2⟩
theorem Qko:∀{cs:List Cont} {b:Nat} {xs:List X},Cont.cells xs∈cs→b∈QdL xs→b∈Qiw cs
 | .cells ys::t,b,xs,h,hb=>by
  simp only[Qiw,Cont.locs,List.mem_append];rcases List.mem_cons.1 h with h | h
  ·cases h; exact .inl hb
  ·exact .inr (Qko h hb)
 | .map mc::t,b,xs,h,hb=>by
  simp only[Qiw,Cont.locs,List.nil_append];rcases List.mem_cons.1 h with h | h
  ·cases h
  ·exact Qko h hb
theorem Qo2 {σ:St} :∀(n:Nat) {ls:List Nat} {x:Nat},x∈ls→x∈Qip σ n ls
 | 0,ls,x,h=>h
 | n+1,ls,x,h=>by
  unfold Qip;split
  ·exact Qo2 n (QfW.2 (.inl h))
  ·exact h
theorem QkB {σ:St} :∀(n:Nat) {ls:List Nat},ls.Nodup→(Qip σ n ls).Nodup
 | 0,ls,h=>h
 | n+1,ls,h=>by
  unfold Qip;split
  ·exact QkB n (Qf2 h)
  ·exact h
theorem Qjo {g:Gh} {w:World} {base:Nat} {toks:List Nat} :∀{caps:List (Sum Nat D)} {vs:List Value},CapsR g w caps vs→vs.length=caps.length∧∀(j:Nat) (x:X) (v:Value),(caps.map QIc)[j]?=some x→vs[j]?=some v→RelX g w base toks x v
 | [],vs,h=>by simp only[CapsR]at h; subst h; exact⟨rfl,fun j x v h=>by simp at h⟩
 | .inl b::t,vs,h=>by
  simp only[CapsR]at h;obtain⟨v,vt,rfl,h2,h4⟩:=h;obtain⟨k1,k2⟩:=Qjo (base:=base) (toks:=toks) h4;refine⟨by simp[k1],fun j x v' hx hv=>?_⟩
  cases j with
  | zero=>simp[QIc]at hx hv; subst hx; subst hv; exact h2
  | succ j=>exact k2 j x v' (by simpa using hx) (by simpa using hv)
 | .inr d::t,vs,h=>by
  simp only[CapsR]at h;obtain⟨v,vt,rfl,h2,h4⟩:=h;obtain⟨k1,k2⟩:=Qjo (base:=base) (toks:=toks) h4;refine⟨by simp[k1],fun j x v' hx hv=>?_⟩
  cases j with
  | zero=>simp[QIc]at hx hv; subst hx; subst hv; exact h2
  | succ j=>exact k2 j x v' (by simpa using hx) (by simpa using hv)
theorem QsR {g:Gh} {w:World} {base:Nat} {toks:List Nat} {ds:List D} {vs:List Value} (h:RelL g.imm w ds vs):vs.length=ds.length∧∀(j:Nat) (x:X) (v:Value),(ds.map X.d)[j]?=some x→vs[j]?=some v→RelX g w base toks x v:=by
 refine⟨h.length,fun j x v hx hv=>?_⟩;rw[List.getElem?_map]at hx;cases hj:ds[j]? with
 | none=>rw[hj]at hx; cases hx
 | some d=>
  rw[hj]at hx; simp at hx; subst hx;obtain⟨v',h1,h2⟩:=h.get j d hj;rw[hv]at h1; cases h1; exact h2
theorem RelXs.dats {g:Gh} {w:World} {base:Nat} {toks:List Nat} {ds:List D} {vs:List Value} (h:RelL g.imm w ds vs):RelXs g w base toks (ds.map X.d) vs:=⟨by simpa using(QsR (base:=base) (toks:=toks) h).1,(QsR h).2⟩
theorem RelXs.caps {g:Gh} {w:World} {base:Nat} {toks:List Nat} {caps:List (Sum Nat D)} {vs:List Value} (h:CapsR g w caps vs):RelXs g w base toks (caps.map QIc) vs:=⟨by simpa using(Qjo (base:=base) (toks:=toks) h).1,(Qjo h).2⟩
theorem RelXs.app {g:Gh} {w:World} {base:Nat} {toks:List Nat} {xs ys:List X} {vs us:List Value} (h:RelXs g w base toks xs vs) (k:RelXs g w base toks ys us):RelXs g w base toks (xs++ys) (vs++us):=by
 refine⟨by simp[h.1,k.1],fun j x v hx hv=>?_⟩
 rw[List.getElem?_append]at hx hv;rw[h.1]at hv;split at hx
 ·rename_i hj; rw[if_pos hj]at hv; exact h.2 j x v hx hv
 ·rename_i hj; rw[if_neg hj]at hv; exact k.2 _ x v hx hv
end Go.Proofs.YticoemblgkemiaaGreatDoor
namespace Go.Proofs.YticoemblgkemiaaGreatDoor
open Go.RowKit
def Qda (g:Gh) (ls:List Nat):List Nat:=ls.map fun b=>(g.box b).getD 0
theorem Qja {g:Gh} {ls:List Nat} {b blk:Nat} (hm:b∈ls) (h:g.box b=some blk):Qmm (Qda g ls) (1000+Qmx ls b)=some blk:=by
 rw[Qdb];refine⟨by omega,?_⟩
 simp only[Nat.add_sub_cancel_left,Qda,List.getElem?_map,Qsr hm,Option.map_some,h,Option.getD_some]
theorem Qm1 {g:Gh} {w:World} {ls:List Nat} {tb:Option Nat} :∀{caps:List (Sum Nat D)} {vs:List Value},(∀b∈Qbx caps,b∈ls)→CapsR g w caps vs→CapsR (QId g.imm (Qda g ls) tb) w (QEO ls caps) vs
 | [],vs,_,h=>h
 | .inl b::t,vs,hm,h=>by
  simp only[Qbx,List.mem_cons,forall_eq_or_imp]at hm;simp only[CapsR]at h;simp only[QEO,CapsR];obtain⟨v,vt,h1,⟨blk,h2,h3⟩,h4⟩:=h;exact⟨v,vt,h1,⟨blk,Qja hm.1 h2,h3⟩,Qm1 hm.2 h4⟩
 | .inr d::t,vs,hm,h=>by
  simp only[Qbx]at hm;simp only[CapsR]at h;simp only[QEO,CapsR];obtain⟨v,vt,h1,h2,h4⟩:=h;exact⟨v,vt,h1,h2,Qm1 hm h4⟩
theorem OwnAt.other {g g':Gh} {w:World} {t t' k:Nat} {rows:List (List D)} {v:Value} (h:OwnAt g w t k rows v) (hi:g'.imm=g.imm) (ht:∀b,g.tok t=some b→(∃cs ty,w.heap[b]?=some (.cells cs ty (0,0)))→(∀x,¬g.imm b x)→g'.tok t'=some b):OwnAt g' w t' k rows v:=by
 obtain⟨a,c,hv,h0,h1,h⟩:=h;refine⟨a,c,hv,h0,h1,h.imp id ?_⟩;rintro⟨b,o,h1,h2,h4,cs,ty,h5,h6⟩;exact⟨b,o,ht b h1 ⟨cs,ty,h5⟩ h4.1,h2,by rw[hi]; exact h4,cs,ty,h5,by rw[hi]; exact h6⟩
theorem Qxk {g:Gh} {w:World} {base base':Nat} {toks tt:List Nat} {ls:List Nat} {t0 tb:Option Nat} (ht0:∀t,t0=some t→t∈toks) (htb:∀t b,t0=some t→g.tok t=some b→(∃cs ty,w.heap[b]?=some (.cells cs ty (0,0)))→(∀x,¬g.imm b x)→tb=some b)
  {x:X} {v:Value} (hm:∀b∈x.locs,b∈ls) (h:RelX g w base toks x v):RelX (QId g.imm (Qda g ls) tb) w base' tt (x.ren ls t0) v:=by
 cases x with
 | d y=>exact h
 | agz cs=>exact QfH h
 | agb cs=>simp only[X.ren,X.strip,RelX,Rel]
 | loc b o=>
  obtain⟨blk,h1,h2⟩:=h;exact⟨blk,Qja (hm b (by simp[X.locs])) h1,h2⟩
 | bs b o n k=>
  obtain⟨blk,cc,h1,h2⟩:=h;exact⟨blk,cc,Qja (hm b (by simp[X.locs])) h1,h2⟩
 | mp b=>
  obtain⟨blk,h1,h2⟩:=h;exact⟨blk,Qja (hm b (by simp[X.locs])) h1,h2⟩
 | fx f first caps=>
  obtain⟨fs,cs,h1,h2,h3⟩:=h;exact⟨fs,cs,h1,h2,Qm1 hm h3⟩
 | sl k rows own=>
  cases own with
  | own t=>
   simp only[X.ren];split
   ·rename_i e;refine⟨h.1,rfl,fun _=>(h.2.2 (ht0 t e)).other rfl fun b h1 h2 h3=>?_⟩;show Qpv tb QBZ=some b;rw[Qdd]; exact⟨rfl,htb t b e h1 h2 h3⟩
   ·simp only[RelX,Rel]
  | ex=>exact h.1
  | tok t=>exact h.1
theorem QjM {g g':Gh} {w:World} {ls:List Nat} (hb:∀i b,1000≤i→ls[i - 1000]?=some b→∀blk,g'.box i=some blk→g.box b=some blk) (hi:∀b o,g'.imm b o→g.imm b o):∀{caps r:List (Sum Nat D)} {vs:List Value},QpX ls caps=some r→CapsR g' w caps vs→CapsR g w r vs
 | [],r,vs,h,hr=>by simp only[QpX,Option.some.injEq]at h; subst h; exact hr
 | .inl b::t,r,vs,h,hr=>by
  simp only[QpX]at h;split at h
  ·rename_i r' hr';split at h
   ·rename_i hc;simp only[Option.some.injEq]at h; subst h;simp only[CapsR]at hr⊢;obtain⟨v,vt,h1,⟨blk,h2,h3⟩,h4⟩:=hr;exact⟨v,vt,h1,⟨blk,hb b _ hc.1 (by simp[List.getElem?_eq_getElem hc.2]) blk h2,h3⟩,QjM hb hi hr' h4⟩
   ·cases h
  ·cases h
 | .inr d::t,r,vs,h,hr=>by
  simp only[QpX]at h;split at h
  ·rename_i r' hr';simp only[Option.some.injEq]at h; subst h;simp only[CapsR]at hr⊢;obtain⟨v,vt,h1,h2,h4⟩:=hr;exact⟨v,vt,h1,Rel.ext ⟨hi,fun _ _ _=>rfl⟩ _ _ h2,QjM hb hi hr' h4⟩
  ·cases h
theorem QAw {g g':Gh} {w:World} {base base' i:Nat} {toks tl:List Nat} {ls:List Nat} (hb:∀i b,1000≤i→ls[i - 1000]?=some b→∀blk,g'.box i=some blk→g.box b=some blk) (hi:g.imm=g'.imm) (hu:g.used (QaN i)) (ht:∀t,tl=[t]→g.tok (QaN i)=g'.tok t)
  {x:X} {v:Value} (h:RelX g' w base' tl x v):RelX g w base toks (x.back ls i tl) v:=by
 have hx:ExtM g'.imm w g.imm w:=by rw[hi]; exact ExtM.refl _ _
 cases x with
 | d y=>exact Rel.ext hx _ _ h
 | agz cs=>exact Rel.ext hx _ _ (QfH h)
 | agb cs=>simp only[X.back,X.strip,RelX,Rel]
 | loc b o=>
  simp only[X.back];split
  ·rename_i hc;obtain⟨blk,h1,h2⟩:=h;exact⟨blk,hb b _ hc.1 (by simp[List.getElem?_eq_getElem hc.2]) blk h1,h2⟩
  ·simp only[RelX,Rel]
 | bs b o n k=>
  simp only[X.back];split
  ·rename_i hc;obtain⟨blk,cc,h1,h2⟩:=h;exact⟨blk,cc,hb b _ hc.1 (by simp[List.getElem?_eq_getElem hc.2]) blk h1,h2⟩
  ·simp only[RelX,Rel]
 | mp b=>
  simp only[X.back];split
  ·rename_i hc;obtain⟨blk,h1,h2⟩:=h;exact⟨blk,hb b _ hc.1 (by simp[List.getElem?_eq_getElem hc.2]) blk h1,h2⟩
  ·simp only[RelX,Rel]
 | fx f first caps=>
  simp only[X.back];split
  ·rename_i r hr;obtain⟨fs,cs,h1,h2,h3⟩:=h;exact⟨fs,cs,h1,RelL.ext hx _ _ h2,QjM hb hx.imm hr h3⟩
  ·simp only[RelX,Rel]
 | sl k rows own=>
  cases own with
  | own t=>
   simp only[X.back];split
   ·rename_i e;refine⟨h.1,hu,fun _=>(h.2.2 (by rw[e]; simp)).other hi fun b h1 _ _=>by rw[ht t e]; exact h1⟩
   ·simp only[RelX,Rel]
  | ex=>exact Rel.ext hx _ _ h.1
  | tok t=>exact Rel.ext hx _ _ h.1
theorem Qnk {ls:List Nat} {i:Nat} {tl:List Nat} :∀{l:List Nat} {ns:List Cont} {boxes:List (Nat×List X)} {b:Nat} {xs:List X},l.length=ns.length→Qt (QBJ ls i tl l ns boxes) b=some xs→(∃(j:Nat) (ys:List X),l[j]?=some b∧ns[j]?=some (.cells ys)∧xs=ys.map (X.back ls i tl))∨((∀(j:Nat) (ys:List X),l[j]?=some b→ns[j]?≠some (.cells ys))∧Qt boxes b=some xs)
 | [],ns,boxes,b,xs,_,h=> .inr ⟨fun j ys hj=>by simp at hj,by simpa[QBJ]using h⟩
 | _::_,[],_,_,_,hl,_=>by simp at hl
 | c::t,.cells ys::ns,boxes,b,xs,hl,h=>by
  simp only[QBJ,Qt]at h;split at h
  ·rename_i e;simp only[Option.some.injEq]at h;exact .inl ⟨0,ys,by simp[e],rfl,h.symm⟩
  ·rename_i e;rcases Qnk (by simpa using hl) h with⟨j,zs,h1,h2,h3⟩ | ⟨h1,h2⟩
   ·exact .inl ⟨j+1,zs,by simpa using h1,by simpa using h2,h3⟩
   ·refine .inr ⟨fun j zs hj=>?_,h2⟩;cases j with
    | zero=>simp at hj; exact absurd hj.symm e
    | succ j=>simpa using h1 j zs (by simpa using hj)
 | c::t,.map mc::ns,boxes,b,xs,hl,h=>by
  simp only[QBJ]at h;rcases Qnk (by simpa using hl) h with⟨j,zs,h1,h2,h3⟩ | ⟨h1,h2⟩
  ·exact .inl ⟨j+1,zs,by simpa using h1,by simpa using h2,h3⟩
  ·refine .inr ⟨fun j zs hj=>?_,h2⟩;cases j with
   | zero=>simp
   | succ j=>simpa using h1 j zs (by simpa using hj)
theorem Qi7:∀{l:List Nat} {ns:List Cont} {ms:List (Nat×(Nat×List (Value×Value)))} {b:Nat} {mc:Nat×List (Value×Value)},l.length=ns.length→Qt (QzF l ns ms) b=some mc→(∃(j:Nat),l[j]?=some b∧ns[j]?=some (.map mc))∨((∀(j:Nat) (mc':Nat×List (Value×Value)),l[j]?=some b→ns[j]?≠some (.map mc'))∧Qt ms b=some mc)
 | [],ns,ms,b,mc,_,h=> .inr ⟨fun j ys hj=>by simp at hj,by simpa[QzF]using h⟩
 | _::_,[],_,_,_,hl,_=>by simp at hl
 | c::t,.map m'::ns,ms,b,mc,hl,h=>by
  simp only[QzF,Qt]at h;split at h
  ·rename_i e;simp only[Option.some.injEq]at h;exact .inl ⟨0,by simp[e],by simp[h]⟩
  ·rename_i e;rcases Qi7 (by simpa using hl) h with⟨j,h1,h2⟩ | ⟨h1,h2⟩
   ·exact .inl ⟨j+1,by simpa using h1,by simpa using h2⟩
   ·refine .inr ⟨fun j zs hj=>?_,h2⟩;cases j with
    | zero=>simp at hj; exact absurd hj.symm e
    | succ j=>simpa using h1 j zs (by simpa using hj)
 | c::t,.cells ys::ns,ms,b,mc,hl,h=>by
  simp only[QzF]at h;rcases Qi7 (by simpa using hl) h with⟨j,h1,h2⟩ | ⟨h1,h2⟩
  ·exact .inl ⟨j+1,by simpa using h1,by simpa using h2⟩
  ·refine .inr ⟨fun j zs hj=>?_,h2⟩;cases j with
   | zero=>simp
   | succ j=>simpa using h1 j zs (by simpa using hj)
theorem Qnz:∀{cs ns:List Cont},QiW cs ns=true→ns.length=cs.length∧∀i:Nat,(∀a,cs[i]?=some (Cont.cells a)→∃b,ns[i]?=some (Cont.cells b)∧b.length=a.length)∧(∀a,cs[i]?=some (Cont.map a)→∃b,ns[i]?=some (Cont.map b))
 | [],[],_=>⟨rfl,fun i=>⟨fun a h=>by simp at h,fun a h=>by simp at h⟩⟩
 | [],_::_,h=>by simp[QiW]at h
 | .cells _::_,[],h=>by simp[QiW]at h
 | .map _::_,[],h=>by simp[QiW]at h
 | .cells x::t,.cells y::u,h=>by
  simp only[QiW,Bool.and_eq_true,beq_iff_eq]at h;obtain⟨h1,h2⟩:=Qnz h.2;refine⟨by simp[h1],fun i=>?_⟩
  cases i with
  | zero=>exact⟨fun a ha=>by simp at ha; subst ha; exact⟨y,rfl,h.1.symm⟩,fun a ha=>by simp at ha⟩
  | succ i=>simpa using h2 i
 | .map x::t,.map y::u,h=>by
  simp only[QiW,Bool.and_eq_true,beq_iff_eq]at h;obtain⟨h1,h2⟩:=Qnz h.2;refine⟨by simp[h1],fun i=>?_⟩
  cases i with
  | zero=>exact⟨fun a ha=>by simp at ha,fun a ha=>⟨y,rfl⟩⟩
  | succ i=>simpa using h2 i
 | .cells _::_,.map _::_,h=>by simp[QiW]at h
 | .map _::_,.cells _::_,h=>by simp[QiW]at h
theorem QnR {toks:List Nat} :∀{xs:List X} {t:Nat},QuO toks xs=some t→t∈toks
 | [],t,h=>by cases h
 | x::r,t,h=>by
  unfold QuO at h;split at h
  ·split at h
   ·rename_i hany;simp only[Option.some.injEq]at h; subst h;obtain⟨z,hz,hz2⟩:=List.any_eq_true.1 hany;simp only[beq_iff_eq]at hz2;rw[←hz2]; exact hz
   ·exact QnR h
  ·exact QnR h
theorem Qi5 {toks:List Nat} :∀{cs:List Cont} {t:Nat},Qtd toks cs=some t→t∈toks
 | [],t,h=>by cases h
 | .cells xs::r,t,h=>by
  unfold Qtd at h;split at h
  ·rename_i t' ht; simp only[Option.some.injEq]at h; subst h; exact QnR ht
  ·exact Qi5 h
 | .map m::r,t,h=>by
  unfold Qtd at h;exact Qi5 h
theorem QpY {i s:Nat} {tl toks:List Nat} {t0:Option Nat} (h:s∈Qgg i tl toks t0) (hs:s≠QaN i):s∈toks∧t0≠some s:=by
 unfold Qgg at h;rw[List.mem_append]at h;rcases h with h | h
 ·cases tl with
  | nil=>cases h
  | cons x t=>simp at h; exact absurd h hs
 ·cases t0 with
  | none=>exact⟨h,by simp⟩
  | some t=>
   simp only[List.mem_filter,bne_iff_ne,ne_eq]at h;exact⟨h.1,fun e=>h.2 (by simp at e; exact e.symm)⟩
section
variable {F:Fence} {n:Nat} {P:Program} {c:Cx} {m0:Nat→Nat→Prop} {w0:Base} {g:Gh} {σ σ':St} {a:Act} {w:World}
def QNQ (N:Nat) (m0:Nat→Nat→Prop) (w0:Base) (g:Gh) (σ σ':St) (i:Nat) (al:Option Nat) (next:Act→World→Prop):Prop:=
 ∀g' a' w',Inv N m0 w0 g' σ' a' w'→(∀j,g.box j=none∧Qt σ.maps j=none→al≠some j→g'.box j=none∧Qt σ'.maps j=none)→(∀t,g'.used t→g.used t∨t=QaN i)→next a' w'
theorem QyX (I:Inv c.N m0 w0 g σ a w) {ls:List Nat} {cs:List Cont} (h:QfB σ ls=some cs) (hb:∀b∈ls,g.box b≠none):∀b∈Qiw cs,g.box b≠none:=by
 intro b hbm;obtain⟨xs,h1,h2⟩:=QkM hbm;obtain⟨i,hi,hxs⟩:=List.getElem_of_mem h1;obtain⟨hl,hat⟩:=Qib h;obtain⟨q,hq1,hq2⟩:=hat i ls[i] (List.getElem?_eq_getElem (by omega))
 rw[List.getElem?_eq_getElem hi,hxs]at hq2;cases hq2;have hbx:=QfQ hq1;cases hg:g.box ls[i]with
 | none=>exact absurd hg (hb _ (List.getElem_mem _))
 | some blk=>
  obtain⟨vs,ty,k1,k2,k3⟩:=I.boxes _ _ hbx blk hg;obtain⟨x,h3,h4⟩:=QiA h2;obtain⟨j,hj,rfl⟩:=List.getElem_of_mem h3;have hj':j < vs.size:=by omega
  exact QnU (k3 j xs[j] vs[j] (List.getElem?_eq_getElem hj) (by simp[hj'])).2 b h4
theorem QpA (I:Inv c.N m0 w0 g σ a w):∀(n:Nat) {ls:List Nat},(∀b∈ls,g.box b≠none)→∀b∈Qip σ n ls,g.box b≠none
 | 0,ls,h=>h
 | n+1,ls,h=>by
  unfold Qip;split
  ·rename_i cs hcs;refine QpA I n fun b hb=>?_;rcases QfW.1 hb with hb | hb
   ·exact h b hb
   ·exact QyX I hcs h b hb
  ·exact h
set_option maxHeartbeats 1000000 in
theorem QnW (hF:FreeF F) (hc:Qnm P c.Δe) {i:Nat} {dst:Option Nat} {f:Operand} {args:Array Operand} {argTypes:Array TypeId} {ty:TypeId} {pos:String} {after:Array Edge} {guard:Option (Nat×Bool)} {next:Act→World→Prop} {Q:Exit→Act→World→Prop}
  (h:c.effCall i dst (σ.ev f) (args.toList.map σ.ev) σ=some σ') (I:Inv c.N m0 w0 g σ a w) (hused:¬g.used (QaN i)) (hK:QNQ c.N m0 w0 g σ σ' i none next):(⟨dst,.call ⟨.value f,args,argTypes⟩,ty,pos,after,guard⟩:Oper).wpIn F n P a w next Q:=by
 unfold Cx.effCall at h;split at h
 ·cases h
 rename_i gf xs hxs;simp only at h;split at h
 ·cases h
 rename_i cs hcs;split at h
 case isFalse=>cases h
 rename_i hclosed;split at h
 ·cases h
 rename_i d ns tl hdel;split at h
 case isFalse=>cases h
 rename_i hcond;simp only[Option.some.injEq]at h;simp only[Bool.and_eq_true]at hcond;obtain⟨⟨hd0,hlens⟩,hone⟩:=hcond;have hd:QjT c.N dst:=by
  rintro x rfl;simpa[Qh0]using hd0
 obtain⟨hen,heff⟩:=hc gf _ _ _ d ns tl hdel;have hargsR:RelXs g w w0.heap.size σ.toks (args.toList.map σ.ev) (args.toList.map a.eval):=⟨by simp,fun j x v h1 h2=>by
  rw[List.getElem?_map]at h1 h2;cases hj:args.toList[j]? with
  | none=>rw[hj]at h1; cases h1
  | some o=>rw[hj]at h1 h2; simp at h1 h2; subst h1; subst h2; exact QbD I o⟩
 have hE:=QbD I f;obtain⟨fs,us,hf,hvs⟩:∃fs us:List Value,a.eval f= .func (.func gf) fs.toArray us.toArray∧RelXs g w w0.heap.size σ.toks xs (fs++(args.toList.map a.eval++us)):=by
  clear heff hdel h hcs;generalize σ.ev f=fx at*;unfold QqL at hxs;split at hxs
  ·rename_i g' first caps xs'
   split at hxs
   ·rename_i hemp;simp only[Bool.and_eq_true,Array.isEmpty_iff]at hemp;obtain⟨rfl,rfl⟩:=hemp;simp only[Option.some.injEq,Prod.mk.injEq]at hxs;obtain⟨rfl,rfl⟩:=hxs;exact⟨[],[],by simpa[RelX,Rel]using hE,by simpa using hargsR⟩
   ·cases hxs
  ·simp only[Option.some.injEq,Prod.mk.injEq]at hxs;obtain⟨rfl,rfl⟩:=hxs;simp only[RelX,Rel]at hE;obtain⟨fs,cs',h1,h2,h3⟩:=hE;exact⟨fs,cs',h1,(RelXs.dats h2).app (hargsR.app (RelXs.dats h3))⟩
  ·simp only[Option.some.injEq,Prod.mk.injEq]at hxs;obtain⟨rfl,rfl⟩:=hxs;obtain⟨fs,cs',h1,h2,h3⟩:=hE;exact⟨fs,cs',h1,(RelXs.dats h2).app (hargsR.app (RelXs.caps h3))⟩
  ·cases hxs
 obtain⟨hvl,hvr⟩:=hvs;have hls0:∀b∈QdL xs,b∈Qip σ 3 (QrG [] (QdL xs)):=fun b hb=>Qo2 3 (QfW.2 (.inr hb));have hnd:(Qip σ 3 (QrG [] (QdL xs))).Nodup:=QkB 3 (Qf2 List.nodup_nil);have hbx:∀b∈Qip σ 3 (QrG [] (QdL xs)),g.box b≠none:=QpA I 3 fun b hb=>by
  rcases QfW.1 hb with hb | hb
  ·cases hb
  obtain⟨x,h1,h2⟩:=QiA hb;obtain⟨j,hj,rfl⟩:=List.getElem_of_mem h1;have hj':j < (fs++(args.toList.map a.eval++us)).length:=by omega
  exact QnU (hvr j xs[j] _ (List.getElem?_eq_getElem hj) (List.getElem?_eq_getElem hj')) b h2
 generalize Qip σ 3 (QrG [] (QdL xs))=ls at*;obtain⟨hcl,hcat⟩:=Qib hcs;have hclo:∀b∈Qiw cs,b∈ls:=fun b hb=>by simpa using List.all_eq_true.1 hclosed b hb
 obtain⟨hnl,hnat⟩:=Qnz hlens;have hnl':ls.length=ns.length:=by rw[hnl,hcl]
 have ht0:∀t,Qtd σ.toks cs=some t→t∈σ.toks:=fun t=>Qi5;generalize Qtd σ.toks cs=t0 at*;obtain⟨tb,htb1,htb2⟩:∃tb:Option Nat,(∀b,tb=some b→∃t,t0=some t∧g.tok t=some b∧(∃cs ty,w.heap[b]?=some (.cells cs ty (0,0)))∧∀x,¬g.imm b x)∧(∀t b,t0=some t→g.tok t=some b→(∃cs ty,w.heap[b]?=some (.cells cs ty (0,0)))→(∀x,¬g.imm b x)→tb=some b):=by
  by_cases hh:∃t b,t0=some t∧g.tok t=some b∧(∃cs ty,w.heap[b]?=some (.cells cs ty (0,0)))∧∀x,¬g.imm b x
  ·obtain⟨t,b,h1,h2,h3,h4⟩:=hh;exact⟨some b,fun b' e=>(by cases e; exact⟨t,h1,h2,h3,h4⟩),fun t' b' e1 e2 _ _=>by rw[h1]at e1; cases e1; rw[h2]at e2; exact e2⟩
  ·exact⟨none,fun b e=>(by cases e),fun t b h1 h2 h3 h4=>absurd ⟨t,b,h1,h2,h3,h4⟩ hh⟩
 have hbat:∀(j b:Nat),ls[j]?=some b→∃blk,g.box b=some blk∧(Qda g ls)[j]?=some blk:=by
  intro j b hi;cases hg:g.box b with
  | none=>exact absurd hg (hbx b (List.mem_of_getElem? hi))
  | some blk=>exact⟨blk,rfl,by simp[Qda,hi,hg]⟩
 have hinv:∀(j blk:Nat),(Qda g ls)[j]?=some blk→∃b,ls[j]?=some b∧g.box b=some blk:=by
  intro j blk hi;simp only[Qda,List.getElem?_map,Option.map_eq_some_iff]at hi;obtain⟨b,h1,h2⟩:=hi;cases hg:g.box b with
  | none=>exact absurd hg (hbx b (List.mem_of_getElem? h1))
  | some blk'=>rw[hg]at h2; simp at h2; subst h2; exact⟨b,h1,hg⟩
 have hout:∀(k blk:Nat),Qmm (Qda g ls) k=some blk→∃j b,k=1000+j∧ls[j]?=some b∧g.box b=some blk:=by
  intro k blk hk;obtain⟨h1,h2⟩:=Qdb.1 hk;obtain⟨b,h3,h4⟩:=hinv _ _ h2;exact⟨k - 1000,b,by omega,h3,h4⟩
 have hwr:∀b,(QC3 w (Qda g ls) tb).writ b→(∃j,g.box j=some b∧j∈ls)∨(∃t,t0=some t∧g.tok t=some b∧tb=some b∧∀x,¬g.imm b x):=by
  rintro b (⟨k,hk⟩ | ⟨s,hs⟩)
  ·obtain⟨j,x,_,h1,h2⟩:=hout k b hk;exact .inl ⟨x,h2,List.mem_of_getElem? h1⟩
  ·obtain⟨_,h2⟩:=Qdd.1 hs;obtain⟨t,h3,h4,_,h5⟩:=htb1 b h2;exact .inr ⟨t,h3,h4,h2,h5⟩
 have hwim:∀b,(QC3 w (Qda g ls) tb).writ b→∀x,¬g.imm b x:=by
  intro b hb x hx;rcases hwr b hb with⟨j,h1,_⟩ | ⟨t,_,_,_,h4⟩
  ·exact(I.boxb j b h1).2.2 x hx
  ·exact h4 x hx
 have IE:Inv 0 g.imm (QC3 w (Qda g ls) tb) (QId g.imm (Qda g ls) tb) ⟨[],QcK 0 (cs.map (Cont.ren ls t0)),QPe t0,Qff 0 (cs.map (Cont.ren ls t0))⟩ ⟨#[],[]⟩ w:=by
  refine⟨KeepsW.refl _ _,rfl,⟨[],rfl,List.nodup_nil,fun D hD=>(by cases hD)⟩,I.lt,fun _ _ h=>h,fun _ _ h=> .inl h,fun t x ht=>(by cases ht),fun k b hk=>?_,fun j k b h1 h2=>?_,fun s b hs=>?_,fun s t b h1 h2=>?_,fun b xs' hb blk hblk=>?_,fun k b hk=>hk,fun p hp=>(by cases hp),fun b mc hb blk hblk=>?_,fun _ _ _=>rfl,I.globIn⟩
  ·obtain⟨j,x,_,h1,h2⟩:=hout k b hk;obtain⟨k1,k2,k3⟩:=I.boxb x b h2;exact⟨.inr (.inl ⟨k,hk⟩),k2,k3⟩
  ·obtain⟨j1,x1,rfl,e1,e2⟩:=hout j b h1;obtain⟨j2,x2,rfl,e3,e4⟩:=hout k b h2;have:=I.boxi x1 x2 b e2 e4;subst this;have hj1:j1 < ls.length:=(List.getElem?_eq_some_iff.1 e1).1;have:=(List.getElem?_inj hj1 hnd).1 (e1.trans e3.symm);omega
  ·obtain⟨h1,h2⟩:=Qdd.1 hs;obtain⟨t,h3,h4,_,_⟩:=htb1 b h2;obtain⟨k1,k2,k3⟩:=I.tokb t b h4;refine⟨k1,.inr (.inr ⟨s,hs⟩),fun k hk=>?_⟩;obtain⟨j,x,_,_,e2⟩:=hout k b hk;exact k3 x e2
  ·rw[(Qdd.1 h1).1,(Qdd.1 h2).1]
  ·obtain⟨j,rfl,hj⟩:=Qhc hb;rw[List.getElem?_map]at hj;cases hcj:cs[j]? with
   | none=>rw[hcj]at hj; cases hj
   | some cc=>
    rw[hcj]at hj;cases cc with
    | map mc=>simp[Cont.ren]at hj
    | cells ys=>
     simp only[Option.map_some,Cont.ren,Option.some.injEq,Cont.cells.injEq]at hj;subst hj;have hjl:j < ls.length:=by rw[←hcl]; exact(List.getElem?_eq_some_iff.1 hcj).1
     obtain⟨q,hq1,hq2⟩:=hcat j ls[j] (List.getElem?_eq_getElem hjl);rw[hcj]at hq2; cases hq2;obtain⟨blk',hb1,hb2⟩:=hbat j ls[j] (List.getElem?_eq_getElem hjl);have hbe:blk=blk':=by
      have:=(Qdb.1 hblk).2;rw[show 1000+0+j - 1000=j by omega,hb2]at this
      simpa using this.symm
     subst hbe;obtain⟨vs,ty',k1,k2,k3⟩:=I.boxes _ _ (QfQ hq1) blk hb1;refine⟨vs,ty',k1,by simpa using k2,fun q x v p1 p2=>?_⟩
     rw[List.getElem?_map]at p1;cases hyq:ys[q]? with
     | none=>rw[hyq]at p1; cases p1
     | some y=>
      rw[hyq]at p1; simp at p1; subst p1;obtain⟨r1,r2⟩:=k3 q y v hyq p2;exact⟨r1,Qxk ht0 htb2 (fun b hb=>hclo b (Qko (List.mem_of_getElem? hcj) (Qkk (List.mem_of_getElem? hyq) hb))) r2⟩
  ·obtain⟨j,rfl,hj⟩:=Qji hb;rw[List.getElem?_map]at hj;cases hcj:cs[j]? with
   | none=>rw[hcj]at hj; cases hj
   | some cc=>
    rw[hcj]at hj;cases cc with
    | cells ys=>simp[Cont.ren]at hj
    | map mc'=>
     simp only[Option.map_some,Cont.ren,Option.some.injEq,Cont.map.injEq]at hj;subst hj;have hjl:j < ls.length:=by rw[←hcl]; exact(List.getElem?_eq_some_iff.1 hcj).1
     obtain⟨q,hq1,hq2⟩:=hcat j ls[j] (List.getElem?_eq_getElem hjl);rw[hcj]at hq2; cases hq2;obtain⟨blk',hb1,hb2⟩:=hbat j ls[j] (List.getElem?_eq_getElem hjl);have hbe:blk=blk':=by
      have:=(Qdb.1 hblk).2;rw[show 1000+0+j - 1000=j by omega,hb2]at this
      simpa using this.symm
     subst hbe;exact I.maps _ _ (QrV hq1).2 blk hb1
 have hcall:=heff g.imm w (Qda g ls) tb (fs++(args.toList.map a.eval++us)) (by simp[Qda,hcl]) IE ⟨by simpa using hvl,fun j x v p1 p2=>by
  rw[List.getElem?_map]at p1;cases hj:xs[j]? with
  | none=>rw[hj]at p1; cases p1
  | some y=>
   rw[hj]at p1; simp at p1; subst p1;exact Qxk (t0:=none) (tb:=tb) (fun _ h=>by cases h) (fun _ _ h=>by cases h) (fun b hb=>hls0 b (Qkk (List.mem_of_getElem? hj) hb)) (hvr j y v hj p2)⟩
 have hargs:fs.toArray++args.map a.eval++us.toArray=(fs++(args.toList.map a.eval++us)).toArray:=by
  have:args.map a.eval=(args.toList.map a.eval).toArray:=by rw[←Array.toList_map,Array.toArray_toList]
  rw[this]; simp
 have hrun:(execOp a.eval ⟨dst,.call ⟨.value f,args,argTypes⟩,ty,pos,after,guard⟩).run P w= .ok (.enter gf (fs.toArray++args.map a.eval++us.toArray)) w:=by
  simp[execOp,resolve,hf,Deferred.ofValue,invoke,hen]
 rw[hargs]at hrun;refine Qhl hF hrun hcall ?_;rintro e w' ⟨v,g',rfl,I',hrel⟩;refine⟨v,rfl,?_⟩;have hsz:w.heap.size≤w'.heap.size:=I'.below.size;have hblk:∀k,k < w.heap.size→¬(QC3 w (Qda g ls) tb).writ k→w'.heap[k]?=w.heap[k]?:=fun k h1 h2=>I'.below.block k h1 h2;have hnew:∀b o,g'.imm b o→g.imm b o∨w.heap.size≤b∨(QC3 w (Qda g ls) tb).writ b:=I'.new;have hold:∀b o,g.imm b o→g'.imm b o:=I'.old;have hsz0:=I.below.size;have hcim:∀b o,g.imm b o→w'.cell? ⟨b,o,none⟩=w.cell? ⟨b,o,none⟩:=fun b o hb=>World.cell?_of_block (w:=w) (hblk b (I.lt b o hb) fun hw=>hwim b hw o hb);have hgb:∀k b,1000≤k→ls[k - 1000]?=some b→∀blk,g'.box k=some blk→g.box b=some blk:=by
  intro k b h1 h2 blk h3;obtain⟨blk',h4,h5⟩:=hbat _ b h2;have:=I'.out k blk' (Qdb.2 ⟨h1,h5⟩);rw[h3]at this; cases this; exact h4
 have htok':∀t b,g'.tok t=some b→b < w'.heap.size∧(w.heap.size≤b∨∃s,t0=some s∧g.tok s=some b):=by
  intro t b hb;obtain⟨k1,k2,k3⟩:=I'.tokb t b hb;refine⟨k1,k2.imp id ?_⟩;rintro(⟨k,hk⟩ | ⟨s,hs⟩)
  ·exact absurd (I'.out k b hk) (k3 k)
  ·obtain⟨_,h2⟩:=Qdd.1 hs;obtain⟨t',h3,h4,_⟩:=htb1 b h2;exact⟨t',h3,h4⟩
 obtain⟨g2,hg2⟩:∃g2:Gh,g2= { imm:=g'.imm,box:=g.box,tok:=fun s=>if s=QaN i then(tl.head?).bind g'.tok else if t0=some s then none else g.tok s,used:=fun s=>g.used s∨s=QaN i} :=⟨_,rfl⟩;have i2:g2.imm=g'.imm:=by rw[hg2]
 have x2:g2.box=g.box:=by rw[hg2]
 have u2:∀s,g2.used s↔g.used s∨s=QaN i:=fun s=>by rw[hg2]
 have k2:∀s,g2.tok s=if s=QaN i then(tl.head?).bind g'.tok else if t0=some s then none else g.tok s:=fun s=>by rw[hg2]
 clear hg2;have knew:∀b,g2.tok (QaN i)=some b→∃t,g'.tok t=some b:=by
  intro b hb;rw[k2,if_pos rfl]at hb;obtain⟨t,_,ht⟩:=Option.bind_eq_some_iff.1 hb;exact⟨t,ht⟩
 have e:Tr g w σ.toks g2 w' (Qgg i tl σ.toks t0):=by
  refine⟨⟨fun b o h=>by rw[i2]; exact hold b o h,hcim⟩,fun k b h=>by rw[x2]; exact h,fun t h=>(u2 t).2 (.inl h),fun t ht hm=>?_⟩
  have hne:t≠QaN i:=fun e=>hused (e ▸ ht);obtain⟨h1,h2⟩:=QpY hm hne;refine⟨h1,fun b hb=>⟨by rw[k2,if_neg hne,if_neg h2]; exact hb,fun x hx=>?_,hblk b (I.tokb t b hb).1 fun hw=>?_⟩⟩
  ·rw[i2]at hx;rcases hnew b x hx with h | h | h
   ·exact h
   ·have:=(I.tokb t b hb).1; omega
   ·rcases hwr b h with⟨j,h3,_⟩ | ⟨s,h3,h4,_⟩
    ·exact absurd h3 ((I.tokb t b hb).2.2 j)
    ·exact absurd (by rw[I.toki t s b hb h4]; exact h3) h2
  ·rcases hwr b hw with⟨j,h3,_⟩ | ⟨s,h3,h4,_⟩
   ·exact(I.tokb t b hb).2.2 j h3
   ·exact h2 (by rw[I.toki t s b hb h4]; exact h3)
 have hnc:∀(b:Nat) (o:Obj),w.heap[b]?=some o→o.isCells=false→(∀l cl,o≠ .map l cl)→w'.heap[b]?=some o:=by
  intro b o hb h1 h2;refine(hblk b (Array.getElem?_eq_some_iff.1 hb).1 fun hw=>?_).trans hb;rcases hw with⟨k,hk⟩ | ⟨s,hs⟩
  ·obtain⟨j,x,rfl,e1,e2⟩:=hout k b hk;obtain⟨q,hq1,hq2⟩:=hcat j x e1;cases q with
   | cells ys=>
    obtain⟨vs,ty',k1,_⟩:=I.boxes _ _ (QfQ hq1) b e2;rw[hb]at k1; cases k1; cases h1
   | map mc=>
    obtain⟨l,cl,k1,_⟩:=I.maps _ _ (QrV hq1).2 b e2;rw[hb]at k1; cases k1; exact h2 _ _ rfl
  ·obtain⟨_,h3⟩:=Qdd.1 hs;obtain⟨_,_,_,⟨cs',ty',h4⟩,_⟩:=htb1 b h3;rw[hb]at h4; cases h4; cases h1
 subst h;have I2:Inv c.N m0 w0 g2 { tmps:=σ.tmps,boxes:=QBJ ls i tl ls ns σ.boxes,toks:=Qgg i tl σ.toks t0,maps:=QzF ls ns σ.maps} a w':=by
  refine⟨I.below.but I'.below (fun b hb hw=>?_),I.size,?_,fun b o hb=>by rw[i2]at hb; exact I'.lt b o hb,fun b o hb=>by rw[i2]; exact hold b o (I.old b o hb),fun b o hb=>?_,fun t x hx=>RelX.tr e (I.tmps t x hx),fun k b hk=>?_,by rw[x2]; exact I.boxi,fun s b hs=>?_,fun s t b h1 h2=>?_,fun b bxs hb blk hblk'=>?_,by rw[x2]; exact I.out,fun p hp=>?_,fun b mc hb blk hblk'=>?_,QbG I.cells I.old hcim⟩
  ·rcases hwr b hw with⟨j,h1,_⟩ | ⟨t,_,h1,_⟩
   ·exact(I.boxb j b h1).1.resolve_left (Nat.not_le.2 hb)
   ·exact(I.tokb t b h1).2.1.resolve_left (Nat.not_le.2 hb)
  ·obtain⟨Ds,h1,h2,h3⟩:=I.defers;exact⟨Ds,h1,h2,fun D hD=>⟨(h3 D hD).1,hnc D _ (h3 D hD).2 rfl (fun _ _ h=>by cases h)⟩⟩
  ·rw[i2]at hb;rcases hnew b o hb with h | h | h
   ·exact I.new b o h
   ·exact .inr (.inl (Nat.le_trans hsz0 h))
   ·rcases hwr b h with⟨j,h3,_⟩ | ⟨s,h3,h4,_⟩
    ·exact .inr (I.boxb j b h3).1
    ·exact .inr (I.tokb s b h4).2.1
  ·rw[x2]at hk;obtain⟨h1,h2,h3⟩:=I.boxb k b hk;refine⟨h1,Nat.lt_of_lt_of_le h2 hsz,fun o ho=>?_⟩;rw[i2]at ho;rcases hnew b o ho with h | h | h
   ·exact h3 o h
   ·omega
   ·rcases h with⟨j,hj⟩ | ⟨s,hs⟩
    ·exact(I'.boxb j b (I'.out j b hj)).2.2 o ho
    ·obtain⟨_,h4⟩:=Qdd.1 hs;obtain⟨t,_,h5,_⟩:=htb1 b h4;exact(I.tokb t b h5).2.2 k hk
  ·by_cases hsn:s=QaN i
   ·subst hsn;obtain⟨t,ht⟩:=knew b hs;obtain⟨h1,h2⟩:=htok' t b ht;refine⟨h1,?_,fun k hk=>?_⟩
    ·rcases h2 with h2 | ⟨s,_,h3⟩
     ·exact .inl (Nat.le_trans hsz0 h2)
     ·exact(I.tokb s b h3).2.1
    ·rw[x2]at hk;rcases h2 with h2 | ⟨s,_,h3⟩
     ·have:=(I.boxb k b hk).2.1; omega
     ·exact(I.tokb s b h3).2.2 k hk
   ·rw[k2,if_neg hsn]at hs;split at hs
    ·cases hs
    ·obtain⟨h1,h2,h3⟩:=I.tokb s b hs;exact⟨Nat.lt_of_lt_of_le h1 hsz,h2,by rw[x2]; exact h3⟩
  ·have key:∀u,u≠QaN i→g2.tok u=some b→g.tok u=some b∧t0≠some u:=by
    intro u hu h;rw[k2,if_neg hu]at h;split at h
    ·cases h
    ·rename_i h'; exact⟨h,h'⟩
   have key2:∀u,u≠QaN i→g2.tok u=some b→g2.tok (QaN i)=some b→False:=by
    intro u hu h h';obtain⟨h3,h4⟩:=key u hu h;obtain⟨t',ht'⟩:=knew b h';rcases(htok' t' b ht').2 with h5 | ⟨s',h5,h6⟩
    ·have:=(I.tokb u b h3).1; omega
    ·exact h4 (by rw[I.toki u s' b h3 h6]; exact h5)
   by_cases hs:s=QaN i<;>by_cases ht:t=QaN i
   ·rw[hs,ht]
   ·rw[hs]at h1; exact(key2 t ht h2 h1).elim
   ·rw[ht]at h2; exact(key2 s hs h1 h2).elim
   ·exact I.toki s t b (key s hs h1).1 (key t ht h2).1
  ·rw[x2]at hblk';rcases Qnk hnl' hb with⟨j,ys,h1,h2,rfl⟩ | ⟨h1,h2⟩
   ·obtain⟨blk',h3,h4⟩:=hbat j b h1;rw[h3]at hblk'; cases hblk';have hg':g'.box (1000+0+j)=some blk:=I'.out _ _ (Qdb.2 ⟨by omega,by rw[show 1000+0+j - 1000=j by omega]; exact h4⟩)
    obtain⟨vs,ty',q1,q2,q3⟩:=I'.boxes _ _ (Qj8 (i:=0) h2) blk hg';refine⟨vs,ty',q1,by simpa using q2,fun q x v p1 p2=>?_⟩
    rw[List.getElem?_map]at p1;cases hyq:ys[q]? with
    | none=>rw[hyq]at p1; cases p1
    | some y=>
     rw[hyq]at p1; simp at p1; subst p1;obtain⟨r1,r2⟩:=q3 q y v hyq p2;exact⟨r1,QAw (by rw[x2]; exact hgb) i2 ((u2 _).2 (.inr rfl)) (fun t ht=>by rw[k2,if_pos rfl,ht]; rfl) r2⟩
   ·refine BoxAt.tr e (I.boxes b bxs h2 blk hblk') (hblk blk (I.boxb b blk hblk').2.1 fun hw=>?_);rcases hwr blk hw with⟨j,h3,h4⟩ | ⟨s,_,h3,_⟩
    ·have:=I.boxi j b blk h3 hblk';subst this;obtain⟨p,hp,hpe⟩:=List.getElem_of_mem h4;obtain⟨q,hq1,hq2⟩:=hcat p j (by rw[←hpe]; exact List.getElem?_eq_getElem hp)
     have:q= .cells bxs:=by
      unfold St.cont at hq1;rw[h2]at hq1;simpa using hq1.symm
     subst this;obtain⟨nb,hnb,_⟩:=(hnat p).1 _ hq2;exact h1 p nb (by rw[←hpe]; exact List.getElem?_eq_getElem hp) hnb
    ·exact(I.tokb s blk h3).2.2 b hblk'
  ·obtain⟨h1,h2,h3⟩:=I.fz p hp;exact⟨hnc _ _ h1 h2 h3,h2,h3⟩
  ·rw[x2]at hblk';rcases Qi7 hnl' hb with⟨j,h1,h2⟩ | ⟨h1,h2⟩
   ·obtain⟨blk',h3,h4⟩:=hbat j b h1;rw[h3]at hblk'; cases hblk';have hg':g'.box (1000+0+j)=some blk:=I'.out _ _ (Qdb.2 ⟨by omega,by rw[show 1000+0+j - 1000=j by omega]; exact h4⟩)
    exact I'.maps _ _ (Qnx (i:=0) h2) blk hg'
   ·refine(I.maps b mc h2 blk hblk').keep (hblk blk (I.boxb b blk hblk').2.1 fun hw=>?_);rcases hwr blk hw with⟨j,h3,h4⟩ | ⟨s,_,h3,_⟩
    ·have:=I.boxi j b blk h3 hblk';subst this;obtain⟨p,hp,hpe⟩:=List.getElem_of_mem h4;obtain⟨q,hq1,hq2⟩:=hcat p j (by rw[←hpe]; exact List.getElem?_eq_getElem hp)
     cases q with
     | cells ys=>
      obtain⟨_,_,k1,_⟩:=I.boxes _ _ (QfQ hq1) blk hblk';obtain⟨_,_,k3,_⟩:=I.maps _ _ h2 blk hblk';rw[k1]at k3; cases k3
     | map mc'=>
      obtain⟨nb,hnb⟩:=(hnat p).2 _ hq2;exact h1 p nb (by rw[←hpe]; exact List.getElem?_eq_getElem hp) hnb
    ·exact(I.tokb s blk h3).2.2 b hblk'
 refine hK g2 _ w' (I2.put hd (x:= .d d) (by rw[←i2]at hrel; exact hrel)) (fun j hj _=>⟨by rw[x2]; exact hj.1,?_⟩) (fun t ht=>(u2 t).1 ht)
 cases hm:Qt (QzF ls ns σ.maps) j with
 | none=>rfl
 | some mc=>
  rcases Qi7 hnl' hm with⟨p,h1,h2⟩ | ⟨h1,h2⟩
  ·exact absurd hj.1 (hbx j (List.mem_of_getElem? h1))
  ·rw[hj.2]at h2; cases h2
end
end Go.Proofs.YticoemblgkemiaaGreatDoor
namespace Go.Proofs.YticoemblgkemiaaGreatDoor
open Go.RowKit Go.MapKept Go.ChangeMaps
structure KeyOk (P:Program) (K:TypeId) (sh:Nat):Prop where
 law:Go.Maps.Keyed P K
 key:∀v,shK v=sh→wfK v→∃kl,keyOf P K v=some kl
theorem Qra {v:Value} :QII v=true↔wf1 v:=by cases v<;>simp[QII,wf1]
theorem Qqk {v:Value} :QEP v=true↔wfK v:=by
 cases v with
 | agg cs=>
  simp only[QEP,wfK,List.all_eq_true];exact⟨fun h v hv=>Qra.1 (h v hv),fun h v hv=>Qra.2 (h v hv)⟩
 | _=>simp only[QEP,wfK]; exact Qra
theorem Qlt {es:List (Value×Value)} {k v:Value} (hk:wfK k):QcG ((k,v)::es) k=some v:=by simp[QcG,QB0 hk]
theorem Qhw {es:List (Value×Value)} {k v x:Value} (h:k≠x):QcG ((k,v)::es) x=QcG es x:=by
 have:eqK k x=false:=by
  cases h':eqK k x with
  | false=>rfl
  | true=>exact absurd (QKi h') h
 simp[QcG,this]
section
variable {P:Program} {K T e:TypeId} {sh M:Nat} {w:World} {es:List (Value×Value)} {z key:Value}
theorem QBe (hk:KeyOk P K sh) (ht:P.underlying T=some (.map K e)) (hz:∀w,(zeroValue e).run P w= .ok z w) (h:MapAt w M (sh,es)) (h1:shK key=sh) (h2:wfK key):
  (Instr.lookup T (.map (some M)) key false).run P w= .ok ((QcG es key).getD z) w:=by
 obtain⟨l,cl,hb,hs,hn,hl,hc⟩:=h;obtain⟨kl,hkl⟩:=hk.key key h1 h2;have hkeys:∀x∈l.toList,∃l',keyOf P K x.key=some l':=fun x hx=>hk.key x.key (hl x hx).1 (hl x hx).2.1;rcases hk.law.find w hkl l.toList hkeys with⟨q1,q2⟩ | ⟨j,e0,q1,q2,q3⟩
 ·have:QcG es key=none:=by
   cases hlk:QcG es key with
   | none=>rfl
   | some v=>obtain⟨x,hx,hxk⟩:=hc key v h2 hlk; exact absurd hxk (q2 x hx)
  rw[this];simp[Instr.lookup,run_underlying ht,Go.MapKept.run_getObj_map hb,hk.law.check w _ hkl,q1,hz,Result.andThen]
 ·have:=(hl e0 (List.mem_of_getElem? q2)).2.2;rw[q3]at this;simp only at this;rw[this];simp[Instr.lookup,run_underlying ht,Go.MapKept.run_getObj_map hb,hk.law.check w _ hkl,q1,Result.andThen]
theorem Qyr (hk:KeyOk P K sh) (ht:P.underlying T=some (.map K e)) (hz:∀w,(zeroValue e).run P w= .ok z w) (h:MapAt w M (sh,es)) (h1:shK key=sh) (h2:wfK key):
  (Instr.lookup T (.map (some M)) key true).run P w= .ok (.tuple #[(QcG es key).getD z,.bool (QcG es key).isSome]) w:=by
 obtain⟨l,cl,hb,hs,hn,hl,hc⟩:=h;obtain⟨kl,hkl⟩:=hk.key key h1 h2;have hkeys:∀x∈l.toList,∃l',keyOf P K x.key=some l':=fun x hx=>hk.key x.key (hl x hx).1 (hl x hx).2.1;rcases hk.law.find w hkl l.toList hkeys with⟨q1,q2⟩ | ⟨j,e0,q1,q2,q3⟩
 ·have:QcG es key=none:=by
   cases hlk:QcG es key with
   | none=>rfl
   | some v=>obtain⟨x,hx,hxk⟩:=hc key v h2 hlk; exact absurd hxk (q2 x hx)
  rw[this];simp[Instr.lookup,run_underlying ht,Go.MapKept.run_getObj_map hb,hk.law.check w _ hkl,q1,hz,Result.andThen]
 ·have:=(hl e0 (List.mem_of_getElem? q2)).2.2;rw[q3]at this;simp only at this;rw[this];simp[Instr.lookup,run_underlying ht,Go.MapKept.run_getObj_map hb,hk.law.check w _ hkl,q1,Result.andThen]
def MapP (w:World) (M:Nat) (sh:Nat) (es:List (Value×Value)) (z key:Value) (st:Nat):Prop:=
 ∃(l:Array MapEntry) (clock:Nat),w.heap[M]?=some (.map l clock)∧Stamped l clock∧l.size≤es.length+1∧
  (∀x∈l.toList,shK x.key=sh∧wfK x.key∧((x.key=key∧x.born=st∧x.val=(QcG es key).getD z)∨(x.key≠key∧QcG es x.key=some x.val)))∧(∃x∈l.toList,x.key=key)∧∀y v,wfK y→QcG es y=some v→∃x∈l.toList,x.key=y
theorem MapP.keep {w':World} {st:Nat} (h:MapP w M sh es z key st) (k:w'.heap[M]?=w.heap[M]?):MapP w' M sh es z key st:=by
 obtain⟨l,cl,h1,h2⟩:=h;exact⟨l,cl,k.trans h1,h2⟩
theorem QWU (hk:KeyOk P K sh) (ht:P.underlying T=some (.map K e)) {st:Nat} (h:MapP w M sh es z key st) (h1:shK key=sh) (h2:wfK key):
  (Instr.lookup T (.map (some M)) key false).run P w= .ok ((QcG es key).getD z) w:=by
 obtain⟨l,cl,hb,hs,hn,hl,⟨x0,hx0,hx1⟩,hc⟩:=h;obtain⟨kl,hkl⟩:=hk.key key h1 h2;have hkeys:∀x∈l.toList,∃l',keyOf P K x.key=some l':=fun x hx=>hk.key x.key (hl x hx).1 (hl x hx).2.1;rcases hk.law.find w hkl l.toList hkeys with⟨q1,q2⟩ | ⟨j,e0,q1,q2,q3⟩
 ·exact absurd hx1 (q2 x0 hx0)
 ·have:=((hl e0 (List.mem_of_getElem? q2)).2.2.resolve_right (fun h=>h.1 q3)).2.2;rw[←this];simp[Instr.lookup,run_underlying ht,Go.MapKept.run_getObj_map hb,hk.law.check w _ hkl,q1,Result.andThen]
theorem Qzm (hk:KeyOk P K sh) (ht:P.underlying T=some (.map K e)) (hz:∀w,(zeroValue e).run P w= .ok z w) (h:MapAt w M (sh,es)) (h1:shK key=sh) (h2:wfK key):
  ∃(v0:Value) (st:Nat) (l1:Array MapEntry) (c1:Nat),(Instr.mapEntry T (.map (some M)) key).run P w= .ok (.tuple #[v0,goInt st]) (setBlock w M (.map l1 c1))∧MapP (setBlock w M (.map l1 c1)) M sh es z key st:=by
 obtain⟨l,cl,hb,hs,hn,hl,hc⟩:=h;have hMs:M < w.heap.size:=(Array.getElem?_eq_some_iff.1 hb).1;obtain⟨kl,hkl⟩:=hk.key key h1 h2;have hkeys:∀x∈l.toList,∃l',keyOf P K x.key=some l':=fun x hx=>hk.key x.key (hl x hx).1 (hl x hx).2.1;obtain⟨s1,s2,s3⟩:=hs;rcases hk.law.find w hkl l.toList hkeys with⟨q1,q2⟩ | ⟨j,e0,q1,q2,q3⟩
 ·have hno:QcG es key=none:=by
   cases hlk:QcG es key with
   | none=>rfl
   | some v=>obtain⟨x,hx,hxk⟩:=hc key v h2 hlk; exact absurd hxk (q2 x hx)
  refine⟨z,cl,l.push ⟨key,z,cl⟩,cl+1,?_,⟨l.push ⟨key,z,cl⟩,cl+1,heap_setBlock_same hb _,stamped_push ⟨s1,s2,s3⟩ q2,by simp; omega,?_,⟨⟨key,z,cl⟩,by simp,rfl⟩,fun y v hy hv=>?_⟩⟩
  ·simp[Instr.mapEntry,run_underlying ht,Go.MapKept.run_getObj_map hb,hk.law.check w false hkl,q1,hz,Go.MapKept.run_setObj_map _ hb,Result.andThen,setBlock]
  ·intro x hx;simp only[Array.toList_push,List.mem_append,List.mem_singleton]at hx;rcases hx with hx | rfl
   ·exact⟨(hl x hx).1,(hl x hx).2.1,.inr ⟨q2 x hx,(hl x hx).2.2⟩⟩
   ·exact⟨h1,h2,.inl ⟨rfl,rfl,by rw[hno]; rfl⟩⟩
  ·obtain⟨x,hx,hxk⟩:=hc y v hy hv;exact⟨x,by simp[hx],hxk⟩
 ·have hj:l[j]?=some e0:=by simpa using q2
  have hsame:l.modify j (fun e=> { e with key:=key})=l:=by
   apply Array.ext';rw[Array.toList_modify,modify_eq_set _ _ _ _ q2];have:({ e0 with key:=key} :MapEntry)=e0:=by rw[←q3]
   rw[this];exact Go.WideElems.set_self _ _ _ q2
  have hm0:=List.mem_of_getElem? q2;refine⟨e0.val,e0.born,l,cl,?_,⟨l,cl,heap_setBlock_same hb _,⟨s1,s2,s3⟩,by simp only at hn; omega,fun x hx=>⟨(hl x hx).1,(hl x hx).2.1,?_⟩,⟨e0,hm0,q3⟩,hc⟩⟩
  ·simp[Instr.mapEntry,run_underlying ht,Go.MapKept.run_getObj_map hb,hk.law.check w false hkl,q1,hj,q3,hk.law.stays w hkl,hsame,Go.MapKept.run_setObj_map _ hb,Result.andThen,setBlock]
  ·by_cases hxk:x.key=key
   ·left;have hxe:x=e0:=by
     have hp:=((stamped_iff l cl).1 ⟨s1,s2,s3⟩).2.2;obtain⟨p,hp1,hp2⟩:=List.getElem_of_mem hx;have hjl:j < l.toList.length:=(List.getElem?_eq_some_iff.1 q2).1;have hje:l.toList[j]=e0:=by rw[List.getElem?_eq_getElem hjl]at q2; simpa using q2
     rcases Nat.lt_trichotomy p j with h | h | h
     ·have:=(List.pairwise_iff_getElem.1 hp) p j hp1 hjl h;rw[hp2,hje,hxk,q3]at this; exact absurd rfl this
     ·subst h; rw[←hp2,hje]
     ·have:=(List.pairwise_iff_getElem.1 hp) j p hjl hp1 h;rw[hp2,hje,hxk,q3]at this; exact absurd rfl this
    subst hxe;refine⟨q3,rfl,?_⟩;have:=(hl x hx).2.2;rw[q3]at this;simp only at this;rw[this]; rfl
   ·exact .inr ⟨hxk,(hl x hx).2.2⟩
theorem Qvo {st:Nat} {val:Value} (h:MapP w M sh es z key st) (h1:shK key=sh) (h2:wfK key):
  ∃(l2:Array MapEntry) (c2:Nat),(Instr.entryStore T (.map (some M)) (goInt st) val).run P w= .ok () (setBlock w M (.map l2 c2))∧MapAt (setBlock w M (.map l2 c2)) M (sh,(key,val)::es):=by
 obtain⟨l,cl,hb,hs,hn,hl,⟨x0,hx0,hx1⟩,hc⟩:=h;obtain⟨s1,s2,s3⟩:=hs;obtain⟨j,hj,hje⟩:=List.getElem_of_mem hx0;have hj0:l.toList[j]?=some x0:=by rw[List.getElem?_eq_getElem hj,hje]
 have hborn:x0.born=st:=((hl x0 hx0).2.2.resolve_right (fun h=>h.1 hx1)).2.1;have hidx:l.findIdx? (fun e=>((e.born:Nat):Int)==((st:Nat):Int))=some j:=by
  rw[Go.WideElems.findIdx_arr,←hborn];exact Go.WideElems.findIdx_born s2 hj0
 have hset:(l.modify j (fun e=> { e with val:=val})).toList=l.toList.set j { x0 with val:=val} :=by
  rw[Array.toList_modify,modify_eq_set _ _ _ _ hj0]
 refine⟨l.modify j (fun e=> { e with val:=val}),cl,?_,⟨l.modify j (fun e=> { e with val:=val}),cl,heap_setBlock_same hb _,⟨?_,?_,?_⟩,by simp; omega,fun x hx=>?_,fun y v hy hv=>?_⟩⟩
 ·simp[Instr.entryStore,Go.MapKept.run_getObj_map hb,asInt,asIntOf,goInt,hidx,Go.MapKept.run_setObj_map _ hb,Result.andThen,setBlock]
 ·intro x hx;rw[hset]at hx;rcases List.mem_or_eq_of_mem_set hx with h | rfl
  ·exact s1 x h
  ·exact s1 x0 hx0
 ·rw[hset,List.map_set,show(MapEntry.born { x0 with val:=val})=(l.toList.map (·.born))[j]'(by simpa using hj) by simp[hje],List.set_getElem_self]; exact s2
 ·rw[hset,List.map_set,show(MapEntry.key { x0 with val:=val})=(l.toList.map (·.key))[j]'(by simpa using hj) by simp[hje],List.set_getElem_self]; exact s3
 ·rw[hset]at hx;obtain⟨p,hp,hpe⟩:=List.getElem_of_mem hx;rw[List.getElem_set]at hpe;split at hpe
  ·subst hpe;refine⟨by simp only; rw[hx1]; exact h1,by simp only; rw[hx1]; exact h2,?_⟩
   simp only;rw[hx1,Qlt h2]
  ·rename_i hne;have hpl:p < l.toList.length:=by simpa using hp
   have hxm:x∈l.toList:=by rw[←hpe]; exact List.getElem_mem _
   have hxk:x.key≠key:=by
    intro hk';have hp':=((stamped_iff l cl).1 ⟨s1,s2,s3⟩).2.2;rcases Nat.lt_trichotomy p j with h | h | h
    ·have:=(List.pairwise_iff_getElem.1 hp') p j hpl hj h;rw[hpe,hje,hk',hx1]at this; exact this rfl
    ·exact hne h.symm
    ·have:=(List.pairwise_iff_getElem.1 hp') j p hj hpl h;rw[hpe,hje,hk',hx1]at this; exact this rfl
   refine⟨(hl x hxm).1,(hl x hxm).2.1,?_⟩;simp only;rw[Qhw (fun e=>hxk e.symm)];exact((hl x hxm).2.2.resolve_left (fun h=>hxk h.1)).2
 ·have hmem:∀x∈l.toList,∃x'∈(l.modify j (fun e=> { e with val:=val})).toList,x'.key=x.key:=by
   intro x hx;obtain⟨p,hp,hpe⟩:=List.getElem_of_mem hx;have hp':p < (l.toList.set j { x0 with val:=val}).length:=by simpa using hp
   refine⟨(l.toList.set j { x0 with val:=val})[p],by rw[hset]; exact List.getElem_mem _,?_⟩
   rw[List.getElem_set];split
   ·rename_i hjp; subst hjp; rw[hje]at hpe; rw[hpe]
   ·rw[hpe]
  by_cases hyk:key=y
  ·obtain⟨x',h3,h4⟩:=hmem x0 hx0;exact⟨x',h3,by rw[h4,hx1,hyk]⟩
  ·rw[Qhw hyk]at hv;obtain⟨x,hx,hxk⟩:=hc y v hy hv;obtain⟨x',h3,h4⟩:=hmem x hx;exact⟨x',h3,by rw[h4,hxk]⟩
theorem QEb (hk:KeyOk P K sh) (ht:P.underlying T=some (.map K e)) (hz:∀w,(zeroValue e).run P w= .ok z w) {val:Value} (h:MapAt w M (sh,es)) (h1:shK key=sh) (h2:wfK key):
  ∃(l2:Array MapEntry) (c2:Nat),(Instr.mapUpdate T (.map (some M)) key val).run P w= .ok () (setBlock w M (.map l2 c2))∧MapAt (setBlock w M (.map l2 c2)) M (sh,(key,val)::es):=by
 have hE:=Qzm hk ht hz h h1 h2;obtain⟨l,cl,hb,hs,hn,hl,hc⟩:=h;obtain⟨kl,hkl⟩:=hk.key key h1 h2;have hkeys:∀x∈l.toList,∃l',keyOf P K x.key=some l':=fun x hx=>hk.key x.key (hl x hx).1 (hl x hx).2.1;obtain⟨s1,s2,s3⟩:=hs;rcases hk.law.find w hkl l.toList hkeys with⟨q1,q2⟩ | ⟨j,e0,q1,q2,q3⟩
 ·refine⟨l.push ⟨key,val,cl⟩,cl+1,?_,⟨l.push ⟨key,val,cl⟩,cl+1,heap_setBlock_same hb _,stamped_push ⟨s1,s2,s3⟩ q2,by simp only at hn; simp; omega,fun x hx=>?_,fun y v hy hv=>?_⟩⟩
  ·simp[Instr.mapUpdate,run_underlying ht,Go.MapKept.run_getObj_map hb,hk.law.check w false hkl,q1,Go.MapKept.run_setObj_map _ hb,Result.andThen,setBlock]
  ·simp only[Array.toList_push,List.mem_append,List.mem_singleton]at hx;rcases hx with hx | rfl
   ·refine⟨(hl x hx).1,(hl x hx).2.1,?_⟩;simp only;rw[Qhw (fun e=>q2 x hx e.symm)]; exact(hl x hx).2.2
   ·exact⟨h1,h2,Qlt h2⟩
  ·by_cases hyk:key=y
   ·exact⟨⟨key,val,cl⟩,by simp,hyk⟩
   ·simp only at hv;rw[Qhw hyk]at hv;obtain⟨x,hx,hxk⟩:=hc y v hy hv;exact⟨x,by simp[hx],hxk⟩
 ·have hj:l[j]?=some e0:=by simpa using q2
  have hsame:l.modify j (fun e=> { e with key:=key})=l:=by
   apply Array.ext';rw[Array.toList_modify,modify_eq_set _ _ _ _ q2];have:({ e0 with key:=key} :MapEntry)=e0:=by rw[←q3]
   rw[this];exact Go.WideElems.set_self _ _ _ q2
  have hsame2:l.modify j (fun e=> { e with key:=key,val:=val})=l.modify j (fun e=> { e with val:=val}):=by
   apply Array.ext';rw[Array.toList_modify,Array.toList_modify,modify_eq_set _ _ _ _ q2,modify_eq_set _ _ _ _ q2];have:({ e0 with key:=key,val:=val} :MapEntry)= { e0 with val:=val} :=by rw[←q3]
   rw[this]
  obtain⟨v0,st,l1,c1,hrun,hP⟩:=hE;have hrun2:(Instr.mapEntry T (.map (some M)) key).run P w= .ok (.tuple #[e0.val,goInt e0.born]) (setBlock w M (.map l cl)):=by
   simp[Instr.mapEntry,run_underlying ht,Go.MapKept.run_getObj_map hb,hk.law.check w false hkl,q1,hj,q3,hk.law.stays w hkl,hsame,Go.MapKept.run_setObj_map _ hb,Result.andThen,setBlock]
  rw[hrun]at hrun2;simp only[Result.ok.injEq,Value.tuple.injEq]at hrun2;obtain⟨ht2,hw2⟩:=hrun2;have hst:st=e0.born:=by
   have:=congrArg (fun a:Array Value=>a[1]?) ht2;simp[goInt]at this;omega
  subst hst;rw[hw2]at hP;have hMw:(setBlock w M (.map l cl)).heap[M]?=w.heap[M]?:=by rw[heap_setBlock_same hb,hb]
  have hP':=hP.keep (w':=w) hMw.symm;obtain⟨l2,c2,hr2,hMA⟩:=Qvo (P:=P) (T:=T) (val:=val) hP' h1 h2;obtain⟨s1',s2',s3'⟩:=(⟨s1,s2,s3⟩:Stamped l cl);have hidx:l.findIdx? (fun e=>((e.born:Nat):Int)==((e0.born:Nat):Int))=some j:=by
   rw[Go.WideElems.findIdx_arr];exact Go.WideElems.findIdx_born s2 q2
  have hr3:(Instr.entryStore T (.map (some M)) (goInt e0.born) val).run P w= .ok () (setBlock w M (.map (l.modify j (fun e=> { e with val:=val})) cl)):=by
   simp[Instr.entryStore,Go.MapKept.run_getObj_map hb,asInt,asIntOf,goInt,hidx,Go.MapKept.run_setObj_map _ hb,Result.andThen,setBlock]
  rw[hr2]at hr3;simp only[Result.ok.injEq,true_and]at hr3;refine⟨l.modify j (fun e=> { e with val:=val}),cl,?_,by rw[←hr3]; exact hMA⟩
  simp[Instr.mapUpdate,run_underlying ht,Go.MapKept.run_getObj_map hb,hk.law.check w false hkl,q1,hj,q3,hk.law.stays w hkl,hsame2,Go.MapKept.run_setObj_map _ hb,Result.andThen,setBlock]
end
end Go.Proofs.YticoemblgkemiaaGreatDoor
namespace Go.Proofs.YticoemblgkemiaaGreatDoor
open Go.RowKit Go.MapKept Go.ChangeMaps
def QC4 (P:Program) (gf:Nat) (caps:List D) (l:List (List Value)):Prop:=
 ∀(n:Nat) (m:Nat→Nat→Prop) (w:World) (lb:List Value),(∀b o,m b o→b < w.heap.size)→GlobIn m w→RelL m w caps lb→∀(ln:Nat) (J:List (List Value)→World→Prop) (Jx:World→Prop),
  (∀pre W W',J pre W→Below W.heap.size W W'→J pre W')→(∀W W',Jx W→Below W.heap.size W W'→Jx W')→
  (∀pre x W,J pre W→(pre++[x]) <+:l→YieldAt Fence.wide (n - 1) P ln x.toArray W fun e W'=>((e= .returned (.bool true)∧J (pre++[x]) W')∨(e= .returned (.bool false)∧Jx W'))∧W.heap.size≤W'.heap.size∧∀b o,m b o→W'.cell? ⟨b,o,none⟩=W.cell? ⟨b,o,none⟩)→
  J [] w→CallsIn Fence.wide n P gf (#[.func (.yield ln) #[] #[]]++lb.toArray) w fun e W'=>(∃v,e= .returned v)∧(J l W'∨Jx W')
structure CxOk (P:Program) (c:Cx):Prop where
 ty:∀T i,c.Γ T=some i→TyOk P T i
 eq:∀T n,Qt c.eqs T=some n→QzT P T n
 del:QaE P c.Δ
 eff:Qnm P c.Δe
 mix:P.follows .mixedOrders=true
 keys:∀K sh,Qt c.keys K=some sh→KeyOk P K sh
 pan:Qql P c.Δp
 seq:∀gf caps l,c.seq gf caps=some l→(∀xs w,(callFunc gf xs).run P w= .ok (.enter gf xs) w)∧QC4 P gf caps l
section
variable {F:Fence} {n:Nat} {P:Program} {c:Cx} {N:Nat} {m0:Nat→Nat→Prop} {w0:Base} {g:Gh} {σ σ':St} {a:Act} {w:World}
theorem Inv.allocM (I:Inv N m0 w0 g σ a w) {d:Nat} (hd:d < N) (hg:g.box d=none) (hbd:Qt σ.boxes d=none) (sh:Nat):
  Inv N m0 w0 { g with box:=fun i=>if i=d then some w.heap.size else g.box i} { σ with tmps:=(d,.mp d)::σ.tmps,maps:=(d,(sh,[]))::σ.maps} (a.put (some d) (.map (some w.heap.size))) (w.alloc (.map #[] 0)):=by
 have hsz:=I.below.size;have hba:Below w.heap.size w (w.alloc (.map #[] 0)):=(Below.refl _ w).alloc (Nat.le_refl _) _;have hne:∀i b,g.box i=some b→i≠d:=fun i b h e=>by subst e; rw[hg]at h; cases h
 have e:Tr g w σ.toks { g with box:=fun i=>if i=d then some w.heap.size else g.box i} (w.alloc (.map #[] 0)) σ.toks:=by
  refine⟨⟨fun b o h=>h,fun b o h=>hba.cell (p:=⟨b,o,none⟩) (I.lt b o h)⟩,fun i b h=>?_,fun _ h=>h,fun t _ h=>⟨h,fun b hb=>⟨hb,fun x hx=>hx,hba.block b (I.tokb t b hb).1⟩⟩⟩;show(if i=d then some w.heap.size else g.box i)=some b;rw[if_neg (hne i b h)]; exact h
 refine⟨I.below.trans (hba.mono hsz),by rw[QbP]; exact I.size,by rw[Qa0]; exact Qdx I.defers (KeepN.of_below hba),fun b o h=>Nat.lt_of_lt_of_le (I.lt b o h) hba.size,I.old,I.new,?_,?_,?_,?_,I.toki,?_,fun i b hi=>by
  have h:=I.out i b hi;show(if i=d then some w.heap.size else g.box i)=some b;rw[if_neg (hne i b h)]; exact h,Qio I.fz (KeepN.of_below hba),?_,QbG I.cells I.old e.ext.cell⟩
 ·intro t x ht;rw[Qcm _ _ _ _ (by rw[I.size]; exact hd)]
  simp only[Qt]at ht;by_cases h:t=d
  ·rw[if_pos h]at ht⊢; cases ht;exact⟨w.heap.size,by simp,rfl⟩
  ·rw[if_neg h]at ht⊢; exact RelX.tr e (I.tmps t x ht)
 ·intro i b h;simp only at h;by_cases hi:i=d
  ·rw[if_pos hi]at h; cases h;exact⟨.inl hsz,by simp,fun o ho=>by have:=I.lt _ _ ho; omega⟩
  ·rw[if_neg hi]at h;obtain⟨k1,k2,k3⟩:=I.boxb i b h;exact⟨k1,Nat.lt_of_lt_of_le k2 hba.size,k3⟩
 ·intro i j b h h';simp only at h h';by_cases hi:i=d<;>by_cases hj:j=d
  ·rw[hi,hj]
  ·rw[if_pos hi]at h; rw[if_neg hj]at h'; cases h;have:=(I.boxb j _ h').2.1; omega
  ·rw[if_neg hi]at h; rw[if_pos hj]at h'; cases h';have:=(I.boxb i _ h).2.1; omega
  ·rw[if_neg hi]at h; rw[if_neg hj]at h'; exact I.boxi i j b h h'
 ·intro t b h;obtain⟨k1,k2,k3⟩:=I.tokb t b h;refine⟨Nat.lt_of_lt_of_le k1 hba.size,k2,fun i hi=>?_⟩;simp only at hi;by_cases hd':i=d
  ·rw[if_pos hd']at hi; simp only[Option.some.injEq]at hi; omega
  ·rw[if_neg hd']at hi; exact k3 i hi
 ·intro b cs' h blk hblk;simp only at hblk;by_cases hb:b=d
  ·subst hb; rw[hbd]at h; cases h
  ·rw[if_neg hb]at hblk;exact BoxAt.tr e (I.boxes b cs' h blk hblk) (hba.block blk (I.boxb b blk hblk).2.1)
 ·intro i mc h blk hblk;simp only[Qt]at h;simp only at hblk;by_cases hi:i=d
  ·rw[if_pos hi]at h hblk;simp only[Option.some.injEq]at h hblk;subst h; subst hblk;exact⟨#[],0,Qbi _ _,⟨by simp,by simp,by simp⟩,by simp,by simp,fun x v _ h=>by simp[QcG]at h⟩
  ·rw[if_neg hi]at h hblk;exact(I.maps i mc h blk hblk).keep (hba.block blk (I.boxb i blk hblk).2.1)
theorem Inv.setMap (I:Inv N m0 w0 g σ a w) {b blk:Nat} (hb:g.box b=some blk) {l0:Array MapEntry} {c0:Nat} (hh:w.heap[blk]?=some (.map l0 c0)) {l:Array MapEntry} {cl:Nat} (maps':List (Nat×(Nat×List (Value×Value))))
  (hM:QsO g (setBlock w blk (.map l cl)) maps'):Inv N m0 w0 g { σ with maps:=maps'} a (setBlock w blk (.map l cl)):=by
 have hoth:∀k,k≠blk→(setBlock w blk (.map l cl)).heap[k]?=w.heap[k]?:=fun k hk=>heap_setBlock_other hh _ hk;have hs:(setBlock w blk (.map l cl)).heap.size=w.heap.size:=by simp[setBlock]
 have hnc:∀(ad:Addr),(setBlock w blk (.map l cl)).cell? ad=w.cell? ad:=by
  intro ad;by_cases e:ad.block=blk
  ·unfold World.cell?;rw[e,heap_setBlock_same hh,hh]
  ·exact World.cell?_of_block (hoth _ e)
 obtain⟨kb,klt,kim⟩:=I.boxb b blk hb;have e:Tr g w σ.toks g (setBlock w blk (.map l cl)) σ.toks:=by
  refine⟨⟨fun _ _ h=>h,fun b' o h=>hnc _⟩,fun _ _ h=>h,fun _ h=>h,fun t _ h=>⟨h,fun b' hb'=>⟨hb',fun _ hx=>hx,hoth b' (fun e=>by subst e; exact(I.tokb t _ hb').2.2 b hb)⟩⟩⟩
 refine⟨⟨I.below.os,I.below.tape,I.below.output,by rw[show(setBlock w blk (.map l cl)).heap.size=w.heap.size from hs]; exact I.below.size,fun k hk hn=>?_⟩,I.size,?_,fun b' o h=>by rw[hs]; exact I.lt b' o h,I.old,I.new,fun t x h=>RelX.tr e (I.tmps t x h),fun i b' h=>by rw[hs]; exact I.boxb i b' h,I.boxi,fun t b' h=>by rw[hs]; exact I.tokb t b' h,I.toki,?_,I.out,?_,hM,QbG I.cells I.old e.ext.cell⟩
 ·rw[hoth k (fun e=>by
   subst e;rcases kb with kb | kb
   ·exact absurd hk (Nat.not_lt.2 kb)
   ·exact hn kb)]
  exact I.below.block k hk hn
 ·obtain⟨Ds,h1,h2,h3⟩:=I.defers;refine⟨Ds,h1,h2,fun D hD=>⟨(h3 D hD).1,?_⟩⟩;rw[hoth D (fun e=>by subst e; rw[(h3 D hD).2]at hh; cases hh)]; exact(h3 D hD).2
 ·intro b' cs' h blk' hblk';have hne:blk'≠blk:=by
   rintro rfl;obtain⟨vs,ty,k1,_⟩:=I.boxes b' cs' h blk' hblk';rw[hh]at k1; cases k1
  exact BoxAt.tr e (I.boxes b' cs' h blk' hblk') (hoth _ hne)
 ·intro p hp;obtain⟨h1,h2,h3⟩:=I.fz p hp;refine⟨?_,h2,h3⟩;rw[hoth p.1 (fun e=>by rw[e,hh]at h1; simp only[Option.some.injEq]at h1; exact h3 _ _ h1.symm)]; exact h1
theorem Qq3 {base:Nat} {toks:List Nat} {x:X} {kv v:Value} (h:x.key=some kv) (r:RelX g w base toks x v):v=kv:=by
 unfold X.key at h;split at h
 ·simp only[Option.some.injEq]at h; subst h;simpa[RelX,Rel]using r
 ·rename_i cs;split at h
  ·rename_i vs hvs;simp only[Option.some.injEq]at h; subst h;simp only[RelX,Rel]at r;obtain⟨us,h1,_,h3⟩:=r;rw[h1,QcU hvs h3]
  ·cases h
 ·cases h
theorem Qiq {T:TypeId} {m:X} {b sh:Nat} {es:List (Value×Value)} {e:TypeId} {j:TyI} (h:c.mapAt T m σ=some (b,sh,es,e,j)):m= .mp b∧Qt σ.maps b=some (sh,es)∧∃i K,c.Γ T=some i∧i.desc= .map K e∧Qt c.keys K=some sh∧c.Γ e=some j:=by
 unfold Cx.mapAt at h;split at h
 ·rename_i b';split at h
  ·rename_i sh' es' i hm hT;split at h
   ·rename_i K e' hd;split at h
    ·rename_i sh2 j' hk hj;split at h
     ·rename_i hs;simp only[Option.some.injEq,Prod.mk.injEq]at h;obtain⟨rfl,rfl,rfl,rfl,rfl⟩:=h;subst hs;exact⟨rfl,hm,i,K,hT,hd,hk,hj⟩
     ·cases h
    ·cases h
   ·cases h
  ·cases h
 ·cases h
theorem Qii {e:TypeId} {j:TyI} (h:TyOk P e j) (w:World):(zeroValue e).run P w= .ok j.zero w:=Qjf h w
theorem QtE (hc:CxOk P c) (I:Inv c.N m0 w0 g σ a w) {T:TypeId} {m k:X} {vm vk v:Value} (h:c.lookup T m k σ=some v) (rm:RelX g w w0.heap.size σ.toks m vm) (rk:RelX g w w0.heap.size σ.toks k vk):(Instr.lookup T vm vk false).run P w= .ok v w:=by
 unfold Cx.lookup at h;split at h
 ·rename_i b sh es e j kv hm hk;split at h
  ·rename_i hcond;obtain⟨c1,c2,c3⟩:=hcond;simp only[Option.some.injEq]at h; subst h;obtain⟨rfl,h1,i,K,h2,h3,h4,h5⟩:=Qiq hm;obtain⟨blk,hb,hv⟩:=rm;have hkv:=Qq3 hk rk;subst hkv; subst hv;have hT:=(hc.ty T i h2).und;rw[h3]at hT;exact QBe (hc.keys K sh h4) hT (fun w=>Qii (hc.ty _ _ h5) w) (I.maps b _ h1 blk hb) c1 (Qqk.1 c2)
  ·cases h
 ·cases h
theorem QqJ (hc:CxOk P c) (I:Inv c.N m0 w0 g σ a w) {T:TypeId} {m k:X} {vm vk v:Value} {b:Bool} (h:c.lookup2 T m k σ=some (v,b)) (rm:RelX g w w0.heap.size σ.toks m vm) (rk:RelX g w w0.heap.size σ.toks k vk):(Instr.lookup T vm vk true).run P w= .ok (.tuple #[v,.bool b]) w:=by
 unfold Cx.lookup2 at h;split at h
 ·rename_i b sh es e j kv hm hk;split at h
  ·rename_i hcond;obtain⟨c1,c2,c3⟩:=hcond;simp only[Option.some.injEq,Prod.mk.injEq]at h;obtain⟨rfl,rfl⟩:=h;obtain⟨rfl,h1,i,K,h2,h3,h4,h5⟩:=Qiq hm;obtain⟨blk,hb,hv⟩:=rm;have hkv:=Qq3 hk rk;subst hkv; subst hv;have hT:=(hc.ty T i h2).und;rw[h3]at hT;exact Qyr (hc.keys K sh h4) hT (fun w=>Qii (hc.ty _ _ h5) w) (I.maps b _ h1 blk hb) c1 (Qqk.1 c2)
  ·cases h
 ·cases h
def Qlf (g:Gh):Nat→Nat→Prop:=fun b o=>Qvb g b o∨∃s,g.tok s=some b
theorem QDv {g:Gh} {w:World} {d:D} {v:Value} (h:Rel (Qvb g) w d v):Rel (Qlf g) w d v:=Rel.ext ⟨fun _ _ h=> .inl h,fun _ _ _=>rfl⟩ _ _ h
theorem QkJ {m:Nat→Nat→Prop} {w:World} {b k:Nat} :∀{rows:List (List D)} {o:Nat} {xs:List Value},(∀r∈rows,r.length=k)→(∀j u,xs[j]?=some u→m b (o+j)∧w.cell? ⟨b,o+j,none⟩=some u∧u.oneCell'=true)→RelL m w rows.flatten xs→RelRows m w rows b o k
 | [],o,xs,_,_,_=>by simp[RelRows]
 | r::rs,o,xs,hk,hc,hr=>by
  have hrk:=hk r (by simp)
  simp only[List.flatten_cons]at hr;simp only[RelRows];refine⟨⟨hrk,RelCells.of fun j d hj=>?_⟩,?_⟩
  ·have hjr:j < r.length:=(List.getElem?_eq_some_iff.1 hj).1;obtain⟨v,h1,h2⟩:=hr.get j d (by rw[List.getElem?_append,if_pos hjr]; exact hj)
   obtain⟨q1,q2,q3⟩:=hc j v h1;exact⟨v,q1,q2,q3,h2⟩
  ·refine QkJ (xs:=xs.drop k) (fun r' h'=>hk r' (by simp[h'])) (fun j u hj=>?_) ?_
   ·rw[List.getElem?_drop]at hj;have:=hc (k+j) u hj;rw[show o+k+j=o+(k+j) by omega]; exact this
   ·have:=hr.sub k (rs.flatten.length);rw[List.drop_append,hrk,Nat.sub_self,List.drop_zero,List.drop_of_length_le (by omega),List.nil_append,List.take_length]at this
    have hl:=hr.length;rw[List.length_append,hrk]at hl
    rwa [List.take_of_length_le (by rw[List.length_drop]; omega)]at this
theorem QqZ {g:Gh} {w:World} {t k:Nat} {rows:List (List D)} {v:Value} (h:OwnAt g w t k rows v):Rel (Qlf g) w (.sl k rows) v:=by
 obtain⟨ad,c,rfl,hlc,l0,halt⟩:=h;simp only[Rel];refine⟨l0,ad,c,rfl,hlc,?_⟩;rcases halt with⟨h,_⟩ | ⟨b,o,q1,q2,q3,cs,ety,q4,q5,q6,xs,q7,q8,q9⟩
 ·exact .inl h
 ·refine .inr ⟨b,o,q2,QkJ (xs:=xs) q6 (fun j u hj=>⟨.inr ⟨t,q1⟩,?_,(q8 j u hj).2⟩) (RelL.ext ⟨fun _ _ h=> .inl (.inl h),fun _ _ _=>rfl⟩ _ _ q9)⟩;rw[QdN b _ 0 cs ety q4]; exact(q8 j u hj).1
theorem Qvy {toks:List Nat} {base:Nat} {x:X} {d:D} {v:Value} (h:x.dataO toks=some d) (r:RelX g w base toks x v):Rel (Qlf g) w d v:=by
 unfold X.dataO at h;split at h
 ·rename_i k rows t;split at h
  ·rename_i ht;simp only[Option.some.injEq]at h; subst h;obtain⟨z,hz,e⟩:=List.any_eq_true.1 ht;have:z=t:=by simpa using e
   subst this;exact QqZ (r.2.2 hz)
  ·cases h
 ·exact Rel.ext ⟨fun _ _ h=> .inl (.inl h),fun _ _ _=>rfl⟩ _ _ (RelX.data h r)
theorem Ql6 {toks:List Nat} {base:Nat} :∀{xs:List X} {ds:List D} {vs:List Value},Qfa toks xs=some ds→vs.length=xs.length→(∀(j:Nat) (x:X) (v:Value),xs[j]?=some x→vs[j]?=some v→RelX g w base toks x v)→RelL (Qlf g) w ds vs
 | [],ds,vs,h,hl,_=>by
  simp only[Qfa,Option.some.injEq]at h; subst h;obtain rfl:=List.length_eq_zero_iff.1 (by simpa using hl)
  simp[RelL]
 | x::t,ds,vs,h,hl,hr=>by
  simp only[Qfa]at h;split at h
  ·rename_i d r hd hr';simp only[Option.some.injEq]at h; subst h;cases vs with
   | nil=>simp at hl
   | cons v vt=>
    simp only[RelL];exact⟨v,vt,rfl,Qvy hd (hr 0 x v rfl rfl),Ql6 hr' (by simpa using hl) fun j x' v' h1 h2=>hr (j+1) x' v' (by simpa using h1) (by simpa using h2)⟩
  ·cases h
theorem Qhq {toks:List Nat} :∀{xs:List X} {ds:List D},Qfa toks xs=some ds→ds.length=xs.length
 | [],ds,h=>by simp only[Qfa,Option.some.injEq]at h; subst h; rfl
 | x::t,ds,h=>by
  simp only[Qfa]at h;split at h
  ·rename_i d r hd hr;simp only[Option.some.injEq]at h; subst h;simp[Qhq hr]
  ·cases h
theorem Qgp {toks:List Nat} {base:Nat} {boxes:List (Nat×List X)} (hB:QcC g w base toks boxes):∀{caps:List (Sum Nat D)} {ds:List D} {vs:List Value},QhO boxes toks caps=some ds→CapsR g w caps vs→RelL (Qlf g) w ds vs
 | [],ds,vs,h,r=>by simp only[QhO,Option.some.injEq]at h; subst h; simpa only[CapsR,RelL]using r
 | .inr d::t,ds,vs,h,r=>by
  simp only[QhO]at h;simp only[CapsR]at r;obtain⟨v,vt,rfl,h1,h2⟩:=r;split at h
  ·rename_i ds' hds;simp only[Option.some.injEq]at h; subst h;simp only[RelL];exact⟨v,vt,rfl,QcD (fun _ _ h=> .inl (.inl h)) h1,Qgp hB hds h2⟩
  ·cases h
 | .inl b::t,ds,vs,h,r=>by
  simp only[QhO]at h;simp only[CapsR]at r;obtain⟨v,vt,rfl,⟨blk,h1,rfl⟩,h2⟩:=r;split at h
  ·rename_i cs hcs;split at h
   ·rename_i dd hdd;split at h
    ·rename_i ds' hds;simp only[Option.some.injEq]at h; subst h;obtain⟨cv,ty,hh,hs,hc⟩:=hB b cs hcs blk h1;have hl:=Qhq hdd;simp only[RelL];refine⟨_,vt,rfl,?_,Qgp hB hds h2⟩;simp only[Rel];refine⟨by simp,blk,0,by simp,RelRows.of fun i r hr=>?_⟩
     cases i with
     | succ i=>simp at hr
     | zero=>
      simp only[List.getElem?_cons_zero,Option.some.injEq]at hr;subst hr;refine⟨rfl,RelCells.of fun j d hj=>?_⟩;have hrel:RelL (Qlf g) w dd (cv.toList.take cs.length):=Ql6 (base:=base) (toks:=toks) hdd (by have hs2:cs.length≤cv.size:=hs; rw[List.length_take,Array.length_toList]; exact Nat.min_eq_left hs2) fun j x v k1 k2=>by
       rw[List.getElem?_take]at k2;split at k2
       ·exact(hc j x v k1 (by simpa using k2)).2
       ·cases k2
      obtain⟨v,hv,hr⟩:=hrel.get _ _ hj;have hjl:j < cs.length:=by rw[←hl]; exact(List.getElem?_eq_some_iff.1 hj).1
      rw[List.getElem?_take,if_pos hjl]at hv;have hv':cv[j]?=some v:=by simpa using hv
      refine⟨v,.inl (.inr ⟨b,h1⟩),?_,(hc j cs[j] v (List.getElem?_eq_getElem hjl) hv').1,hr⟩;have:=QdN blk (0+0*dd.length+j) 0 cv ty hh;simpa[hv']using this
    ·cases h
   ·cases h
  ·cases h
theorem Qzf {toks:List Nat} {base:Nat} {boxes:List (Nat×List X)} (hB:QcC g w base toks boxes) {x:X} {d:D} {v:Value} (h:x.snapO boxes toks=some d) (r:RelX g w base toks x v):Rel (Qlf g) w d v:=by
 unfold X.snapO at h;split at h
 ·rename_i f first caps
  split at h
  ·rename_i cs hcs;simp only[Option.some.injEq]at h; subst h;obtain⟨fs,vs,h1,h2,h3⟩:=r;simp only[Rel];exact⟨fs,vs,h1,RelL.ext ⟨fun _ _ h=> .inl (.inl h),fun _ _ _=>rfl⟩ _ _ h2,Qgp hB hcs h3⟩
  ·cases h
 ·unfold X.outD at h;split at h
  ·rename_i k rows t _;split at h
   ·rename_i ht;simp only[Option.some.injEq]at h; subst h;obtain⟨z,hz,e⟩:=List.any_eq_true.1 ht;have:z=t:=by simpa using e
    subst this;exact QqZ (r.2.2 hz)
   ·cases h
  ·exact QDv (Qm7 hB h r)
theorem QlL {toks:List Nat} {base:Nat} {boxes:List (Nat×List X)} (hB:QcC g w base toks boxes):∀{xs:List X} {ds:List D} {vs:List Value},QlN boxes toks xs=some ds→vs.length=xs.length→(∀(j:Nat) (x:X) (v:Value),xs[j]?=some x→vs[j]?=some v→RelX g w base toks x v)→RelL (Qlf g) w ds vs
 | [],ds,vs,h,hl,_=>by
  simp only[QlN,Option.some.injEq]at h; subst h;obtain rfl:=List.length_eq_zero_iff.1 (by simpa using hl)
  simp[RelL]
 | x::t,ds,vs,h,hl,hr=>by
  simp only[QlN]at h;split at h
  ·rename_i d r hd hr';simp only[Option.some.injEq]at h; subst h;cases vs with
   | nil=>simp at hl
   | cons v vt=>
    simp only[RelL];exact⟨v,vt,rfl,Qzf hB hd (hr 0 x v rfl rfl),QlL hB hr' (by simpa using hl) fun j x' v' h1 h2=>hr (j+1) x' v' (by simpa using h1) (by simpa using h2)⟩
  ·cases h
theorem Qnp (hF:FreeF F) (hΔ:QaE P c.Δ) {i:Nat} {dst:Option Nat} {f:Operand} {args:Array Operand} {argTypes:Array TypeId} {ty:TypeId} {pos:String} {after:Array Edge} {guard:Option (Nat×Bool)} {next:Act→World→Prop} {Q:Exit→Act→World→Prop}
  (h:c.ownCall dst (σ.ev f) (args.toList.map σ.ev) σ=some σ') (I:Inv c.N m0 w0 g σ a w) (hK:QNQ c.N m0 w0 g σ σ' i none next):(⟨dst,.call ⟨.value f,args,argTypes⟩,ty,pos,after,guard⟩:Oper).wpIn F n P a w next Q:=by
 have hE:=QbD I;unfold Cx.ownCall at h;split at h
 ·rename_i gf pre post ds hfn hds;split at h
  ·rename_i d hdel;split at h
   ·rename_i hcond;simp only[Bool.and_eq_true]at hcond;obtain⟨hfl,hd0⟩:=hcond;simp only[Option.some.injEq]at h; subst h;have hd:QjT c.N dst:=by
     rintro y rfl;simpa[Qh0]using hd0
    have hfr:=hE f;have hfv:∃fs cs:List Value,a.eval f= .func (.func gf) fs.toArray cs.toArray∧RelL (Qlf g) w pre fs∧RelL (Qlf g) w post cs:=by
     unfold QHV at hfn;split at hfn
     ·rename_i gg first caps hf
      split at hfn
      ·rename_i hem;simp only[Option.some.injEq,Prod.mk.injEq]at hfn;obtain⟨rfl,rfl,rfl⟩:=hfn;rw[hf]at hfr;simp only[RelX,Rel]at hfr;simp only[Bool.and_eq_true,Array.isEmpty_iff]at hem;obtain⟨rfl,rfl⟩:=hem;exact⟨[],[],hfr,by simp[RelL],by simp[RelL]⟩
      ·cases hfn
     ·rename_i gg pre' post' hf;simp only[Option.some.injEq,Prod.mk.injEq]at hfn;obtain⟨rfl,rfl,rfl⟩:=hfn;rw[hf]at hfr;simp only[RelX,Rel]at hfr;obtain⟨fs,cs,h1,h2,h3⟩:=hfr;exact⟨fs,cs,h1,RelL.ext ⟨fun _ _ h=> .inl (.inl h),fun _ _ _=>rfl⟩ _ _ h2,RelL.ext ⟨fun _ _ h=> .inl (.inl h),fun _ _ _=>rfl⟩ _ _ h3⟩
     ·rename_i gg pre' caps hf;split at hfn
      ·rename_i post' hpost;simp only[Option.some.injEq,Prod.mk.injEq]at hfn;obtain⟨rfl,rfl,rfl⟩:=hfn;rw[hf]at hfr;simp only[RelX]at hfr;obtain⟨fs,cs,h1,h2,h3⟩:=hfr;exact⟨fs,cs,h1,RelL.ext ⟨fun _ _ h=> .inl (.inl h),fun _ _ _=>rfl⟩ _ _ h2,Qgp I.boxes hpost h3⟩
      ·cases hfn
     ·cases hfn
    obtain⟨fs,cs,hfe,h1,h2⟩:=hfv;obtain⟨hen,hpure,_⟩:=hΔ gf _ d hdel;have hargs:fs.toArray++args.map a.eval++cs.toArray=(fs++args.toList.map a.eval++cs).toArray:=by
     have:args.map a.eval=(args.toList.map a.eval).toArray:=by rw[←Array.toList_map,Array.toArray_toList]
     rw[this]; simp
    have hrun:(execOp a.eval ⟨dst,.call ⟨.value f,args,argTypes⟩,ty,pos,after,guard⟩).run P w= .ok (.enter gf (fs.toArray++args.map a.eval++cs.toArray)) w:=by
     simp[execOp,resolve,hfe,Deferred.ofValue,invoke,hen]
    rw[hargs]at hrun;have hlt:∀b o,Qlf g b o→b < w.heap.size:=by
     rintro b o ((hb | ⟨i,hb⟩) | ⟨t,hb⟩)
     ·exact I.lt b o hb
     ·exact(I.boxb i b hb).2.1
     ·exact(I.tokb t b hb).1
    have hL:RelL (Qlf g) w ds (args.toList.map a.eval):=QlL I.boxes hds (by simp) fun j x v h1 h2=>by
     rw[List.getElem?_map]at h1 h2;cases hj:args.toList[j]? with
     | none=>rw[hj]at h1; cases h1
     | some y=>
      rw[hj]at h1 h2;simp only[Option.map_some,Option.some.injEq]at h1 h2;subst h1; subst h2;exact hE y
    refine Qhl hF hrun (hpure (Qlf g) w _ hlt (I.globIn.ext ⟨fun _ _ h=> .inl (.inl h),fun _ _ _=>rfl⟩) (QhD (QhD h1 hL) h2)) ?_;rintro e w' ⟨v,m',rfl,hb,hm,hrel⟩;obtain⟨I',_⟩:=I.grow hb m' hm;refine⟨v,rfl,?_⟩;exact hK _ _ _ (I'.put hd (x:= .d d) (QoD hfl hrel)) (fun j hj _=>hj) fun t ht=> .inl ht
   ·cases h
  ·cases h
 ·cases h
set_option maxHeartbeats 1000000 in
theorem Qjw (hF:FreeF F) (hc:CxOk P c) {i:Nat} {o:Oper} {next:Act→World→Prop} {Q:Exit→Act→World→Prop} (h:c.eff i o σ=some σ') (I:Inv c.N m0 w0 g σ a w) (hbox:∀d,Qai o=some d→g.box d=none∧Qt σ.maps d=none) (hused:¬g.used (QaN i))
  (hK:QNQ c.N m0 w0 g σ σ' i (Qai o) next):o.wpIn F n P a w next Q:=by
 obtain⟨dst,op,ty,pos,after,guard⟩:=o;have hE:=QbD I;unfold Cx.eff at h;cases op<;>simp only at h<;>try (cases h; done)
 case call cc=>
  obtain⟨callee,args,argTypes⟩:=cc;simp only at h;split at h
  ·rename_i f;cases he:c.effCall i dst (σ.ev f) (args.toList.map σ.ev) σ with
   | some s=>
    rw[he,Ql2]at h;exact QnW hF hc.eff (he.trans h) I hused hK
   | none=>
    rw[he,Qmg]at h;exact Qnp hF hc.del h I hK
  ·
   split at h
   ·rename_i x T ha hT;split at h
    ·rename_i k rows t ti hx hTi;split at h
     ·rename_i e he;split at h
      ·rename_i hcond;simp only[Bool.and_eq_true,List.any_eq_true,beq_iff_eq]at hcond;obtain⟨⟨z,hz,rfl⟩,hd0⟩:=hcond;simp only[Option.some.injEq]at h; subst h;have e1:args= #[x]:=by rw[←Array.toArray_toList (xs:=args),ha]
       have e2:argTypes= #[T]:=by rw[←Array.toArray_toList (xs:=argTypes),hT]
       subst e1; subst e2;have hr:=hE x;rw[hx]at hr;obtain⟨_,_,hO⟩:=hr;obtain⟨ad,cp,hv,hlc,l0,_⟩:=hO hz;have hue:P.underlying T=some (.slice e):=by
        have hu:=(hc.ty T ti hTi).und;unfold TyI.elem at he;split at he
        ·rename_i e' hd'; simp only[Option.some.injEq]at he; subst he; rw[hu,hd']
        ·cases he
       have hd:QjT c.N dst:=by
        rintro y rfl;simpa[Qh0]using hd0
       refine Qck hF (v:= .int .i64 rows.length) (w':=w) ?_ (hK g _ w (I.put hd (x:= .d (.v (.int .i64 rows.length))) (by simp[RelX,Rel])) (fun j hj _=>hj) (fun t ht=> .inl ht))
       simp[execOp,resolve,invoke,builtin,hv,Builtin.len_,goInt,run_underlying hue,Result.andThen]
      ·cases h
     ·cases h
    ·cases h
   ·cases h
  ·
   split at h
   ·rename_i s x T T' ha hT;split at h
    ·rename_i k rows t ti k' rows' hs hTi hx;split at h
     ·rename_i e he;split at h
      ·rename_i j hj;split at h
       ·rename_i hcond;obtain⟨rfl,c1,c2,c3,c4,c5,c6,hd0⟩:=hcond;simp only[List.any_eq_true,beq_iff_eq]at c6;obtain⟨z,hz,rfl⟩:=c6;simp only[Option.some.injEq]at h; subst h;have e1:args= #[s,x]:=by rw[←Array.toArray_toList (xs:=args),ha]
        have e2:argTypes= #[T,T]:=by rw[←Array.toArray_toList (xs:=argTypes),hT]
        subst e1; subst e2;have hd:QjT c.N dst:=by
         rintro y rfl;simpa[Qh0]using hd0
        have hs':=hE s;rw[hs]at hs';obtain⟨v,g',w',h1,I',b1,b2,hrel⟩:=Qlq hc.ty (ty:=ty) hTi he hj c1 c2 c3 c4 c5 hz I hs' (Qf3 hx (hE x)) hused;exact Qck hF (v:=v) (w':=w') (by simp[execOp,resolve,invoke,builtin,h1]) (hK g' _ w' (I'.put hd hrel) (fun j hj _=>by rw[b1]; exact hj) b2)
       ·cases h
      ·cases h
     ·cases h
    ·cases h
   ·cases h
  ·cases h
 case slice T x lo hi mx=>
  cases mx with
  | some mx=>cases h
  | none=>
  simp only at h;split at h
  ·rename_i k rows t ti hx hTi;split at h
   ·rename_i e he;split at h
    ·rename_i j l hh hj hl hhi;split at h
     ·rename_i hcond;obtain⟨rfl,c1,c2,c3,c6,hd0⟩:=hcond;simp only[List.any_eq_true,beq_iff_eq]at c6;obtain⟨z,hz,rfl⟩:=c6;simp only[Option.some.injEq]at h; subst h;have hd:QjT c.N dst:=by
       rintro y rfl;simpa[Qh0]using hd0
      have hs':=hE x;rw[hx]at hs';obtain⟨v,g',h1,I',b1,b2,hrel⟩:=QqX hc.ty hTi he hj hl hhi c1 c2 c3 hz I hs' (QLk I lo) (QLk I hi) hused;exact Qck hF (v:=v) (w':=w) (by simp only[execOp,Sem.run_bind,Option.map_none,h1,Result.andThen_ok]; rfl) (hK g' _ w (I'.put hd hrel) (fun j hj _=>by rw[b1]; exact hj) b2)
     ·cases h
    ·cases h
   ·cases h
  ·cases h
 case lookup T m k ok=>
  cases ok with
  | true=>
   simp only at h;split at h
   ·rename_i v b hv;split at h
    ·rename_i hcond;simp only[Bool.and_eq_true]at hcond;simp only[Option.some.injEq]at h; subst h;have hd:QjT c.N dst:=by
      rintro y rfl;simpa[Qh0]using hcond.2
     refine Qck hF (v:= .tuple #[v,.bool b]) (w':=w) ?_ (hK g _ w (I.put hd (x:= .d (.tup [.v v,.v (.bool b)])) ?_) (fun j hj _=>hj) (fun t ht=> .inl ht))
     ·simp only[execOp,Sem.run_bind,QqJ hc I hv (hE m) (hE k),Result.andThen_ok]; rfl
     ·simp[RelX,Rel,RelL]
    ·cases h
   ·cases h
  | false=>
   simp only at h;split at h
   ·rename_i v hv;split at h
    ·rename_i hcond;simp only[Bool.and_eq_true]at hcond;simp only[Option.some.injEq]at h; subst h;have hd:QjT c.N dst:=by
      rintro y rfl;simpa[Qh0]using hcond.2
     refine Qck hF (v:=v) (w':=w) ?_ (hK g _ w (I.put hd (x:= .d (.v v)) (by simp[RelX,Rel])) (fun j hj _=>hj) (fun t ht=> .inl ht))
     simp only[execOp,Sem.run_bind,QtE hc I hv (hE m) (hE k),Result.andThen_ok]; rfl
    ·cases h
   ·cases h
 case mapUpdate T m k x=>
  split at h
  ·rename_i b sh es e0 j kv val hmap hkey hx;split at h
   ·rename_i hcond;obtain⟨hsh,hwf,hpv,hdst⟩:=hcond;subst hdst;simp only[Option.some.injEq]at h; subst h;obtain⟨hmp,hmaps,i0,K,t1,t2,t3,t4⟩:=Qiq hmap;have hT:=(hc.ty T i0 t1).und;rw[t2]at hT;have hrm:=hE m;rw[hmp]at hrm;obtain⟨blk,hbx,hvm⟩:=hrm;have hvk:=Qq3 hkey (hE k);have hvx:a.eval x=val:=by
     have:=hE x;rw[hx]at this;simpa[RelX,Rel]using this
    have hMA:=I.maps b _ hmaps blk hbx;obtain⟨l2,c2,hrun,hMA2⟩:=QEb (hc.keys K sh t3) hT (fun w=>Qii (hc.ty _ _ t4) w) (val:=val) hMA hsh (Qqk.1 hwf);obtain⟨l0,c0,hh,_⟩:=hMA;refine QCY hF (w':=setBlock w blk (.map l2 c2)) ?_ (hK g _ _ (I.setMap hbx hh ((b,(sh,(kv,val)::es))::σ.maps) fun i mc hi blk' hblk'=>?_) (fun j hj _=>⟨hj.1,?_⟩) (fun t ht=> .inl ht))
    ·simp only[execOp,hvm,hvk,hvx,Sem.run_bind,hrun,Result.andThen_ok]; rfl
    ·simp only[Qt]at hi;split at hi
     ·rename_i e; subst e;rw[hbx]at hblk'; cases hblk';simp only[Option.some.injEq]at hi; subst hi;exact hMA2
     ·rename_i e;have hne:blk'≠blk:=fun e2=>e (I.boxi i b blk (e2 ▸ hblk') hbx);exact(I.maps i mc hi blk' hblk').keep (heap_setBlock_other hh _ hne)
    ·have hjb:¬j=b:=fun e=>by subst e; rw[hbx]at hj; cases hj.1
     simp only[Qt,hjb,if_false]; exact hj.2
   ·cases h
  ·cases h
 case makeMap T rs=>
  cases rs with
  | some r=>cases h
  | none=>
   simp only at h;split at h
   ·rename_i ti d hT;split at h
    ·rename_i K e hdesc;split at h
     ·rename_i sh hk;split at h
      ·rename_i hcond;simp only[Option.isNone_iff_eq_none]at hcond;simp only[Option.some.injEq]at h; subst h;obtain⟨q1,q2⟩:=hbox d rfl;refine Qck hF (v:= .map (some w.heap.size)) (w':=w.alloc (.map #[] 0)) ?_ (hK _ _ _ (I.allocM hcond.1 q1 hcond.2 sh) (fun j hj hne=>⟨?_,?_⟩) (fun t ht=> .inl ht))
       ·simp only[execOp,Sem.run_bind,Option.map_none,run_makeMap,Result.andThen_ok]; rfl
       ·have hjd:¬j=d:=fun e=>hne (by rw[e]; rfl)
        simp only[hjd,if_false]; exact hj.1
       ·have hjd:¬j=d:=fun e=>hne (by rw[e]; rfl)
        simp only[Qt,hjd,if_false]; exact hj.2
      ·cases h
     ·cases h
    ·cases h
   ·cases h
end
end Go.Proofs.YticoemblgkemiaaGreatDoor
