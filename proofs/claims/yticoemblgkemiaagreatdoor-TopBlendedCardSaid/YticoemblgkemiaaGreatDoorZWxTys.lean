/-
  What is known of the types that the wax laws need, beside those of the Top laws. Conditions: none.
-/
import Derived.Test.YticoemblgkemiaaGreatDoorZStT
import Derived.Test.YticoemblgkemiaaGreatDoorZTopP
import Derived.Test.YticoemblgkemiaaGreatDoorZTrB
import Derived.WalkKit
import Derived.Test.YticoemblgkemiaaGreatDoorZAmE
set_option linter.unusedSimpArgs false
set_option linter.unusedVariables false
namespace Go.Proofs.YticoemblgkemiaaGreatDoor
open Go.RowKit
def Q16:TyI:=⟨.slice 86,1,24,.slice none 0 0⟩
theorem Q1Z:TyOk Tryz.prog 56 Q16:=Q0 Tryz.underlying56 (by kernel_rfl) rfl rfl rfl rfl
def Q19:TyI:=⟨.slice 77,1,24,.slice none 0 0⟩
theorem Q07:TyOk Tryz.prog 57 Q19:=Q0 Tryz.underlying57 (by kernel_rfl) rfl rfl rfl rfl
def Q2g:TyI:=⟨.struct #[{ name:= "Props",type:=56,offset:=0,embedded:=false,tag:= "",pkgPath:= "",byteOffset:=0},{ name:= "Kinds",type:=57,offset:=1,embedded:=false,tag:= "",pkgPath:= "",byteOffset:=24},{ name:= "Purity",type:=3,offset:=2,embedded:=false,tag:= "",pkgPath:= "",byteOffset:=48}],3,56,.agg #[.slice none 0 0,.slice none 0 0,.int .i64 0]⟩
theorem Q0T:TyOk Tryz.prog 59 Q2g:=QaC Tryz.underlying59 (by kernel_rfl) rfl rfl rfl ⟨_,rfl⟩
def Q17:TyI:=⟨.slice 69,1,24,.slice none 0 0⟩
theorem Q1V:TyOk Tryz.prog 60 Q17:=Q0 Tryz.underlying60 (by kernel_rfl) rfl rfl rfl rfl
def Q2i:TyI:=⟨.slice 67,1,24,.slice none 0 0⟩
theorem Q1q:TyOk Tryz.prog 61 Q2i:=Q0 Tryz.underlying61 (by kernel_rfl) rfl rfl rfl rfl
def Q2e:TyI:=⟨.struct #[{ name:= "Sort",type:=24,offset:=0,embedded:=false,tag:= "",pkgPath:= "",byteOffset:=0},{ name:= "Melts",type:=60,offset:=2,embedded:=false,tag:= "",pkgPath:= "",byteOffset:=16},{ name:= "Grams",type:=61,offset:=3,embedded:=false,tag:= "",pkgPath:= "",byteOffset:=40}],4,64,.agg #[.int .i64 0,.int .i64 0,.slice none 0 0,.slice none 0 0]⟩
theorem Q1g:TyOk Tryz.prog 63 Q2e:=QaC Tryz.underlying63 (by kernel_rfl) rfl rfl rfl ⟨_,rfl⟩
def Q2b:TyI:=⟨.int .u16,1,2,.int .u16 0⟩
theorem Q1d:TyOk Tryz.prog 67 Q2b:=Q0 Tryz.underlying67 (by kernel_rfl) rfl rfl rfl rfl
def Q2a:TyI:=⟨.struct #[{ name:= "A",type:=5,offset:=0,embedded:=false,tag:= "",pkgPath:= "",byteOffset:=0},{ name:= "B",type:=5,offset:=1,embedded:=false,tag:= "",pkgPath:= "",byteOffset:=1},{ name:= "Parts",type:=67,offset:=2,embedded:=false,tag:= "",pkgPath:= "",byteOffset:=2},{ name:= "Numbers",type:=61,offset:=3,embedded:=false,tag:= "",pkgPath:= "",byteOffset:=8},{ name:= "Errors",type:=61,offset:=4,embedded:=false,tag:= "",pkgPath:= "",byteOffset:=32},{ name:= "Read",type:=5,offset:=5,embedded:=false,tag:= "",pkgPath:= "",byteOffset:=56}],6,64,.agg #[.int .u8 0,.int .u8 0,.int .u16 0,.slice none 0 0,.slice none 0 0,.int .u8 0]⟩
theorem Q03:TyOk Tryz.prog 69 Q2a:=QaC Tryz.underlying69 (by kernel_rfl) rfl rfl rfl ⟨_,rfl⟩
def Q2j:TyI:=⟨.struct #[{ name:= "Name",type:=9,offset:=0,embedded:=false,tag:= "",pkgPath:= "",byteOffset:=0},{ name:= "Props",type:=75,offset:=1,embedded:=false,tag:= "",pkgPath:= "",byteOffset:=16}],2,40,.agg #[.string ByteArray.empty,.slice none 0 0]⟩
theorem Q0X:TyOk Tryz.prog 77 Q2j:=QaC Tryz.underlying77 (by kernel_rfl) rfl rfl rfl ⟨_,rfl⟩
def Q2k:TyI:=⟨.struct #[{ name:= "Name",type:=9,offset:=0,embedded:=false,tag:= "",pkgPath:= "",byteOffset:=0},{ name:= "Error",type:=3,offset:=1,embedded:=false,tag:= "",pkgPath:= "",byteOffset:=16}],2,24,.agg #[.string ByteArray.empty,.int .i64 0]⟩
theorem Q1k:TyOk Tryz.prog 86 Q2k:=QaC Tryz.underlying86 (by kernel_rfl) rfl rfl rfl ⟨_,rfl⟩
def QXQ:TyI:=⟨.pointer 259,1,8,.pointer none⟩
theorem QZY:TyOk Tryz.prog 163 QXQ:=Q0 Tryz.underlying163 (by kernel_rfl) rfl rfl rfl rfl
def QYy:TyI:=⟨.struct #[{ name:= "a",type:=3,offset:=0,embedded:=false,tag:= "",pkgPath:= "stearin/wax",byteOffset:=0},{ name:= "b",type:=3,offset:=1,embedded:=false,tag:= "",pkgPath:= "stearin/wax",byteOffset:=8},{ name:= "parts",type:=39,offset:=2,embedded:=false,tag:= "",pkgPath:= "stearin/wax",byteOffset:=16}],4,32,.agg #[.int .i64 0,.int .i64 0,.int .i64 0,.int .i64 0]⟩
theorem QZK:TyOk Tryz.prog 255 QYy:=QaC Tryz.underlying255 (by kernel_rfl) rfl rfl rfl ⟨_,rfl⟩
def QYb:TyI:=⟨.struct #[{ name:= "WxTable",type:=59,offset:=0,embedded:=true,tag:= "",pkgPath:= "",byteOffset:=0},{ name:= "readings",type:=34,offset:=3,embedded:=false,tag:= "",pkgPath:= "stearin/wax",byteOffset:=56}],4,80,.agg #[.slice none 0 0,.slice none 0 0,.int .i64 0,.slice none 0 0]⟩
theorem QZU:TyOk Tryz.prog 259 QYb:=QaC Tryz.underlying259 (by kernel_rfl) rfl rfl rfl ⟨_,rfl⟩
def QZc:TyI:=⟨.map 3 3,1,8,.map none⟩
theorem Q0B:TyOk Tryz.prog 260 QZc:=Q0 Tryz.underlying260 (by kernel_rfl) rfl rfl rfl rfl
def QXU:TyI:=⟨.func #[] #[3,3] false,1,8,.nilFunc⟩
theorem QZM:TyOk Tryz.prog 284 QXU:=Q0 Tryz.underlying284 (by kernel_rfl) rfl rfl rfl rfl
def QYk:TyI:=⟨.pointer 39,1,8,.pointer none⟩
theorem QZ2:TyOk Tryz.prog 286 QYk:=Q0 Tryz.underlying286 (by kernel_rfl) rfl rfl rfl rfl
def QYP:TyI:=⟨.func #[255] #[4] false,1,8,.nilFunc⟩
theorem QZT:TyOk Tryz.prog 302 QYP:=Q0 Tryz.underlying302 (by kernel_rfl) rfl rfl rfl rfl
def QYI:TyI:=⟨.func #[86] #[9] false,1,8,.nilFunc⟩
theorem QZ9:TyOk Tryz.prog 304 QYI:=Q0 Tryz.underlying304 (by kernel_rfl) rfl rfl rfl rfl
def QYD:TyI:=⟨.func #[77] #[9] false,1,8,.nilFunc⟩
theorem QZ7:TyOk Tryz.prog 306 QYD:=Q0 Tryz.underlying306 (by kernel_rfl) rfl rfl rfl rfl
def QYC:TyI:=⟨.slice 284,1,24,.slice none 0 0⟩
theorem Q0q:TyOk Tryz.prog 316 QYC:=Q0 Tryz.underlying316 (by kernel_rfl) rfl rfl rfl rfl
def QQp:Tys:=fun T=>match T with
 | 56=>some Q16
 | 57=>some Q19
 | 59=>some Q2g
 | 60=>some Q17
 | 61=>some Q2i
 | 63=>some Q2e
 | 67=>some Q2b
 | 69=>some Q2a
 | 77=>some Q2j
 | 86=>some Q2k
 | 163=>some QXQ
 | 255=>some QYy
 | 259=>some QYb
 | 260=>some QZc
 | 284=>some QXU
 | 286=>some QYk
 | 302=>some QYP
 | 304=>some QYI
 | 306=>some QYD
 | 316=>some QYC
 | T=>tys T
theorem Q0f:QQp 2=some ty2:=rfl
theorem QZP:QQp 3=some ty3:=rfl
theorem Q0C:QQp 4=some ty4:=rfl
theorem QZO:QQp 5=some ty5:=rfl
theorem Q0G:QQp 9=some ty9:=rfl
theorem QX8:QQp 21=some QNF:=rfl
theorem QXV:QQp 24=some QMV:=rfl
theorem QYz:QQp 25=some QNv:=rfl
theorem QX9:QQp 29=some QNr:=rfl
theorem QYv:QQp 34=some QNI:=rfl
theorem QXW:QQp 35=some QNJ:=rfl
theorem QYl:QQp 39=some QM9:=rfl
theorem QY0:QQp 47=some QNE:=rfl
theorem QYR:QQp 56=some Q16:=rfl
theorem QZh:QQp 57=some Q19:=rfl
theorem QX0:QQp 59=some Q2g:=rfl
theorem QXG:QQp 60=some Q17:=rfl
theorem QYr:QQp 61=some Q2i:=rfl
theorem QXO:QQp 63=some Q2e:=rfl
theorem QXL:QQp 67=some Q2b:=rfl
theorem QYX:QQp 69=some Q2a:=rfl
theorem QZb:QQp 72=some QNj:=rfl
theorem QYw:QQp 75=some QNH:=rfl
theorem QXY:QQp 77=some Q2j:=rfl
theorem QYM:QQp 86=some Q2k:=rfl
theorem QWT:QQp 148=some QAD:=rfl
theorem QXq:QQp 163=some QXQ:=rfl
theorem QWD:QQp 255=some QYy:=rfl
theorem QXf:QQp 259=some QYb:=rfl
theorem QWr:QQp 260=some QZc:=rfl
theorem QXk:QQp 284=some QXU:=rfl
theorem QW2:QQp 286=some QYk:=rfl
theorem QXr:QQp 302=some QYP:=rfl
theorem QXh:QQp 304=some QYI:=rfl
theorem QWv:QQp 306=some QYD:=rfl
theorem QWE:QQp 316=some QYC:=rfl
theorem QSC:∀T i,QQp T=some i→TyOk Tryz.prog T i:=by
 intro T i h;unfold QQp at h;split at h
 ·cases h; exact Q1Z
 ·cases h; exact Q07
 ·cases h; exact Q0T
 ·cases h; exact Q1V
 ·cases h; exact Q1q
 ·cases h; exact Q1g
 ·cases h; exact Q1d
 ·cases h; exact Q03
 ·cases h; exact Q0X
 ·cases h; exact Q1k
 ·cases h; exact QZY
 ·cases h; exact QZK
 ·cases h; exact QZU
 ·cases h; exact Q0B
 ·cases h; exact QZM
 ·cases h; exact QZ2
 ·cases h; exact QZT
 ·cases h; exact QZ9
 ·cases h; exact QZ7
 ·cases h; exact Q0q
 ·exact QoQ _ _ h
attribute [simp] Q16 Q19 Q2g Q17 Q2i Q2e Q2b Q2a Q2j Q2k QXQ QYy QYb QZc QXU QYk QYP QYI QYD QYC Q0f QZP Q0C QZO Q0G QX8 QXV QYz QX9 QYv QXW QYl QY0 QYR QZh QX0 QXG QYr QXO QXL QYX QZb QYw QXY QYM QWT QXq QWD QXf QWr QXk QW2 QXr QXh QWv QWE
end Go.Proofs.YticoemblgkemiaaGreatDoor
namespace Go.Proofs.YticoemblgkemiaaGreatDoor
open Go.RowKit
theorem Q1B:QzT Tryz.prog 39 5:=by
 intro xs ys hx hy w x y;obtain⟨a0,t,rfl,hx0⟩:=QaM (k:=1) hx;obtain⟨a1,t,rfl,hx1⟩:=QaM (k:=0) hx0;obtain rfl:=Qcc hx1;obtain⟨b0,t,rfl,hy0⟩:=QaM (k:=1) hy;obtain⟨b1,t,rfl,hy1⟩:=QaM (k:=0) hy0;obtain rfl:=Qcc hy1;have hm:Tryz.prog.eqGuardType Tryz.prog.depth 39=false:=by kernel_rfl
 have hp:Tryz.prog.stoodInHeld 39=false:=by kernel_rfl
 have hu:=Tryz.underlying39;have h3:=Tryz.underlying3;have e:(Op.equalIn 10000 39 (.agg #[.int .i64 a0,.int .i64 a1]) (.agg #[.int .i64 b0,.int .i64 b1])).run Tryz.prog w= .ok (eqV [Value.int .i64 a0,Value.int .i64 a1] [Value.int .i64 b0,Value.int .i64 b1]) w:=by
  rw[run_equalIn_struct w 9999 39 _ _ (by rw[Program.fieldsOf,hu]) hp]
  simp[Program.fieldsOf,hu,Op.eqFields,go_sem,h3,Qfs,eqV,isS];by_cases q0:a0=b0<;>by_cases q1:a1=b1<;>simp[q0,q1]
 have ne:neV [Value.int .i64 a0,Value.int .i64 a1] [Value.int .i64 b0,Value.int .i64 b1]=!eqV [Value.int .i64 a0,Value.int .i64 a1] [Value.int .i64 b0,Value.int .i64 b1]:=rfl;constructor
 ·simp only[Sem.run_bind];rw[run_eqGuard_agg _ _ _ _ _ _ _ hm];simp only[Result.andThen_ok,run_eql_struct];rw[e]; rfl
 ·simp only[Sem.run_bind];rw[run_eqGuard_agg _ _ _ _ _ _ _ hm];simp only[Result.andThen_ok,run_neq_struct];rw[e,ne]; rfl
theorem Q1s:QzT Tryz.prog 86 7:=by
 intro xs ys hx hy w x y;obtain⟨a0,t,rfl,hx0⟩:=QUN (k:=1) hx;obtain⟨a1,t,rfl,hx1⟩:=QaM (k:=0) hx0;obtain rfl:=Qcc hx1;obtain⟨b0,t,rfl,hy0⟩:=QUN (k:=1) hy;obtain⟨b1,t,rfl,hy1⟩:=QaM (k:=0) hy0;obtain rfl:=Qcc hy1;have hm:Tryz.prog.eqGuardType Tryz.prog.depth 86=false:=by kernel_rfl
 have hp:Tryz.prog.stoodInHeld 86=false:=by kernel_rfl
 have hu:=Tryz.underlying86;have h3:=Tryz.underlying3;have h9:=Tryz.underlying9;have e:(Op.equalIn 10000 86 (.agg #[.string a0,.int .i64 a1]) (.agg #[.string b0,.int .i64 b1])).run Tryz.prog w= .ok (eqV [Value.string a0,Value.int .i64 a1] [Value.string b0,Value.int .i64 b1]) w:=by
  rw[run_equalIn_struct w 9999 86 _ _ (by rw[Program.fieldsOf,hu]) hp]
  simp[Program.fieldsOf,hu,Op.eqFields,go_sem,h3,h9,Qfs,eqV,QK3,isS];by_cases q0:a0.toList=b0.toList<;>by_cases q1:a1=b1<;>simp[q0,q1]
 have ne:neV [Value.string a0,Value.int .i64 a1] [Value.string b0,Value.int .i64 b1]=!eqV [Value.string a0,Value.int .i64 a1] [Value.string b0,Value.int .i64 b1]:=rfl;constructor
 ·simp only[Sem.run_bind];rw[run_eqGuard_agg _ _ _ _ _ _ _ hm];simp only[Result.andThen_ok,run_eql_struct];rw[e]; rfl
 ·simp only[Sem.run_bind];rw[run_eqGuard_agg _ _ _ _ _ _ _ hm];simp only[Result.andThen_ok,run_neq_struct];rw[e,ne]; rfl
def QTu:List (TypeId×Nat):=[(39,5),(86,7)]
theorem QT9:∀T n,Qt QTu T=some n→QzT Tryz.prog T n:=by
 intro T n h;simp only[QTu,Qt]at h
 (repeat' split at h)<;>first | (cases h; done) | (rename_i e; subst e; cases h; first | exact Q1B | exact Q1s)
end Go.Proofs.YticoemblgkemiaaGreatDoor
namespace Go.Proofs.YticoemblgkemiaaGreatDoor
open Go.RowKit
structure Prp where
 name:ByteArray
 err:Int
structure Knd where
 name:ByteArray
 props:List Spn
structure Tbl where
 props:List Prp
 kinds:List Knd
 purity:Int
instance:Inhabited Spn:=⟨⟨0,0⟩⟩
instance:Inhabited Prp:=⟨⟨ByteArray.empty,0⟩⟩
instance:Inhabited Knd:=⟨⟨ByteArray.empty,[]⟩⟩
instance:Inhabited Tbl:=⟨⟨[],[],0⟩⟩
def QP7:Row Spn:=⟨2,fun x=>[DI x.lo,DI x.hi],fun d=>match d with | [.v (.int .i64 a0),.v (.int .i64 a1)]=>some ⟨a0,a1⟩ | _=>none,fun _=>rfl,fun d x h=>by
 split at h
 ·cases h; exact LImp.refl _
 ·cases h⟩
theorem QP0 (x:Spn):QP7.enc x=[DI x.lo,DI x.hi]:=rfl
theorem QP6:QP7.k=2:=rfl
theorem QP4 (x:Spn):QP7.dec [DI x.lo,DI x.hi]=some x:=QP7.de x
theorem QQd (l:List Spn):(QJ QP7).dec (.sl 2 (l.map QP7.enc))=some l:=Qbd QP7 l 2 rfl
def QQt:Row Prp:=⟨2,fun x=>[DS x.name,DI x.err],fun d=>match d with | [.v (.string a0),.v (.int .i64 a1)]=>some ⟨a0,a1⟩ | _=>none,fun _=>rfl,fun d x h=>by
 split at h
 ·cases h; exact LImp.refl _
 ·cases h⟩
theorem QP2 (x:Prp):QQt.enc x=[DS x.name,DI x.err]:=rfl
theorem QP9:QQt.k=2:=rfl
theorem QRn (x:Prp):QQt.dec [DS x.name,DI x.err]=some x:=QQt.de x
theorem QR4 (l:List Prp):(QJ QQt).dec (.sl 2 (l.map QQt.enc))=some l:=Qbd QQt l 2 rfl
def QQw:Row Knd:=⟨2,fun x=>[DS x.name,.sl 2 (x.props.map QP7.enc)],fun d=>match d with
 | [.v (.string a0),y]=>((QJ QP7).dec y).map fun l=>⟨a0,l⟩
 | _=>none,fun x=>by simp[DS,QQd],fun d x h=>by
 split at h
 ·simp only[Option.map_eq_some_iff]at h;obtain⟨o,ho,rfl⟩:=h;exact QaX (DImp.refl _) (QaX ((QJ QP7).ed _ _ ho) (LImp.refl _))
 ·cases h⟩
theorem QP3 (x:Knd):QQw.enc x=[DS x.name,.sl 2 (x.props.map QP7.enc)]:=rfl
theorem QP5:QQw.k=2:=rfl
theorem QRm (x:Knd):QQw.dec [DS x.name,.sl 2 (x.props.map QP7.enc)]=some x:=QQw.de x
theorem QR6 (l:List Knd):(QJ QQw).dec (.sl 2 (l.map QQw.enc))=some l:=Qbd QQw l 2 rfl
def QRf:Row Tbl:=⟨3,fun x=>[.sl 2 (x.props.map QQt.enc),.sl 2 (x.kinds.map QQw.enc),DI x.purity],fun d=>match d with
 | [a,b,.v (.int .i64 n)]=>((QJ QQt).dec a).bind fun p=>((QJ QQw).dec b).map fun k=>⟨p,k,n⟩
 | _=>none,fun x=>by simp[DI,QR4,QR6],fun d x h=>by
 split at h
 ·simp only[Option.bind_eq_some_iff,Option.map_eq_some_iff]at h;obtain⟨p,hp,k,hk,rfl⟩:=h;exact QaX ((QJ QQt).ed _ _ hp) (QaX ((QJ QQw).ed _ _ hk) (QaX (DImp.refl _) (LImp.refl _)))
 ·cases h⟩
theorem QPZ (x:Tbl):QRf.enc x=[.sl 2 (x.props.map QQt.enc),.sl 2 (x.kinds.map QQw.enc),DI x.purity]:=rfl
theorem QP8 (x:Tbl):QRf.dec [.sl 2 (x.props.map QQt.enc),.sl 2 (x.kinds.map QQw.enc),DI x.purity]=some x:=QRf.de x
def QQi (s:ByteArray) (l:List ByteArray):Int:=if Qbz s=false then 6 else if l.any (fun x=>x.toList==s.toList)then 5 else 0
def QS9 (s:Spn) (lo hi:Int):Int:=if !inR s.lo lo hi||!inR s.hi lo hi then 7 else if s.hi < s.lo then 2 else 0
def QQU (s:Spn):Int:=QS9 s 0 100000
def QQO (l:List Spn) (many:Int):Int:=if ¬(l.length:Int)=many then 3 else if l.any (fun s=>QQU s==7)then 7 else if l.any (fun s=>QQU s==2)then 2 else 0
def QWh (x:Tbl) (i:Nat) (p:Prp):Int:=
 if QQi p.name ((x.props.take i).map (·.name))=0 then(if inR p.err 0 10000=false then 7 else 0)else QQi p.name ((x.props.take i).map (·.name))
def QVv (x:Tbl) (i:Nat) (k:Knd):Int:=
 if QQi k.name ((x.kinds.take i).map (·.name))=0 then QQO k.props x.props.length else QQi k.name ((x.kinds.take i).map (·.name))
def chk (x:Tbl):Int×Int×Int:=
 if inR x.props.length 1 5=false∨inR x.kinds.length 1 8=false then(1,0,3)else if inR x.purity 1 1000=false then(1,0,7)else
 if ¬(Qfn (QWh x) 0 x.props).2=0 then(2,Qfn (QWh x) 0 x.props)else
 if ¬(Qfn (QVv x) 0 x.kinds).2=0 then(3,Qfn (QVv x) 0 x.kinds)else(0,0,0)
def okT (x:Tbl):Prop:=(chk x).2.2=0
instance (x:Tbl):Decidable (okT x):=inferInstanceAs (Decidable (_=_))
def QWi (n:Int):Bool:=!(n== -1)&&!inR n 0 100000
def QQj (x:Tbl) (l:List Int):Int:=if ¬(chk x).2.2=0 then(chk x).2.2 else if ¬l.length=x.props.length then 3 else if l.any QWi then 7 else 0
end Go.Proofs.YticoemblgkemiaaGreatDoor
namespace Go.Proofs.YticoemblgkemiaaGreatDoor
open Go.RowKit
def QUR (l:List (Nat×(List D→Option D))) (N:Nat) (kp:Nat→List (Nat×Option Nat)) (kb:List (Nat×Nat×Nat)):Cx:= { Γ:=QQp,eqs:=QTu,Δ:=Qaw l,N:=N,F:=QbK,kp:=kp,kb:=kb}
attribute [simp] QUR QTu
theorem QP1 {l:List (Nat×(List D→Option D))} (h:QaE Tryz.prog (Qaw l)) (N:Nat) (kp:Nat→List (Nat×Option Nat)) (kb:List (Nat×Nat×Nat)):CxOk Tryz.prog (QUR l N kp kb):=
 ⟨QSC,QT9,h,(fun _ _ _ _ _ _ _ h=>by cases h),by kernel_rfl,(fun _ _ h=>by cases h),Qi9,QmV⟩
def QSL (l:List (Nat×(List D→Option D))) (le:List (Nat×QfF)) (N:Nat) (kp:Nat→List (Nat×Option Nat)) (kb:List (Nat×Nat×Nat)) (df:Nat→List (Nat×Nat)) (md:Nat→Nat) (ks:List (TypeId×Nat)) (sq:List (Nat×(List D→Option (List (List Value))))):Cx:= { Γ:=QQp,eqs:=QTu,Δ:=Qaw l,N:=N,F:=QbK,kp:=kp,kb:=kb,Δe:=Qj6 le,diff:=df,md:=md,keys:=ks,seq:=QiT sq}
attribute [simp] QSL
theorem QQW {l:List (Nat×(List D→Option D))} (h:QaE Tryz.prog (Qaw l)) {le:List (Nat×QfF)} (he:Qnm Tryz.prog (Qj6 le)) {ks:List (TypeId×Nat)} (hk:∀K sh,Qt ks K=some sh→KeyOk Tryz.prog K sh) {sq:List (Nat×(List D→Option (List (List Value))))} (hs:QpD Tryz.prog (QiT sq)) (N:Nat) (kp:Nat→List (Nat×Option Nat)) (kb:List (Nat×Nat×Nat)) (df:Nat→List (Nat×Nat)) (md:Nat→Nat):CxOk Tryz.prog (QSL l le N kp kb df md ks sq):=
 ⟨QSC,QT9,h,he,by kernel_rfl,hk,Qi9,hs⟩
def QUV (l:List (Nat×(List D→Option D))) (lp:List (Nat×(List D→Option Value))) (N:Nat) (kp:Nat→List (Nat×Option Nat)) (kb:List (Nat×Nat×Nat)) (df:Nat→List (Nat×Nat)) (pq:Nat→List (Nat×List Nat)):Cx:= { Γ:=QQp,eqs:=QTu,Δ:=Qaw l,N:=N,F:=QbK,kp:=kp,kb:=kb,diff:=df,Δp:=Qlr lp,pan:=true,pq:=pq}
attribute [simp] QUV
theorem QWd {l:List (Nat×(List D→Option D))} (h:QaE Tryz.prog (Qaw l)) {lp:List (Nat×(List D→Option Value))} (hp:Qql Tryz.prog (Qlr lp)) (N:Nat) (kp:Nat→List (Nat×Option Nat)) (kb:List (Nat×Nat×Nat)) (df:Nat→List (Nat×Nat)) (pq:Nat→List (Nat×List Nat)):CxOk Tryz.prog (QUV l lp N kp kb df pq):=
 ⟨QSC,QT9,h,(fun _ _ _ _ _ _ _ h=>by cases h),by kernel_rfl,(fun _ _ h=>by cases h),hp,QmV⟩
end Go.Proofs.YticoemblgkemiaaGreatDoor
