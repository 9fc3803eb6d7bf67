/-
  What is known of the types that the Top laws need. Conditions: none.
-/
import Derived.Test.YticoemblgkemiaaGreatDoorProg
import Derived.Test.YticoemblgkemiaaGreatDoorZAmD
import Derived.WalkKit
import Derived.Test.YticoemblgkemiaaGreatDoorZAmE
set_option linter.unusedSimpArgs false
set_option linter.unusedVariables false
namespace Go.Proofs.YticoemblgkemiaaGreatDoor
open Go.RowKit
theorem QaC {P:Program} {T:TypeId} {i:TyI} (und:P.underlying T=some i.desc) (inf:(P.info? T).map (fun f=>(f.size,f.bytes,f.zero))=some (i.size,i.bytes,some i.zero)) (zsz:i.zero.cells.size=i.size) (zone:i.zero.cells.toList.all (·.oneCell')=true) (ha:i.agg=true) (hz:∃cs,i.zero= .agg cs):TyOk P T i:=by
 refine⟨und,?_,zsz,fun v hv=>List.all_eq_true.1 zone v hv,fun _=>hz,fun h=>by rw[ha]at h; cases h⟩
 cases h:P.info? T with
 | none=>rw[h]at inf; cases inf
 | some f=>
  rw[h]at inf;simp only[Option.map_some,Option.some.injEq,Prod.mk.injEq]at inf;exact⟨f,rfl,inf.1,inf.2.1,inf.2.2⟩
theorem Q0 {P:Program} {T:TypeId} {i:TyI} (und:P.underlying T=some i.desc) (inf:(P.info? T).map (fun f=>(f.size,f.bytes,f.zero))=some (i.size,i.bytes,some i.zero)) (zsz:i.zero.cells.size=i.size) (zone:i.zero.cells.toList.all (·.oneCell')=true) (ha:i.agg=false) (hz:i.zero.oneCell'=true):TyOk P T i:=by
 refine⟨und,?_,zsz,fun v hv=>List.all_eq_true.1 zone v hv,(fun h=>by rw[ha]at h; cases h),fun _=>hz⟩
 cases h:P.info? T with
 | none=>rw[h]at inf; cases inf
 | some f=>
  rw[h]at inf;simp only[Option.map_some,Option.some.injEq,Prod.mk.injEq]at inf;exact⟨f,rfl,inf.1,inf.2.1,inf.2.2⟩
def ty2:TyI:=⟨.int .i64,1,8,.int .i64 0⟩
theorem QOW:TyOk Tryz.prog 2 ty2:=Q0 Tryz.underlying2 (by kernel_rfl) rfl rfl rfl rfl
def ty3:TyI:=⟨.int .i64,1,8,.int .i64 0⟩
theorem QOF:TyOk Tryz.prog 3 ty3:=Q0 Tryz.underlying3 (by kernel_rfl) rfl rfl rfl rfl
def ty4:TyI:=⟨.bool,1,1,.bool false⟩
theorem QJT:TyOk Tryz.prog 4 ty4:=Q0 Tryz.underlying4 (by kernel_rfl) rfl rfl rfl rfl
def ty5:TyI:=⟨.int .u8,1,1,.int .u8 0⟩
theorem QPd:TyOk Tryz.prog 5 ty5:=Q0 Tryz.underlying5 (by kernel_rfl) rfl rfl rfl rfl
def ty9:TyI:=⟨.string,1,16,.string ByteArray.empty⟩
theorem QOU:TyOk Tryz.prog 9 ty9:=Q0 Tryz.underlying9 (by kernel_rfl) rfl rfl rfl rfl
def QNF:TyI:=⟨.int .i32,1,4,.int .i32 0⟩
theorem QJE:TyOk Tryz.prog 21 QNF:=Q0 Tryz.underlying21 (by kernel_rfl) rfl rfl rfl rfl
def QM1:TyI:=⟨.slice 45,1,24,.slice none 0 0⟩
theorem QKM:TyOk Tryz.prog 22 QM1:=Q0 Tryz.underlying22 (by kernel_rfl) rfl rfl rfl rfl
def QMV:TyI:=⟨.struct #[{ name:= "Kinds",type:=3,offset:=0,embedded:=false,tag:= "",pkgPath:= "",byteOffset:=0},{ name:= "Foreign",type:=3,offset:=1,embedded:=false,tag:= "",pkgPath:= "",byteOffset:=8}],2,16,.agg #[.int .i64 0,.int .i64 0]⟩
theorem QMH:TyOk Tryz.prog 24 QMV:=QaC Tryz.underlying24 (by kernel_rfl) rfl rfl rfl ⟨_,rfl⟩
def QNv:TyI:=⟨.slice 5,1,24,.slice none 0 0⟩
theorem QMv:TyOk Tryz.prog 25 QNv:=Q0 Tryz.underlying25 (by kernel_rfl) rfl rfl rfl rfl
def QMS:TyI:=⟨.slice 72,1,24,.slice none 0 0⟩
theorem QLs:TyOk Tryz.prog 26 QMS:=Q0 Tryz.underlying26 (by kernel_rfl) rfl rfl rfl rfl
def QM0:TyI:=⟨.struct #[{ name:= "Sort",type:=24,offset:=0,embedded:=false,tag:= "",pkgPath:= "",byteOffset:=0},{ name:= "Kinds",type:=25,offset:=2,embedded:=false,tag:= "",pkgPath:= "",byteOffset:=16},{ name:= "Cards",type:=26,offset:=3,embedded:=false,tag:= "",pkgPath:= "",byteOffset:=40}],4,64,.agg #[.int .i64 0,.int .i64 0,.slice none 0 0,.slice none 0 0]⟩
theorem QMB:TyOk Tryz.prog 28 QM0:=QaC Tryz.underlying28 (by kernel_rfl) rfl rfl rfl ⟨_,rfl⟩
def QNr:TyI:=⟨.int .i64,1,8,.int .i64 0⟩
theorem QKL:TyOk Tryz.prog 29 QNr:=Q0 Tryz.underlying29 (by kernel_rfl) rfl rfl rfl rfl
def QNI:TyI:=⟨.slice 3,1,24,.slice none 0 0⟩
theorem QKj:TyOk Tryz.prog 34 QNI:=Q0 Tryz.underlying34 (by kernel_rfl) rfl rfl rfl rfl
def QNJ:TyI:=⟨.slice 47,1,24,.slice none 0 0⟩
theorem QLj:TyOk Tryz.prog 35 QNJ:=Q0 Tryz.underlying35 (by kernel_rfl) rfl rfl rfl rfl
def QM9:TyI:=⟨.struct #[{ name:= "Lo",type:=3,offset:=0,embedded:=false,tag:= "",pkgPath:= "",byteOffset:=0},{ name:= "Hi",type:=3,offset:=1,embedded:=false,tag:= "",pkgPath:= "",byteOffset:=8}],2,16,.agg #[.int .i64 0,.int .i64 0]⟩
theorem QIW:TyOk Tryz.prog 39 QM9:=QaC Tryz.underlying39 (by kernel_rfl) rfl rfl rfl ⟨_,rfl⟩
def QNd:TyI:=⟨.slice 4,1,24,.slice none 0 0⟩
theorem QLC:TyOk Tryz.prog 42 QNd:=Q0 Tryz.underlying42 (by kernel_rfl) rfl rfl rfl rfl
def QNb:TyI:=⟨.slice 147,1,24,.slice none 0 0⟩
theorem QJa:TyOk Tryz.prog 43 QNb:=Q0 Tryz.underlying43 (by kernel_rfl) rfl rfl rfl rfl
def QM2:TyI:=⟨.struct #[{ name:= "Name",type:=9,offset:=0,embedded:=false,tag:= "",pkgPath:= "",byteOffset:=0},{ name:= "Grams",type:=3,offset:=1,embedded:=false,tag:= "",pkgPath:= "",byteOffset:=16},{ name:= "Fresh",type:=3,offset:=2,embedded:=false,tag:= "",pkgPath:= "",byteOffset:=24},{ name:= "Lost",type:=4,offset:=3,embedded:=false,tag:= "",pkgPath:= "",byteOffset:=32},{ name:= "Takes",type:=43,offset:=4,embedded:=false,tag:= "",pkgPath:= "",byteOffset:=40}],5,64,.agg #[.string ByteArray.empty,.int .i64 0,.int .i64 0,.bool false,.slice none 0 0]⟩
theorem QI9:TyOk Tryz.prog 45 QM2:=QaC Tryz.underlying45 (by kernel_rfl) rfl rfl rfl ⟨_,rfl⟩
def QNE:TyI:=⟨.struct #[{ name:= "Grams",type:=39,offset:=0,embedded:=false,tag:= "",pkgPath:= "",byteOffset:=0},{ name:= "Kinds",type:=3,offset:=2,embedded:=false,tag:= "",pkgPath:= "",byteOffset:=16}],3,24,.agg #[.int .i64 0,.int .i64 0,.int .i64 0]⟩
theorem QKg:TyOk Tryz.prog 47 QNE:=QaC Tryz.underlying47 (by kernel_rfl) rfl rfl rfl ⟨_,rfl⟩
def QMZ:TyI:=⟨.func #[3,3] #[4] false,1,8,.nilFunc⟩
theorem QMh:TyOk Tryz.prog 53 QMZ:=Q0 Tryz.underlying53 (by kernel_rfl) rfl rfl rfl rfl
def QNj:TyI:=⟨.int .u32,1,4,.int .u32 0⟩
theorem QJQ:TyOk Tryz.prog 72 QNj:=Q0 Tryz.underlying72 (by kernel_rfl) rfl rfl rfl rfl
def QNH:TyI:=⟨.slice 39,1,24,.slice none 0 0⟩
theorem QI8:TyOk Tryz.prog 75 QNH:=Q0 Tryz.underlying75 (by kernel_rfl) rfl rfl rfl rfl
def QM7:TyI:=⟨.slice 145,1,24,.slice none 0 0⟩
theorem QJH:TyOk Tryz.prog 91 QM7:=Q0 Tryz.underlying91 (by kernel_rfl) rfl rfl rfl rfl
def QM5:TyI:=⟨.struct #[{ name:= "Has",type:=34,offset:=0,embedded:=false,tag:= "",pkgPath:= "",byteOffset:=0},{ name:= "Needs",type:=34,offset:=1,embedded:=false,tag:= "",pkgPath:= "",byteOffset:=24},{ name:= "Never",type:=91,offset:=2,embedded:=false,tag:= "",pkgPath:= "",byteOffset:=48}],3,72,.agg #[.slice none 0 0,.slice none 0 0,.slice none 0 0]⟩
theorem QKs:TyOk Tryz.prog 93 QM5:=QaC Tryz.underlying93 (by kernel_rfl) rfl rfl rfl ⟨_,rfl⟩
def QNa:TyI:=⟨.func #[3] #[4] false,1,8,.nilFunc⟩
theorem QKJ:TyOk Tryz.prog 95 QNa:=Q0 Tryz.underlying95 (by kernel_rfl) rfl rfl rfl rfl
def QNn:TyI:=⟨.slice 205,1,24,.slice none 0 0⟩
theorem QKw:TyOk Tryz.prog 98 QNn:=Q0 Tryz.underlying98 (by kernel_rfl) rfl rfl rfl rfl
def QAF:TyI:=⟨.struct #[{ name:= "Err",type:=3,offset:=0,embedded:=false,tag:= "",pkgPath:= "",byteOffset:=0},{ name:= "Steps",type:=98,offset:=1,embedded:=false,tag:= "",pkgPath:= "",byteOffset:=8}],2,32,.agg #[.int .i64 0,.slice none 0 0]⟩
theorem QH8:TyOk Tryz.prog 100 QAF:=QaC Tryz.underlying100 (by kernel_rfl) rfl rfl rfl ⟨_,rfl⟩
def QCB:TyI:=⟨.array 8 3,8,64,.agg #[.int .i64 0,.int .i64 0,.int .i64 0,.int .i64 0,.int .i64 0,.int .i64 0,.int .i64 0,.int .i64 0]⟩
theorem QHz:TyOk Tryz.prog 121 QCB:=QaC Tryz.underlying121 (by kernel_rfl) rfl rfl rfl ⟨_,rfl⟩
def QAd:TyI:=⟨.array 8 4,8,8,.agg #[.bool false,.bool false,.bool false,.bool false,.bool false,.bool false,.bool false,.bool false]⟩
theorem QGw:TyOk Tryz.prog 123 QAd:=QaC Tryz.underlying123 (by kernel_rfl) rfl rfl rfl ⟨_,rfl⟩
def Qfl:TyI:=⟨.array 8 123,64,64,.agg #[.bool false,.bool false,.bool false,.bool false,.bool false,.bool false,.bool false,.bool false,.bool false,.bool false,.bool false,.bool false,.bool false,.bool false,.bool false,.bool false,.bool false,.bool false,.bool false,.bool false,.bool false,.bool false,.bool false,.bool false,.bool false,.bool false,.bool false,.bool false,.bool false,.bool false,.bool false,.bool false,.bool false,.bool false,.bool false,.bool false,.bool false,.bool false,.bool false,.bool false,.bool false,.bool false,.bool false,.bool false,.bool false,.bool false,.bool false,.bool false,.bool false,.bool false,.bool false,.bool false,.bool false,.bool false,.bool false,.bool false,.bool false,.bool false,.bool false,.bool false,.bool false,.bool false,.bool false,.bool false]⟩
theorem QEW:TyOk Tryz.prog 124 Qfl:=QaC Tryz.underlying124 (by kernel_rfl) rfl rfl rfl ⟨_,rfl⟩
def QaB:TyI:=⟨.struct #[{ name:= "has",type:=121,offset:=0,embedded:=false,tag:= "",pkgPath:= "stearin/trace",byteOffset:=0},{ name:= "needs",type:=121,offset:=8,embedded:=false,tag:= "",pkgPath:= "stearin/trace",byteOffset:=64},{ name:= "never",type:=124,offset:=16,embedded:=false,tag:= "",pkgPath:= "stearin/trace",byteOffset:=128}],80,192,.agg #[.int .i64 0,.int .i64 0,.int .i64 0,.int .i64 0,.int .i64 0,.int .i64 0,.int .i64 0,.int .i64 0,.int .i64 0,.int .i64 0,.int .i64 0,.int .i64 0,.int .i64 0,.int .i64 0,.int .i64 0,.int .i64 0,.bool false,.bool false,.bool false,.bool false,.bool false,.bool false,.bool false,.bool false,.bool false,.bool false,.bool false,.bool false,.bool false,.bool false,.bool false,.bool false,.bool false,.bool false,.bool false,.bool false,.bool false,.bool false,.bool false,.bool false,.bool false,.bool false,.bool false,.bool false,.bool false,.bool false,.bool false,.bool false,.bool false,.bool false,.bool false,.bool false,.bool false,.bool false,.bool false,.bool false,.bool false,.bool false,.bool false,.bool false,.bool false,.bool false,.bool false,.bool false,.bool false,.bool false,.bool false,.bool false,.bool false,.bool false,.bool false,.bool false,.bool false,.bool false,.bool false,.bool false,.bool false,.bool false,.bool false,.bool false]⟩
theorem QEK:TyOk Tryz.prog 126 QaB:=QaC Tryz.underlying126 (by kernel_rfl) rfl rfl rfl ⟨_,rfl⟩
def Q7:TyI:=⟨.struct #[{ name:= "supply",type:=126,offset:=0,embedded:=true,tag:= "",pkgPath:= "stearin/trace",byteOffset:=0},{ name:= "batches",type:=22,offset:=80,embedded:=false,tag:= "",pkgPath:= "stearin/trace",byteOffset:=192},{ name:= "lost",type:=34,offset:=81,embedded:=false,tag:= "",pkgPath:= "stearin/trace",byteOffset:=216}],82,240,.agg #[.int .i64 0,.int .i64 0,.int .i64 0,.int .i64 0,.int .i64 0,.int .i64 0,.int .i64 0,.int .i64 0,.int .i64 0,.int .i64 0,.int .i64 0,.int .i64 0,.int .i64 0,.int .i64 0,.int .i64 0,.int .i64 0,.bool false,.bool false,.bool false,.bool false,.bool false,.bool false,.bool false,.bool false,.bool false,.bool false,.bool false,.bool false,.bool false,.bool false,.bool false,.bool false,.bool false,.bool false,.bool false,.bool false,.bool false,.bool false,.bool false,.bool false,.bool false,.bool false,.bool false,.bool false,.bool false,.bool false,.bool false,.bool false,.bool false,.bool false,.bool false,.bool false,.bool false,.bool false,.bool false,.bool false,.bool false,.bool false,.bool false,.bool false,.bool false,.bool false,.bool false,.bool false,.bool false,.bool false,.bool false,.bool false,.bool false,.bool false,.bool false,.bool false,.bool false,.bool false,.bool false,.bool false,.bool false,.bool false,.bool false,.bool false,.slice none 0 0,.slice none 0 0]⟩
theorem QDT:TyOk Tryz.prog 128 Q7:=QaC Tryz.underlying128 (by kernel_rfl) rfl rfl rfl ⟨_,rfl⟩
def QBu:TyI:=⟨.struct #[{ name:= "StSort",type:=24,offset:=0,embedded:=true,tag:= "",pkgPath:= "",byteOffset:=0}],2,16,.agg #[.int .i64 0,.int .i64 0]⟩
theorem QFs:TyOk Tryz.prog 134 QBu:=QaC Tryz.underlying134 (by kernel_rfl) rfl rfl rfl ⟨_,rfl⟩
def Qz0:TyI:=⟨.func #[47] #[4] false,1,8,.nilFunc⟩
theorem QF6:TyOk Tryz.prog 139 Qz0:=Q0 Tryz.underlying139 (by kernel_rfl) rfl rfl rfl rfl
def QB4:TyI:=⟨.func #[39] #[3] false,1,8,.nilFunc⟩
theorem QGm:TyOk Tryz.prog 140 QB4:=Q0 Tryz.underlying140 (by kernel_rfl) rfl rfl rfl rfl
def Qz2:TyI:=⟨.struct #[{ name:= "From",type:=3,offset:=0,embedded:=false,tag:= "",pkgPath:= "",byteOffset:=0},{ name:= "To",type:=3,offset:=1,embedded:=false,tag:= "",pkgPath:= "",byteOffset:=8}],2,16,.agg #[.int .i64 0,.int .i64 0]⟩
theorem QFG:TyOk Tryz.prog 145 Qz2:=QaC Tryz.underlying145 (by kernel_rfl) rfl rfl rfl ⟨_,rfl⟩
def QCu:TyI:=⟨.struct #[{ name:= "From",type:=3,offset:=0,embedded:=false,tag:= "",pkgPath:= "",byteOffset:=0},{ name:= "Grams",type:=3,offset:=1,embedded:=false,tag:= "",pkgPath:= "",byteOffset:=8}],2,16,.agg #[.int .i64 0,.int .i64 0]⟩
theorem QHC:TyOk Tryz.prog 147 QCu:=QaC Tryz.underlying147 (by kernel_rfl) rfl rfl rfl ⟨_,rfl⟩
def QAD:TyI:=⟨.slice 9,1,24,.slice none 0 0⟩
theorem QEU:TyOk Tryz.prog 148 QAD:=Q0 Tryz.underlying148 (by kernel_rfl) rfl rfl rfl rfl
def QBw:TyI:=⟨.struct #[{ name:= "StLine",type:=100,offset:=0,embedded:=true,tag:= "",pkgPath:= "",byteOffset:=0},{ name:= "readings",type:=34,offset:=2,embedded:=false,tag:= "",pkgPath:= "stearin/stub",byteOffset:=32}],3,56,.agg #[.int .i64 0,.slice none 0 0,.slice none 0 0]⟩
theorem QGM:TyOk Tryz.prog 194 QBw:=QaC Tryz.underlying194 (by kernel_rfl) rfl rfl rfl ⟨_,rfl⟩
def QgL:TyI:=⟨.array 8 121,64,512,.agg #[.int .i64 0,.int .i64 0,.int .i64 0,.int .i64 0,.int .i64 0,.int .i64 0,.int .i64 0,.int .i64 0,.int .i64 0,.int .i64 0,.int .i64 0,.int .i64 0,.int .i64 0,.int .i64 0,.int .i64 0,.int .i64 0,.int .i64 0,.int .i64 0,.int .i64 0,.int .i64 0,.int .i64 0,.int .i64 0,.int .i64 0,.int .i64 0,.int .i64 0,.int .i64 0,.int .i64 0,.int .i64 0,.int .i64 0,.int .i64 0,.int .i64 0,.int .i64 0,.int .i64 0,.int .i64 0,.int .i64 0,.int .i64 0,.int .i64 0,.int .i64 0,.int .i64 0,.int .i64 0,.int .i64 0,.int .i64 0,.int .i64 0,.int .i64 0,.int .i64 0,.int .i64 0,.int .i64 0,.int .i64 0,.int .i64 0,.int .i64 0,.int .i64 0,.int .i64 0,.int .i64 0,.int .i64 0,.int .i64 0,.int .i64 0,.int .i64 0,.int .i64 0,.int .i64 0,.int .i64 0,.int .i64 0,.int .i64 0,.int .i64 0,.int .i64 0]⟩
theorem QG2:TyOk Tryz.prog 197 QgL:=QaC Tryz.underlying197 (by kernel_rfl) rfl rfl rfl ⟨_,rfl⟩
def Qb7:TyI:=⟨.array 8 121,64,512,.agg #[.int .i64 0,.int .i64 0,.int .i64 0,.int .i64 0,.int .i64 0,.int .i64 0,.int .i64 0,.int .i64 0,.int .i64 0,.int .i64 0,.int .i64 0,.int .i64 0,.int .i64 0,.int .i64 0,.int .i64 0,.int .i64 0,.int .i64 0,.int .i64 0,.int .i64 0,.int .i64 0,.int .i64 0,.int .i64 0,.int .i64 0,.int .i64 0,.int .i64 0,.int .i64 0,.int .i64 0,.int .i64 0,.int .i64 0,.int .i64 0,.int .i64 0,.int .i64 0,.int .i64 0,.int .i64 0,.int .i64 0,.int .i64 0,.int .i64 0,.int .i64 0,.int .i64 0,.int .i64 0,.int .i64 0,.int .i64 0,.int .i64 0,.int .i64 0,.int .i64 0,.int .i64 0,.int .i64 0,.int .i64 0,.int .i64 0,.int .i64 0,.int .i64 0,.int .i64 0,.int .i64 0,.int .i64 0,.int .i64 0,.int .i64 0,.int .i64 0,.int .i64 0,.int .i64 0,.int .i64 0,.int .i64 0,.int .i64 0,.int .i64 0,.int .i64 0]⟩
theorem QD8:TyOk Tryz.prog 198 Qb7:=QaC Tryz.underlying198 (by kernel_rfl) rfl rfl rfl ⟨_,rfl⟩
def QA4:TyI:=⟨.struct #[{ name:= "Name",type:=9,offset:=0,embedded:=false,tag:= "",pkgPath:= "",byteOffset:=0},{ name:= "Loss",type:=39,offset:=1,embedded:=false,tag:= "",pkgPath:= "",byteOffset:=16},{ name:= "Err",type:=3,offset:=3,embedded:=false,tag:= "",pkgPath:= "",byteOffset:=32}],4,40,.agg #[.string ByteArray.empty,.int .i64 0,.int .i64 0,.int .i64 0]⟩
theorem QEM:TyOk Tryz.prog 205 QA4:=QaC Tryz.underlying205 (by kernel_rfl) rfl rfl rfl ⟨_,rfl⟩
def QCn:TyI:=⟨.struct #[{ name:= "grams",type:=3,offset:=0,embedded:=false,tag:= "",pkgPath:= "stearin/stub",byteOffset:=0},{ name:= "many",type:=3,offset:=1,embedded:=false,tag:= "",pkgPath:= "stearin/stub",byteOffset:=8},{ name:= "bits",type:=3,offset:=2,embedded:=false,tag:= "",pkgPath:= "stearin/stub",byteOffset:=16}],3,24,.agg #[.int .i64 0,.int .i64 0,.int .i64 0]⟩
theorem QGP:TyOk Tryz.prog 208 QCn:=QaC Tryz.underlying208 (by kernel_rfl) rfl rfl rfl ⟨_,rfl⟩
def QCq:TyI:=⟨.func #[208] #[3] false,1,8,.nilFunc⟩
theorem QHu:TyOk Tryz.prog 209 QCq:=Q0 Tryz.underlying209 (by kernel_rfl) rfl rfl rfl rfl
def QBW:TyI:=⟨.struct #[{ name:= "of",type:=209,offset:=0,embedded:=false,tag:= "",pkgPath:= "stearin/stub",byteOffset:=0}],1,8,.agg #[.nilFunc]⟩
theorem QHv:TyOk Tryz.prog 211 QBW:=QaC Tryz.underlying211 (by kernel_rfl) rfl rfl rfl ⟨_,rfl⟩
def QAo:TyI:=⟨.slice 211,1,24,.slice none 0 0⟩
theorem QE5:TyOk Tryz.prog 212 QAo:=Q0 Tryz.underlying212 (by kernel_rfl) rfl rfl rfl rfl
def QAv:TyI:=⟨.map 9 3,1,8,.map none⟩
theorem QGB:TyOk Tryz.prog 227 QAv:=Q0 Tryz.underlying227 (by kernel_rfl) rfl rfl rfl rfl
def QBM:TyI:=⟨.func #[3,126,241] #[] false,1,8,.nilFunc⟩
theorem QFD:TyOk Tryz.prog 240 QBM:=Q0 Tryz.underlying240 (by kernel_rfl) rfl rfl rfl rfl
def QBz:TyI:=⟨.slice 245,1,24,.slice none 0 0⟩
theorem QFn:TyOk Tryz.prog 241 QBz:=Q0 Tryz.underlying241 (by kernel_rfl) rfl rfl rfl rfl
def QBE:TyI:=⟨.struct #[{ name:= "from",type:=3,offset:=0,embedded:=false,tag:= "",pkgPath:= "stearin/trace",byteOffset:=0},{ name:= "to",type:=3,offset:=1,embedded:=false,tag:= "",pkgPath:= "stearin/trace",byteOffset:=8}],2,16,.agg #[.int .i64 0,.int .i64 0]⟩
theorem QEJ:TyOk Tryz.prog 245 QBE:=QaC Tryz.underlying245 (by kernel_rfl) rfl rfl rfl ⟨_,rfl⟩
def QBI:TyI:=⟨.func #[3,3,247] #[3] false,1,8,.nilFunc⟩
theorem QH7:TyOk Tryz.prog 246 QBI:=Q0 Tryz.underlying246 (by kernel_rfl) rfl rfl rfl rfl
def QBn:TyI:=⟨.func #[3,47] #[29] false,1,8,.nilFunc⟩
theorem QG4:TyOk Tryz.prog 249 QBn:=Q0 Tryz.underlying249 (by kernel_rfl) rfl rfl rfl rfl
def QBq:TyI:=⟨.func #[3,3] #[29] false,1,8,.nilFunc⟩
theorem QF8:TyOk Tryz.prog 289 QBq:=Q0 Tryz.underlying289 (by kernel_rfl) rfl rfl rfl rfl
def QCL:TyI:=⟨.pointer 3,1,8,.pointer none⟩
theorem QH6:TyOk Tryz.prog 291 QCL:=Q0 Tryz.underlying291 (by kernel_rfl) rfl rfl rfl rfl
def QBm:TyI:=⟨.slice 34,1,24,.slice none 0 0⟩
theorem QFt:TyOk Tryz.prog 293 QBm:=Q0 Tryz.underlying293 (by kernel_rfl) rfl rfl rfl rfl
def QAQ:TyI:=⟨.func #[205] #[4] false,1,8,.nilFunc⟩
theorem QFR:TyOk Tryz.prog 319 QAQ:=Q0 Tryz.underlying319 (by kernel_rfl) rfl rfl rfl rfl
def QA8:TyI:=⟨.func #[3,205] #[29] false,1,8,.nilFunc⟩
theorem QHs:TyOk Tryz.prog 320 QA8:=Q0 Tryz.underlying320 (by kernel_rfl) rfl rfl rfl rfl
def tys:Tys:=fun T=>match T with
 | 2=>some ty2
 | 3=>some ty3
 | 4=>some ty4
 | 5=>some ty5
 | 9=>some ty9
 | 21=>some QNF
 | 22=>some QM1
 | 24=>some QMV
 | 25=>some QNv
 | 26=>some QMS
 | 28=>some QM0
 | 29=>some QNr
 | 34=>some QNI
 | 35=>some QNJ
 | 39=>some QM9
 | 42=>some QNd
 | 43=>some QNb
 | 45=>some QM2
 | 47=>some QNE
 | 53=>some QMZ
 | 72=>some QNj
 | 75=>some QNH
 | 91=>some QM7
 | 93=>some QM5
 | 95=>some QNa
 | 98=>some QNn
 | 100=>some QAF
 | 121=>some QCB
 | 123=>some QAd
 | 124=>some Qfl
 | 126=>some QaB
 | 128=>some Q7
 | 134=>some QBu
 | 139=>some Qz0
 | 140=>some QB4
 | 145=>some Qz2
 | 147=>some QCu
 | 148=>some QAD
 | 194=>some QBw
 | 197=>some QgL
 | 198=>some Qb7
 | 205=>some QA4
 | 208=>some QCn
 | 209=>some QCq
 | 211=>some QBW
 | 212=>some QAo
 | 227=>some QAv
 | 240=>some QBM
 | 241=>some QBz
 | 245=>some QBE
 | 246=>some QBI
 | 249=>some QBn
 | 289=>some QBq
 | 291=>some QCL
 | 293=>some QBm
 | 319=>some QAQ
 | 320=>some QA8
 | _=>none
theorem QPk:tys 2=some ty2:=rfl
theorem QPh:tys 3=some ty3:=rfl
theorem QOj:tys 4=some ty4:=rfl
theorem QOZ:tys 5=some ty5:=rfl
theorem QNO:tys 9=some ty9:=rfl
theorem QJc:tys 21=some QNF:=rfl
theorem QMe:tys 22=some QM1:=rfl
theorem QLF:tys 24=some QMV:=rfl
theorem QLH:tys 25=some QNv:=rfl
theorem QKb:tys 26=some QMS:=rfl
theorem QJY:tys 28=some QM0:=rfl
theorem QL3:tys 29=some QNr:=rfl
theorem QI4:tys 34=some QNI:=rfl
theorem QKK:tys 35=some QNJ:=rfl
theorem QIw:tys 39=some QM9:=rfl
theorem QLS:tys 42=some QNd:=rfl
theorem QI0:tys 43=some QNb:=rfl
theorem QKt:tys 45=some QM2:=rfl
theorem QLJ:tys 47=some QNE:=rfl
theorem QK1:tys 53=some QMZ:=rfl
theorem QJU:tys 72=some QNj:=rfl
theorem QLn:tys 75=some QNH:=rfl
theorem QIz:tys 91=some QM7:=rfl
theorem QLc:tys 93=some QM5:=rfl
theorem QL6:tys 95=some QNa:=rfl
theorem QMF:tys 98=some QNn:=rfl
theorem QH1:tys 100=some QAF:=rfl
theorem QG8:tys 121=some QCB:=rfl
theorem QHY:tys 123=some QAd:=rfl
theorem QFo:tys 124=some Qfl:=rfl
theorem QHm:tys 126=some QaB:=rfl
theorem QHl:tys 128=some Q7:=rfl
theorem QGO:tys 134=some QBu:=rfl
theorem QHR:tys 139=some Qz0:=rfl
theorem QE9:tys 140=some QB4:=rfl
theorem QGx:tys 145=some Qz2:=rfl
theorem QE7:tys 147=some QCu:=rfl
theorem QHO:tys 148=some QAD:=rfl
theorem QE3:tys 194=some QBw:=rfl
theorem QEm:tys 197=some QgL:=rfl
theorem QDU:tys 198=some Qb7:=rfl
theorem QG7:tys 205=some QA4:=rfl
theorem QG9:tys 208=some QCn:=rfl
theorem QHK:tys 209=some QCq:=rfl
theorem QFi:tys 211=some QBW:=rfl
theorem QES:tys 212=some QAo:=rfl
theorem QGh:tys 227=some QAv:=rfl
theorem QHf:tys 240=some QBM:=rfl
theorem QGg:tys 241=some QBz:=rfl
theorem QGI:tys 245=some QBE:=rfl
theorem QER:tys 246=some QBI:=rfl
theorem QFC:tys 249=some QBn:=rfl
theorem QFB:tys 289=some QBq:=rfl
theorem QFV:tys 291=some QCL:=rfl
theorem QHP:tys 293=some QBm:=rfl
theorem QFS:tys 319=some QAQ:=rfl
theorem QD9:tys 320=some QA8:=rfl
theorem QoQ:∀T i,tys T=some i→TyOk Tryz.prog T i:=by
 intro T i h;unfold tys at h;split at h
 ·cases h; exact QOW
 ·cases h; exact QOF
 ·cases h; exact QJT
 ·cases h; exact QPd
 ·cases h; exact QOU
 ·cases h; exact QJE
 ·cases h; exact QKM
 ·cases h; exact QMH
 ·cases h; exact QMv
 ·cases h; exact QLs
 ·cases h; exact QMB
 ·cases h; exact QKL
 ·cases h; exact QKj
 ·cases h; exact QLj
 ·cases h; exact QIW
 ·cases h; exact QLC
 ·cases h; exact QJa
 ·cases h; exact QI9
 ·cases h; exact QKg
 ·cases h; exact QMh
 ·cases h; exact QJQ
 ·cases h; exact QI8
 ·cases h; exact QJH
 ·cases h; exact QKs
 ·cases h; exact QKJ
 ·cases h; exact QKw
 ·cases h; exact QH8
 ·cases h; exact QHz
 ·cases h; exact QGw
 ·cases h; exact QEW
 ·cases h; exact QEK
 ·cases h; exact QDT
 ·cases h; exact QFs
 ·cases h; exact QF6
 ·cases h; exact QGm
 ·cases h; exact QFG
 ·cases h; exact QHC
 ·cases h; exact QEU
 ·cases h; exact QGM
 ·cases h; exact QG2
 ·cases h; exact QD8
 ·cases h; exact QEM
 ·cases h; exact QGP
 ·cases h; exact QHu
 ·cases h; exact QHv
 ·cases h; exact QE5
 ·cases h; exact QGB
 ·cases h; exact QFD
 ·cases h; exact QFn
 ·cases h; exact QEJ
 ·cases h; exact QH7
 ·cases h; exact QG4
 ·cases h; exact QF8
 ·cases h; exact QH6
 ·cases h; exact QFt
 ·cases h; exact QFR
 ·cases h; exact QHs
 ·cases h
end Go.Proofs.YticoemblgkemiaaGreatDoor
namespace Go.Proofs.YticoemblgkemiaaGreatDoor
open Go.RowKit
theorem QKz:QzT Tryz.prog 39 5:=by
 intro xs ys hx hy w x y;obtain⟨a0,t,rfl,hx0⟩:=QaM (k:=1) hx;obtain⟨a1,t,rfl,hx1⟩:=QaM (k:=0) hx0;obtain rfl:=Qcc hx1;obtain⟨b0,t,rfl,hy0⟩:=QaM (k:=1) hy;obtain⟨b1,t,rfl,hy1⟩:=QaM (k:=0) hy0;obtain rfl:=Qcc hy1;have hm:Tryz.prog.eqGuardType Tryz.prog.depth 39=false:=by kernel_rfl
 have hp:Tryz.prog.stoodInHeld 39=false:=by kernel_rfl
 have hu:=Tryz.underlying39;have h3:=Tryz.underlying3;have e:(Op.equalIn 10000 39 (.agg #[.int .i64 a0,.int .i64 a1]) (.agg #[.int .i64 b0,.int .i64 b1])).run Tryz.prog w= .ok (eqV [Value.int .i64 a0,Value.int .i64 a1] [Value.int .i64 b0,Value.int .i64 b1]) w:=by
  rw[run_equalIn_struct w 9999 39 _ _ (by rw[Program.fieldsOf,hu]) hp]
  simp[Program.fieldsOf,hu,Op.eqFields,go_sem,h3,Qfs,eqV,isS];by_cases q0:a0=b0<;>by_cases q1:a1=b1<;>simp[q0,q1]
 have ne:neV [Value.int .i64 a0,Value.int .i64 a1] [Value.int .i64 b0,Value.int .i64 b1]=!eqV [Value.int .i64 a0,Value.int .i64 a1] [Value.int .i64 b0,Value.int .i64 b1]:=rfl;constructor
 ·simp only[Sem.run_bind];rw[run_eqGuard_agg _ _ _ _ _ _ _ hm];simp only[Result.andThen_ok,run_eql_struct];rw[e]; rfl
 ·simp only[Sem.run_bind];rw[run_eqGuard_agg _ _ _ _ _ _ _ hm];simp only[Result.andThen_ok,run_neq_struct];rw[e,ne]; rfl
theorem QI6:QzT Tryz.prog 147 5:=by
 intro xs ys hx hy w x y;obtain⟨a0,t,rfl,hx0⟩:=QaM (k:=1) hx;obtain⟨a1,t,rfl,hx1⟩:=QaM (k:=0) hx0;obtain rfl:=Qcc hx1;obtain⟨b0,t,rfl,hy0⟩:=QaM (k:=1) hy;obtain⟨b1,t,rfl,hy1⟩:=QaM (k:=0) hy0;obtain rfl:=Qcc hy1;have hm:Tryz.prog.eqGuardType Tryz.prog.depth 147=false:=by kernel_rfl
 have hp:Tryz.prog.stoodInHeld 147=false:=by kernel_rfl
 have hu:=Tryz.underlying147;have h3:=Tryz.underlying3;have e:(Op.equalIn 10000 147 (.agg #[.int .i64 a0,.int .i64 a1]) (.agg #[.int .i64 b0,.int .i64 b1])).run Tryz.prog w= .ok (eqV [Value.int .i64 a0,Value.int .i64 a1] [Value.int .i64 b0,Value.int .i64 b1]) w:=by
  rw[run_equalIn_struct w 9999 147 _ _ (by rw[Program.fieldsOf,hu]) hp]
  simp[Program.fieldsOf,hu,Op.eqFields,go_sem,h3,Qfs,eqV,isS];by_cases q0:a0=b0<;>by_cases q1:a1=b1<;>simp[q0,q1]
 have ne:neV [Value.int .i64 a0,Value.int .i64 a1] [Value.int .i64 b0,Value.int .i64 b1]=!eqV [Value.int .i64 a0,Value.int .i64 a1] [Value.int .i64 b0,Value.int .i64 b1]:=rfl;constructor
 ·simp only[Sem.run_bind];rw[run_eqGuard_agg _ _ _ _ _ _ _ hm];simp only[Result.andThen_ok,run_eql_struct];rw[e]; rfl
 ·simp only[Sem.run_bind];rw[run_eqGuard_agg _ _ _ _ _ _ _ hm];simp only[Result.andThen_ok,run_neq_struct];rw[e,ne]; rfl
theorem QHp:QzT Tryz.prog 145 5:=by
 intro xs ys hx hy w x y;obtain⟨a0,t,rfl,hx0⟩:=QaM (k:=1) hx;obtain⟨a1,t,rfl,hx1⟩:=QaM (k:=0) hx0;obtain rfl:=Qcc hx1;obtain⟨b0,t,rfl,hy0⟩:=QaM (k:=1) hy;obtain⟨b1,t,rfl,hy1⟩:=QaM (k:=0) hy0;obtain rfl:=Qcc hy1;have hm:Tryz.prog.eqGuardType Tryz.prog.depth 145=false:=by kernel_rfl
 have hp:Tryz.prog.stoodInHeld 145=false:=by kernel_rfl
 have hu:=Tryz.underlying145;have h3:=Tryz.underlying3;have e:(Op.equalIn 10000 145 (.agg #[.int .i64 a0,.int .i64 a1]) (.agg #[.int .i64 b0,.int .i64 b1])).run Tryz.prog w= .ok (eqV [Value.int .i64 a0,Value.int .i64 a1] [Value.int .i64 b0,Value.int .i64 b1]) w:=by
  rw[run_equalIn_struct w 9999 145 _ _ (by rw[Program.fieldsOf,hu]) hp]
  simp[Program.fieldsOf,hu,Op.eqFields,go_sem,h3,Qfs,eqV,isS];by_cases q0:a0=b0<;>by_cases q1:a1=b1<;>simp[q0,q1]
 have ne:neV [Value.int .i64 a0,Value.int .i64 a1] [Value.int .i64 b0,Value.int .i64 b1]=!eqV [Value.int .i64 a0,Value.int .i64 a1] [Value.int .i64 b0,Value.int .i64 b1]:=rfl;constructor
 ·simp only[Sem.run_bind];rw[run_eqGuard_agg _ _ _ _ _ _ _ hm];simp only[Result.andThen_ok,run_eql_struct];rw[e]; rfl
 ·simp only[Sem.run_bind];rw[run_eqGuard_agg _ _ _ _ _ _ _ hm];simp only[Result.andThen_ok,run_neq_struct];rw[e,ne]; rfl
theorem QD6:QzT Tryz.prog 208 21:=by
 intro xs ys hx hy w x y;obtain⟨a0,t,rfl,hx0⟩:=QaM (k:=5) hx;obtain⟨a1,t,rfl,hx1⟩:=QaM (k:=1) hx0;obtain⟨a2,t,rfl,hx2⟩:=QaM (k:=0) hx1;obtain rfl:=Qcc hx2;obtain⟨b0,t,rfl,hy0⟩:=QaM (k:=5) hy;obtain⟨b1,t,rfl,hy1⟩:=QaM (k:=1) hy0;obtain⟨b2,t,rfl,hy2⟩:=QaM (k:=0) hy1;obtain rfl:=Qcc hy2;have hm:Tryz.prog.eqGuardType Tryz.prog.depth 208=false:=by kernel_rfl
 have hp:Tryz.prog.stoodInHeld 208=false:=by kernel_rfl
 have hu:=Tryz.underlying208;have h3:=Tryz.underlying3;have e:(Op.equalIn 10000 208 (.agg #[.int .i64 a0,.int .i64 a1,.int .i64 a2]) (.agg #[.int .i64 b0,.int .i64 b1,.int .i64 b2])).run Tryz.prog w= .ok (eqV [Value.int .i64 a0,Value.int .i64 a1,.int .i64 a2] [Value.int .i64 b0,Value.int .i64 b1,.int .i64 b2]) w:=by
  rw[run_equalIn_struct w 9999 208 _ _ (by rw[Program.fieldsOf,hu]) hp]
  simp[Program.fieldsOf,hu,Op.eqFields,go_sem,h3,Qfs,eqV,isS];by_cases q0:a0=b0<;>by_cases q1:a1=b1<;>by_cases q2:a2=b2<;>simp[q0,q1,q2]
 have ne:neV [Value.int .i64 a0,Value.int .i64 a1,.int .i64 a2] [Value.int .i64 b0,Value.int .i64 b1,.int .i64 b2]=!eqV [Value.int .i64 a0,Value.int .i64 a1,.int .i64 a2] [Value.int .i64 b0,Value.int .i64 b1,.int .i64 b2]:=rfl;constructor
 ·simp only[Sem.run_bind];rw[run_eqGuard_agg _ _ _ _ _ _ _ hm];simp only[Result.andThen_ok,run_eql_struct];rw[e]; rfl
 ·simp only[Sem.run_bind];rw[run_eqGuard_agg _ _ _ _ _ _ _ hm];simp only[Result.andThen_ok,run_neq_struct];rw[e,ne]; rfl
def QA7:List (TypeId×Nat):=[(39,5),(147,5),(145,5),(208,21)]
theorem Qo0:∀T n,Qt QA7 T=some n→QzT Tryz.prog T n:=by
 intro T n h;simp only[QA7,Qt]at h;split at h
 ·rename_i e; subst e; cases h; exact QKz
 split at h
 ·rename_i e; subst e; cases h; exact QI6
 split at h
 ·rename_i e; subst e; cases h; exact QHp
 split at h
 ·rename_i e; subst e; cases h; exact QD6
 cases h
end Go.Proofs.YticoemblgkemiaaGreatDoor
namespace Go.Proofs.YticoemblgkemiaaGreatDoor
open Go.RowKit
attribute [simp] QvL QyW Qt7 QaQ Qap Qcy Qnf Qb9 QHI QF7 QEX QzZ Qwc QGH QGf QGo Qw0 QuH QoS QpL Qul QCy Qwu Qt5 QuU Qrt QwV QB1 QA6 QBc QqL QdL Qmx X.ren QEO QIc X.locs Qbx QBJ QiW Qj6 Qf5 QoE NewC.x Qwk X.inBox Cx.eff QB3 QCs Qvj QwJ QvF Qwr QtN QoA Qp8 QyJ QzC Qvh Qqe QqT Qil Qbj QhL QMU QG0 Qz7 Qwp Qya QGY QFE QGk Qyj QBT QMw QK0 QJF Qx5 QGZ QGd Qup QIJ QJ6 QIA QxH Qyk QtB QCl Qav QR Qai Qa5 aop Qog QgU Qoy abL QhR QtP bcL Qdn Qk9 BC.x Qc5 X.hn QbR QND QEn QN0 QkT QfU QsZ QsY Qjp QfY Qsq Qv6 Qm8 QkO X.soft QsB QgN QBG Qtn Qtc bytesOf aUn QNA vop iop sop Qlz QhE QjG Qim QdR St.ev St.put St.res Qh0 Qlm QCj Qt Qqm Cx.close Qe8 QgF QgA Qaz Qeu Qd8 X.strip X.plain X.data X.cells X.rows X.int Qbp Qle Qfq QpI Own.isEx Qb5 QaN Qcz Res.ofX Qv5 Qgs X.outD Qfd QPk QPh QOj QOZ QNO QJc QMe QLF QLH QKb QJY QL3 QI4 QKK QIw QLS QI0 QKt QLJ QK1 QJU QLn QIz QLc QL6 QMF QH1 QG8 QHY QFo QHm QHl QGO QHR QE9 QGx QE7 QHO QE3 QEm QDU QG7 QG9 QHK QFi QES QGh QHf QGg QGI QER QFC QFB QFV QHP QFS QD9 TyI.agg TyI.isBool TyI.elem TyI.field TyI.zeroD TyI.zeroZ Qlb QBp QCZ bz Qgt X.snap QeD Qum QwQ QxL QiL Ql8 QN1 QCg QgB QdV Qif Qfs Qcw isS QK3 eqV neV Value.cells Value.oneCell' Qc8 Qaw sp0 sp1 sp2 sp3 sp4 sp5 Qak QxY QrD QLR Qn Qgx Qe2 Qd Qa7 QbN QmH QkF Qdr QKY QbL QmL Qvi QoP QjA QKu QyU Qyl QW4 QXv Cx.regionCK QVa QTR QXl QVX QR5 idO QpJ QTX QtW QW3 QqV Qux QqQ QEH QEd QFz QBC Quz QDu QwC QcK Qff St.cont QfB Cont.locs Qiw QrG Qip X.ownT QuO Qtd QPe QBZ Cont.ren QpX X.back QzF oneB Qgg QIy Cx.effCall Ql2 Qmg QCb Qsz QIi Cx.ownCall QHV X.snapO QlN QhO Qfa X.dataO X.key QII QEP Cx.mapAt Cx.lookup Cx.lookup2 QmZ QXb tops Cx.incS QF X.keepP Qut QtQ Qds QcH Qva Cx.iterOf QiT shK QNS sh1 Qni QmG Qzy QxI QAJ Qx4 Qxo QyC QGc Qug QtY QBL Qxg QwL Qtx Qwj QzR qT Qfi Qfm QCt Qvw Qtv Qub QLl Qvr Qlr QML QMl Qp5 Qqy Cx.panAt Cx.panF QDN
attribute [simp] ty2 ty3 ty4 ty5 ty9 QNF QM1 QMV QNv QMS QM0 QNr QNI QNJ QM9 QNd QNb QM2 QNE QMZ QNj QNH QM7 QM5 QNa QNn QAF QCB QAd Qfl QaB Q7 QBu Qz0 QB4 Qz2 QCu QAD QBw QgL Qb7 QA4 QCn QCq QBW QAo QAv QBM QBz QBE QBI QBn QBq QCL QBm QAQ QA8
end Go.Proofs.YticoemblgkemiaaGreatDoor
namespace Go.Proofs.YticoemblgkemiaaGreatDoor
open Go.RowKit
theorem QaX {a b:D} {s t:List D} (h:DImp a b) (g:LImp s t):LImp (a::s) (b::t):=⟨b,t,rfl,h,g⟩
structure Spn where
 lo:Int
 hi:Int
structure Tak where
 fr:Int
 gr:Int
structure Edg where
 fr:Int
 to:Int
structure Bat where
 name:ByteArray
 grams:Int
 fresh:Int
 lost:Bool
 takes:List Tak
structure Pro where
 has:List Int
 needs:List Int
 never:List Edg
instance:Inhabited Spn:=⟨⟨0,0⟩⟩
instance:Inhabited Tak:=⟨⟨0,0⟩⟩
instance:Inhabited Edg:=⟨⟨0,0⟩⟩
instance:Inhabited Bat:=⟨⟨ByteArray.empty,0,0,false,[]⟩⟩
instance:Inhabited Pro:=⟨⟨[],[],[]⟩⟩
def Qce:Row Tak:=⟨2,fun x=>[DI x.fr,DI x.gr],fun d=>match d with | [.v (.int .i64 a0),.v (.int .i64 a1)]=>some ⟨a0,a1⟩ | _=>none,fun _=>rfl,fun d x h=>by
 split at h
 ·cases h; exact LImp.refl _
 ·cases h⟩
theorem QeF (l:List Tak):(QJ Qce).dec (.sl 2 (l.map Qce.enc))=some l:=Qbd Qce l 2 rfl
def QQ:Row Bat:=⟨5,fun x=>[DS x.name,DI x.grams,DI x.fresh,DB x.lost,.sl 2 (x.takes.map Qce.enc)],fun d=>match d with
 | [.v (.string a0),.v (.int .i64 a1),.v (.int .i64 a2),.v (.bool a3),y]=>((QJ Qce).dec y).map fun l=>⟨a0,a1,a2,a3,l⟩
 | _=>none,fun x=>by simp[DS,DI,DB,QeF],fun d x h=>by
 split at h
 ·simp only[Option.map_eq_some_iff]at h;obtain⟨o,ho,rfl⟩:=h;exact QaX (DImp.refl _) (QaX (DImp.refl _) (QaX (DImp.refl _) (QaX (DImp.refl _) (QaX ((QJ Qce).ed _ _ ho) (LImp.refl _)))))
 ·cases h⟩
def inR (n lo hi:Int):Bool:=decide (lo≤n)&&decide (n≤hi)
theorem Qal {n lo hi:Int} :inR n lo hi=true↔lo≤n∧n≤hi:=by simp[inR]
def Qfn {α:Type} (f:Nat→α→Int):Nat→List α→Int×Int
 | _,[]=>(0,0)
 | i,a::t=>if f i a=0 then Qfn f (i+1) t else((i:Int),f i a)
theorem QlX {α:Type} (f:Nat→α→Int):∀(l:List α) (i:Nat),(Qfn f i l=(0,0)∧∀k (h:k < l.length),f (i+k) l[k]=0)∨∃k,∃h:k < l.length,Qfn f i l=(((i+k:Nat):Int),f (i+k) l[k])∧¬f (i+k) l[k]=0∧∀j (hj:j < l.length),j < k→f (i+j) l[j]=0
 | [],i=> .inl ⟨rfl,fun k h=>absurd h (by simp)⟩
 | a::t,i=>by
  by_cases ha:f i a=0
  ·rcases QlX f t (i+1)with⟨h1,h2⟩ | ⟨k,hk,h1,h2,h3⟩
   ·refine .inl ⟨by rw[Qfn,if_pos ha]; exact h1,fun k h=>?_⟩
    cases k with
    | zero=>simpa using ha
    | succ k=>have:=h2 k (by simpa using h); simpa[Nat.add_assoc,Nat.add_comm 1 k]using this
   ·have e:i+1+k=i+(k+1):=by omega
    rw[e]at h1 h2;refine .inr ⟨k+1,by simpa using hk,by rw[Qfn,if_pos ha]; simpa using h1,by simpa using h2,fun j hj hjk=>?_⟩
    cases j with
    | zero=>simpa using ha
    | succ j=>have:=h3 j (by simpa using hj) (by omega); simpa[Nat.add_assoc,Nat.add_comm 1 j]using this
  ·exact .inr ⟨0,by simp,by rw[Qfn,if_neg ha]; simp,by simpa using ha,fun j _ h=>absurd h (by omega)⟩
theorem QdP {α:Type} (f:Nat→α→Int) (l:List α):(Qfn f 0 l=(0,0)∧∀k (h:k < l.length),f k l[k]=0)∨∃k,∃h:k < l.length,Qfn f 0 l=((k:Int),f k l[k])∧¬f k l[k]=0∧∀j (hj:j < l.length),j < k→f j l[j]=0:=by
 have:=QlX f l 0;simpa using this
def QzJ (s:ByteArray) (i:Nat):Bool:=!(!(QaL s i==45)&&!inR (QaL s i) 97 122)&&!(decide (0 < i)&&QaL s i==45&&QaL s (i - 1)==45)
def Qbz (s:ByteArray):Bool:=inR s.size 1 20&&!(QaL s 0==45)&&!(QaL s (s.size - 1)==45)&&decide (∀i,i < s.size→QzJ s i=true)
def Qp0 (l:List Tak):Bool:=decide (∀k,k < l.length→0 < k→(l.getD (k - 1) default).fr < (l.getD k default).fr)
def QaR (l:List Tak):Int:=(l.map (·.gr)).sum
def QmK (b:List Bat) (i:Nat) (x:Bat):Int:=
 if Qbz x.name=false then 6 else
 if(b.take i).any (fun y=>y.name.toList==x.name.toList)then 5 else
 if inR x.grams 1 100000=false∨inR x.fresh 0 x.grams=false then 7 else
 if x.lost=true∧0 < x.takes.length then 6 else
 if x.takes.any (fun t=>!inR t.fr 0 ((i:Int) - 1))then 4 else
 if Qp0 x.takes=false then 5 else
 if x.takes.any (fun t=>!inR t.gr 1 100000)then 7 else
 if x.lost=false∧¬x.fresh+QaR x.takes=x.grams then 2 else 0
def Qgu (l:List Tak) (j:Nat):Int:=((l.filter (fun t=>t.fr==(j:Int))).map (·.gr)).sum
def Qba (b:List Bat) (j:Nat):Int:=(b.getD j default).grams - (b.map fun x=>Qgu x.takes j).sum
def QT (b:List Bat):List Int:=(List.range b.length).map (Qba b)
def Qdt (b:List Bat) (j:Nat):Int:=if(b.getD j default).lost=true then(b.getD j default).grams - (b.getD j default).fresh else 0
def QaD (b:List Bat):List Int:=(List.range b.length).map (Qdt b)
def QS (b:List Bat):List Nat:=(List.range b.length).filter fun i=>(b.getD i default).lost
def Qae (b:List Bat):List Int:=(QS b).map fun(i:Nat)=>(i:Int)
def QV (b:List Bat):Pro:=⟨QT b,QaD b,[]⟩
end Go.Proofs.YticoemblgkemiaaGreatDoor
namespace Go.Proofs.YticoemblgkemiaaGreatDoor
open Go.RowKit
def QbK:Nat:=281474976710656
def QLp (l:List (Nat×(List D→Option D))) (N:Nat) (kp:Nat→List (Nat×Option Nat)) (kb:List (Nat×Nat×Nat)):Cx:= { Γ:=tys,eqs:=QA7,Δ:=Qaw l,N:=N,F:=QbK,kp:=kp,kb:=kb}
attribute [simp] QLp QA7
theorem Qw {l:List (Nat×(List D→Option D))} (h:QaE Tryz.prog (Qaw l)) (N:Nat) (kp:Nat→List (Nat×Option Nat)) (kb:List (Nat×Nat×Nat)):CxOk Tryz.prog (QLp l N kp kb):=
 ⟨QoQ,Qo0,h,(fun _ _ _ _ _ _ _ h=>by cases h),by kernel_rfl,(fun _ _ h=>by cases h),Qi9,QmV⟩
def QGL (l:List (Nat×(List D→Option D))) (le:List (Nat×QfF)) (N:Nat) (kp:Nat→List (Nat×Option Nat)) (kb:List (Nat×Nat×Nat)) (df:Nat→List (Nat×Nat)) (md:Nat→Nat) (ks:List (TypeId×Nat)) (sq:List (Nat×(List D→Option (List (List Value))))):Cx:= { Γ:=tys,eqs:=QA7,Δ:=Qaw l,N:=N,F:=QbK,kp:=kp,kb:=kb,Δe:=Qj6 le,diff:=df,md:=md,keys:=ks,seq:=QiT sq}
attribute [simp] QGL
theorem Qby {l:List (Nat×(List D→Option D))} (h:QaE Tryz.prog (Qaw l)) {le:List (Nat×QfF)} (he:Qnm Tryz.prog (Qj6 le)) {ks:List (TypeId×Nat)} (hk:∀K sh,Qt ks K=some sh→KeyOk Tryz.prog K sh) {sq:List (Nat×(List D→Option (List (List Value))))} (hs:QpD Tryz.prog (QiT sq)) (N:Nat) (kp:Nat→List (Nat×Option Nat)) (kb:List (Nat×Nat×Nat)) (df:Nat→List (Nat×Nat)) (md:Nat→Nat):CxOk Tryz.prog (QGL l le N kp kb df md ks sq):=
 ⟨QoQ,Qo0,h,he,by kernel_rfl,hk,Qi9,hs⟩
def QN2 (l:List (Nat×(List D→Option D))) (lp:List (Nat×(List D→Option Value))) (N:Nat) (kp:Nat→List (Nat×Option Nat)) (kb:List (Nat×Nat×Nat)) (df:Nat→List (Nat×Nat)) (pq:Nat→List (Nat×List Nat)):Cx:= { Γ:=tys,eqs:=QA7,Δ:=Qaw l,N:=N,F:=QbK,kp:=kp,kb:=kb,diff:=df,Δp:=Qlr lp,pan:=true,pq:=pq}
attribute [simp] QN2
theorem Qbn:∀(K:TypeId) (sh:Nat),Qt ([]:List (TypeId×Nat)) K=some sh→KeyOk Tryz.prog K sh:=fun _ _ h=>by cases h
theorem Qa (x:Int) (h1: -9223372036854775808≤x) (h2:x≤9223372036854775807):IntKind.i64.wrap x=x:=IntWalk.i64_in _ ⟨h1,h2⟩
theorem Ql {α:Type} (l:List α) (i:Nat) (d:α) (h:i < l.length):l.getD i d=l[i]:=by simp[List.getD,h]
theorem QMD {α:Type} (p:α→Bool) {l:List α} {k:Nat} (h:k < l.length) (hp:p l[k]=true):l.any p=true:=by
 rw[List.any_eq_true]; exact⟨_,List.getElem_mem h,hp⟩
theorem QF0 {α:Type} (p:α→Bool) {l:List α} (h:∀k (hk:k < l.length),p l[k]=false):l.any p=false:=by
 rw[List.any_eq_false]; intro x hx;obtain⟨k,hk,rfl⟩:=List.getElem_of_mem hx;rw[h k hk]; simp
theorem Qhs {α:Type} (p:α→Bool) (l:List α):(l.any p=false∧∀k (hk:k < l.length),p l[k]=false)∨∃k,∃h:k < l.length,l.any p=true∧p l[k]=true∧∀j (hj:j < l.length),j < k→p l[j]=false:=by
 rcases Qbf (fun k=>!((l[k]?).elim false p)) l.length with h | ⟨k,hk,h1,h2⟩
 ·have:∀k (hk:k < l.length),p l[k]=false:=fun k hk=>by
   have:=h k hk;simpa[List.getElem?_eq_getElem hk]using this
  exact .inl ⟨QF0 p this,this⟩
 ·have h1':p l[k]=true:=by simpa[List.getElem?_eq_getElem hk]using h1
  refine .inr ⟨k,hk,QMD p hk h1',h1',fun j hj hjk=>?_⟩;have:=h2 j hjk;simpa[List.getElem?_eq_getElem hj]using this
end Go.Proofs.YticoemblgkemiaaGreatDoor
