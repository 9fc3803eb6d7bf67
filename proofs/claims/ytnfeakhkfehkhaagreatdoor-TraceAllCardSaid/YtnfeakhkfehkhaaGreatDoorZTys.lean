/-
  What is known of the types of the trace chapter. Conditions: none.
-/
import Derived.Test.YtnfeakhkfehkhaaGreatDoorProg
import Derived.Test.YtnfeakhkfehkhaaGreatDoorZAmE
set_option linter.unusedSimpArgs false
set_option linter.unusedVariables false
namespace Go.Proofs.YtnfeakhkfehkhaaGreatDoor
open Go.RowKit
theorem Qbd {P:Program} {T:TypeId} {i:TyI} (und:P.underlying T=some i.desc) (inf:(P.info? T).map (λf=>(f.size,f.bytes,f.zero))=some (i.size,i.bytes,some i.zero)) (zsz:i.zero.cells.size=i.size) (zone:i.zero.cells.toList.all (·.oneCell')=true) (ha:i.agg=true) (hz:∃cs,i.zero= .agg cs):TyOk P T i:=by
 refine⟨und,?_,zsz,λv hv=>Zl.1 zone v hv,λ_=>hz,λh=>by rw[ha]at h; cases h⟩
 cases h:P.info? T with
 | none=>rw[h]at inf; cases inf
 | some f=>
  rw[h]at inf;simp only[Option.map_some,Zs,Prod.mk.injEq]at inf;exact⟨f,rfl,inf.1,inf.2.1,inf.2.2⟩
theorem Qaj {P:Program} {T:TypeId} {i:TyI} (und:P.underlying T=some i.desc) (inf:(P.info? T).map (λf=>(f.size,f.bytes,f.zero))=some (i.size,i.bytes,some i.zero)) (zsz:i.zero.cells.size=i.size) (zone:i.zero.cells.toList.all (·.oneCell')=true) (ha:i.agg=false) (hz:i.zero.oneCell'=true):TyOk P T i:=by
 refine⟨und,?_,zsz,λv hv=>Zl.1 zone v hv,(λh=>by rw[ha]at h; cases h),λ_=>hz⟩
 cases h:P.info? T with
 | none=>rw[h]at inf; cases inf
 | some f=>
  rw[h]at inf;simp only[Option.map_some,Zs,Prod.mk.injEq]at inf;exact⟨f,rfl,inf.1,inf.2.1,inf.2.2⟩
def ty2:TyI:=⟨.int .i64,1,8,.int .i64 0⟩
theorem QHL:TyOk Tryz.prog 2 ty2:=Qaj Tryz.underlying2 (by kernel_rfl) rfl rfl rfl rfl
def ty3:TyI:=⟨.int .i64,1,8,.int .i64 0⟩
theorem QHo:TyOk Tryz.prog 3 ty3:=Qaj Tryz.underlying3 (by kernel_rfl) rfl rfl rfl rfl
def ty4:TyI:=⟨.bool,1,1,.bool false⟩
theorem QFN:TyOk Tryz.prog 4 ty4:=Qaj Tryz.underlying4 (by kernel_rfl) rfl rfl rfl rfl
def ty5:TyI:=⟨.int .u8,1,1,.int .u8 0⟩
theorem QHw:TyOk Tryz.prog 5 ty5:=Qaj Tryz.underlying5 (by kernel_rfl) rfl rfl rfl rfl
def ty9:TyI:=⟨.string,1,16,.string ByteArray.empty⟩
theorem QHe:TyOk Tryz.prog 9 ty9:=Qaj Tryz.underlying9 (by kernel_rfl) rfl rfl rfl rfl
def QGG:TyI:=⟨.int .i32,1,4,.int .i32 0⟩
theorem QFp:TyOk Tryz.prog 21 QGG:=Qaj Tryz.underlying21 (by kernel_rfl) rfl rfl rfl rfl
def QGr:TyI:=⟨.slice 57,1,24,.slice none 0 0⟩
theorem QCS:TyOk Tryz.prog 22 QGr:=Qaj Tryz.underlying22 (by kernel_rfl) rfl rfl rfl rfl
def QGn:TyI:=⟨.int .i64,1,8,.int .i64 0⟩
theorem QDW:TyOk Tryz.prog 23 QGn:=Qaj Tryz.underlying23 (by kernel_rfl) rfl rfl rfl rfl
def QGT:TyI:=⟨.slice 3,1,24,.slice none 0 0⟩
theorem QFF:TyOk Tryz.prog 26 QGT:=Qaj Tryz.underlying26 (by kernel_rfl) rfl rfl rfl rfl
def QGu:TyI:=⟨.struct #[{ name:= "Lo",type:=3,offset:=0,embedded:=false,tag:= "",pkgPath:= "",byteOffset:=0},{ name:= "Hi",type:=3,offset:=1,embedded:=false,tag:= "",pkgPath:= "",byteOffset:=8}],2,16,.agg #[.int .i64 0,.int .i64 0]⟩
theorem QD2:TyOk Tryz.prog 33 QGu:=Qbd Tryz.underlying33 (by kernel_rfl) rfl rfl rfl ⟨_,rfl⟩
def QGS:TyI:=⟨.slice 33,1,24,.slice none 0 0⟩
theorem QEU:TyOk Tryz.prog 47 QGS:=Qaj Tryz.underlying47 (by kernel_rfl) rfl rfl rfl rfl
def QGc:TyI:=⟨.slice 158,1,24,.slice none 0 0⟩
theorem QFJ:TyOk Tryz.prog 48 QGc:=Qaj Tryz.underlying48 (by kernel_rfl) rfl rfl rfl rfl
def QGd:TyI:=⟨.slice 4,1,24,.slice none 0 0⟩
theorem QDh:TyOk Tryz.prog 51 QGd:=Qaj Tryz.underlying51 (by kernel_rfl) rfl rfl rfl rfl
def QGM:TyI:=⟨.slice 76,1,24,.slice none 0 0⟩
theorem QEF:TyOk Tryz.prog 55 QGM:=Qaj Tryz.underlying55 (by kernel_rfl) rfl rfl rfl rfl
def QGD:TyI:=⟨.struct #[{ name:= "Name",type:=9,offset:=0,embedded:=false,tag:= "",pkgPath:= "",byteOffset:=0},{ name:= "Grams",type:=3,offset:=1,embedded:=false,tag:= "",pkgPath:= "",byteOffset:=16},{ name:= "Fresh",type:=3,offset:=2,embedded:=false,tag:= "",pkgPath:= "",byteOffset:=24},{ name:= "Lost",type:=4,offset:=3,embedded:=false,tag:= "",pkgPath:= "",byteOffset:=32},{ name:= "Takes",type:=55,offset:=4,embedded:=false,tag:= "",pkgPath:= "",byteOffset:=40}],5,64,.agg #[.string ByteArray.empty,.int .i64 0,.int .i64 0,.bool false,.slice none 0 0]⟩
theorem QEK:TyOk Tryz.prog 57 QGD:=Qbd Tryz.underlying57 (by kernel_rfl) rfl rfl rfl ⟨_,rfl⟩
def QGB:TyI:=⟨.slice 130,1,24,.slice none 0 0⟩
theorem QFa:TyOk Tryz.prog 59 QGB:=Qaj Tryz.underlying59 (by kernel_rfl) rfl rfl rfl rfl
def QGm:TyI:=⟨.struct #[{ name:= "Has",type:=26,offset:=0,embedded:=false,tag:= "",pkgPath:= "",byteOffset:=0},{ name:= "Needs",type:=26,offset:=1,embedded:=false,tag:= "",pkgPath:= "",byteOffset:=24},{ name:= "Never",type:=59,offset:=2,embedded:=false,tag:= "",pkgPath:= "",byteOffset:=48}],3,72,.agg #[.slice none 0 0,.slice none 0 0,.slice none 0 0]⟩
theorem QDf:TyOk Tryz.prog 61 QGm:=Qbd Tryz.underlying61 (by kernel_rfl) rfl rfl rfl ⟨_,rfl⟩
def QGI:TyI:=⟨.slice 22,1,24,.slice none 0 0⟩
theorem QD0:TyOk Tryz.prog 63 QGI:=Qaj Tryz.underlying63 (by kernel_rfl) rfl rfl rfl rfl
def QGV:TyI:=⟨.array 2 5,2,2,.agg #[.int .u8 0,.int .u8 0]⟩
theorem QDC:TyOk Tryz.prog 66 QGV:=Qbd Tryz.underlying66 (by kernel_rfl) rfl rfl rfl ⟨_,rfl⟩
def QGe:TyI:=⟨.struct #[{ name:= "Complaints",type:=26,offset:=0,embedded:=false,tag:= "",pkgPath:= "",byteOffset:=0},{ name:= "Good",type:=26,offset:=1,embedded:=false,tag:= "",pkgPath:= "",byteOffset:=24},{ name:= "List",type:=5,offset:=2,embedded:=false,tag:= "",pkgPath:= "",byteOffset:=48}],3,56,.agg #[.slice none 0 0,.slice none 0 0,.int .u8 0]⟩
theorem QFD:TyOk Tryz.prog 69 QGe:=Qbd Tryz.underlying69 (by kernel_rfl) rfl rfl rfl ⟨_,rfl⟩
def QGq:TyI:=⟨.struct #[{ name:= "From",type:=3,offset:=0,embedded:=false,tag:= "",pkgPath:= "",byteOffset:=0},{ name:= "Grams",type:=3,offset:=1,embedded:=false,tag:= "",pkgPath:= "",byteOffset:=8}],2,16,.agg #[.int .i64 0,.int .i64 0]⟩
theorem QDI:TyOk Tryz.prog 76 QGq:=Qbd Tryz.underlying76 (by kernel_rfl) rfl rfl rfl ⟨_,rfl⟩
def QGF:TyI:=⟨.array 8 3,8,64,.agg #[.int .i64 0,.int .i64 0,.int .i64 0,.int .i64 0,.int .i64 0,.int .i64 0,.int .i64 0,.int .i64 0]⟩
theorem QFf:TyOk Tryz.prog 80 QGF:=Qbd Tryz.underlying80 (by kernel_rfl) rfl rfl rfl ⟨_,rfl⟩
def QGt:TyI:=⟨.array 8 4,8,8,.agg #[.bool false,.bool false,.bool false,.bool false,.bool false,.bool false,.bool false,.bool false]⟩
theorem QF6:TyOk Tryz.prog 82 QGt:=Qbd Tryz.underlying82 (by kernel_rfl) rfl rfl rfl ⟨_,rfl⟩
def QmL:TyI:=⟨.array 8 82,64,64,.agg #[.bool false,.bool false,.bool false,.bool false,.bool false,.bool false,.bool false,.bool false,.bool false,.bool false,.bool false,.bool false,.bool false,.bool false,.bool false,.bool false,.bool false,.bool false,.bool false,.bool false,.bool false,.bool false,.bool false,.bool false,.bool false,.bool false,.bool false,.bool false,.bool false,.bool false,.bool false,.bool false,.bool false,.bool false,.bool false,.bool false,.bool false,.bool false,.bool false,.bool false,.bool false,.bool false,.bool false,.bool false,.bool false,.bool false,.bool false,.bool false,.bool false,.bool false,.bool false,.bool false,.bool false,.bool false,.bool false,.bool false,.bool false,.bool false,.bool false,.bool false,.bool false,.bool false,.bool false,.bool false]⟩
theorem QEt:TyOk Tryz.prog 83 QmL:=Qbd Tryz.underlying83 (by kernel_rfl) rfl rfl rfl ⟨_,rfl⟩
def Qb5:TyI:=⟨.struct #[{ name:= "has",type:=80,offset:=0,embedded:=false,tag:= "",pkgPath:= "stearin/trace",byteOffset:=0},{ name:= "needs",type:=80,offset:=8,embedded:=false,tag:= "",pkgPath:= "stearin/trace",byteOffset:=64},{ name:= "never",type:=83,offset:=16,embedded:=false,tag:= "",pkgPath:= "stearin/trace",byteOffset:=128}],80,192,.agg #[.int .i64 0,.int .i64 0,.int .i64 0,.int .i64 0,.int .i64 0,.int .i64 0,.int .i64 0,.int .i64 0,.int .i64 0,.int .i64 0,.int .i64 0,.int .i64 0,.int .i64 0,.int .i64 0,.int .i64 0,.int .i64 0,.bool false,.bool false,.bool false,.bool false,.bool false,.bool false,.bool false,.bool false,.bool false,.bool false,.bool false,.bool false,.bool false,.bool false,.bool false,.bool false,.bool false,.bool false,.bool false,.bool false,.bool false,.bool false,.bool false,.bool false,.bool false,.bool false,.bool false,.bool false,.bool false,.bool false,.bool false,.bool false,.bool false,.bool false,.bool false,.bool false,.bool false,.bool false,.bool false,.bool false,.bool false,.bool false,.bool false,.bool false,.bool false,.bool false,.bool false,.bool false,.bool false,.bool false,.bool false,.bool false,.bool false,.bool false,.bool false,.bool false,.bool false,.bool false,.bool false,.bool false,.bool false,.bool false,.bool false,.bool false]⟩
theorem QFW:TyOk Tryz.prog 85 Qb5:=Qbd Tryz.underlying85 (by kernel_rfl) rfl rfl rfl ⟨_,rfl⟩
def Qa8:TyI:=⟨.struct #[{ name:= "supply",type:=85,offset:=0,embedded:=true,tag:= "",pkgPath:= "stearin/trace",byteOffset:=0},{ name:= "batches",type:=22,offset:=80,embedded:=false,tag:= "",pkgPath:= "stearin/trace",byteOffset:=192},{ name:= "lost",type:=26,offset:=81,embedded:=false,tag:= "",pkgPath:= "stearin/trace",byteOffset:=216}],82,240,.agg #[.int .i64 0,.int .i64 0,.int .i64 0,.int .i64 0,.int .i64 0,.int .i64 0,.int .i64 0,.int .i64 0,.int .i64 0,.int .i64 0,.int .i64 0,.int .i64 0,.int .i64 0,.int .i64 0,.int .i64 0,.int .i64 0,.bool false,.bool false,.bool false,.bool false,.bool false,.bool false,.bool false,.bool false,.bool false,.bool false,.bool false,.bool false,.bool false,.bool false,.bool false,.bool false,.bool false,.bool false,.bool false,.bool false,.bool false,.bool false,.bool false,.bool false,.bool false,.bool false,.bool false,.bool false,.bool false,.bool false,.bool false,.bool false,.bool false,.bool false,.bool false,.bool false,.bool false,.bool false,.bool false,.bool false,.bool false,.bool false,.bool false,.bool false,.bool false,.bool false,.bool false,.bool false,.bool false,.bool false,.bool false,.bool false,.bool false,.bool false,.bool false,.bool false,.bool false,.bool false,.bool false,.bool false,.bool false,.bool false,.bool false,.bool false,.slice none 0 0,.slice none 0 0]⟩
theorem QCR:TyOk Tryz.prog 87 Qa8:=Qbd Tryz.underlying87 (by kernel_rfl) rfl rfl rfl ⟨_,rfl⟩
def Qw6:TyI:=⟨.slice 26,1,24,.slice none 0 0⟩
theorem QAW:TyOk Tryz.prog 103 Qw6:=Qaj Tryz.underlying103 (by kernel_rfl) rfl rfl rfl rfl
def QxP:TyI:=⟨.slice 5,1,24,.slice none 0 0⟩
theorem QAh:TyOk Tryz.prog 107 QxP:=Qaj Tryz.underlying107 (by kernel_rfl) rfl rfl rfl rfl
def Qyg:TyI:=⟨.slice 9,1,24,.slice none 0 0⟩
theorem QA3:TyOk Tryz.prog 111 Qyg:=Qaj Tryz.underlying111 (by kernel_rfl) rfl rfl rfl rfl
def Qyp:TyI:=⟨.map 9 3,1,8,.map none⟩
theorem QAj:TyOk Tryz.prog 118 Qyp:=Qaj Tryz.underlying118 (by kernel_rfl) rfl rfl rfl rfl
def Qyc:TyI:=⟨.struct #[{ name:= "From",type:=3,offset:=0,embedded:=false,tag:= "",pkgPath:= "",byteOffset:=0},{ name:= "To",type:=3,offset:=1,embedded:=false,tag:= "",pkgPath:= "",byteOffset:=8}],2,16,.agg #[.int .i64 0,.int .i64 0]⟩
theorem QzQ:TyOk Tryz.prog 130 Qyc:=Qbd Tryz.underlying130 (by kernel_rfl) rfl rfl rfl ⟨_,rfl⟩
def Qyj:TyI:=⟨.slice 55,1,24,.slice none 0 0⟩
theorem QzL:TyOk Tryz.prog 131 Qyj:=Qaj Tryz.underlying131 (by kernel_rfl) rfl rfl rfl rfl
def QwY:TyI:=⟨.slice 149,1,24,.slice none 0 0⟩
theorem QBe:TyOk Tryz.prog 145 QwY:=Qaj Tryz.underlying145 (by kernel_rfl) rfl rfl rfl rfl
def Qx1:TyI:=⟨.struct #[{ name:= "from",type:=3,offset:=0,embedded:=false,tag:= "",pkgPath:= "stearin/trace",byteOffset:=0},{ name:= "to",type:=3,offset:=1,embedded:=false,tag:= "",pkgPath:= "stearin/trace",byteOffset:=8}],2,16,.agg #[.int .i64 0,.int .i64 0]⟩
theorem QB9:TyOk Tryz.prog 149 Qx1:=Qbd Tryz.underlying149 (by kernel_rfl) rfl rfl rfl ⟨_,rfl⟩
def Qf6:TyI:=⟨.array 8 80,64,512,.agg #[.int .i64 0,.int .i64 0,.int .i64 0,.int .i64 0,.int .i64 0,.int .i64 0,.int .i64 0,.int .i64 0,.int .i64 0,.int .i64 0,.int .i64 0,.int .i64 0,.int .i64 0,.int .i64 0,.int .i64 0,.int .i64 0,.int .i64 0,.int .i64 0,.int .i64 0,.int .i64 0,.int .i64 0,.int .i64 0,.int .i64 0,.int .i64 0,.int .i64 0,.int .i64 0,.int .i64 0,.int .i64 0,.int .i64 0,.int .i64 0,.int .i64 0,.int .i64 0,.int .i64 0,.int .i64 0,.int .i64 0,.int .i64 0,.int .i64 0,.int .i64 0,.int .i64 0,.int .i64 0,.int .i64 0,.int .i64 0,.int .i64 0,.int .i64 0,.int .i64 0,.int .i64 0,.int .i64 0,.int .i64 0,.int .i64 0,.int .i64 0,.int .i64 0,.int .i64 0,.int .i64 0,.int .i64 0,.int .i64 0,.int .i64 0,.int .i64 0,.int .i64 0,.int .i64 0,.int .i64 0,.int .i64 0,.int .i64 0,.int .i64 0,.int .i64 0]⟩
theorem QAU:TyOk Tryz.prog 150 Qf6:=Qbd Tryz.underlying150 (by kernel_rfl) rfl rfl rfl ⟨_,rfl⟩
def QwO:TyI:=⟨.int .u32,1,4,.int .u32 0⟩
theorem QzK:TyOk Tryz.prog 158 QwO:=Qaj Tryz.underlying158 (by kernel_rfl) rfl rfl rfl rfl
def QxH:TyI:=⟨.func #[3,3] #[4] false,1,8,.nilFunc⟩
theorem QBM:TyOk Tryz.prog 102 QxH:=Qaj Tryz.underlying102 (by kernel_rfl) rfl rfl rfl rfl
def Qxt:TyI:=⟨.func #[3,85,145] #[] false,1,8,.nilFunc⟩
theorem QzT:TyOk Tryz.prog 144 Qxt:=Qaj Tryz.underlying144 (by kernel_rfl) rfl rfl rfl rfl
def QxX:TyI:=⟨.func #[3,3,152] #[3] false,1,8,.nilFunc⟩
theorem QAc:TyOk Tryz.prog 151 QxX:=Qaj Tryz.underlying151 (by kernel_rfl) rfl rfl rfl rfl
def tys:Tys:=λT=>match T with
 | 2=>some ty2
 | 3=>some ty3
 | 4=>some ty4
 | 5=>some ty5
 | 9=>some ty9
 | 21=>some QGG
 | 22=>some QGr
 | 23=>some QGn
 | 26=>some QGT
 | 33=>some QGu
 | 47=>some QGS
 | 48=>some QGc
 | 51=>some QGd
 | 55=>some QGM
 | 57=>some QGD
 | 59=>some QGB
 | 61=>some QGm
 | 63=>some QGI
 | 66=>some QGV
 | 69=>some QGe
 | 76=>some QGq
 | 80=>some QGF
 | 82=>some QGt
 | 83=>some QmL
 | 85=>some Qb5
 | 87=>some Qa8
 | 103=>some Qw6
 | 107=>some QxP
 | 111=>some Qyg
 | 118=>some Qyp
 | 130=>some Qyc
 | 131=>some Qyj
 | 145=>some QwY
 | 149=>some Qx1
 | 150=>some Qf6
 | 158=>some QwO
 | 102=>some QxH
 | 144=>some Qxt
 | 151=>some QxX
 | _=>none
theorem QHT:tys 2=some ty2:=rfl
theorem QHn:tys 3=some ty3:=rfl
theorem QHy:tys 4=some ty4:=rfl
theorem QHp:tys 5=some ty5:=rfl
theorem QG4:tys 9=some ty9:=rfl
theorem QCK:tys 21=some QGG:=rfl
theorem QDR:tys 22=some QGr:=rfl
theorem QEh:tys 23=some QGn:=rfl
theorem QFU:tys 26=some QGT:=rfl
theorem QCC:tys 33=some QGu:=rfl
theorem QFc:tys 47=some QGS:=rfl
theorem QFl:tys 48=some QGc:=rfl
theorem QCH:tys 51=some QGd:=rfl
theorem QCE:tys 55=some QGM:=rfl
theorem QDL:tys 57=some QGD:=rfl
theorem QFY:tys 59=some QGB:=rfl
theorem QFR:tys 61=some QGm:=rfl
theorem QFh:tys 63=some QGI:=rfl
theorem QDy:tys 66=some QGV:=rfl
theorem QDt:tys 69=some QGe:=rfl
theorem QDm:tys 76=some QGq:=rfl
theorem QEi:tys 80=some QGF:=rfl
theorem QDO:tys 82=some QGt:=rfl
theorem QET:tys 83=some QmL:=rfl
theorem QES:tys 85=some Qb5:=rfl
theorem QFH:tys 87=some Qa8:=rfl
theorem QAY:tys 103=some Qw6:=rfl
theorem QBb:tys 107=some QxP:=rfl
theorem QBI:tys 111=some Qyg:=rfl
theorem QAa:tys 118=some Qyp:=rfl
theorem QBB:tys 130=some Qyc:=rfl
theorem QBO:tys 131=some Qyj:=rfl
theorem QzA:tys 145=some QwY:=rfl
theorem QAw:tys 149=some Qx1:=rfl
theorem QA6:tys 150=some Qf6:=rfl
theorem QAe:tys 158=some QwO:=rfl
theorem QAb:tys 102=some QxH:=rfl
theorem QAB:tys 144=some Qxt:=rfl
theorem QAf:tys 151=some QxX:=rfl
theorem Qnr:∀T i,tys T=some i->TyOk Tryz.prog T i:=by
 intro T i h;unfold tys at h;split at h
 .cases h; exact QHL
 .cases h; exact QHo
 .cases h; exact QFN
 .cases h; exact QHw
 .cases h; exact QHe
 .cases h; exact QFp
 .cases h; exact QCS
 .cases h; exact QDW
 .cases h; exact QFF
 .cases h; exact QD2
 .cases h; exact QEU
 .cases h; exact QFJ
 .cases h; exact QDh
 .cases h; exact QEF
 .cases h; exact QEK
 .cases h; exact QFa
 .cases h; exact QDf
 .cases h; exact QD0
 .cases h; exact QDC
 .cases h; exact QFD
 .cases h; exact QDI
 .cases h; exact QFf
 .cases h; exact QF6
 .cases h; exact QEt
 .cases h; exact QFW
 .cases h; exact QCR
 .cases h; exact QAW
 .cases h; exact QAh
 .cases h; exact QA3
 .cases h; exact QAj
 .cases h; exact QzQ
 .cases h; exact QzL
 .cases h; exact QBe
 .cases h; exact QB9
 .cases h; exact QAU
 .cases h; exact QzK
 .cases h; exact QBM
 .cases h; exact QzT
 .cases h; exact QAc
 .cases h
theorem QC7:QwM Tryz.prog 33 5:=by
 intro xs ys hx hy w x y;obtain⟨a0,t,rfl,fY⟩:=Qbj (k:=1) hx;obtain⟨a1,t,rfl,dU⟩:=Qbj (k:=0) fY;obtain rfl:=QcE dU;obtain⟨b0,t,rfl,r8⟩:=Qbj (k:=1) hy;obtain⟨b1,t,rfl,r9⟩:=Qbj (k:=0) r8;obtain rfl:=QcE r9;have hm:Tryz.prog.eqGuardType Tryz.prog.depth 33=false:=by kernel_rfl
 have hp:Tryz.prog.stoodInHeld 33=false:=by kernel_rfl
 have hu:=Tryz.underlying33;have h3:=Tryz.underlying3;have e:(Op.equalIn 10000 33 (.agg #[.int .i64 a0,.int .i64 a1]) (.agg #[.int .i64 b0,.int .i64 b1])).run Tryz.prog w= .ok (eqV [Value.int .i64 a0,Value.int .i64 a1] [Value.int .i64 b0,Value.int .i64 b1]) w:=by
  rw[run_equalIn_struct w 9999 33 _ _ (by rw[Program.fieldsOf,hu]) hp]
  simp[Program.fieldsOf,hu,Op.eqFields,go_sem,h3,Qfw,eqV,isS];by_cases q0:a0=b0<;>by_cases q1:a1=b1<;>simp[q0,q1]
 have ne:neV [Value.int .i64 a0,Value.int .i64 a1] [Value.int .i64 b0,Value.int .i64 b1]=!eqV [Value.int .i64 a0,Value.int .i64 a1] [Value.int .i64 b0,Value.int .i64 b1]:=rfl;constructor
 .simp only[Sem.run_bind];rw[run_eqGuard_agg _ _ _ _ _ _ _ hm];simp only[Zo,run_eql_struct];rw[e]; rfl
 .simp only[Sem.run_bind];rw[run_eqGuard_agg _ _ _ _ _ _ _ hm];simp only[Zo,run_neq_struct];rw[e,ne]; rfl
theorem QCD:QwM Tryz.prog 76 5:=by
 intro xs ys hx hy w x y;obtain⟨a0,t,rfl,fY⟩:=Qbj (k:=1) hx;obtain⟨a1,t,rfl,dU⟩:=Qbj (k:=0) fY;obtain rfl:=QcE dU;obtain⟨b0,t,rfl,r8⟩:=Qbj (k:=1) hy;obtain⟨b1,t,rfl,r9⟩:=Qbj (k:=0) r8;obtain rfl:=QcE r9;have hm:Tryz.prog.eqGuardType Tryz.prog.depth 76=false:=by kernel_rfl
 have hp:Tryz.prog.stoodInHeld 76=false:=by kernel_rfl
 have hu:=Tryz.underlying76;have h3:=Tryz.underlying3;have e:(Op.equalIn 10000 76 (.agg #[.int .i64 a0,.int .i64 a1]) (.agg #[.int .i64 b0,.int .i64 b1])).run Tryz.prog w= .ok (eqV [Value.int .i64 a0,Value.int .i64 a1] [Value.int .i64 b0,Value.int .i64 b1]) w:=by
  rw[run_equalIn_struct w 9999 76 _ _ (by rw[Program.fieldsOf,hu]) hp]
  simp[Program.fieldsOf,hu,Op.eqFields,go_sem,h3,Qfw,eqV,isS];by_cases q0:a0=b0<;>by_cases q1:a1=b1<;>simp[q0,q1]
 have ne:neV [Value.int .i64 a0,Value.int .i64 a1] [Value.int .i64 b0,Value.int .i64 b1]=!eqV [Value.int .i64 a0,Value.int .i64 a1] [Value.int .i64 b0,Value.int .i64 b1]:=rfl;constructor
 .simp only[Sem.run_bind];rw[run_eqGuard_agg _ _ _ _ _ _ _ hm];simp only[Zo,run_eql_struct];rw[e]; rfl
 .simp only[Sem.run_bind];rw[run_eqGuard_agg _ _ _ _ _ _ _ hm];simp only[Zo,run_neq_struct];rw[e,ne]; rfl
theorem QBA:QwM Tryz.prog 130 5:=by
 intro xs ys hx hy w x y;obtain⟨a0,t,rfl,fY⟩:=Qbj (k:=1) hx;obtain⟨a1,t,rfl,dU⟩:=Qbj (k:=0) fY;obtain rfl:=QcE dU;obtain⟨b0,t,rfl,r8⟩:=Qbj (k:=1) hy;obtain⟨b1,t,rfl,r9⟩:=Qbj (k:=0) r8;obtain rfl:=QcE r9;have hm:Tryz.prog.eqGuardType Tryz.prog.depth 130=false:=by kernel_rfl
 have hp:Tryz.prog.stoodInHeld 130=false:=by kernel_rfl
 have hu:=Tryz.underlying130;have h3:=Tryz.underlying3;have e:(Op.equalIn 10000 130 (.agg #[.int .i64 a0,.int .i64 a1]) (.agg #[.int .i64 b0,.int .i64 b1])).run Tryz.prog w= .ok (eqV [Value.int .i64 a0,Value.int .i64 a1] [Value.int .i64 b0,Value.int .i64 b1]) w:=by
  rw[run_equalIn_struct w 9999 130 _ _ (by rw[Program.fieldsOf,hu]) hp]
  simp[Program.fieldsOf,hu,Op.eqFields,go_sem,h3,Qfw,eqV,isS];by_cases q0:a0=b0<;>by_cases q1:a1=b1<;>simp[q0,q1]
 have ne:neV [Value.int .i64 a0,Value.int .i64 a1] [Value.int .i64 b0,Value.int .i64 b1]=!eqV [Value.int .i64 a0,Value.int .i64 a1] [Value.int .i64 b0,Value.int .i64 b1]:=rfl;constructor
 .simp only[Sem.run_bind];rw[run_eqGuard_agg _ _ _ _ _ _ _ hm];simp only[Zo,run_eql_struct];rw[e]; rfl
 .simp only[Sem.run_bind];rw[run_eqGuard_agg _ _ _ _ _ _ _ hm];simp only[Zo,run_neq_struct];rw[e,ne]; rfl
def Qwu:List (TypeId×Nat):=[(33,5),(76,5),(130,5)]
theorem Qnb:∀T n,Qv Qwu T=some n->QwM Tryz.prog T n:=by
 intro T n h;simp only[Qwu,Qv]at h;split at h
 .rename_i e; subst e; cases h; exact QC7
 split at h
 .rename_i e; subst e; cases h; exact QCD
 split at h
 .rename_i e; subst e; cases h; exact QBA
 cases h
attribute [simp] Qtj Qvv Qsw Qbq QQ Qcd QBV Qar QBS Qzu QAG QxS QvA Qz4 QAm QB8 Qvl Qr9 Qn1 Qog Qsq Qwi QtO Qr4 QrB Qoz Qvb Qwd QxZ Qxx QoA Qdn Qmg X.ren Qz1 QCy X.locs Qbg QxO QhZ Qj6 Qe3 Qnm NewC.x Qva X.inBox Cx.eff Qx6 QxT QtY Qve Qvj Qt5 Qsi QmY QpC Qtm Qvz Qu8 QoP QoM Qg9 Qa0 Qgi QGO QAv QwN QuQ Qti QAk QA1 Qzr Qu9 QwL QFj QCW QDc Quc QAi Qzx Qss QDq QE2 QEC QuS QvL Qsz QwA Qan QP Qab QaL aop QnO QfV QnY abL QgZ Qsy bcL QcX QhS BC.x QcM X.hn Qby QGg QCk QH3 Qi7 Qfi Qri Qqa Qig Qfj Qrm QvQ Qmq Qip X.soft QqR QfP QwS QqC Qql bytesOf aUn QGk vop iop sop Qkh QgP QiH Qhb Qc9 St.ev St.put St.res Qg3 Qj4 QA2 Qv QoD Cx.close Qeo QfG QfF Qaw QfB Qdq X.strip X.plain X.data X.cells X.rows X.int Qa9 Qj0 QeP QmZ Own.isEx QbI Qat QcP Res.ofX QuY Qfx X.outD Qew QHT QHn QHy QHp QG4 QCK QDR QEh QFU QCC QFc QFl QCH QCE QDL QFY QFR QFh QDy QDt QDm QEi QDO QET QES QFH QAY QBb QBI QAa QBB QBO QzA QAw QA6 QAe QAb QAB QAf TyI.agg TyI.isBool TyI.elem TyI.field TyI.zeroD TyI.zeroZ QjX Qxh QyA bz QfD X.snap QdN QrA Qs4 QuH QhP Qk6 QH6 Qxn QfH Qc5 Qg4 Qfw Qb7 isS QF7 eqV neV Value.cells Value.oneCell' QcR Qas sp0 sp1 sp2 sp3 sp4 sp5 Qam QvD Qp8 QE9 Qg QfJ QL3 Qc QaO QEx QmD QeF Qc1 QEP Qbk Qqg Qiu QnF QiC QE0 QsW Quz Qoc QrC Qpx QrT QoT Qz8 Qz0 QzD QxD QrE Qza QvI Qck Qey St.cont QeG Cont.locs Qhk Qrb Qhp X.ownT QsJ QqF QH2 QxW Cont.ren Qnt X.back Qv3 oneB Qe7 QDe Cx.effCall Qkv QkF Qym Qqc QEA Cx.ownCall QB2 X.snapO Qkz Qgw Qej X.dataO X.key QC8 QBt Cx.mapAt Cx.lookup Cx.lookup2 Ql6 QD X.keepP QsG Qsk Qdm QcS QsK Cx.iterOf Qm6 shK QH1 sh1 Qmt Qlv Qvw Qt0 QxB Qtq QtZ Qt1 Qz6 QrU QrO QxM Qt9 Qto QrQ QvP Qv6 qT Qez Qes QxL QtQ QrJ Qse QDP QuA Qkc QEq QEn Qop Qpj Cx.panAt Cx.panF QzO
attribute [simp] ty2 ty3 ty4 ty5 ty9 QGG QGr QGn QGT QGu QGS QGc QGd QGM QGD QGB QGm QGI QGV QGe QGq QGF QGt QmL Qb5 Qa8 Qw6 QxP Qyg Qyp Qyc Qyj QwY Qx1 Qf6 QwO QxH Qxt QxX
theorem QbQ {a b:D} {s t:List D} (h:DImp a b) (g:LImp s t):LImp (a::s) (b::t):=⟨b,t,rfl,h,g⟩
structure Spn where
 lo:Int
 hi:Int
structure Tak where
 fr:Int
 gr:Int
structure Edg where
 fr:Int
 to:Int
structure Bat where
 name:ByteArray
 grams:Int
 fresh:Int
 lost:Bool
 takes:List Tak
structure Pro where
 has:List Int
 needs:List Int
 never:List Edg
instance:Inhabited Spn:=⟨⟨0,0⟩⟩
instance:Inhabited Tak:=⟨⟨0,0⟩⟩
instance:Inhabited Edg:=⟨⟨0,0⟩⟩
instance:Inhabited Bat:=⟨⟨ByteArray.empty,0,0,false,[]⟩⟩
instance:Inhabited Pro:=⟨⟨[],[],[]⟩⟩
def QGL:Row Spn:=⟨2,λx=>[DI x.lo,DI x.hi],λd=>match d with | [.v (.int .i64 a0),.v (.int .i64 a1)]=>some ⟨a0,a1⟩ | _=>none,λ_=>rfl,λd x h=>by
 split at h
 .cases h; exact LImp.refl _
 .cases h⟩
theorem Qii (x:Spn):QGL.enc x=[DI x.lo,DI x.hi]:=rfl
def Qb1:Row Tak:=⟨2,λx=>[DI x.fr,DI x.gr],λd=>match d with | [.v (.int .i64 a0),.v (.int .i64 a1)]=>some ⟨a0,a1⟩ | _=>none,λ_=>rfl,λd x h=>by
 split at h
 .cases h; exact LImp.refl _
 .cases h⟩
theorem Qo (x:Tak):Qb1.enc x=[DI x.fr,DI x.gr]:=rfl
theorem Qu:Qb1.k=2:=rfl
theorem QdQ (l:List Tak):(Qy Qb1).dec (.sl 2 (l.map Qb1.enc))=some l:=QaY Qb1 l 2 rfl
theorem QiP (a0:Int) (a1:Int):Qb1.dec [DI a0,DI a1]=some ⟨a0,a1⟩:=rfl
def Qcg:Row Edg:=⟨2,λx=>[DI x.fr,DI x.to],λd=>match d with | [.v (.int .i64 a0),.v (.int .i64 a1)]=>some ⟨a0,a1⟩ | _=>none,λ_=>rfl,λd x h=>by
 split at h
 .cases h; exact LImp.refl _
 .cases h⟩
theorem QJ (x:Edg):Qcg.enc x=[DI x.fr,DI x.to]:=rfl
theorem Qw:Qcg.k=2:=rfl
theorem Qgb (l:List Edg):(Qy Qcg).dec (.sl 2 (l.map Qcg.enc))=some l:=QaY Qcg l 2 rfl
theorem QAg (a0:Int) (a1:Int):Qcg.dec [DI a0,DI a1]=some ⟨a0,a1⟩:=rfl
def QO:Row Bat:=⟨5,λx=>[DS x.name,DI x.grams,DI x.fresh,DB x.lost,.sl 2 (x.takes.map Qb1.enc)],λd=>match d with
 | [.v (.string a0),.v (.int .i64 a1),.v (.int .i64 a2),.v (.bool a3),y]=>((Qy Qb1).dec y).map λl=>⟨a0,a1,a2,a3,l⟩
 | _=>none,λx=>by simp[QdQ],λd x h=>by
 split at h
 .simp only[Option.map_eq_some_iff]at h;obtain⟨o,ho,rfl⟩:=h;exact QbQ (DImp.refl _) (QbQ (DImp.refl _) (QbQ (DImp.refl _) (QbQ (DImp.refl _) (QbQ ((Qy Qb1).ed _ _ ho) (LImp.refl _)))))
 .cases h⟩
theorem Qh (x:Bat):QO.enc x=[DS x.name,DI x.grams,DI x.fresh,DB x.lost,.sl 2 (x.takes.map Qb1.enc)]:=rfl
theorem Qe:QO.k=5:=rfl
theorem Qz3 (a:ByteArray) (g f:Int) (b:Bool) (l:List Tak):QO.dec [DS a,DI g,DI f,DB b,.sl 2 (l.map Qb1.enc)]=some ⟨a,g,f,b,l⟩:=QO.de ⟨a,g,f,b,l⟩
theorem QR (l:List Bat):(Qy QO).dec (.sl 5 (l.map QO.enc))=some l:=QaY QO l 5 rfl
def Qqw:Row Pro:=⟨3,λx=>[.sl 1 (x.has.map Qt.enc),.sl 1 (x.needs.map Qt.enc),.sl 2 (x.never.map Qcg.enc)],λd=>match d with
 | [a,b,c]=>((Qy Qt).dec a).bind λp=>((Qy Qt).dec b).bind λk=>((Qy Qcg).dec c).map λn=>⟨p,k,n⟩
 | _=>none,λx=>by simp[QQ,Qgb],λd x h=>by
 split at h
 .simp only[Option.bind_eq_some_iff,Option.map_eq_some_iff]at h;obtain⟨p,hp,k,hk,n,hn,rfl⟩:=h;exact QbQ ((Qy Qt).ed _ _ hp) (QbQ ((Qy Qt).ed _ _ hk) (QbQ ((Qy Qcg).ed _ _ hn) (LImp.refl _)))
 .cases h⟩
theorem QK (x:Pro):Qqw.enc x=[.sl 1 (x.has.map Qt.enc),.sl 1 (x.needs.map Qt.enc),.sl 2 (x.never.map Qcg.enc)]:=rfl
theorem Qtd (p k:List Int) (n:List Edg):Qqw.dec [.sl 1 (p.map Qt.enc),.sl 1 (k.map Qt.enc),.sl 2 (n.map Qcg.enc)]=some ⟨p,k,n⟩:=Qqw.de ⟨p,k,n⟩
def inR (n lo hi:Int):Bool:=decide (lo<=n)&&decide (n<=hi)
theorem Qau {n lo hi:Int} :inR n lo hi=true↔lo<=n/\n<=hi:=by simp[inR]
theorem QBw {n lo hi:Int} :inR n lo hi=false↔n < lo\/hi < n:=by simp[inR]; omega
def Qev {α:Type} (f:Nat->α->Int):Nat->List α->Int×Int
 | _,[]=>(0,0)
 | i,a::t=>if f i a=0 then Qev f (i+1) t else((i:Int),f i a)
theorem Qk2 {α:Type} (f:Nat->α->Int):∀(l:List α) (i:Nat),(Qev f i l=(0,0)/\∀k (h:k < l.length),f (i+k) l[k]=0)\/∃k,∃h:k < l.length,Qev f i l=(((i+k:Nat):Int),f (i+k) l[k])/\¬f (i+k) l[k]=0/\∀j (hj:j < l.length),j < k->f (i+j) l[j]=0
 | [],i=> .inl ⟨rfl,λk h=>absurd h (by simp)⟩
 | a::t,i=>by
  by_cases ha:f i a=0
  .rcases Qk2 f t (i+1)with⟨h1,h2⟩ | ⟨k,hk,h1,h2,h3⟩
   .refine .inl ⟨by rw[Qev,if_pos ha]; exact h1,λk h=>?_⟩
    cases k with
    | zero=>simpa using ha
    | succ k=>have:=h2 k (by simpa using h); simpa[Nat.add_assoc,Nat.add_comm 1 k]using this
   .have e:i+1+k=i+(k+1):=by omega
    rw[e]at h1 h2;refine .inr ⟨k+1,by simpa using hk,by rw[Qev,if_pos ha]; simpa using h1,by simpa using h2,λj hj tA=>?_⟩
    cases j with
    | zero=>simpa using ha
    | succ j=>have:=h3 j (by simpa using hj) (by omega); simpa[Nat.add_assoc,Nat.add_comm 1 j]using this
  .exact .inr ⟨0,by simp,by rw[Qev,if_neg ha]; simp,by simpa using ha,λj _ h=>absurd h (by omega)⟩
theorem Qdb {α:Type} (f:Nat->α->Int) (l:List α):(Qev f 0 l=(0,0)/\∀k (h:k < l.length),f k l[k]=0)\/∃k,∃h:k < l.length,Qev f 0 l=((k:Int),f k l[k])/\¬f k l[k]=0/\∀j (hj:j < l.length),j < k->f j l[j]=0:=by
 have:=Qk2 f l 0;simpa using this
def Qv7 (s:ByteArray) (i:Nat):Bool:=!(!(Qaq s i==45)&&!inR (Qaq s i) 97 122)&&!(decide (0 < i)&&Qaq s i==45&&Qaq s (i - 1)==45)
def Qbe (s:ByteArray):Bool:=inR s.size 1 20&&!(Qaq s 0==45)&&!(Qaq s (s.size - 1)==45)&&decide (∀i,i < s.size->Qv7 s i=true)
def QpK (l:List Tak):Bool:=decide (∀k,k < l.length->0 < k->(l.getD (k - 1) default).fr < (l.getD k default).fr)
def QaS (l:List Tak):Int:=(l.map (·.gr)).sum
def Qol (b:List Bat) (i:Nat) (x:Bat):Int:=
 if Qbe x.name=false then 6 else
 if(b.take i).any (λy=>y.name.toList==x.name.toList)then 5 else
 if inR x.grams 1 100000=false\/inR x.fresh 0 x.grams=false then 7 else
 if x.lost=true/\0 < x.takes.length then 6 else
 if x.takes.any (λt=>!inR t.fr 0 ((i:Int) - 1))then 4 else
 if QpK x.takes=false then 5 else
 if x.takes.any (λt=>!inR t.gr 1 100000)then 7 else
 if x.lost=false/\¬x.fresh+QaS x.takes=x.grams then 2 else 0
def Qlt (l:List Tak) (j:Nat):Int:=((l.filter (λt=>t.fr==(j:Int))).map (·.gr)).sum
def QfE (b:List Bat) (j:Nat):Int:=(b.getD j default).grams - (b.map λx=>Qlt x.takes j).sum
def QI (b:List Bat):List Int:=(List.range b.length).map (QfE b)
def QfA (b:List Bat) (j:Nat):Int:=if(b.getD j default).lost=true then(b.getD j default).grams - (b.getD j default).fresh else 0
def QV (b:List Bat):List Int:=(List.range b.length).map (QfA b)
def Qq (b:List Bat):List Nat:=(List.range b.length).filter λi=>(b.getD i default).lost
def QU (b:List Bat):List Int:=(Qq b).map λ(i:Nat)=>(i:Int)
def Qac (b:List Bat):Pro:=⟨QI b,QV b,[]⟩
def Qbx:Nat:=281474976710656
def QDF (l:List (Nat×(List D->Option D))) (N:Nat) (kp:Nat->List (Nat×Option Nat)) (kb:List (Nat×Nat×Nat)):Cx:= { Γ:=tys,eqs:=Qwu,Δ:=Qas l,N:=N,F:=Qbx,kp:=kp,kb:=kb}
attribute [simp] QDF Qwu
theorem QE {l:List (Nat×(List D->Option D))} (h:Qay Tryz.prog (Qas l)) (N:Nat) (kp:Nat->List (Nat×Option Nat)) (kb:List (Nat×Nat×Nat)):CxOk Tryz.prog (QDF l N kp kb):=
 ⟨Qnr,Qnb,h,(λ_ _ _ _ _ _ _ h=>by cases h),by kernel_rfl,(λ_ _ h=>by cases h),Qib,Qmh⟩
def QF2 (l:List (Nat×(List D->Option D))) (le:List (Nat×QfU)) (N:Nat) (kp:Nat->List (Nat×Option Nat)) (kb:List (Nat×Nat×Nat)) (df:Nat->List (Nat×Nat)) (md:Nat->Nat) (ks:List (TypeId×Nat)) (sq:List (Nat×(List D->Option (List (List Value))))):Cx:= { Γ:=tys,eqs:=Qwu,Δ:=Qas l,N:=N,F:=Qbx,kp:=kp,kb:=kb,Δe:=Qj6 le,diff:=df,md:=md,keys:=ks,seq:=Qm6 sq}
attribute [simp] QF2
theorem QbT {l:List (Nat×(List D->Option D))} (h:Qay Tryz.prog (Qas l)) {le:List (Nat×QfU)} (he:Qne Tryz.prog (Qj6 le)) {ks:List (TypeId×Nat)} (hk:∀K sh,Qv ks K=some sh->KeyOk Tryz.prog K sh) {sq:List (Nat×(List D->Option (List (List Value))))} (hs:Quo Tryz.prog (Qm6 sq)) (N:Nat) (kp:Nat->List (Nat×Option Nat)) (kb:List (Nat×Nat×Nat)) (df:Nat->List (Nat×Nat)) (md:Nat->Nat):CxOk Tryz.prog (QF2 l le N kp kb df md ks sq):=
 ⟨Qnr,Qnb,h,he,by kernel_rfl,hk,Qib,hs⟩
def QG7 (l:List (Nat×(List D->Option D))) (lp:List (Nat×(List D->Option Value))) (N:Nat) (kp:Nat->List (Nat×Option Nat)) (kb:List (Nat×Nat×Nat)) (df:Nat->List (Nat×Nat)) (pq:Nat->List (Nat×List Nat)):Cx:= { Γ:=tys,eqs:=Qwu,Δ:=Qas l,N:=N,F:=Qbx,kp:=kp,kb:=kb,diff:=df,Δp:=Qkc lp,pan:=true,pq:=pq}
attribute [simp] QG7
theorem QbC:∀(K:TypeId) (sh:Nat),Qv ([]:List (TypeId×Nat)) K=some sh->KeyOk Tryz.prog K sh:=λ_ _ h=>by cases h
theorem Qa (x:Int) (h1: -9223372036854775808<=x) (h2:x<=9223372036854775807):IntKind.i64.wrap x=x:=IntWalk.i64_in _ ⟨h1,h2⟩
theorem Qj {α:Type} (l:List α) (i:Nat) (d:α) (h:i < l.length):l.getD i d=l[i]:=by simp[List.getD,h]
theorem QDX {α:Type} (p:α->Bool) {l:List α} {k:Nat} (h:k < l.length) (hp:p l[k]=true):l.any p=true:=by
 rw[Zy]; exact⟨_,Ze h,hp⟩
theorem QzW {α:Type} (p:α->Bool) {l:List α} (h:∀k (hk:k < l.length),p l[k]=false):l.any p=false:=by
 rw[List.any_eq_false]; intro x hx;obtain⟨k,hk,rfl⟩:=List.getElem_of_mem hx;rw[h k hk]; simp
theorem Qfq {α:Type} (p:α->Bool) (l:List α):(l.any p=false/\∀k (hk:k < l.length),p l[k]=false)\/∃k,∃h:k < l.length,l.any p=true/\p l[k]=true/\∀j (hj:j < l.length),j < k->p l[j]=false:=by
 rcases QaK (λk=>!((l[k]?).elim false p)) l.length with h | ⟨k,hk,h1,h2⟩
 .have:∀k (hk:k < l.length),p l[k]=false:=λk hk=>by
   have:=h k hk;simpa[Zg hk]using this
  exact .inl ⟨QzW p this,this⟩
 .have h1':p l[k]=true:=by simpa[Zg hk]using h1
  refine .inr ⟨k,hk,QDX p hk h1',h1',λj hj tA=>?_⟩;have:=h2 j tA;simpa[Zg hj]using this
end Go.Proofs.YtnfeakhkfehkhaaGreatDoor
