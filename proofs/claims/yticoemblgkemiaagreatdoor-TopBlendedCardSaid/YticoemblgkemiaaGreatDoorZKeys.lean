/-
  DERIVED: THE SHELF's CONTRACTS AT THIS DUMP, IN PLAIN WORDS (tools/lay-plain.mjs out of 'TryzKeys.lean', which tools/lay-shelf.mjs wrote): THE SAME DECLARATIONS UNDER THE SAME NAMES: 'import', 'namespace', 'open', 'def', 'theorem' AND NOTHING ELSE: no command of the shelf's: FOR A HAND-IN. Each laying: the table of numbers ('.._ren') and one theorem, a field a fact of the dump's own or the kernel's comparison; each contract: ONE APPLICATION.
-/
import Derived.Shelf.SlGeneric
import Derived.Shelf.SlIterI.Sorted
import Derived.Ground.GgzProg
import Derived.Test.YticoemblgkemiaaGreatDoorProg
namespace Go.Proofs
open Go.Shelf
def Tryz.keysI_ren:Go.Shelf.Ren:=⟨fun | 7=>158 | 10=>217 | n=>n,fun | 23=>260 | 26=>3 | 3=>3 | 28=>263 | 0=>0 | 27=>262 | 33=>95 | 4=>4 | n=>n,fun | n=>n⟩
theorem Tryz.keysI:Go.Proofs.SlLaysZI.n7 Tryz.prog Tryz.keysI_ren:= {
 mixed:=by kernel_rfl
 f7:=⟨Tryz.f158.name,by decide,Tryz.func158.trans (congrArg some (by kernel_rfl))⟩
 f10:=⟨Tryz.f217.name,by decide,Tryz.func217.trans (congrArg some (by kernel_rfl))⟩
 t0:=Tryz.underlying0
 a0:=Tryz.isAgg0
 z0:=Tryz.sizeOf0
 v0:=Tryz.zeroValue0
 t4:=Tryz.underlying4
 a4:=Tryz.isAgg4
 z4:=Tryz.sizeOf4
 v4:=Tryz.zeroValue4
 t23:=Tryz.underlying260
 a23:=Tryz.isAgg260
 z23:=Tryz.sizeOf260
 v23:=Tryz.zeroValue260
 t26:=Tryz.underlying3
 a26:=Tryz.isAgg3
 z26:=Tryz.sizeOf3
 v26:=Tryz.zeroValue3
 t27:=Tryz.underlying262
 a27:=Tryz.isAgg262
 z27:=Tryz.sizeOf262
 v27:=Tryz.zeroValue262
 t28:=Tryz.underlying263
 a28:=Tryz.isAgg263
 z28:=Tryz.sizeOf263
 v28:=Tryz.zeroValue263
 t33:=Tryz.underlying95
 a33:=Tryz.isAgg95
 z33:=Tryz.sizeOf95
 v33:=Tryz.zeroValue95}
def Tryz.sortedI_ren:Go.Shelf.Ren:=⟨fun | 6=>157 | 8=>215 | 9=>216 | 11=>253 | 13=>255 | 12=>254 | 23=>287 | 24=>288 | 14=>278 | 15=>279 | 16=>280 | 17=>281 | 18=>282 | 19=>283 | 20=>284 | 21=>285 | 22=>286 | 25=>299 | 26=>300 | 27=>301 | 28=>302 | 29=>303 | 30=>190 | 31=>308 | n=>n,fun | 26=>3 | 28=>263 | 24=>34 | 0=>0 | 3=>3 | 37=>338 | 48=>72 | 50=>343 | 4=>4 | 40=>362 | 39=>361 | 45=>233 | 5=>5 | 9=>9 | 51=>379 | 55=>291 | 57=>392 | 58=>141 | 33=>95 | n=>n,fun | n=>n⟩
theorem Tryz.sortedI:Go.Proofs.SlLaysZI.n6 Tryz.prog Tryz.sortedI_ren:= {
 mixed:=by kernel_rfl
 f6:=⟨Tryz.f157.name,by decide,Tryz.func157.trans (congrArg some (by kernel_rfl))⟩
 f8:=⟨Tryz.f215.name,by decide,Tryz.func215.trans (congrArg some (by kernel_rfl))⟩
 f11:=⟨Tryz.f253.name,by decide,Tryz.func253.trans (congrArg some (by kernel_rfl))⟩
 t0:=Tryz.underlying0
 a0:=Tryz.isAgg0
 z0:=Tryz.sizeOf0
 v0:=Tryz.zeroValue0
 t24:=Tryz.underlying34
 a24:=Tryz.isAgg34
 z24:=Tryz.sizeOf34
 v24:=Tryz.zeroValue34
 t26:=Tryz.underlying3
 a26:=Tryz.isAgg3
 z26:=Tryz.sizeOf3
 v26:=Tryz.zeroValue3
 t28:=Tryz.underlying263
 a28:=Tryz.isAgg263
 z28:=Tryz.sizeOf263
 v28:=Tryz.zeroValue263
 i26:=by kernel_rfl}
end Go.Proofs
