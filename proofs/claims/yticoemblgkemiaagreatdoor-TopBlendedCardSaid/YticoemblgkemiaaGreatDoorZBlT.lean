/-
  Blends: the functions of its examples that the kernel runs (their code, what is kept behind each region). Conditions: none.
-/
import Derived.Test.YticoemblgkemiaaGreatDoorZTrB
import Derived.Test.YticoemblgkemiaaGreatDoorZTys
import Derived.Test.YticoemblgkemiaaGreatDoorZAmE
set_option linter.unusedSimpArgs false
set_option linter.unusedVariables false
namespace Go.Proofs.YticoemblgkemiaaGreatDoor
open Go.RowKit
def Q8y:TyI:=⟨.slice 269,1,24,.slice none 0 0⟩
theorem Q6K:TyOk Tryz.prog 80 Q8y:=Q0 Tryz.underlying80 (by kernel_rfl) rfl rfl rfl rfl
def Q9J:TyI:=⟨.struct #[{ name:= "Name",type:=9,offset:=0,embedded:=false,tag:= "",pkgPath:= "",byteOffset:=0},{ name:= "Price",type:=3,offset:=1,embedded:=false,tag:= "",pkgPath:= "",byteOffset:=16},{ name:= "Melt",type:=39,offset:=2,embedded:=false,tag:= "",pkgPath:= "",byteOffset:=24},{ name:= "Shrink",type:=39,offset:=4,embedded:=false,tag:= "",pkgPath:= "",byteOffset:=40},{ name:= "Curve",type:=80,offset:=6,embedded:=false,tag:= "",pkgPath:= "",byteOffset:=56}],7,80,.agg #[.string ByteArray.empty,.int .i64 0,.int .i64 0,.int .i64 0,.int .i64 0,.int .i64 0,.slice none 0 0]⟩
theorem Q9c:TyOk Tryz.prog 81 Q9J:=QaC Tryz.underlying81 (by kernel_rfl) rfl rfl rfl ⟨_,rfl⟩
def Q8z:TyI:=⟨.struct #[{ name:= "Name",type:=9,offset:=0,embedded:=false,tag:= "",pkgPath:= "",byteOffset:=0},{ name:= "Price",type:=3,offset:=1,embedded:=false,tag:= "",pkgPath:= "",byteOffset:=16},{ name:= "Melt",type:=39,offset:=2,embedded:=false,tag:= "",pkgPath:= "",byteOffset:=24},{ name:= "Shrink",type:=39,offset:=4,embedded:=false,tag:= "",pkgPath:= "",byteOffset:=40},{ name:= "Curve",type:=80,offset:=6,embedded:=false,tag:= "",pkgPath:= "",byteOffset:=56}],7,80,.agg #[.string ByteArray.empty,.int .i64 0,.int .i64 0,.int .i64 0,.int .i64 0,.int .i64 0,.slice none 0 0]⟩
theorem Q6T:TyOk Tryz.prog 82 Q8z:=QaC Tryz.underlying82 (by kernel_rfl) rfl rfl rfl ⟨_,rfl⟩
def Q8w:TyI:=⟨.slice 82,1,24,.slice none 0 0⟩
theorem Q61:TyOk Tryz.prog 83 Q8w:=Q0 Tryz.underlying83 (by kernel_rfl) rfl rfl rfl rfl
def Q9E:TyI:=⟨.func #[59,34,3,3] #[39,29] false,1,8,.nilFunc⟩
theorem Q8G:TyOk Tryz.prog 84 Q9E:=Q0 Tryz.underlying84 (by kernel_rfl) rfl rfl rfl rfl
def ty85:TyI:=⟨.struct #[{ name:= "Name",type:=9,offset:=0,embedded:=false,tag:= "",pkgPath:= "",byteOffset:=0},{ name:= "Error",type:=3,offset:=1,embedded:=false,tag:= "",pkgPath:= "",byteOffset:=16}],2,24,.agg #[.string ByteArray.empty,.int .i64 0]⟩
theorem Q8F:TyOk Tryz.prog 85 ty85:=QaC Tryz.underlying85 (by kernel_rfl) rfl rfl rfl ⟨_,rfl⟩
def Q46:TyI:=⟨.struct #[{ name:= "Melt",type:=3,offset:=0,embedded:=false,tag:= "",pkgPath:= "",byteOffset:=0},{ name:= "Shrink",type:=3,offset:=1,embedded:=false,tag:= "",pkgPath:= "",byteOffset:=8}],2,16,.agg #[.int .i64 0,.int .i64 0]⟩
theorem Q64:TyOk Tryz.prog 171 Q46:=QaC Tryz.underlying171 (by kernel_rfl) rfl rfl rfl ⟨_,rfl⟩
def Q5a:TyI:=⟨.slice 171,1,24,.slice none 0 0⟩
theorem Q7z:TyOk Tryz.prog 172 Q5a:=Q0 Tryz.underlying172 (by kernel_rfl) rfl rfl rfl rfl
def Q44:TyI:=⟨.struct #[{ name:= "Parts",type:=75,offset:=0,embedded:=false,tag:= "",pkgPath:= "",byteOffset:=0},{ name:= "Melt",type:=39,offset:=1,embedded:=false,tag:= "",pkgPath:= "",byteOffset:=24},{ name:= "Shrink",type:=39,offset:=3,embedded:=false,tag:= "",pkgPath:= "",byteOffset:=40}],5,56,.agg #[.slice none 0 0,.int .i64 0,.int .i64 0,.int .i64 0,.int .i64 0]⟩
theorem Q7y:TyOk Tryz.prog 175 Q44:=QaC Tryz.underlying175 (by kernel_rfl) rfl rfl rfl ⟨_,rfl⟩
def Q5i:TyI:=⟨.slice 189,1,24,.slice none 0 0⟩
theorem Q7V:TyOk Tryz.prog 184 Q5i:=Q0 Tryz.underlying184 (by kernel_rfl) rfl rfl rfl rfl
def Q6l:TyI:=⟨.func #[189] #[3] false,1,8,.nilFunc⟩
theorem Q8f:TyOk Tryz.prog 187 Q6l:=Q0 Tryz.underlying187 (by kernel_rfl) rfl rfl rfl rfl
def Q4V:TyI:=⟨.struct #[{ name:= "BdWax",type:=82,offset:=0,embedded:=true,tag:= "",pkgPath:= "",byteOffset:=0},{ name:= "parts",type:=3,offset:=7,embedded:=false,tag:= "",pkgPath:= "stearin/blend",byteOffset:=80}],8,88,.agg #[.string ByteArray.empty,.int .i64 0,.int .i64 0,.int .i64 0,.int .i64 0,.int .i64 0,.slice none 0 0,.int .i64 0]⟩
theorem Q78:TyOk Tryz.prog 189 Q4V:=QaC Tryz.underlying189 (by kernel_rfl) rfl rfl rfl ⟨_,rfl⟩
def Q47:TyI:=⟨.func #[3,3] #[3] false,1,8,.nilFunc⟩
theorem Q7g:TyOk Tryz.prog 214 Q47:=Q0 Tryz.underlying214 (by kernel_rfl) rfl rfl rfl rfl
def Q6o:TyI:=⟨.struct #[{ name:= "points",type:=80,offset:=0,embedded:=false,tag:= "",pkgPath:= "stearin/blend",byteOffset:=0},{ name:= "parts",type:=3,offset:=1,embedded:=false,tag:= "",pkgPath:= "stearin/blend",byteOffset:=24}],2,32,.agg #[.slice none 0 0,.int .i64 0]⟩
theorem Q8n:TyOk Tryz.prog 267 Q6o:=QaC Tryz.underlying267 (by kernel_rfl) rfl rfl rfl ⟨_,rfl⟩
def Q5D:TyI:=⟨.struct #[{ name:= "Parts",type:=3,offset:=0,embedded:=false,tag:= "",pkgPath:= "",byteOffset:=0},{ name:= "Add",type:=3,offset:=1,embedded:=false,tag:= "",pkgPath:= "",byteOffset:=8}],2,16,.agg #[.int .i64 0,.int .i64 0]⟩
theorem Q65:TyOk Tryz.prog 269 Q5D:=QaC Tryz.underlying269 (by kernel_rfl) rfl rfl rfl ⟨_,rfl⟩
def Q5m:TyI:=⟨.func #[3,171] #[3] false,1,8,.nilFunc⟩
theorem Q8m:TyOk Tryz.prog 271 Q5m:=Q0 Tryz.underlying271 (by kernel_rfl) rfl rfl rfl rfl
def Q9n:TyI:=⟨.func #[315] #[] false,1,8,.nilFunc⟩
theorem Q8i:TyOk Tryz.prog 275 Q9n:=Q0 Tryz.underlying275 (by kernel_rfl) rfl rfl rfl rfl
def Q5b:TyI:=⟨.func #[34] #[3] false,1,8,.nilFunc⟩
theorem Q7n:TyOk Tryz.prog 278 Q5b:=Q0 Tryz.underlying278 (by kernel_rfl) rfl rfl rfl rfl
def Q6f:TyI:=⟨.array 5 3,5,40,.agg #[.int .i64 0,.int .i64 0,.int .i64 0,.int .i64 0,.int .i64 0]⟩
theorem Q7Q:TyOk Tryz.prog 279 Q6f:=QaC Tryz.underlying279 (by kernel_rfl) rfl rfl rfl ⟨_,rfl⟩
def Q5e:TyI:=⟨.array 5 187,5,40,.agg #[.nilFunc,.nilFunc,.nilFunc,.nilFunc,.nilFunc]⟩
theorem Q7r:TyOk Tryz.prog 280 Q5e:=QaC Tryz.underlying280 (by kernel_rfl) rfl rfl rfl ⟨_,rfl⟩
def Q5g:TyI:=⟨.func #[3,189] #[3] false,1,8,.nilFunc⟩
theorem Q8b:TyOk Tryz.prog 282 Q5g:=Q0 Tryz.underlying282 (by kernel_rfl) rfl rfl rfl rfl
def Q43:TyI:=⟨.func #[82] #[4] false,1,8,.nilFunc⟩
theorem Q7U:TyOk Tryz.prog 311 Q43:=Q0 Tryz.underlying311 (by kernel_rfl) rfl rfl rfl rfl
def Q5I:TyI:=⟨.func #[34] #[4] false,1,8,.nilFunc⟩
theorem Q8v:TyOk Tryz.prog 315 Q5I:=Q0 Tryz.underlying315 (by kernel_rfl) rfl rfl rfl rfl
def Q4Z:TyI:=⟨.int .u64,1,8,.int .u64 0⟩
theorem Q8o:TyOk Tryz.prog 338 Q4Z:=Q0 Tryz.underlying338 (by kernel_rfl) rfl rfl rfl rfl
def Q1:Tys:=fun T=>match T with
 | 80=>some Q8y
 | 81=>some Q9J
 | 82=>some Q8z
 | 83=>some Q8w
 | 84=>some Q9E
 | 85=>some ty85
 | 171=>some Q46
 | 172=>some Q5a
 | 175=>some Q44
 | 184=>some Q5i
 | 187=>some Q6l
 | 189=>some Q4V
 | 214=>some Q47
 | 267=>some Q6o
 | 269=>some Q5D
 | 271=>some Q5m
 | 275=>some Q9n
 | 278=>some Q5b
 | 279=>some Q6f
 | 280=>some Q5e
 | 282=>some Q5g
 | 311=>some Q43
 | 315=>some Q5I
 | 338=>some Q4Z
 | T=>tys T
theorem Q3y:∀T i,Q1 T=some i→TyOk Tryz.prog T i:=by
 intro T i h;unfold Q1 at h;split at h
 ·cases h; exact Q6K
 ·cases h; exact Q9c
 ·cases h; exact Q6T
 ·cases h; exact Q61
 ·cases h; exact Q8G
 ·cases h; exact Q8F
 ·cases h; exact Q64
 ·cases h; exact Q7z
 ·cases h; exact Q7y
 ·cases h; exact Q7V
 ·cases h; exact Q8f
 ·cases h; exact Q78
 ·cases h; exact Q7g
 ·cases h; exact Q8n
 ·cases h; exact Q65
 ·cases h; exact Q8m
 ·cases h; exact Q8i
 ·cases h; exact Q7n
 ·cases h; exact Q7Q
 ·cases h; exact Q7r
 ·cases h; exact Q8b
 ·cases h; exact Q7U
 ·cases h; exact Q8v
 ·cases h; exact Q8o
 ·exact QoQ _ _ h
def Q81 (r:Nat):List (Nat×Option Nat):=match r with
 | 0=>kpn [0,1,4,5]
 | 1=>kpn [0,1,4,5,7]
 | 2=>kpn [0,1,4,5,7,12]
 | 3=>kpn [4,5,6,7]
 | 4=>kpn [0,1,4,5]
 | 5=>kpn [4,5,6,7]
 | _=>[]
def Q84 (r:Nat):List (Nat×Option Nat):=match r with
 | 0=>kpn [0,1,2]
 | 1=>kpn [0,1,2,10]
 | 2=>kpn [0,1,2,10,17]
 | 3=>kpn [6,7]
 | 4=>kpn [0,1,2,21]
 | 5=>kpn [6,7]
 | 6=>kpn [0,1,2,28]
 | 7=>kpn [6,7]
 | 8=>kpn [6,7]
 | _=>[]
def Q8Y (r:Nat):List (Nat×Option Nat):=match r with
 | 0=>[]
 | 1=>[(0,none)]
 | _=>[]
def Q8Q (r:Nat):List (Nat×Option Nat):=match r with
 | 0=>kpn [0,2,4]
 | 1=>kpn [0,2,4,8]
 | 2=>kpn [0,2,4,8,15]
 | 3=>kpn [6,7,8]
 | 4=>kpn [0,2,4,21]
 | 5=>kpn [6,7,8]
 | 6=>kpn [0,2,4,22,23,24]
 | 7=>kpn [0,2,4,22,23,24,25]
 | 8=>kpn [0,2,4,9,10,22,23,24]
 | 9=>kpn [0,2,4,22,23,24,62]
 | 10=>kpn [6,7,8]
 | 11=>kpn [0,2,4,22,23,24]
 | 12=>kpn [2,4,6]
 | 13=>kpn [6,7,8]
 | _=>[]
def Q9t (r:Nat):List (Nat×Option Nat):=match r with
 | 0=>kpn [0,2,4]
 | 1=>kpn [0,2,4,8]
 | 2=>kpn [0,2,4,8,14]
 | 3=>kpn [6,7]
 | 4=>kpn [0,2,4,9]
 | 5=>kpn [0,2,4,9,20]
 | 6=>kpn [6,7]
 | 7=>kpn [6,7]
 | _=>[]
def Q80 (r:Nat):List (Nat×Option Nat):=match r with
 | 0=>[(0,none)]
 | 1=>[(0,none)]
 | _=>[]
def Q83 (r:Nat):List (Nat×Option Nat):=match r with
 | 0=>[(0,none),(1,none),(2,none),(6,some 1)]
 | 1=>[(1,none),(2,none),(6,some 1),(7,none)]
 | 2=>[(1,none),(2,none),(6,some 1),(7,none),(16,none)]
 | 3=>[(6,some 1),(7,none)]
 | 4=>[(1,none),(2,none),(6,some 1),(20,none)]
 | 5=>[(6,some 1),(7,none)]
 | 6=>[(1,none),(2,none),(6,some 1),(8,none)]
 | 7=>[(2,none),(6,some 1),(8,none),(21,none),(22,none),(23,none)]
 | 8=>[(2,none),(6,some 1),(8,none),(21,none),(22,none),(23,none),(24,none)]
 | 9=>[(2,none),(6,some 1),(8,none),(10,none),(21,none),(22,none),(23,none)]
 | 10=>[(2,none),(6,some 1),(8,none),(10,none),(11,none),(21,none),(22,none),(23,none)]
 | 11=>[(2,none),(6,some 1),(8,none),(11,none),(21,none),(22,none),(23,none)]
 | 12=>[(2,none),(6,some 1),(8,none),(21,none),(22,none),(23,none)]
 | 13=>[(2,none),(6,some 1),(8,none),(21,none),(22,none),(23,none)]
 | 14=>[(6,some 1),(7,none)]
 | _=>[]
def Q8B (r:Nat):List (Nat×Option Nat):=match r with
 | 0=>kpn [0,1,4]
 | 1=>[(4,none)]
 | _=>[]
def Q8M (r:Nat):List (Nat×Option Nat):=match r with
 | 0=>kpn [0,1]
 | 1=>kpn [0,1,7]
 | 2=>kpn [0,1,7,15]
 | 3=>[(4,none)]
 | 4=>[(4,none)]
 | _=>[]
def Q9i (r:Nat):List (Nat×Option Nat):=match r with
 | 0=>kpn [0,2,3]
 | 1=>kpn [0,2,3,4]
 | 2=>kpn [0,2,3,4,7,8]
 | 3=>kpn [0,2,3,4,7,8,9]
 | 4=>kpn [0,2,3,4,5,6,7,8]
 | 5=>kpn [0,2,3,4,7,8]
 | 6=>kpn [0,2,3,4,7,8]
 | 7=>kpn [2,3]
 | _=>[]
def Q86 (r:Nat):List (Nat×Option Nat):=match r with
 | 0=>kpn [0,1]
 | 1=>kpn [0,1,5]
 | 2=>kpn [1,5,11,12,13]
 | 3=>kpn [1,5,11,12,13,14]
 | 4=>kpn [1,5,6,7,11,12,13]
 | 5=>kpn [1,5,11,12,13]
 | 6=>kpn [1,5,11,12,13]
 | 7=>[(4,none)]
 | _=>[]
def Q9d (r:Nat):List (Nat×Option Nat):=match r with
 | 0=>kpn [0,3]
 | 1=>[(4,none)]
 | _=>[]
def Q9j (r:Nat):List (Nat×Option Nat):=match r with
 | 0=>[(1,none)]
 | 1=>[(2,none)]
 | _=>[]
def Q6F (r:Nat):List (Nat×Option Nat):=match r with
 | 0=>[(0,none)]
 | 1=>kpn [0,10]
 | 2=>kpn [2,3,4]
 | 3=>kpn [0,11,12,13]
 | 4=>kpn [0,11,12,13,14]
 | 5=>kpn [0,5,6,11,12,13]
 | 6=>kpn [0,4,5,11,12,13]
 | 7=>kpn [0,5,6,11,12,13,22]
 | 8=>kpn [0,4,5,11,12,13]
 | 9=>kpn [0,5,6,11,12,13,27]
 | 10=>kpn [0,4,5,11,12,13]
 | 11=>kpn [0,5,6,11,12,13,33]
 | 12=>kpn [0,4,5,11,12,13]
 | 13=>kpn [0,5,6,11,12,13,58]
 | 14=>kpn [0,4,5,11,12,13]
 | 15=>kpn [0,4,5,11,12,13,76]
 | 16=>kpn [2,3,4]
 | 17=>kpn [0,11,12,13]
 | 18=>kpn [2,3,4]
 | _=>[]
def Q6B (r:Nat):List (Nat×Option Nat):=match r with
 | 0=>kpn [2,3,4]
 | 1=>[(6,none)]
 | _=>[]
def Q6O (r:Nat):List (Nat×Option Nat):=match r with
 | 0=>[(1,none)]
 | 1=>kpn [1,9]
 | 2=>[(2,none)]
 | 3=>kpn [1,3]
 | 4=>kpn [1,3,16]
 | 5=>kpn [1,3,16,17]
 | 6=>[(2,none)]
 | 7=>kpn [1,3,24]
 | 8=>[(2,none)]
 | 9=>kpn [1,4,5]
 | 10=>[(2,none)]
 | _=>[]
def Q6D (r:Nat):List (Nat×Option Nat):=match r with
 | 0=>[(1,none)]
 | 1=>[(2,none)]
 | _=>[]
def Q6W (r:Nat):List (Nat×Option Nat):=match r with
 | 0=>kpn [0,1,4]
 | 1=>kpn [1,4,7,8,9]
 | 2=>kpn [1,4,7,8,9,10]
 | 3=>kpn [1,4,5,6,7,8,9]
 | 4=>kpn [1,4,7,8,9]
 | 5=>kpn [1,4,7,8,9]
 | 6=>[(4,none)]
 | _=>[]
def Q6x (r:Nat):List (Nat×Option Nat):=match r with
 | 0=>kpn [0,2,4]
 | 1=>[(5,none)]
 | _=>[]
def Q6y (r:Nat):List (Nat×Option Nat):=match r with
 | 0=>kpn [0,2,4]
 | 1=>[(5,none)]
 | _=>[]
def Q6N (r:Nat):List (Nat×Option Nat):=match r with
 | 0=>kpn [0,3]
 | 1=>kpn [0,3,7]
 | 2=>kpn [0,3,7,19]
 | 3=>[(4,none)]
 | 4=>kpn [3,26]
 | 5=>[(4,none)]
 | 6=>kpn [3,8]
 | 7=>kpn [3,8,9]
 | 8=>kpn [8,9,62,63,64]
 | 9=>kpn [8,9,62,63,64,65]
 | 10=>kpn [8,9,11,62,63,64]
 | 11=>kpn [8,9,62,63,64]
 | 12=>kpn [8,9,62,63,64]
 | 13=>kpn [8,86]
 | 14=>[(4,none)]
 | 15=>[(88,none)]
 | 16=>[(4,none)]
 | 17=>[(4,none)]
 | _=>[]
def Q63 (r:Nat):List (Nat×Option Nat):=match r with
 | 0=>kpn [0,1]
 | 1=>kpn [1,5]
 | 2=>[(4,none)]
 | 3=>kpn [1,11]
 | 4=>[(4,none)]
 | 5=>[(14,none)]
 | 6=>[(4,none)]
 | 7=>[(4,none)]
 | _=>[]
def Q6V (r:Nat):List (Nat×Option Nat):=match r with
 | 0=>kpn [0,2,4]
 | 1=>kpn [0,2,4,11,12,13]
 | 2=>kpn [0,2,4,11,12,13,14]
 | 3=>kpn [0,2,4,7,8,11,12,13]
 | 4=>kpn [0,2,4,11,12,13,32]
 | 5=>[(6,none)]
 | 6=>kpn [0,2,4,11,12,13]
 | 7=>kpn [4,9,10]
 | 8=>kpn [4,9,10,41]
 | 9=>[(6,none)]
 | 10=>kpn [4,10,49]
 | 11=>[(6,none)]
 | 12=>[(57,none)]
 | 13=>[(6,none)]
 | 14=>[(6,none)]
 | _=>[]
def Q6U (r:Nat):List (Nat×Option Nat):=match r with
 | 0=>kpn [0,1]
 | 1=>kpn [0,1,5]
 | 2=>kpn [5,12]
 | 3=>[(5,none)]
 | 4=>[(4,none)]
 | _=>[]
def Q6C (r:Nat):List (Nat×Option Nat):=match r with
 | 0=>[(1,none)]
 | 1=>[(2,none)]
 | _=>[]
def Q6A (r:Nat):List (Nat×Option Nat):=match r with
 | 0=>[(1,none)]
 | 1=>[(2,none)]
 | _=>[]
def Q6L (r:Nat):List (Nat×Option Nat):=match r with
 | 0=>[(1,none)]
 | 1=>[(2,none)]
 | _=>[]
def Q6G (r:Nat):List (Nat×Option Nat):=match r with
 | 0=>[(1,none)]
 | 1=>[(2,none)]
 | _=>[]
def Q6X (r:Nat):List (Nat×Option Nat):=match r with
 | 0=>kpn [0,1,4]
 | 1=>kpn [1,4,7,8,9]
 | 2=>kpn [1,4,7,8,9,10]
 | 3=>kpn [1,4,5,6,7,8,9]
 | 4=>kpn [1,4,7,8,9]
 | 5=>kpn [1,4,7,8,9]
 | 6=>[(4,none)]
 | _=>[]
def Q6H (r:Nat):List (Nat×Option Nat):=match r with
 | 0=>kpn [2,4]
 | 1=>[(5,none)]
 | _=>[]
def Q6Y (r:Nat):List (Nat×Option Nat):=match r with
 | 0=>kpn [0,1]
 | 1=>[(4,none)]
 | _=>[]
def Q6E (r:Nat):List (Nat×Option Nat):=match r with
 | 0=>kpn [0,1]
 | 1=>kpn [0,1,7,8]
 | 2=>kpn [0,1,7,8,9]
 | 3=>kpn [0,1,5,7,8]
 | 4=>kpn [0,1,5,7,8,16]
 | 5=>[(4,none)]
 | 6=>kpn [0,1,7,8]
 | 7=>[(4,none)]
 | _=>[]
def Q62 (r:Nat):List (Nat×Option Nat):=match r with
 | 0=>kpn [0,1]
 | 1=>[(4,none)]
 | _=>[]
def Q6I (r:Nat):List (Nat×Option Nat):=match r with
 | 0=>kpn [1,2]
 | 1=>[(3,none)]
 | _=>[]
def Q6Z (r:Nat):List (Nat×Option Nat):=match r with
 | 0=>[(1,none)]
 | 1=>kpn [1,9]
 | 2=>[(2,none)]
 | 3=>kpn [1,3]
 | 4=>kpn [3,11,12,13]
 | 5=>kpn [3,11,12,13,14]
 | 6=>kpn [3,5,11,12,13]
 | 7=>kpn [3,5,11,12,13,17]
 | 8=>[(2,none)]
 | 9=>kpn [5,11,12,13,28]
 | 10=>[(2,none)]
 | 11=>kpn [3,11,12,13]
 | 12=>kpn [3,11,12,13]
 | 13=>[(2,none)]
 | _=>[]
def Q6R (r:Nat):List (Nat×Option Nat):=match r with
 | 0=>kpn [0,1,2]
 | 1=>[(4,none)]
 | _=>[]
def Q6M (r:Nat):List (Nat×Option Nat):=match r with
 | 0=>kpn [0,1]
 | 1=>kpn [1,5,6]
 | 2=>kpn [1,5,6,11]
 | 3=>kpn [1,5,6,7]
 | 4=>kpn [1,5,6,7,21]
 | 5=>kpn [1,5,6]
 | 6=>kpn [1,5,6]
 | 7=>[(4,none)]
 | _=>[]
def Q6Q (r:Nat):List (Nat×Option Nat):=match r with
 | 0=>kpn [1,2]
 | 1=>[(4,none)]
 | _=>[]
def Q6P (r:Nat):List (Nat×Option Nat):=match r with
 | 0=>kpn [0,1,4]
 | 1=>kpn [1,4,7,8,9]
 | 2=>kpn [1,4,7,8,9,10]
 | 3=>kpn [1,4,5,6,7,8,9]
 | 4=>kpn [1,4,7,8,9]
 | 5=>kpn [1,4,7,8,9]
 | 6=>[(4,none)]
 | _=>[]
def Q6z (r:Nat):List (Nat×Option Nat):=match r with
 | 0=>[(1,none)]
 | 1=>[(4,none)]
 | _=>[]
def Q6w (r:Nat):List (Nat×Option Nat):=match r with
 | 0=>kpn [0,1]
 | 1=>kpn [0,1,7,8]
 | 2=>kpn [0,1,7,8,9]
 | 3=>kpn [0,1,5,7,8]
 | 4=>kpn [0,1,5,7,8,16]
 | 5=>[(4,none)]
 | 6=>kpn [0,1,7,8]
 | 7=>[(4,none)]
 | _=>[]
noncomputable def Q9H:List (Nat×FnI):=[(24,{ fn:=Tryz.f24,kp:=Q81,df:=fun r=>if r=3 then [(1,3)]else if r=5 then [(1,6)]else []}),
 (86,{ fn:=Tryz.f86,kp:=Q84}),
 (87,{ fn:=Tryz.f87,kp:=Q8Y}),
 (88,{ fn:=Tryz.f88,kp:=Q8Q}),
 (89,{ fn:=Tryz.f89,kp:=Q9t}),
 (90,{ fn:=Tryz.f90,kp:=Q80}),
 (93,{ fn:=Tryz.f93,kp:=Q83}),
 (94,{ fn:=Tryz.f94,kp:=Q8B}),
 (95,{ fn:=Tryz.f95,kp:=Q8M}),
 (96,{ fn:=Tryz.f96,kp:=Q9i,df:=fun r=>if r=7 then [(12,16),(14,16)]else []}),
 (97,{ fn:=Tryz.f97,kp:=Q86}),
 (98,{ fn:=Tryz.f98,kp:=Q9d}),
 (99,{ fn:=Tryz.f99,kp:=Q9j}),
 (159,{ fn:=Tryz.f159,kp:=Q6F}),
 (160,{ fn:=Tryz.f160,kp:=Q6B}),
 (161,{ fn:=Tryz.f161,kp:=Q6O,df:=fun r=>if r=9 then [(7,13),(10,13)]else []}),
 (162,{ fn:=Tryz.f162,kp:=Q6D}),
 (163,{ fn:=Tryz.f163,kp:=Q6W}),
 (164,{ fn:=Tryz.f164,kp:=Q6x}),
 (165,{ fn:=Tryz.f165,kp:=Q6y}),
 (166,{ fn:=Tryz.f166,kp:=Q6N}),
 (167,{ fn:=Tryz.f167,kp:=Q63}),
 (168,{ fn:=Tryz.f168,kp:=Q6V}),
 (172,{ fn:=Tryz.f172,kp:=Q6U}),
 (173,{ fn:=Tryz.f173,kp:=Q6C}),
 (174,{ fn:=Tryz.f174,kp:=Q6A}),
 (175,{ fn:=Tryz.f175,kp:=Q6L}),
 (176,{ fn:=Tryz.f176,kp:=Q6G}),
 (177,{ fn:=Tryz.f177,kp:=Q6X}),
 (178,{ fn:=Tryz.f178,kp:=Q6H}),
 (179,{ fn:=Tryz.f179,kp:=Q6Y}),
 (193,{ fn:=Tryz.f193,kp:=Q6E}),
 (218,{ fn:=Tryz.f218,kp:=Q62}),
 (219,{ fn:=Tryz.f219,kp:=Q6I}),
 (220,{ fn:=Tryz.f220,kp:=Q6Z}),
 (221,{ fn:=Tryz.f221,kp:=Q6R}),
 (222,{ fn:=Tryz.f222,kp:=Q6M}),
 (223,{ fn:=Tryz.f223,kp:=Q6Q}),
 (224,{ fn:=Tryz.f224,kp:=Q6P}),
 (225,{ fn:=Tryz.f225,kp:=Q6z}),
 (256,{ fn:=Tryz.f256,kp:=Q6w})]
theorem Q4q:FnI.Ok Tryz.prog 24 { fn:=Tryz.f24,kp:=Q81,df:=fun r=>if r=3 then [(1,3)]else if r=5 then [(1,6)]else []} :=⟨Tryz.func24,rfl,by kernel_rfl,by kernel_rfl,fun _ _=>by kernel_rfl,by decide⟩
theorem Q4M:FnI.Ok Tryz.prog 86 { fn:=Tryz.f86,kp:=Q84} :=⟨Tryz.func86,rfl,by kernel_rfl,by kernel_rfl,fun _ _=>by kernel_rfl,by decide⟩
theorem Q4y:FnI.Ok Tryz.prog 87 { fn:=Tryz.f87,kp:=Q8Y} :=⟨Tryz.func87,rfl,by kernel_rfl,by kernel_rfl,fun _ _=>by kernel_rfl,by decide⟩
theorem Q4B:FnI.Ok Tryz.prog 88 { fn:=Tryz.f88,kp:=Q8Q} :=⟨Tryz.func88,rfl,by kernel_rfl,by kernel_rfl,fun _ _=>by kernel_rfl,by decide⟩
theorem Q4j:FnI.Ok Tryz.prog 89 { fn:=Tryz.f89,kp:=Q9t} :=⟨Tryz.func89,rfl,by kernel_rfl,by kernel_rfl,fun _ _=>by kernel_rfl,by decide⟩
theorem Q4L:FnI.Ok Tryz.prog 90 { fn:=Tryz.f90,kp:=Q80} :=⟨Tryz.func90,rfl,by kernel_rfl,by kernel_rfl,fun _ _=>by kernel_rfl,by decide⟩
theorem Q4p:FnI.Ok Tryz.prog 93 { fn:=Tryz.f93,kp:=Q83} :=⟨Tryz.func93,rfl,by kernel_rfl,by kernel_rfl,fun _ _=>by kernel_rfl,by decide⟩
theorem Q4C:FnI.Ok Tryz.prog 94 { fn:=Tryz.f94,kp:=Q8B} :=⟨Tryz.func94,rfl,by kernel_rfl,by kernel_rfl,fun _ _=>by kernel_rfl,by decide⟩
theorem Q4D:FnI.Ok Tryz.prog 95 { fn:=Tryz.f95,kp:=Q8M} :=⟨Tryz.func95,rfl,by kernel_rfl,by kernel_rfl,fun _ _=>by kernel_rfl,by decide⟩
theorem Q4k:FnI.Ok Tryz.prog 96 { fn:=Tryz.f96,kp:=Q9i,df:=fun r=>if r=7 then [(12,16),(14,16)]else []} :=⟨Tryz.func96,rfl,by kernel_rfl,by kernel_rfl,fun _ _=>by kernel_rfl,by decide⟩
theorem Q4x:FnI.Ok Tryz.prog 97 { fn:=Tryz.f97,kp:=Q86} :=⟨Tryz.func97,rfl,by kernel_rfl,by kernel_rfl,fun _ _=>by kernel_rfl,by decide⟩
theorem Q4E:FnI.Ok Tryz.prog 98 { fn:=Tryz.f98,kp:=Q9d} :=⟨Tryz.func98,rfl,by kernel_rfl,by kernel_rfl,fun _ _=>by kernel_rfl,by decide⟩
theorem Q4u:FnI.Ok Tryz.prog 99 { fn:=Tryz.f99,kp:=Q9j} :=⟨Tryz.func99,rfl,by kernel_rfl,by kernel_rfl,fun _ _=>by kernel_rfl,by decide⟩
theorem Q3Q:FnI.Ok Tryz.prog 159 { fn:=Tryz.f159,kp:=Q6F} :=⟨Tryz.func159,rfl,by kernel_rfl,by kernel_rfl,fun _ _=>by kernel_rfl,by decide⟩
theorem Q30:FnI.Ok Tryz.prog 160 { fn:=Tryz.f160,kp:=Q6B} :=⟨Tryz.func160,rfl,by kernel_rfl,by kernel_rfl,fun _ _=>by kernel_rfl,by decide⟩
theorem Q3T:FnI.Ok Tryz.prog 161 { fn:=Tryz.f161,kp:=Q6O,df:=fun r=>if r=9 then [(7,13),(10,13)]else []} :=⟨Tryz.func161,rfl,by kernel_rfl,by kernel_rfl,fun _ _=>by kernel_rfl,by decide⟩
theorem Q3J:FnI.Ok Tryz.prog 162 { fn:=Tryz.f162,kp:=Q6D} :=⟨Tryz.func162,rfl,by kernel_rfl,by kernel_rfl,fun _ _=>by kernel_rfl,by decide⟩
theorem Q4g:FnI.Ok Tryz.prog 163 { fn:=Tryz.f163,kp:=Q6W} :=⟨Tryz.func163,rfl,by kernel_rfl,by kernel_rfl,fun _ _=>by kernel_rfl,by decide⟩
theorem Q4f:FnI.Ok Tryz.prog 164 { fn:=Tryz.f164,kp:=Q6x} :=⟨Tryz.func164,rfl,by kernel_rfl,by kernel_rfl,fun _ _=>by kernel_rfl,by decide⟩
theorem Q3O:FnI.Ok Tryz.prog 165 { fn:=Tryz.f165,kp:=Q6y} :=⟨Tryz.func165,rfl,by kernel_rfl,by kernel_rfl,fun _ _=>by kernel_rfl,by decide⟩
theorem Q3L:FnI.Ok Tryz.prog 166 { fn:=Tryz.f166,kp:=Q6N} :=⟨Tryz.func166,rfl,by kernel_rfl,by kernel_rfl,fun _ _=>by kernel_rfl,by decide⟩
theorem Q3U:FnI.Ok Tryz.prog 167 { fn:=Tryz.f167,kp:=Q63} :=⟨Tryz.func167,rfl,by kernel_rfl,by kernel_rfl,fun _ _=>by kernel_rfl,by decide⟩
theorem Q33:FnI.Ok Tryz.prog 168 { fn:=Tryz.f168,kp:=Q6V} :=⟨Tryz.func168,rfl,by kernel_rfl,by kernel_rfl,fun _ _=>by kernel_rfl,by decide⟩
theorem Q39:FnI.Ok Tryz.prog 172 { fn:=Tryz.f172,kp:=Q6U} :=⟨Tryz.func172,rfl,by kernel_rfl,by kernel_rfl,fun _ _=>by kernel_rfl,by decide⟩
theorem Q35:FnI.Ok Tryz.prog 173 { fn:=Tryz.f173,kp:=Q6C} :=⟨Tryz.func173,rfl,by kernel_rfl,by kernel_rfl,fun _ _=>by kernel_rfl,by decide⟩
theorem Q3K:FnI.Ok Tryz.prog 174 { fn:=Tryz.f174,kp:=Q6A} :=⟨Tryz.func174,rfl,by kernel_rfl,by kernel_rfl,fun _ _=>by kernel_rfl,by decide⟩
theorem Q3N:FnI.Ok Tryz.prog 175 { fn:=Tryz.f175,kp:=Q6L} :=⟨Tryz.func175,rfl,by kernel_rfl,by kernel_rfl,fun _ _=>by kernel_rfl,by decide⟩
theorem Q4c:FnI.Ok Tryz.prog 176 { fn:=Tryz.f176,kp:=Q6G} :=⟨Tryz.func176,rfl,by kernel_rfl,by kernel_rfl,fun _ _=>by kernel_rfl,by decide⟩
theorem Q4a:FnI.Ok Tryz.prog 177 { fn:=Tryz.f177,kp:=Q6X} :=⟨Tryz.func177,rfl,by kernel_rfl,by kernel_rfl,fun _ _=>by kernel_rfl,by decide⟩
theorem Q3M:FnI.Ok Tryz.prog 178 { fn:=Tryz.f178,kp:=Q6H} :=⟨Tryz.func178,rfl,by kernel_rfl,by kernel_rfl,fun _ _=>by kernel_rfl,by decide⟩
theorem Q3V:FnI.Ok Tryz.prog 179 { fn:=Tryz.f179,kp:=Q6Y} :=⟨Tryz.func179,rfl,by kernel_rfl,by kernel_rfl,fun _ _=>by kernel_rfl,by decide⟩
theorem Q31:FnI.Ok Tryz.prog 193 { fn:=Tryz.f193,kp:=Q6E} :=⟨Tryz.func193,rfl,by kernel_rfl,by kernel_rfl,fun _ _=>by kernel_rfl,by decide⟩
theorem Q4d:FnI.Ok Tryz.prog 218 { fn:=Tryz.f218,kp:=Q62} :=⟨Tryz.func218,rfl,by kernel_rfl,by kernel_rfl,fun _ _=>by kernel_rfl,by decide⟩
theorem Q3W:FnI.Ok Tryz.prog 219 { fn:=Tryz.f219,kp:=Q6I} :=⟨Tryz.func219,rfl,by kernel_rfl,by kernel_rfl,fun _ _=>by kernel_rfl,by decide⟩
theorem Q3S:FnI.Ok Tryz.prog 220 { fn:=Tryz.f220,kp:=Q6Z} :=⟨Tryz.func220,rfl,by kernel_rfl,by kernel_rfl,fun _ _=>by kernel_rfl,by decide⟩
theorem Q4e:FnI.Ok Tryz.prog 221 { fn:=Tryz.f221,kp:=Q6R} :=⟨Tryz.func221,rfl,by kernel_rfl,by kernel_rfl,fun _ _=>by kernel_rfl,by decide⟩
theorem Q36:FnI.Ok Tryz.prog 222 { fn:=Tryz.f222,kp:=Q6M} :=⟨Tryz.func222,rfl,by kernel_rfl,by kernel_rfl,fun _ _=>by kernel_rfl,by decide⟩
theorem Q3R:FnI.Ok Tryz.prog 223 { fn:=Tryz.f223,kp:=Q6Q} :=⟨Tryz.func223,rfl,by kernel_rfl,by kernel_rfl,fun _ _=>by kernel_rfl,by decide⟩
theorem Q3Z:FnI.Ok Tryz.prog 224 { fn:=Tryz.f224,kp:=Q6P} :=⟨Tryz.func224,rfl,by kernel_rfl,by kernel_rfl,fun _ _=>by kernel_rfl,by decide⟩
theorem Q38:FnI.Ok Tryz.prog 225 { fn:=Tryz.f225,kp:=Q6z} :=⟨Tryz.func225,rfl,by kernel_rfl,by kernel_rfl,fun _ _=>by kernel_rfl,by decide⟩
theorem Q32:FnI.Ok Tryz.prog 256 { fn:=Tryz.f256,kp:=Q6w} :=⟨Tryz.func256,rfl,by kernel_rfl,by kernel_rfl,fun _ _=>by kernel_rfl,by decide⟩
theorem Q20:Qt9 Tryz.prog Q9H:=QP Q4q (QP Q4M (QP Q4y (QP Q4B (QP Q4j (QP Q4L (QP Q4p (QP Q4C (QP Q4D (QP Q4k (QP Q4x (QP Q4E (QP Q4u (QP Q3Q (QP Q30 (QP Q3T (QP Q3J (QP Q4g (QP Q4f (QP Q3O (QP Q3L (QP Q3U (QP Q33 (QP Q39 (QP Q35 (QP Q3K (QP Q3N (QP Q4c (QP Q4a (QP Q3M (QP Q3V (QP Q31 (QP Q4d (QP Q3W (QP Q3S (QP Q4e (QP Q36 (QP Q3R (QP Q3Z (QP Q38 (QP Q32 QFN))))))))))))))))))))))))))))))))))))))))
theorem djB:QaE Tryz.prog (Qaw [(77,s89)]):=Qh Qs QDx ok89
noncomputable def Q9a:Cx:= { QGL [(77,s89)] [] 0 (fun _=>[]) [] (fun _=>[]) (fun _=>0) [] []with Γ:=Q1}
theorem Q2Y:CxOk Tryz.prog Q9a:=
 have h:=Qby djB Qb6 Qbn (sq:=[]) (fun _ _ _ h=>by cases h) 0 (fun _=>[]) [] (fun _=>[]) (fun _=>0)
 ⟨Q3y,h.eq,h.del,h.eff,h.mix,h.keys,h.pan,h.seq⟩
end Go.Proofs.YticoemblgkemiaaGreatDoor
namespace Go.Proofs.YticoemblgkemiaaGreatDoor
open Go.RowKit
def bsN (l:List Nat):D:= .v (.string ⟨(l.map UInt8.ofNat).toArray⟩)
def nilV:D:= .sl 0 []
def exL:List (List D):=[[bsN [98,101,101,115],DI 1200,DI 620,DI 640,DI 90,DI 100,nilV],[bsN [112,97,114,97,102,102,105,110],DI 200,DI 540,DI 580,DI 110,DI 150,nilV],[bsN [104,97,114,100],DI 400,DI 690,DI 700,DI 60,DI 70,.sl 2 [[DI 0,DI 0],[DI 2,DI 20],[DI 4,DI 30]]]]
def exP:List (List D):=[[DI 4,DI 5],[DI 0,DI 20],[DI 0,DI 1]]
def exW:List D:=[.sl 2 exP,DI 560,DI 620,DI 0,DI 140]
def rcp (a b c:Int):D:= .sl 1 [[DI a],[DI b],[DI c]]
def Q4b (a b:Nat):Int:=if a+b < 19 then 1 else if a+b=20∧a=4 then 2 else 0
noncomputable def whyB (a b:Nat):Bool:=match(Q9a.runs Q9H 14).Δ 168 [.sl 7 exL,.agg exW,rcp a b (20 - a - b:Nat)]with
 | some (.v (.int .i64 n))=>decide (n=Q4b a b)
 | _=>false
theorem whys:([4,5].all fun a=>(List.range (21 - a)).all fun b=>whyB a b)=true:=by kernel_rfl
theorem Q8J {a b:Nat} (ha:a=4∨a=5) (hb:a+b≤20):PureC Tryz.prog 168 [.sl 7 exL,.agg exW,rcp a b (20 - a - b:Nat)] (DI (Q4b a b)):=by
 have h:whyB a b=true:=by
  have h0:=whys;rw[List.all_eq_true]at h0;have h1:=h0 a (by rcases ha with rfl | rfl<;>simp)
  rw[List.all_eq_true]at h1;exact h1 b (List.mem_range.2 (by omega))
 unfold whyB at h;split at h
 ·rename_i n he;have hn:n=Q4b a b:=by simpa using h
  subst hn;exact QvV Q2Y Q20 14 he
 ·cases h
end Go.Proofs.YticoemblgkemiaaGreatDoor
