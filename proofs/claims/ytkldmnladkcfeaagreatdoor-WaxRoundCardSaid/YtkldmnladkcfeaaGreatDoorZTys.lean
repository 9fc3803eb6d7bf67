/-
  What is known of the types of the wax chapter. Conditions: none.
-/
import Derived.Test.YtkldmnladkcfeaaGreatDoorProg
import Derived.Test.YtkldmnladkcfeaaGreatDoorZAmD
import Derived.WalkKit
import Derived.Test.YtkldmnladkcfeaaGreatDoorZAmE
namespace Go.Proofs.YtkldmnladkcfeaaGreatDoor
open Go.RowKit
set_option linter.unusedSimpArgs false
set_option linter.unusedVariables false
theorem tyOk_agg {P : Program} {T : TypeId} {i : TyI} (und : P.underlying T = some i.desc) (inf : (P.info? T).map (fun f => (f.size, f.bytes, f.zero)) = some (i.size, i.bytes, some i.zero)) (zsz : i.zero.cells.size = i.size) (zone : i.zero.cells.toList.all (·.oneCell') = true) (ha : i.agg = true) (hz : ∃ cs, i.zero = .agg cs) : TyOk P T i := by
  refine ⟨und, ?_, zsz, fun v hv => List.all_eq_true.1 zone v hv, fun _ => hz, fun h => by rw [ha] at h; cases h⟩
  cases h : P.info? T with
  | none => rw [h] at inf; cases inf
  | some f =>
    rw [h] at inf
    simp only [Option.map_some, Option.some.injEq, Prod.mk.injEq] at inf
    exact ⟨f, rfl, inf.1, inf.2.1, inf.2.2⟩
theorem tyOk_one {P : Program} {T : TypeId} {i : TyI} (und : P.underlying T = some i.desc) (inf : (P.info? T).map (fun f => (f.size, f.bytes, f.zero)) = some (i.size, i.bytes, some i.zero)) (zsz : i.zero.cells.size = i.size) (zone : i.zero.cells.toList.all (·.oneCell') = true) (ha : i.agg = false) (hz : i.zero.oneCell' = true) : TyOk P T i := by
  refine ⟨und, ?_, zsz, fun v hv => List.all_eq_true.1 zone v hv, (fun h => by rw [ha] at h; cases h), fun _ => hz⟩
  cases h : P.info? T with
  | none => rw [h] at inf; cases inf
  | some f =>
    rw [h] at inf
    simp only [Option.map_some, Option.some.injEq, Prod.mk.injEq] at inf
    exact ⟨f, rfl, inf.1, inf.2.1, inf.2.2⟩
def ty2 : TyI := ⟨.int .i64, 1, 8, .int .i64 0⟩
theorem tyOk2 : TyOk Tryz.prog 2 ty2 := tyOk_one Tryz.underlying2 (by kernel_rfl) rfl rfl rfl rfl
def ty3 : TyI := ⟨.int .i64, 1, 8, .int .i64 0⟩
theorem tyOk3 : TyOk Tryz.prog 3 ty3 := tyOk_one Tryz.underlying3 (by kernel_rfl) rfl rfl rfl rfl
def ty4 : TyI := ⟨.bool, 1, 1, .bool false⟩
theorem tyOk4 : TyOk Tryz.prog 4 ty4 := tyOk_one Tryz.underlying4 (by kernel_rfl) rfl rfl rfl rfl
def ty5 : TyI := ⟨.int .u8, 1, 1, .int .u8 0⟩
theorem tyOk5 : TyOk Tryz.prog 5 ty5 := tyOk_one Tryz.underlying5 (by kernel_rfl) rfl rfl rfl rfl
def ty9 : TyI := ⟨.string, 1, 16, .string ByteArray.empty⟩
theorem tyOk9 : TyOk Tryz.prog 9 ty9 := tyOk_one Tryz.underlying9 (by kernel_rfl) rfl rfl rfl rfl
def ty21 : TyI := ⟨.int .i32, 1, 4, .int .i32 0⟩
theorem tyOk21 : TyOk Tryz.prog 21 ty21 := tyOk_one Tryz.underlying21 (by kernel_rfl) rfl rfl rfl rfl
def ty22 : TyI := ⟨.slice 79, 1, 24, .slice none 0 0⟩
theorem tyOk22 : TyOk Tryz.prog 22 ty22 := tyOk_one Tryz.underlying22 (by kernel_rfl) rfl rfl rfl rfl
def ty23 : TyI := ⟨.slice 77, 1, 24, .slice none 0 0⟩
theorem tyOk23 : TyOk Tryz.prog 23 ty23 := tyOk_one Tryz.underlying23 (by kernel_rfl) rfl rfl rfl rfl
def ty25 : TyI := ⟨.struct #[{ name := "Props", type := 22, offset := 0, embedded := false, tag := "", pkgPath := "", byteOffset := 0 }, { name := "Kinds", type := 23, offset := 1, embedded := false, tag := "", pkgPath := "", byteOffset := 24 }, { name := "Purity", type := 3, offset := 2, embedded := false, tag := "", pkgPath := "", byteOffset := 48 }], 3, 56, .agg #[.slice none 0 0, .slice none 0 0, .int .i64 0]⟩
theorem tyOk25 : TyOk Tryz.prog 25 ty25 := tyOk_agg Tryz.underlying25 (by kernel_rfl) rfl rfl rfl ⟨_, rfl⟩
def ty26 : TyI := ⟨.int .i64, 1, 8, .int .i64 0⟩
theorem tyOk26 : TyOk Tryz.prog 26 ty26 := tyOk_one Tryz.underlying26 (by kernel_rfl) rfl rfl rfl rfl
def ty32 : TyI := ⟨.slice 3, 1, 24, .slice none 0 0⟩
theorem tyOk32 : TyOk Tryz.prog 32 ty32 := tyOk_one Tryz.underlying32 (by kernel_rfl) rfl rfl rfl rfl
def ty33 : TyI := ⟨.array 2 3, 2, 16, .agg #[.int .i64 0, .int .i64 0]⟩
theorem tyOk33 : TyOk Tryz.prog 33 ty33 := tyOk_agg Tryz.underlying33 (by kernel_rfl) rfl rfl rfl ⟨_, rfl⟩
def ty35 : TyI := ⟨.struct #[{ name := "Lo", type := 3, offset := 0, embedded := false, tag := "", pkgPath := "", byteOffset := 0 }, { name := "Hi", type := 3, offset := 1, embedded := false, tag := "", pkgPath := "", byteOffset := 8 }], 2, 16, .agg #[.int .i64 0, .int .i64 0]⟩
theorem tyOk35 : TyOk Tryz.prog 35 ty35 := tyOk_agg Tryz.underlying35 (by kernel_rfl) rfl rfl rfl ⟨_, rfl⟩
def ty57 : TyI := ⟨.int .u16, 1, 2, .int .u16 0⟩
theorem tyOk57 : TyOk Tryz.prog 57 ty57 := tyOk_one Tryz.underlying57 (by kernel_rfl) rfl rfl rfl rfl
def ty58 : TyI := ⟨.slice 57, 1, 24, .slice none 0 0⟩
theorem tyOk58 : TyOk Tryz.prog 58 ty58 := tyOk_one Tryz.underlying58 (by kernel_rfl) rfl rfl rfl rfl
def ty60 : TyI := ⟨.struct #[{ name := "A", type := 5, offset := 0, embedded := false, tag := "", pkgPath := "", byteOffset := 0 }, { name := "B", type := 5, offset := 1, embedded := false, tag := "", pkgPath := "", byteOffset := 1 }, { name := "Parts", type := 57, offset := 2, embedded := false, tag := "", pkgPath := "", byteOffset := 2 }, { name := "Numbers", type := 58, offset := 3, embedded := false, tag := "", pkgPath := "", byteOffset := 8 }, { name := "Errors", type := 58, offset := 4, embedded := false, tag := "", pkgPath := "", byteOffset := 32 }, { name := "Read", type := 5, offset := 5, embedded := false, tag := "", pkgPath := "", byteOffset := 56 }], 6, 64, .agg #[.int .u8 0, .int .u8 0, .int .u16 0, .slice none 0 0, .slice none 0 0, .int .u8 0]⟩
theorem tyOk60 : TyOk Tryz.prog 60 ty60 := tyOk_agg Tryz.underlying60 (by kernel_rfl) rfl rfl rfl ⟨_, rfl⟩
def ty68 : TyI := ⟨.array 3 57, 3, 6, .agg #[.int .u16 0, .int .u16 0, .int .u16 0]⟩
theorem tyOk68 : TyOk Tryz.prog 68 ty68 := tyOk_agg Tryz.underlying68 (by kernel_rfl) rfl rfl rfl ⟨_, rfl⟩
def ty75 : TyI := ⟨.slice 35, 1, 24, .slice none 0 0⟩
theorem tyOk75 : TyOk Tryz.prog 75 ty75 := tyOk_one Tryz.underlying75 (by kernel_rfl) rfl rfl rfl rfl
def ty77 : TyI := ⟨.struct #[{ name := "Name", type := 9, offset := 0, embedded := false, tag := "", pkgPath := "", byteOffset := 0 }, { name := "Props", type := 75, offset := 1, embedded := false, tag := "", pkgPath := "", byteOffset := 16 }], 2, 40, .agg #[.string ByteArray.empty, .slice none 0 0]⟩
theorem tyOk77 : TyOk Tryz.prog 77 ty77 := tyOk_agg Tryz.underlying77 (by kernel_rfl) rfl rfl rfl ⟨_, rfl⟩
def ty79 : TyI := ⟨.struct #[{ name := "Name", type := 9, offset := 0, embedded := false, tag := "", pkgPath := "", byteOffset := 0 }, { name := "Error", type := 3, offset := 1, embedded := false, tag := "", pkgPath := "", byteOffset := 16 }], 2, 24, .agg #[.string ByteArray.empty, .int .i64 0]⟩
theorem tyOk79 : TyOk Tryz.prog 79 ty79 := tyOk_agg Tryz.underlying79 (by kernel_rfl) rfl rfl rfl ⟨_, rfl⟩
def ty80 : TyI := ⟨.int .u32, 1, 4, .int .u32 0⟩
theorem tyOk80 : TyOk Tryz.prog 80 ty80 := tyOk_one Tryz.underlying80 (by kernel_rfl) rfl rfl rfl rfl
def ty82 : TyI := ⟨.struct #[{ name := "A", type := 5, offset := 0, embedded := false, tag := "", pkgPath := "", byteOffset := 0 }, { name := "Prop", type := 5, offset := 1, embedded := false, tag := "", pkgPath := "", byteOffset := 1 }, { name := "Reading", type := 80, offset := 2, embedded := false, tag := "", pkgPath := "", byteOffset := 4 }, { name := "By", type := 58, offset := 3, embedded := false, tag := "", pkgPath := "", byteOffset := 8 }], 4, 32, .agg #[.int .u8 0, .int .u8 0, .int .u32 0, .slice none 0 0]⟩
theorem tyOk82 : TyOk Tryz.prog 82 ty82 := tyOk_agg Tryz.underlying82 (by kernel_rfl) rfl rfl rfl ⟨_, rfl⟩
def ty84 : TyI := ⟨.slice 25, 1, 24, .slice none 0 0⟩
theorem tyOk84 : TyOk Tryz.prog 84 ty84 := tyOk_one Tryz.underlying84 (by kernel_rfl) rfl rfl rfl rfl
def ty86 : TyI := ⟨.array 3 5, 3, 3, .agg #[.int .u8 0, .int .u8 0, .int .u8 0]⟩
theorem tyOk86 : TyOk Tryz.prog 86 ty86 := tyOk_agg Tryz.underlying86 (by kernel_rfl) rfl rfl rfl ⟨_, rfl⟩
def ty92 : TyI := ⟨.func #[79] #[9] false, 1, 8, .nilFunc⟩
theorem tyOk92 : TyOk Tryz.prog 92 ty92 := tyOk_one Tryz.underlying92 (by kernel_rfl) rfl rfl rfl rfl
def ty94 : TyI := ⟨.func #[77] #[9] false, 1, 8, .nilFunc⟩
theorem tyOk94 : TyOk Tryz.prog 94 ty94 := tyOk_one Tryz.underlying94 (by kernel_rfl) rfl rfl rfl rfl
def ty98 : TyI := ⟨.slice 9, 1, 24, .slice none 0 0⟩
theorem tyOk98 : TyOk Tryz.prog 98 ty98 := tyOk_one Tryz.underlying98 (by kernel_rfl) rfl rfl rfl rfl
def ty102 : TyI := ⟨.pointer 131, 1, 8, .pointer none⟩
theorem tyOk102 : TyOk Tryz.prog 102 ty102 := tyOk_one Tryz.underlying102 (by kernel_rfl) rfl rfl rfl rfl
def ty114 : TyI := ⟨.struct #[{ name := "a", type := 3, offset := 0, embedded := false, tag := "", pkgPath := "stearin/wax", byteOffset := 0 }, { name := "b", type := 3, offset := 1, embedded := false, tag := "", pkgPath := "stearin/wax", byteOffset := 8 }, { name := "parts", type := 35, offset := 2, embedded := false, tag := "", pkgPath := "stearin/wax", byteOffset := 16 }], 4, 32, .agg #[.int .i64 0, .int .i64 0, .int .i64 0, .int .i64 0]⟩
theorem tyOk114 : TyOk Tryz.prog 114 ty114 := tyOk_agg Tryz.underlying114 (by kernel_rfl) rfl rfl rfl ⟨_, rfl⟩
def ty131 : TyI := ⟨.struct #[{ name := "WxTable", type := 25, offset := 0, embedded := true, tag := "", pkgPath := "", byteOffset := 0 }, { name := "readings", type := 32, offset := 3, embedded := false, tag := "", pkgPath := "stearin/wax", byteOffset := 56 }], 4, 80, .agg #[.slice none 0 0, .slice none 0 0, .int .i64 0, .slice none 0 0]⟩
theorem tyOk131 : TyOk Tryz.prog 131 ty131 := tyOk_agg Tryz.underlying131 (by kernel_rfl) rfl rfl rfl ⟨_, rfl⟩
def ty132 : TyI := ⟨.func #[] #[3, 3] false, 1, 8, .nilFunc⟩
theorem tyOk132 : TyOk Tryz.prog 132 ty132 := tyOk_one Tryz.underlying132 (by kernel_rfl) rfl rfl rfl rfl
def ty134 : TyI := ⟨.pointer 35, 1, 8, .pointer none⟩
theorem tyOk134 : TyOk Tryz.prog 134 ty134 := tyOk_one Tryz.underlying134 (by kernel_rfl) rfl rfl rfl rfl
def ty135 : TyI := ⟨.map 3 3, 1, 8, .map none⟩
theorem tyOk135 : TyOk Tryz.prog 135 ty135 := tyOk_one Tryz.underlying135 (by kernel_rfl) rfl rfl rfl rfl
def ty140 : TyI := ⟨.func #[114] #[4] false, 1, 8, .nilFunc⟩
theorem tyOk140 : TyOk Tryz.prog 140 ty140 := tyOk_one Tryz.underlying140 (by kernel_rfl) rfl rfl rfl rfl
def ty152 : TyI := ⟨.slice 132, 1, 24, .slice none 0 0⟩
theorem tyOk152 : TyOk Tryz.prog 152 ty152 := tyOk_one Tryz.underlying152 (by kernel_rfl) rfl rfl rfl rfl
def ty156 : TyI := ⟨.slice 5, 1, 24, .slice none 0 0⟩
theorem tyOk156 : TyOk Tryz.prog 156 ty156 := tyOk_one Tryz.underlying156 (by kernel_rfl) rfl rfl rfl rfl
def tys : Tys := fun T => match T with
  | 2 => some ty2
  | 3 => some ty3
  | 4 => some ty4
  | 5 => some ty5
  | 9 => some ty9
  | 21 => some ty21
  | 22 => some ty22
  | 23 => some ty23
  | 25 => some ty25
  | 26 => some ty26
  | 32 => some ty32
  | 33 => some ty33
  | 35 => some ty35
  | 57 => some ty57
  | 58 => some ty58
  | 60 => some ty60
  | 68 => some ty68
  | 75 => some ty75
  | 77 => some ty77
  | 79 => some ty79
  | 80 => some ty80
  | 82 => some ty82
  | 84 => some ty84
  | 86 => some ty86
  | 92 => some ty92
  | 94 => some ty94
  | 98 => some ty98
  | 102 => some ty102
  | 114 => some ty114
  | 131 => some ty131
  | 132 => some ty132
  | 134 => some ty134
  | 135 => some ty135
  | 140 => some ty140
  | 152 => some ty152
  | 156 => some ty156
  | _ => none
theorem tyAt2 : tys 2 = some ty2 := rfl
theorem tyAt3 : tys 3 = some ty3 := rfl
theorem tyAt4 : tys 4 = some ty4 := rfl
theorem tyAt5 : tys 5 = some ty5 := rfl
theorem tyAt9 : tys 9 = some ty9 := rfl
theorem tyAt21 : tys 21 = some ty21 := rfl
theorem tyAt22 : tys 22 = some ty22 := rfl
theorem tyAt23 : tys 23 = some ty23 := rfl
theorem tyAt25 : tys 25 = some ty25 := rfl
theorem tyAt26 : tys 26 = some ty26 := rfl
theorem tyAt32 : tys 32 = some ty32 := rfl
theorem tyAt33 : tys 33 = some ty33 := rfl
theorem tyAt35 : tys 35 = some ty35 := rfl
theorem tyAt57 : tys 57 = some ty57 := rfl
theorem tyAt58 : tys 58 = some ty58 := rfl
theorem tyAt60 : tys 60 = some ty60 := rfl
theorem tyAt68 : tys 68 = some ty68 := rfl
theorem tyAt75 : tys 75 = some ty75 := rfl
theorem tyAt77 : tys 77 = some ty77 := rfl
theorem tyAt79 : tys 79 = some ty79 := rfl
theorem tyAt80 : tys 80 = some ty80 := rfl
theorem tyAt82 : tys 82 = some ty82 := rfl
theorem tyAt84 : tys 84 = some ty84 := rfl
theorem tyAt86 : tys 86 = some ty86 := rfl
theorem tyAt92 : tys 92 = some ty92 := rfl
theorem tyAt94 : tys 94 = some ty94 := rfl
theorem tyAt98 : tys 98 = some ty98 := rfl
theorem tyAt102 : tys 102 = some ty102 := rfl
theorem tyAt114 : tys 114 = some ty114 := rfl
theorem tyAt131 : tys 131 = some ty131 := rfl
theorem tyAt132 : tys 132 = some ty132 := rfl
theorem tyAt134 : tys 134 = some ty134 := rfl
theorem tyAt135 : tys 135 = some ty135 := rfl
theorem tyAt140 : tys 140 = some ty140 := rfl
theorem tyAt152 : tys 152 = some ty152 := rfl
theorem tyAt156 : tys 156 = some ty156 := rfl
theorem tys_ok : ∀ T i, tys T = some i → TyOk Tryz.prog T i := by
  intro T i h
  unfold tys at h
  split at h
  · cases h; exact tyOk2
  · cases h; exact tyOk3
  · cases h; exact tyOk4
  · cases h; exact tyOk5
  · cases h; exact tyOk9
  · cases h; exact tyOk21
  · cases h; exact tyOk22
  · cases h; exact tyOk23
  · cases h; exact tyOk25
  · cases h; exact tyOk26
  · cases h; exact tyOk32
  · cases h; exact tyOk33
  · cases h; exact tyOk35
  · cases h; exact tyOk57
  · cases h; exact tyOk58
  · cases h; exact tyOk60
  · cases h; exact tyOk68
  · cases h; exact tyOk75
  · cases h; exact tyOk77
  · cases h; exact tyOk79
  · cases h; exact tyOk80
  · cases h; exact tyOk82
  · cases h; exact tyOk84
  · cases h; exact tyOk86
  · cases h; exact tyOk92
  · cases h; exact tyOk94
  · cases h; exact tyOk98
  · cases h; exact tyOk102
  · cases h; exact tyOk114
  · cases h; exact tyOk131
  · cases h; exact tyOk132
  · cases h; exact tyOk134
  · cases h; exact tyOk135
  · cases h; exact tyOk140
  · cases h; exact tyOk152
  · cases h; exact tyOk156
  · cases h
end Go.Proofs.YtkldmnladkcfeaaGreatDoor
namespace Go.Proofs.YtkldmnladkcfeaaGreatDoor
open Go.RowKit
set_option linter.unusedSimpArgs false
set_option linter.unusedVariables false
theorem eqOk35 : EqOk Tryz.prog 35 5 := by
  intro xs ys hx hy w x y
  obtain ⟨a0, t, rfl, hx0⟩ := shape_int (k := 1) hx
  obtain ⟨a1, t, rfl, hx1⟩ := shape_int (k := 0) hx0
  obtain rfl := shape_nil hx1
  obtain ⟨b0, t, rfl, hy0⟩ := shape_int (k := 1) hy
  obtain ⟨b1, t, rfl, hy1⟩ := shape_int (k := 0) hy0
  obtain rfl := shape_nil hy1
  have hm : Tryz.prog.eqGuardType Tryz.prog.depth 35 = false := by kernel_rfl
  have hp : Tryz.prog.stoodInHeld 35 = false := by kernel_rfl
  have hu := Tryz.underlying35
  have h3 := Tryz.underlying3
  have e : (Op.equalIn 10000 35 (.agg #[.int .i64 a0, .int .i64 a1]) (.agg #[.int .i64 b0, .int .i64 b1])).run Tryz.prog w = .ok (eqV [Value.int .i64 a0, Value.int .i64 a1] [Value.int .i64 b0, Value.int .i64 b1]) w := by
    rw [run_equalIn_struct w 9999 35 _ _ (by rw [Program.fieldsOf, hu]) hp]
    simp [Program.fieldsOf, hu, Op.eqFields, go_sem, h3, codeV, eqV, isS]
    by_cases q0 : a0 = b0 <;> by_cases q1 : a1 = b1 <;> simp [q0, q1]
  have ne : neV [Value.int .i64 a0, Value.int .i64 a1] [Value.int .i64 b0, Value.int .i64 b1] = !eqV [Value.int .i64 a0, Value.int .i64 a1] [Value.int .i64 b0, Value.int .i64 b1] := rfl
  constructor
  · simp only [Sem.run_bind]
    rw [run_eqGuard_agg _ _ _ _ _ _ _ hm]
    simp only [Result.andThen_ok, run_eql_struct]
    rw [e]; rfl
  · simp only [Sem.run_bind]
    rw [run_eqGuard_agg _ _ _ _ _ _ _ hm]
    simp only [Result.andThen_ok, run_neq_struct]
    rw [e, ne]; rfl
theorem eqOk79 : EqOk Tryz.prog 79 7 := by
  intro xs ys hx hy w x y
  obtain ⟨a0, t, rfl, hx0⟩ := shape_str (k := 1) hx
  obtain ⟨a1, t, rfl, hx1⟩ := shape_int (k := 0) hx0
  obtain rfl := shape_nil hx1
  obtain ⟨b0, t, rfl, hy0⟩ := shape_str (k := 1) hy
  obtain ⟨b1, t, rfl, hy1⟩ := shape_int (k := 0) hy0
  obtain rfl := shape_nil hy1
  have hm : Tryz.prog.eqGuardType Tryz.prog.depth 79 = false := by kernel_rfl
  have hp : Tryz.prog.stoodInHeld 79 = false := by kernel_rfl
  have hu := Tryz.underlying79
  have h3 := Tryz.underlying3
  have h9 := Tryz.underlying9
  have e : (Op.equalIn 10000 79 (.agg #[.string a0, .int .i64 a1]) (.agg #[.string b0, .int .i64 b1])).run Tryz.prog w = .ok (eqV [Value.string a0, Value.int .i64 a1] [Value.string b0, Value.int .i64 b1]) w := by
    rw [run_equalIn_struct w 9999 79 _ _ (by rw [Program.fieldsOf, hu]) hp]
    simp [Program.fieldsOf, hu, Op.eqFields, go_sem, h3, h9, codeV, eqV, eqSs, isS]
    by_cases q0 : a0.toList = b0.toList <;> by_cases q1 : a1 = b1 <;> simp [q0, q1]
  have ne : neV [Value.string a0, Value.int .i64 a1] [Value.string b0, Value.int .i64 b1] = !eqV [Value.string a0, Value.int .i64 a1] [Value.string b0, Value.int .i64 b1] := rfl
  constructor
  · simp only [Sem.run_bind]
    rw [run_eqGuard_agg _ _ _ _ _ _ _ hm]
    simp only [Result.andThen_ok, run_eql_struct]
    rw [e]; rfl
  · simp only [Sem.run_bind]
    rw [run_eqGuard_agg _ _ _ _ _ _ _ hm]
    simp only [Result.andThen_ok, run_neq_struct]
    rw [e, ne]; rfl
def eqsC : List (TypeId × Nat) := [(35, 5), (79, 7)]
theorem eqs_ok : ∀ T n, getA eqsC T = some n → EqOk Tryz.prog T n := by
  intro T n h
  simp only [eqsC, getA] at h
  (repeat' split at h) <;> first | (cases h; done) | (rename_i e; subst e; cases h; first | exact eqOk35 | exact eqOk79)
end Go.Proofs.YtkldmnladkcfeaaGreatDoor
namespace Go.Proofs.YtkldmnladkcfeaaGreatDoor
open Go.RowKit
set_option linter.unusedSimpArgs false
set_option linter.unusedVariables false
attribute [simp] cTup2_dec cTup3_dec bind_some' cAgg_dec rInt_decL rStr_decL rK_decL cList_nil stopK_n stopK_e stopK_r wrap_one wrap_zero call_eq callK_n callK_r code_skip code_label code_regionT code_regionF regionE_eq opsE_nil opsE_cons opsEK_some opsEK_none stepEK_some putK_none callE_eq callEK_n callEK_r effArgs locsL posIn X.ren renC capX X.locs capNames updB lensB effOf outNames NewC.x aMake X.inBox Cx.eff nilL_dec nilL_enc consL_dec consL_enc cTupL_dec cTupL_enc cCells_enc cCells_bools cCells_ints regK_some regK_none region_eq closeK_some closeD_some diffB memAddr dsts locX ops_nil ops_cons opsK_some opsK_none step_eq stepK_t stepK_f putK_some code_seq seqK_n seqK_e seqK_r code_cond condK_t condK_f code_block blkK_n blkK_e blkK_r code_loop code_exit code_scope code_ret startB allocs allocDst aWanted aop aCall aAppend aLen aPick aNil aMinMax aIndexAddr aIndex aSlice aExtract aFieldAddr aField aPart aLoad aLoad0 X.soft aBuild aBuildSlice aConv aConvI aConvB bytesOf aUn aBin vop iop sop zerosD rowsOf fillD placesD bound? St.ev St.put St.res dstB putT setL getA argT Cx.close closeT closeX closeB closeC annOf locsOf X.strip X.plain X.data X.cells X.rows X.int dataL ofVal ofCell ownTok Own.isEx toksApp tokAt nodupB Res.ofX aRes aResS X.outD oneOf tyAt2 tyAt3 tyAt4 tyAt5 tyAt9 tyAt21 tyAt22 tyAt23 tyAt25 tyAt26 tyAt32 tyAt33 tyAt35 tyAt57 tyAt58 tyAt60 tyAt68 tyAt75 tyAt77 tyAt79 tyAt80 tyAt82 tyAt84 tyAt86 tyAt92 tyAt94 tyAt98 tyAt102 tyAt114 tyAt131 tyAt132 tyAt134 tyAt135 tyAt140 tyAt152 tyAt156 TyI.agg TyI.isBool TyI.elem TyI.field TyI.zeroD TyI.zeroZ softD hardX isNilD bz snapC X.snap snapL flat1 flat2 flatD capsOf plainC mkFn aFunc aCallS plainCaps capLocs codeV shapeV isS eqSs eqV neV Value.cells Value.oneCell' intsOf delOf sp0 sp1 sp2 sp3 sp4 sp5 cInt_dec cBool_dec cStr_dec cK_dec rInt_k rStr_k rK_k rInt_enc rStr_enc rK_enc cInt_enc cBool_enc cStr_enc cK_enc cList_enc cAgg_enc cTup2_enc cTup3_enc stepEK_none effK_t regionM_0 regionM_1 regionM_2 regionM_3 Cx.regionCK chainK_some regionSK_cons midK_some restS_some restO idO regionLK_one regionIK_some lastK_some incK_some closeK_none code_range rangeK_some restK_n restK_e restK_r roundK_n roundOf_eq argX outC boxesC mapsC St.cont contsOf Cont.locs locsC addN reach X.ownT ownX ownC tokL tokE Cont.ren backC X.back updM oneB toksBack dedM Cx.effCall X.key wf1B wfKB Cx.mapAt Cx.lookup plainVB incOf tops Cx.incS allocsC X.keepP keepB keepM keepT restT zipT Cx.iterOf seqOf shK shVs sh1 code_regionTP code_regionFP regQ_some regQ_none tryQ_nil tryQ_cons tryK_some tryK_none oneQ_eq lastQ_some lastQ_none opsQ_nil opsQ_cons opsQ_skip opsQK_some resK_some resQ qT notIn runP_nil runP_cons runPK_some runPK_none panW_t panV_some panOf seqK_p blkK_p closeD_none aAssert Cx.panAt Cx.panF stopK_p
attribute [simp] ty2 ty3 ty4 ty5 ty9 ty21 ty22 ty23 ty25 ty26 ty32 ty33 ty35 ty57 ty58 ty60 ty68 ty75 ty77 ty79 ty80 ty82 ty84 ty86 ty92 ty94 ty98 ty102 ty114 ty131 ty132 ty134 ty135 ty140 ty152 ty156
end Go.Proofs.YtkldmnladkcfeaaGreatDoor
namespace Go.Proofs.YtkldmnladkcfeaaGreatDoor
open Go.RowKit
set_option linter.unusedSimpArgs false
set_option linter.unusedVariables false
theorem limp_cons {a b : D} {s t : List D} (h : DImp a b) (g : LImp s t) : LImp (a :: s) (b :: t) := ⟨b, t, rfl, h, g⟩
structure Spn where
  lo : Int
  hi : Int
structure Prp where
  name : ByteArray
  err : Int
structure Knd where
  name : ByteArray
  props : List Spn
structure Tbl where
  props : List Prp
  kinds : List Knd
  purity : Int
instance : Inhabited Spn := ⟨⟨0, 0⟩⟩
instance : Inhabited Prp := ⟨⟨ByteArray.empty, 0⟩⟩
instance : Inhabited Knd := ⟨⟨ByteArray.empty, []⟩⟩
instance : Inhabited Tbl := ⟨⟨[], [], 0⟩⟩
def rSpn : Row Spn := ⟨2, fun x => [DI x.lo, DI x.hi], fun d => match d with | [.v (.int .i64 a0), .v (.int .i64 a1)] => some ⟨a0, a1⟩ | _ => none, fun _ => rfl, fun d x h => by
  split at h
  · cases h; exact LImp.refl _
  · cases h⟩
theorem rSpn_enc (x : Spn) : rSpn.enc x = [DI x.lo, DI x.hi] := rfl
theorem rSpn_k : rSpn.k = 2 := rfl
theorem rSpn_dec (x : Spn) : rSpn.dec [DI x.lo, DI x.hi] = some x := rSpn.de x
theorem rSpn_decL (l : List Spn) : (cList rSpn).dec (.sl 2 (l.map rSpn.enc)) = some l := cList_dec rSpn l 2 rfl
def rPrp : Row Prp := ⟨2, fun x => [DS x.name, DI x.err], fun d => match d with | [.v (.string a0), .v (.int .i64 a1)] => some ⟨a0, a1⟩ | _ => none, fun _ => rfl, fun d x h => by
  split at h
  · cases h; exact LImp.refl _
  · cases h⟩
theorem rPrp_enc (x : Prp) : rPrp.enc x = [DS x.name, DI x.err] := rfl
theorem rPrp_k : rPrp.k = 2 := rfl
theorem rPrp_dec (x : Prp) : rPrp.dec [DS x.name, DI x.err] = some x := rPrp.de x
theorem rPrp_decL (l : List Prp) : (cList rPrp).dec (.sl 2 (l.map rPrp.enc)) = some l := cList_dec rPrp l 2 rfl
def rKnd : Row Knd := ⟨2, fun x => [DS x.name, .sl 2 (x.props.map rSpn.enc)], fun d => match d with
  | [.v (.string a0), y] => ((cList rSpn).dec y).map fun l => ⟨a0, l⟩
  | _ => none, fun x => by simp [DS, rSpn_decL], fun d x h => by
  split at h
  · simp only [Option.map_eq_some_iff] at h
    obtain ⟨o, ho, rfl⟩ := h
    exact limp_cons (DImp.refl _) (limp_cons ((cList rSpn).ed _ _ ho) (LImp.refl _))
  · cases h⟩
theorem rKnd_enc (x : Knd) : rKnd.enc x = [DS x.name, .sl 2 (x.props.map rSpn.enc)] := rfl
theorem rKnd_k : rKnd.k = 2 := rfl
theorem rKnd_dec (x : Knd) : rKnd.dec [DS x.name, .sl 2 (x.props.map rSpn.enc)] = some x := rKnd.de x
theorem rKnd_decL (l : List Knd) : (cList rKnd).dec (.sl 2 (l.map rKnd.enc)) = some l := cList_dec rKnd l 2 rfl
def rTbl : Row Tbl := ⟨3, fun x => [.sl 2 (x.props.map rPrp.enc), .sl 2 (x.kinds.map rKnd.enc), DI x.purity], fun d => match d with
  | [a, b, .v (.int .i64 n)] => ((cList rPrp).dec a).bind fun p => ((cList rKnd).dec b).map fun k => ⟨p, k, n⟩
  | _ => none, fun x => by simp [DI, rPrp_decL, rKnd_decL], fun d x h => by
  split at h
  · simp only [Option.bind_eq_some_iff, Option.map_eq_some_iff] at h
    obtain ⟨p, hp, k, hk, rfl⟩ := h
    exact limp_cons ((cList rPrp).ed _ _ hp) (limp_cons ((cList rKnd).ed _ _ hk) (limp_cons (DImp.refl _) (LImp.refl _)))
  · cases h⟩
theorem rTbl_enc (x : Tbl) : rTbl.enc x = [.sl 2 (x.props.map rPrp.enc), .sl 2 (x.kinds.map rKnd.enc), DI x.purity] := rfl
theorem rTbl_dec (x : Tbl) : rTbl.dec [.sl 2 (x.props.map rPrp.enc), .sl 2 (x.kinds.map rKnd.enc), DI x.purity] = some x := rTbl.de x
def inR (n lo hi : Int) : Bool := decide (lo ≤ n) && decide (n ≤ hi)
theorem inR_iff {n lo hi : Int} : inR n lo hi = true ↔ lo ≤ n ∧ n ≤ hi := by simp [inR]
def findI {α : Type} (f : Nat → α → Int) : Nat → List α → Int × Int
  | _, [] => (0, 0)
  | i, a :: t => if f i a = 0 then findI f (i + 1) t else ((i : Int), f i a)
theorem findI_from {α : Type} (f : Nat → α → Int) : ∀ (l : List α) (i : Nat), (findI f i l = (0, 0) ∧ ∀ k (h : k < l.length), f (i + k) l[k] = 0) ∨ ∃ k, ∃ h : k < l.length, findI f i l = (((i + k : Nat) : Int), f (i + k) l[k]) ∧ ¬ f (i + k) l[k] = 0 ∧ ∀ j (hj : j < l.length), j < k → f (i + j) l[j] = 0
  | [], i => .inl ⟨rfl, fun k h => absurd h (by simp)⟩
  | a :: t, i => by
    by_cases ha : f i a = 0
    · rcases findI_from f t (i + 1) with ⟨h1, h2⟩ | ⟨k, hk, h1, h2, h3⟩
      · refine .inl ⟨by rw [findI, if_pos ha]; exact h1, fun k h => ?_⟩
        cases k with
        | zero => simpa using ha
        | succ k => have := h2 k (by simpa using h); simpa [Nat.add_assoc, Nat.add_comm 1 k] using this
      · have e : i + 1 + k = i + (k + 1) := by omega
        rw [e] at h1 h2
        refine .inr ⟨k + 1, by simpa using hk, by rw [findI, if_pos ha]; simpa using h1, by simpa using h2, fun j hj hjk => ?_⟩
        cases j with
        | zero => simpa using ha
        | succ j => have := h3 j (by simpa using hj) (by omega); simpa [Nat.add_assoc, Nat.add_comm 1 j] using this
    · exact .inr ⟨0, by simp, by rw [findI, if_neg ha]; simp, by simpa using ha, fun j _ h => absurd h (by omega)⟩
theorem findI_cases {α : Type} (f : Nat → α → Int) (l : List α) : (findI f 0 l = (0, 0) ∧ ∀ k (h : k < l.length), f k l[k] = 0) ∨ ∃ k, ∃ h : k < l.length, findI f 0 l = ((k : Int), f k l[k]) ∧ ¬ f k l[k] = 0 ∧ ∀ j (hj : j < l.length), j < k → f j l[j] = 0 := by
  have := findI_from f l 0
  simpa using this
def nmAt (s : ByteArray) (i : Nat) : Bool := !(!(byteAt s i == 45) && !inR (byteAt s i) 97 122) && !(decide (0 < i) && byteAt s i == 45 && byteAt s (i - 1) == 45)
def refName (s : ByteArray) : Bool := inR s.size 1 20 && !(byteAt s 0 == 45) && !(byteAt s (s.size - 1) == 45) && decide (∀ i, i < s.size → nmAt s i = true)
def namedE (s : ByteArray) (l : List ByteArray) : Int := if refName s = false then 6 else if l.any (fun x => x.toList == s.toList) then 5 else 0
def spanE (s : Spn) (lo hi : Int) : Int := if !inR s.lo lo hi || !inR s.hi lo hi then 7 else if s.hi < s.lo then 2 else 0
def vSpan (s : Spn) : Int := spanE s 0 100000
def rangesE (l : List Spn) (many : Int) : Int := if ¬ (l.length : Int) = many then 3 else if l.any (fun s => vSpan s == 7) then 7 else if l.any (fun s => vSpan s == 2) then 2 else 0
def prpE (x : Tbl) (i : Nat) (p : Prp) : Int :=
  if namedE p.name ((x.props.take i).map (·.name)) = 0 then (if inR p.err 0 10000 = false then 7 else 0) else namedE p.name ((x.props.take i).map (·.name))
def kndE (x : Tbl) (i : Nat) (k : Knd) : Int :=
  if namedE k.name ((x.kinds.take i).map (·.name)) = 0 then rangesE k.props x.props.length else namedE k.name ((x.kinds.take i).map (·.name))
def chk (x : Tbl) : Int × Int × Int :=
  if inR x.props.length 1 5 = false ∨ inR x.kinds.length 1 8 = false then (1, 0, 3) else if inR x.purity 1 1000 = false then (1, 0, 7) else
  if ¬ (findI (prpE x) 0 x.props).2 = 0 then (2, findI (prpE x) 0 x.props) else
  if ¬ (findI (kndE x) 0 x.kinds).2 = 0 then (3, findI (kndE x) 0 x.kinds) else (0, 0, 0)
def okT (x : Tbl) : Prop := (chk x).2.2 = 0
instance (x : Tbl) : Decidable (okT x) := inferInstanceAs (Decidable (_ = _))
def badR (n : Int) : Bool := !(n == -1) && !inR n 0 100000
def readE (x : Tbl) (l : List Int) : Int := if ¬ (chk x).2.2 = 0 then (chk x).2.2 else if ¬ l.length = x.props.length then 3 else if l.any badR then 7 else 0
end Go.Proofs.YtkldmnladkcfeaaGreatDoor
namespace Go.Proofs.YtkldmnladkcfeaaGreatDoor
open Go.RowKit
set_option linter.unusedSimpArgs false
set_option linter.unusedVariables false
def fuel : Nat := 281474976710656
def mkCx (l : List (Nat × (List D → Option D))) (N : Nat) (kp : Nat → List (Nat × Option Nat)) (kb : List (Nat × Nat × Nat)) : Cx := { Γ := tys, eqs := eqsC, Δ := delOf l, N := N, F := fuel, kp := kp, kb := kb }
attribute [simp] mkCx eqsC
theorem mkCx_ok {l : List (Nat × (List D → Option D))} (h : DelOk Tryz.prog (delOf l)) (N : Nat) (kp : Nat → List (Nat × Option Nat)) (kb : List (Nat × Nat × Nat)) : CxOk Tryz.prog (mkCx l N kp kb) :=
  ⟨tys_ok, eqs_ok, h, (fun _ _ _ _ _ _ _ h => by cases h), by kernel_rfl, (fun _ _ h => by cases h), pan_none, seq_none⟩
def mkCxE (l : List (Nat × (List D → Option D))) (le : List (Nat × EffSp)) (N : Nat) (kp : Nat → List (Nat × Option Nat)) (kb : List (Nat × Nat × Nat)) (df : Nat → List (Nat × Nat)) (md : Nat → Nat) (ks : List (TypeId × Nat)) (sq : List (Nat × (List D → Option (List (List Value))))) : Cx := { Γ := tys, eqs := eqsC, Δ := delOf l, N := N, F := fuel, kp := kp, kb := kb, Δe := effOf le, diff := df, md := md, keys := ks, seq := seqOf sq }
attribute [simp] mkCxE
theorem mkCxE_ok {l : List (Nat × (List D → Option D))} (h : DelOk Tryz.prog (delOf l)) {le : List (Nat × EffSp)} (he : EffOk Tryz.prog (effOf le)) {ks : List (TypeId × Nat)} (hk : ∀ K sh, getA ks K = some sh → KeyOk Tryz.prog K sh) {sq : List (Nat × (List D → Option (List (List Value))))} (hs : SeqOk Tryz.prog (seqOf sq)) (N : Nat) (kp : Nat → List (Nat × Option Nat)) (kb : List (Nat × Nat × Nat)) (df : Nat → List (Nat × Nat)) (md : Nat → Nat) : CxOk Tryz.prog (mkCxE l le N kp kb df md ks sq) :=
  ⟨tys_ok, eqs_ok, h, he, by kernel_rfl, hk, pan_none, hs⟩
def mkCxP (l : List (Nat × (List D → Option D))) (lp : List (Nat × (List D → Option Value))) (N : Nat) (kp : Nat → List (Nat × Option Nat)) (kb : List (Nat × Nat × Nat)) (df : Nat → List (Nat × Nat)) (pq : Nat → List (Nat × List Nat)) : Cx := { Γ := tys, eqs := eqsC, Δ := delOf l, N := N, F := fuel, kp := kp, kb := kb, diff := df, Δp := panOf lp, pan := true, pq := pq }
attribute [simp] mkCxP
theorem mkCxP_ok {l : List (Nat × (List D → Option D))} (h : DelOk Tryz.prog (delOf l)) {lp : List (Nat × (List D → Option Value))} (hp : PanOk Tryz.prog (panOf lp)) (N : Nat) (kp : Nat → List (Nat × Option Nat)) (kb : List (Nat × Nat × Nat)) (df : Nat → List (Nat × Nat)) (pq : Nat → List (Nat × List Nat)) : CxOk Tryz.prog (mkCxP l lp N kp kb df pq) :=
  ⟨tys_ok, eqs_ok, h, (fun _ _ _ _ _ _ _ h => by cases h), by kernel_rfl, (fun _ _ h => by cases h), hp, seq_none⟩
theorem keys_nil : ∀ (K : TypeId) (sh : Nat), getA ([] : List (TypeId × Nat)) K = some sh → KeyOk Tryz.prog K sh := fun _ _ h => by cases h
theorem wrap_small (x : Int) (h1 : -9223372036854775808 ≤ x) (h2 : x ≤ 9223372036854775807) : IntKind.i64.wrap x = x := IntWalk.i64_in _ ⟨h1, h2⟩
theorem getD_at {α : Type} (l : List α) (i : Nat) (d : α) (h : i < l.length) : l.getD i d = l[i] := by simp [List.getD, h]
theorem mul_bd {a b A B : Int} (h0 : 0 ≤ a) (h1 : a ≤ A) (h2 : 0 ≤ b) (h3 : b ≤ B) : 0 ≤ a * b ∧ a * b ≤ A * B := ⟨Int.mul_nonneg h0 h2, Int.mul_le_mul h1 h3 h2 (by omega)⟩
theorem any_at {α : Type} (p : α → Bool) {l : List α} {k : Nat} (h : k < l.length) (hp : p l[k] = true) : l.any p = true := by
  rw [List.any_eq_true]; exact ⟨_, List.getElem_mem h, hp⟩
theorem any_not {α : Type} (p : α → Bool) {l : List α} (h : ∀ k (hk : k < l.length), p l[k] = false) : l.any p = false := by
  rw [List.any_eq_false]; intro x hx
  obtain ⟨k, hk, rfl⟩ := List.getElem_of_mem hx
  rw [h k hk]; simp
theorem first_is {α : Type} (p : α → Bool) (l : List α) : (l.any p = false ∧ ∀ k (hk : k < l.length), p l[k] = false) ∨ ∃ k, ∃ h : k < l.length, l.any p = true ∧ p l[k] = true ∧ ∀ j (hj : j < l.length), j < k → p l[j] = false := by
  rcases first_not (fun k => !((l[k]?).elim false p)) l.length with h | ⟨k, hk, h1, h2⟩
  · have : ∀ k (hk : k < l.length), p l[k] = false := fun k hk => by
      have := h k hk
      simpa [List.getElem?_eq_getElem hk] using this
    exact .inl ⟨any_not p this, this⟩
  · have h1' : p l[k] = true := by simpa [List.getElem?_eq_getElem hk] using h1
    refine .inr ⟨k, hk, any_at p hk h1', h1', fun j hj hjk => ?_⟩
    have := h2 j hjk
    simpa [List.getElem?_eq_getElem hj] using this
end Go.Proofs.YtkldmnladkcfeaaGreatDoor
