/-
  What is known of the types of the colour chapter. Conditions: none.
-/
import Derived.Test.YtpkjmnfgpbliaaaProg
import Derived.Test.YtpkjmnfgpbliaaaZAmB
import Derived.WalkKit
import Derived.Test.YtpkjmnfgpbliaaaZAmC
namespace Go.Proofs.Ytpkjmnfgpbliaaa
open Go.RowKit
set_option linter.unusedSimpArgs false
set_option linter.unusedVariables false

theorem tyOk_agg {P : Program} {T : TypeId} {i : TyI} (und : P.underlying T = some i.desc) (inf : (P.info? T).map (fun f => (f.size, f.bytes, f.zero)) = some (i.size, i.bytes, some i.zero)) (zsz : i.zero.cells.size = i.size) (zone : i.zero.cells.toList.all (·.oneCell') = true) (ha : i.agg = true) (hz : ∃ cs, i.zero = .agg cs) : TyOk P T i := by
  refine ⟨und, ?_, zsz, fun v hv => List.all_eq_true.1 zone v hv, fun _ => hz, fun h => by rw [ha] at h; cases h⟩
  cases h : P.info? T with
  | none => rw [h] at inf; cases inf
  | some f =>
    rw [h] at inf
    simp only [Option.map_some, Option.some.injEq, Prod.mk.injEq] at inf
    exact ⟨f, rfl, inf.1, inf.2.1, inf.2.2⟩
theorem tyOk_one {P : Program} {T : TypeId} {i : TyI} (und : P.underlying T = some i.desc) (inf : (P.info? T).map (fun f => (f.size, f.bytes, f.zero)) = some (i.size, i.bytes, some i.zero)) (zsz : i.zero.cells.size = i.size) (zone : i.zero.cells.toList.all (·.oneCell') = true) (ha : i.agg = false) (hz : i.zero.oneCell' = true) : TyOk P T i := by
  refine ⟨und, ?_, zsz, fun v hv => List.all_eq_true.1 zone v hv, (fun h => by rw [ha] at h; cases h), fun _ => hz⟩
  cases h : P.info? T with
  | none => rw [h] at inf; cases inf
  | some f =>
    rw [h] at inf
    simp only [Option.map_some, Option.some.injEq, Prod.mk.injEq] at inf
    exact ⟨f, rfl, inf.1, inf.2.1, inf.2.2⟩
def ty2 : TyI := ⟨.int .i64, 1, 8, .int .i64 0⟩
theorem tyOk2 : TyOk Try.prog 2 ty2 := tyOk_one Try.underlying2 (by kernel_rfl) rfl rfl rfl rfl
def ty3 : TyI := ⟨.int .i64, 1, 8, .int .i64 0⟩
theorem tyOk3 : TyOk Try.prog 3 ty3 := tyOk_one Try.underlying3 (by kernel_rfl) rfl rfl rfl rfl
def ty4 : TyI := ⟨.bool, 1, 1, .bool false⟩
theorem tyOk4 : TyOk Try.prog 4 ty4 := tyOk_one Try.underlying4 (by kernel_rfl) rfl rfl rfl rfl
def ty5 : TyI := ⟨.int .u8, 1, 1, .int .u8 0⟩
theorem tyOk5 : TyOk Try.prog 5 ty5 := tyOk_one Try.underlying5 (by kernel_rfl) rfl rfl rfl rfl
def ty6 : TyI := ⟨.int .u8, 1, 1, .int .u8 0⟩
theorem tyOk6 : TyOk Try.prog 6 ty6 := tyOk_one Try.underlying6 (by kernel_rfl) rfl rfl rfl rfl
def ty7 : TyI := ⟨.struct #[{ name := "x", type := 2, offset := 0, embedded := false, tag := "", pkgPath := "runtime", byteOffset := 0 }, { name := "y", type := 3, offset := 1, embedded := false, tag := "", pkgPath := "runtime", byteOffset := 8 }, { name := "signed", type := 4, offset := 2, embedded := false, tag := "", pkgPath := "runtime", byteOffset := 16 }, { name := "code", type := 6, offset := 3, embedded := false, tag := "", pkgPath := "runtime", byteOffset := 17 }], 4, 24, .agg #[.int .i64 0, .int .i64 0, .bool false, .int .u8 0]⟩
theorem tyOk7 : TyOk Try.prog 7 ty7 := tyOk_agg Try.underlying7 (by kernel_rfl) rfl rfl rfl ⟨_, rfl⟩
def ty8 : TyI := ⟨.struct #[{ name := "x", type := 2, offset := 0, embedded := false, tag := "", pkgPath := "runtime", byteOffset := 0 }, { name := "y", type := 3, offset := 1, embedded := false, tag := "", pkgPath := "runtime", byteOffset := 8 }, { name := "signed", type := 4, offset := 2, embedded := false, tag := "", pkgPath := "runtime", byteOffset := 16 }, { name := "code", type := 6, offset := 3, embedded := false, tag := "", pkgPath := "runtime", byteOffset := 17 }], 4, 24, .agg #[.int .i64 0, .int .i64 0, .bool false, .int .u8 0]⟩
theorem tyOk8 : TyOk Try.prog 8 ty8 := tyOk_agg Try.underlying8 (by kernel_rfl) rfl rfl rfl ⟨_, rfl⟩
def ty9 : TyI := ⟨.string, 1, 16, .string ByteArray.empty⟩
theorem tyOk9 : TyOk Try.prog 9 ty9 := tyOk_one Try.underlying9 (by kernel_rfl) rfl rfl rfl rfl
def ty10 : TyI := ⟨.string, 1, 16, .string ByteArray.empty⟩
theorem tyOk10 : TyOk Try.prog 10 ty10 := tyOk_one Try.underlying10 (by kernel_rfl) rfl rfl rfl rfl
def ty11 : TyI := ⟨.string, 1, 16, .string ByteArray.empty⟩
theorem tyOk11 : TyOk Try.prog 11 ty11 := tyOk_one Try.underlying11 (by kernel_rfl) rfl rfl rfl rfl
def ty12 : TyI := ⟨.int .u64, 1, 8, .int .u64 0⟩
theorem tyOk12 : TyOk Try.prog 12 ty12 := tyOk_one Try.underlying12 (by kernel_rfl) rfl rfl rfl rfl
def ty13 : TyI := ⟨.struct #[{ name := "msg", type := 9, offset := 0, embedded := false, tag := "", pkgPath := "runtime", byteOffset := 0 }, { name := "addr", type := 12, offset := 1, embedded := false, tag := "", pkgPath := "runtime", byteOffset := 16 }], 2, 24, .agg #[.string ByteArray.empty, .int .u64 0]⟩
theorem tyOk13 : TyOk Try.prog 13 ty13 := tyOk_agg Try.underlying13 (by kernel_rfl) rfl rfl rfl ⟨_, rfl⟩
def ty14 : TyI := ⟨.struct #[{ name := "msg", type := 9, offset := 0, embedded := false, tag := "", pkgPath := "runtime", byteOffset := 0 }, { name := "addr", type := 12, offset := 1, embedded := false, tag := "", pkgPath := "runtime", byteOffset := 16 }], 2, 24, .agg #[.string ByteArray.empty, .int .u64 0]⟩
theorem tyOk14 : TyOk Try.prog 14 ty14 := tyOk_agg Try.underlying14 (by kernel_rfl) rfl rfl rfl ⟨_, rfl⟩
def ty15 : TyI := ⟨.pointer 184, 1, 8, .pointer none⟩
theorem tyOk15 : TyOk Try.prog 15 ty15 := tyOk_one Try.underlying15 (by kernel_rfl) rfl rfl rfl rfl
def ty16 : TyI := ⟨.pointer 187, 1, 8, .pointer none⟩
theorem tyOk16 : TyOk Try.prog 16 ty16 := tyOk_one Try.underlying16 (by kernel_rfl) rfl rfl rfl rfl
def ty17 : TyI := ⟨.pointer 196, 1, 8, .pointer none⟩
theorem tyOk17 : TyOk Try.prog 17 ty17 := tyOk_one Try.underlying17 (by kernel_rfl) rfl rfl rfl rfl
def ty18 : TyI := ⟨.struct #[{ name := "typ", type := 17, offset := 0, embedded := false, tag := "", pkgPath := "internal/runtime/maps", byteOffset := 0 }], 1, 8, .agg #[.pointer none]⟩
theorem tyOk18 : TyOk Try.prog 18 ty18 := tyOk_agg Try.underlying18 (by kernel_rfl) rfl rfl rfl ⟨_, rfl⟩
def ty19 : TyI := ⟨.struct #[{ name := "typ", type := 17, offset := 0, embedded := false, tag := "", pkgPath := "internal/runtime/maps", byteOffset := 0 }], 1, 8, .agg #[.pointer none]⟩
theorem tyOk19 : TyOk Try.prog 19 ty19 := tyOk_agg Try.underlying19 (by kernel_rfl) rfl rfl rfl ⟨_, rfl⟩
def ty21 : TyI := ⟨.int .i32, 1, 4, .int .i32 0⟩
theorem tyOk21 : TyOk Try.prog 21 ty21 := tyOk_one Try.underlying21 (by kernel_rfl) rfl rfl rfl rfl
def ty22 : TyI := ⟨.slice 67, 1, 24, .slice none 0 0⟩
theorem tyOk22 : TyOk Try.prog 22 ty22 := tyOk_one Try.underlying22 (by kernel_rfl) rfl rfl rfl rfl
def ty23 : TyI := ⟨.struct #[{ name := "Lo", type := 3, offset := 0, embedded := false, tag := "", pkgPath := "", byteOffset := 0 }, { name := "Hi", type := 3, offset := 1, embedded := false, tag := "", pkgPath := "", byteOffset := 8 }], 2, 16, .agg #[.int .i64 0, .int .i64 0]⟩
theorem tyOk23 : TyOk Try.prog 23 ty23 := tyOk_agg Try.underlying23 (by kernel_rfl) rfl rfl rfl ⟨_, rfl⟩
def ty24 : TyI := ⟨.struct #[{ name := "Lo", type := 3, offset := 0, embedded := false, tag := "", pkgPath := "", byteOffset := 0 }, { name := "Hi", type := 3, offset := 1, embedded := false, tag := "", pkgPath := "", byteOffset := 8 }], 2, 16, .agg #[.int .i64 0, .int .i64 0]⟩
theorem tyOk24 : TyOk Try.prog 24 ty24 := tyOk_agg Try.underlying24 (by kernel_rfl) rfl rfl rfl ⟨_, rfl⟩
def ty25 : TyI := ⟨.struct #[{ name := "Colours", type := 22, offset := 0, embedded := false, tag := "", pkgPath := "", byteOffset := 0 }, { name := "Keep", type := 24, offset := 1, embedded := false, tag := "", pkgPath := "", byteOffset := 24 }, { name := "Rinse", type := 3, offset := 3, embedded := false, tag := "", pkgPath := "", byteOffset := 40 }], 4, 48, .agg #[.slice none 0 0, .int .i64 0, .int .i64 0, .int .i64 0]⟩
theorem tyOk25 : TyOk Try.prog 25 ty25 := tyOk_agg Try.underlying25 (by kernel_rfl) rfl rfl rfl ⟨_, rfl⟩
def ty26 : TyI := ⟨.struct #[{ name := "Colours", type := 22, offset := 0, embedded := false, tag := "", pkgPath := "", byteOffset := 0 }, { name := "Keep", type := 24, offset := 1, embedded := false, tag := "", pkgPath := "", byteOffset := 24 }, { name := "Rinse", type := 3, offset := 3, embedded := false, tag := "", pkgPath := "", byteOffset := 40 }], 4, 48, .agg #[.slice none 0 0, .int .i64 0, .int .i64 0, .int .i64 0]⟩
theorem tyOk26 : TyOk Try.prog 26 ty26 := tyOk_agg Try.underlying26 (by kernel_rfl) rfl rfl rfl ⟨_, rfl⟩
def ty27 : TyI := ⟨.struct #[{ name := "Colour", type := 3, offset := 0, embedded := false, tag := "", pkgPath := "", byteOffset := 0 }, { name := "Grams", type := 3, offset := 1, embedded := false, tag := "", pkgPath := "", byteOffset := 8 }], 2, 16, .agg #[.int .i64 0, .int .i64 0]⟩
theorem tyOk27 : TyOk Try.prog 27 ty27 := tyOk_agg Try.underlying27 (by kernel_rfl) rfl rfl rfl ⟨_, rfl⟩
def ty28 : TyI := ⟨.struct #[{ name := "Colour", type := 3, offset := 0, embedded := false, tag := "", pkgPath := "", byteOffset := 0 }, { name := "Grams", type := 3, offset := 1, embedded := false, tag := "", pkgPath := "", byteOffset := 8 }], 2, 16, .agg #[.int .i64 0, .int .i64 0]⟩
theorem tyOk28 : TyOk Try.prog 28 ty28 := tyOk_agg Try.underlying28 (by kernel_rfl) rfl rfl rfl ⟨_, rfl⟩
def ty29 : TyI := ⟨.struct #[{ name := "Before", type := 3, offset := 0, embedded := false, tag := "", pkgPath := "", byteOffset := 0 }, { name := "Rinses", type := 3, offset := 1, embedded := false, tag := "", pkgPath := "", byteOffset := 8 }, { name := "Batch", type := 28, offset := 2, embedded := false, tag := "", pkgPath := "", byteOffset := 16 }], 4, 32, .agg #[.int .i64 0, .int .i64 0, .int .i64 0, .int .i64 0]⟩
theorem tyOk29 : TyOk Try.prog 29 ty29 := tyOk_agg Try.underlying29 (by kernel_rfl) rfl rfl rfl ⟨_, rfl⟩
def ty30 : TyI := ⟨.struct #[{ name := "Before", type := 3, offset := 0, embedded := false, tag := "", pkgPath := "", byteOffset := 0 }, { name := "Rinses", type := 3, offset := 1, embedded := false, tag := "", pkgPath := "", byteOffset := 8 }, { name := "Batch", type := 28, offset := 2, embedded := false, tag := "", pkgPath := "", byteOffset := 16 }], 4, 32, .agg #[.int .i64 0, .int .i64 0, .int .i64 0, .int .i64 0]⟩
theorem tyOk30 : TyOk Try.prog 30 ty30 := tyOk_agg Try.underlying30 (by kernel_rfl) rfl rfl rfl ⟨_, rfl⟩
def ty31 : TyI := ⟨.int .i64, 1, 8, .int .i64 0⟩
theorem tyOk31 : TyOk Try.prog 31 ty31 := tyOk_one Try.underlying31 (by kernel_rfl) rfl rfl rfl rfl
def ty40 : TyI := ⟨.slice 28, 1, 24, .slice none 0 0⟩
theorem tyOk40 : TyOk Try.prog 40 ty40 := tyOk_one Try.underlying40 (by kernel_rfl) rfl rfl rfl rfl
def ty41 : TyI := ⟨.array 2 3, 2, 16, .agg #[.int .i64 0, .int .i64 0]⟩
theorem tyOk41 : TyOk Try.prog 41 ty41 := tyOk_agg Try.underlying41 (by kernel_rfl) rfl rfl rfl ⟨_, rfl⟩
def ty42 : TyI := ⟨.slice 3, 1, 24, .slice none 0 0⟩
theorem tyOk42 : TyOk Try.prog 42 ty42 := tyOk_one Try.underlying42 (by kernel_rfl) rfl rfl rfl rfl
def ty43 : TyI := ⟨.struct #[{ name := "Starts", type := 41, offset := 0, embedded := false, tag := "", pkgPath := "", byteOffset := 0 }, { name := "Order", type := 42, offset := 2, embedded := false, tag := "", pkgPath := "", byteOffset := 16 }, { name := "Rinses", type := 42, offset := 3, embedded := false, tag := "", pkgPath := "", byteOffset := 40 }, { name := "Rush", type := 28, offset := 4, embedded := false, tag := "", pkgPath := "", byteOffset := 64 }], 6, 80, .agg #[.int .i64 0, .int .i64 0, .slice none 0 0, .slice none 0 0, .int .i64 0, .int .i64 0]⟩
theorem tyOk43 : TyOk Try.prog 43 ty43 := tyOk_agg Try.underlying43 (by kernel_rfl) rfl rfl rfl ⟨_, rfl⟩
def ty44 : TyI := ⟨.struct #[{ name := "Starts", type := 41, offset := 0, embedded := false, tag := "", pkgPath := "", byteOffset := 0 }, { name := "Order", type := 42, offset := 2, embedded := false, tag := "", pkgPath := "", byteOffset := 16 }, { name := "Rinses", type := 42, offset := 3, embedded := false, tag := "", pkgPath := "", byteOffset := 40 }, { name := "Rush", type := 28, offset := 4, embedded := false, tag := "", pkgPath := "", byteOffset := 64 }], 6, 80, .agg #[.int .i64 0, .int .i64 0, .slice none 0 0, .slice none 0 0, .int .i64 0, .int .i64 0]⟩
theorem tyOk44 : TyOk Try.prog 44 ty44 := tyOk_agg Try.underlying44 (by kernel_rfl) rfl rfl rfl ⟨_, rfl⟩
def ty52 : TyI := ⟨.array 2 42, 2, 48, .agg #[.slice none 0 0, .slice none 0 0]⟩
theorem tyOk52 : TyOk Try.prog 52 ty52 := tyOk_agg Try.underlying52 (by kernel_rfl) rfl rfl rfl ⟨_, rfl⟩
def ty59 : TyI := ⟨.int .u16, 1, 2, .int .u16 0⟩
theorem tyOk59 : TyOk Try.prog 59 ty59 := tyOk_one Try.underlying59 (by kernel_rfl) rfl rfl rfl rfl
def ty60 : TyI := ⟨.array 3 59, 3, 6, .agg #[.int .u16 0, .int .u16 0, .int .u16 0]⟩
theorem tyOk60 : TyOk Try.prog 60 ty60 := tyOk_agg Try.underlying60 (by kernel_rfl) rfl rfl rfl ⟨_, rfl⟩
def ty61 : TyI := ⟨.struct #[{ name := "Before", type := 5, offset := 0, embedded := false, tag := "", pkgPath := "", byteOffset := 0 }, { name := "Stay", type := 59, offset := 1, embedded := false, tag := "", pkgPath := "", byteOffset := 2 }, { name := "Keeps", type := 60, offset := 2, embedded := false, tag := "", pkgPath := "", byteOffset := 4 }, { name := "Rinses", type := 5, offset := 5, embedded := false, tag := "", pkgPath := "", byteOffset := 10 }], 6, 12, .agg #[.int .u8 0, .int .u16 0, .int .u16 0, .int .u16 0, .int .u16 0, .int .u8 0]⟩
theorem tyOk61 : TyOk Try.prog 61 ty61 := tyOk_agg Try.underlying61 (by kernel_rfl) rfl rfl rfl ⟨_, rfl⟩
def ty62 : TyI := ⟨.struct #[{ name := "Before", type := 5, offset := 0, embedded := false, tag := "", pkgPath := "", byteOffset := 0 }, { name := "Stay", type := 59, offset := 1, embedded := false, tag := "", pkgPath := "", byteOffset := 2 }, { name := "Keeps", type := 60, offset := 2, embedded := false, tag := "", pkgPath := "", byteOffset := 4 }, { name := "Rinses", type := 5, offset := 5, embedded := false, tag := "", pkgPath := "", byteOffset := 10 }], 6, 12, .agg #[.int .u8 0, .int .u16 0, .int .u16 0, .int .u16 0, .int .u16 0, .int .u8 0]⟩
theorem tyOk62 : TyOk Try.prog 62 ty62 := tyOk_agg Try.underlying62 (by kernel_rfl) rfl rfl rfl ⟨_, rfl⟩
def ty66 : TyI := ⟨.struct #[{ name := "Name", type := 9, offset := 0, embedded := false, tag := "", pkgPath := "", byteOffset := 0 }, { name := "Stay", type := 24, offset := 1, embedded := false, tag := "", pkgPath := "", byteOffset := 16 }, { name := "Shows", type := 42, offset := 3, embedded := false, tag := "", pkgPath := "", byteOffset := 32 }], 4, 56, .agg #[.string ByteArray.empty, .int .i64 0, .int .i64 0, .slice none 0 0]⟩
theorem tyOk66 : TyOk Try.prog 66 ty66 := tyOk_agg Try.underlying66 (by kernel_rfl) rfl rfl rfl ⟨_, rfl⟩
def ty67 : TyI := ⟨.struct #[{ name := "Name", type := 9, offset := 0, embedded := false, tag := "", pkgPath := "", byteOffset := 0 }, { name := "Stay", type := 24, offset := 1, embedded := false, tag := "", pkgPath := "", byteOffset := 16 }, { name := "Shows", type := 42, offset := 3, embedded := false, tag := "", pkgPath := "", byteOffset := 32 }], 4, 56, .agg #[.string ByteArray.empty, .int .i64 0, .int .i64 0, .slice none 0 0]⟩
theorem tyOk67 : TyOk Try.prog 67 ty67 := tyOk_agg Try.underlying67 (by kernel_rfl) rfl rfl rfl ⟨_, rfl⟩
def ty70 : TyI := ⟨.slice 5, 1, 24, .slice none 0 0⟩
theorem tyOk70 : TyOk Try.prog 70 ty70 := tyOk_one Try.underlying70 (by kernel_rfl) rfl rfl rfl rfl
def ty77 : TyI := ⟨.struct #[{ name := "Order", type := 70, offset := 0, embedded := false, tag := "", pkgPath := "", byteOffset := 0 }, { name := "Rinses", type := 70, offset := 1, embedded := false, tag := "", pkgPath := "", byteOffset := 24 }, { name := "Truth", type := 62, offset := 2, embedded := false, tag := "", pkgPath := "", byteOffset := 48 }], 8, 64, .agg #[.slice none 0 0, .slice none 0 0, .int .u8 0, .int .u16 0, .int .u16 0, .int .u16 0, .int .u16 0, .int .u8 0]⟩
theorem tyOk77 : TyOk Try.prog 77 ty77 := tyOk_agg Try.underlying77 (by kernel_rfl) rfl rfl rfl ⟨_, rfl⟩
def ty78 : TyI := ⟨.struct #[{ name := "Order", type := 70, offset := 0, embedded := false, tag := "", pkgPath := "", byteOffset := 0 }, { name := "Rinses", type := 70, offset := 1, embedded := false, tag := "", pkgPath := "", byteOffset := 24 }, { name := "Truth", type := 62, offset := 2, embedded := false, tag := "", pkgPath := "", byteOffset := 48 }], 8, 64, .agg #[.slice none 0 0, .slice none 0 0, .int .u8 0, .int .u16 0, .int .u16 0, .int .u16 0, .int .u16 0, .int .u8 0]⟩
theorem tyOk78 : TyOk Try.prog 78 ty78 := tyOk_agg Try.underlying78 (by kernel_rfl) rfl rfl rfl ⟨_, rfl⟩
def ty80 : TyI := ⟨.struct #[{ name := "Batch", type := 28, offset := 0, embedded := false, tag := "", pkgPath := "", byteOffset := 0 }, { name := "Order", type := 70, offset := 2, embedded := false, tag := "", pkgPath := "", byteOffset := 16 }, { name := "Place", type := 5, offset := 3, embedded := false, tag := "", pkgPath := "", byteOffset := 40 }], 4, 48, .agg #[.int .i64 0, .int .i64 0, .slice none 0 0, .int .u8 0]⟩
theorem tyOk80 : TyOk Try.prog 80 ty80 := tyOk_agg Try.underlying80 (by kernel_rfl) rfl rfl rfl ⟨_, rfl⟩
def ty81 : TyI := ⟨.struct #[{ name := "Batch", type := 28, offset := 0, embedded := false, tag := "", pkgPath := "", byteOffset := 0 }, { name := "Order", type := 70, offset := 2, embedded := false, tag := "", pkgPath := "", byteOffset := 16 }, { name := "Place", type := 5, offset := 3, embedded := false, tag := "", pkgPath := "", byteOffset := 40 }], 4, 48, .agg #[.int .i64 0, .int .i64 0, .slice none 0 0, .int .u8 0]⟩
theorem tyOk81 : TyOk Try.prog 81 ty81 := tyOk_agg Try.underlying81 (by kernel_rfl) rfl rfl rfl ⟨_, rfl⟩
def ty84 : TyI := ⟨.array 2 5, 2, 2, .agg #[.int .u8 0, .int .u8 0]⟩
theorem tyOk84 : TyOk Try.prog 84 ty84 := tyOk_agg Try.underlying84 (by kernel_rfl) rfl rfl rfl ⟨_, rfl⟩
def ty85 : TyI := ⟨.struct #[{ name := "Starts", type := 84, offset := 0, embedded := false, tag := "", pkgPath := "", byteOffset := 0 }, { name := "First", type := 5, offset := 2, embedded := false, tag := "", pkgPath := "", byteOffset := 2 }, { name := "Order", type := 70, offset := 3, embedded := false, tag := "", pkgPath := "", byteOffset := 8 }], 4, 32, .agg #[.int .u8 0, .int .u8 0, .int .u8 0, .slice none 0 0]⟩
theorem tyOk85 : TyOk Try.prog 85 ty85 := tyOk_agg Try.underlying85 (by kernel_rfl) rfl rfl rfl ⟨_, rfl⟩
def ty86 : TyI := ⟨.struct #[{ name := "Starts", type := 84, offset := 0, embedded := false, tag := "", pkgPath := "", byteOffset := 0 }, { name := "First", type := 5, offset := 2, embedded := false, tag := "", pkgPath := "", byteOffset := 2 }, { name := "Order", type := 70, offset := 3, embedded := false, tag := "", pkgPath := "", byteOffset := 8 }], 4, 32, .agg #[.int .u8 0, .int .u8 0, .int .u8 0, .slice none 0 0]⟩
theorem tyOk86 : TyOk Try.prog 86 ty86 := tyOk_agg Try.underlying86 (by kernel_rfl) rfl rfl rfl ⟨_, rfl⟩
def ty89 : TyI := ⟨.array 6 59, 6, 12, .agg #[.int .u16 0, .int .u16 0, .int .u16 0, .int .u16 0, .int .u16 0, .int .u16 0]⟩
theorem tyOk89 : TyOk Try.prog 89 ty89 := tyOk_agg Try.underlying89 (by kernel_rfl) rfl rfl rfl ⟨_, rfl⟩
def ty98 : TyI := ⟨.slice 9, 1, 24, .slice none 0 0⟩
theorem tyOk98 : TyOk Try.prog 98 ty98 := tyOk_one Try.underlying98 (by kernel_rfl) rfl rfl rfl rfl
def ty101 : TyI := ⟨.pointer 106, 1, 8, .pointer none⟩
theorem tyOk101 : TyOk Try.prog 101 ty101 := tyOk_one Try.underlying101 (by kernel_rfl) rfl rfl rfl rfl
def ty104 : TyI := ⟨.map 125 127, 1, 8, .map none⟩
theorem tyOk104 : TyOk Try.prog 104 ty104 := tyOk_one Try.underlying104 (by kernel_rfl) rfl rfl rfl rfl
def ty105 : TyI := ⟨.struct #[{ name := "ClShop", type := 26, offset := 0, embedded := true, tag := "", pkgPath := "", byteOffset := 0 }, { name := "batches", type := 40, offset := 4, embedded := false, tag := "", pkgPath := "stearin/colour", byteOffset := 48 }, { name := "known", type := 104, offset := 5, embedded := false, tag := "", pkgPath := "stearin/colour", byteOffset := 72 }], 6, 80, .agg #[.slice none 0 0, .int .i64 0, .int .i64 0, .int .i64 0, .slice none 0 0, .map none]⟩
theorem tyOk105 : TyOk Try.prog 105 ty105 := tyOk_agg Try.underlying105 (by kernel_rfl) rfl rfl rfl ⟨_, rfl⟩
def ty106 : TyI := ⟨.struct #[{ name := "ClShop", type := 26, offset := 0, embedded := true, tag := "", pkgPath := "", byteOffset := 0 }, { name := "batches", type := 40, offset := 4, embedded := false, tag := "", pkgPath := "stearin/colour", byteOffset := 48 }, { name := "known", type := 104, offset := 5, embedded := false, tag := "", pkgPath := "stearin/colour", byteOffset := 72 }], 6, 80, .agg #[.slice none 0 0, .int .i64 0, .int .i64 0, .int .i64 0, .slice none 0 0, .map none]⟩
theorem tyOk106 : TyOk Try.prog 106 ty106 := tyOk_agg Try.underlying106 (by kernel_rfl) rfl rfl rfl ⟨_, rfl⟩
def ty124 : TyI := ⟨.struct #[{ name := "before", type := 3, offset := 0, embedded := false, tag := "", pkgPath := "stearin/colour", byteOffset := 0 }, { name := "left", type := 3, offset := 1, embedded := false, tag := "", pkgPath := "stearin/colour", byteOffset := 8 }], 2, 16, .agg #[.int .i64 0, .int .i64 0]⟩
theorem tyOk124 : TyOk Try.prog 124 ty124 := tyOk_agg Try.underlying124 (by kernel_rfl) rfl rfl rfl ⟨_, rfl⟩
def ty125 : TyI := ⟨.struct #[{ name := "before", type := 3, offset := 0, embedded := false, tag := "", pkgPath := "stearin/colour", byteOffset := 0 }, { name := "left", type := 3, offset := 1, embedded := false, tag := "", pkgPath := "stearin/colour", byteOffset := 8 }], 2, 16, .agg #[.int .i64 0, .int .i64 0]⟩
theorem tyOk125 : TyOk Try.prog 125 ty125 := tyOk_agg Try.underlying125 (by kernel_rfl) rfl rfl rfl ⟨_, rfl⟩
def ty126 : TyI := ⟨.struct #[{ name := "lost", type := 3, offset := 0, embedded := false, tag := "", pkgPath := "stearin/colour", byteOffset := 0 }, { name := "first", type := 3, offset := 1, embedded := false, tag := "", pkgPath := "stearin/colour", byteOffset := 8 }], 2, 16, .agg #[.int .i64 0, .int .i64 0]⟩
theorem tyOk126 : TyOk Try.prog 126 ty126 := tyOk_agg Try.underlying126 (by kernel_rfl) rfl rfl rfl ⟨_, rfl⟩
def ty127 : TyI := ⟨.struct #[{ name := "lost", type := 3, offset := 0, embedded := false, tag := "", pkgPath := "stearin/colour", byteOffset := 0 }, { name := "first", type := 3, offset := 1, embedded := false, tag := "", pkgPath := "stearin/colour", byteOffset := 8 }], 2, 16, .agg #[.int .i64 0, .int .i64 0]⟩
theorem tyOk127 : TyOk Try.prog 127 ty127 := tyOk_agg Try.underlying127 (by kernel_rfl) rfl rfl rfl ⟨_, rfl⟩
def ty151 : TyI := ⟨.slice 42, 1, 24, .slice none 0 0⟩
theorem tyOk151 : TyOk Try.prog 151 ty151 := tyOk_one Try.underlying151 (by kernel_rfl) rfl rfl rfl rfl
def ty159 : TyI := ⟨.int .u64, 1, 8, .int .u64 0⟩
theorem tyOk159 : TyOk Try.prog 159 ty159 := tyOk_one Try.underlying159 (by kernel_rfl) rfl rfl rfl rfl
def ty162 : TyI := ⟨.int .i64, 1, 8, .int .i64 0⟩
theorem tyOk162 : TyOk Try.prog 162 ty162 := tyOk_one Try.underlying162 (by kernel_rfl) rfl rfl rfl rfl
def ty170 : TyI := ⟨.int .u32, 1, 4, .int .u32 0⟩
theorem tyOk170 : TyOk Try.prog 170 ty170 := tyOk_one Try.underlying170 (by kernel_rfl) rfl rfl rfl rfl
def ty172 : TyI := ⟨.int .u64, 1, 8, .int .u64 0⟩
theorem tyOk172 : TyOk Try.prog 172 ty172 := tyOk_one Try.underlying172 (by kernel_rfl) rfl rfl rfl rfl
def ty173 : TyI := ⟨.int .u64, 1, 8, .int .u64 0⟩
theorem tyOk173 : TyOk Try.prog 173 ty173 := tyOk_one Try.underlying173 (by kernel_rfl) rfl rfl rfl rfl
def ty177 : TyI := ⟨.pointer 3, 1, 8, .pointer none⟩
theorem tyOk177 : TyOk Try.prog 177 ty177 := tyOk_one Try.underlying177 (by kernel_rfl) rfl rfl rfl rfl
def ty179 : TyI := ⟨.pointer 173, 1, 8, .pointer none⟩
theorem tyOk179 : TyOk Try.prog 179 ty179 := tyOk_one Try.underlying179 (by kernel_rfl) rfl rfl rfl rfl
def ty183 : TyI := ⟨.struct #[{ name := "_interface", type := 17, offset := 0, embedded := false, tag := "", pkgPath := "runtime", byteOffset := 0 }, { name := "concrete", type := 17, offset := 1, embedded := false, tag := "", pkgPath := "runtime", byteOffset := 8 }, { name := "asserted", type := 17, offset := 2, embedded := false, tag := "", pkgPath := "runtime", byteOffset := 16 }, { name := "missingMethod", type := 9, offset := 3, embedded := false, tag := "", pkgPath := "runtime", byteOffset := 24 }], 4, 40, .agg #[.pointer none, .pointer none, .pointer none, .string ByteArray.empty]⟩
theorem tyOk183 : TyOk Try.prog 183 ty183 := tyOk_agg Try.underlying183 (by kernel_rfl) rfl rfl rfl ⟨_, rfl⟩
def ty184 : TyI := ⟨.struct #[{ name := "_interface", type := 17, offset := 0, embedded := false, tag := "", pkgPath := "runtime", byteOffset := 0 }, { name := "concrete", type := 17, offset := 1, embedded := false, tag := "", pkgPath := "runtime", byteOffset := 8 }, { name := "asserted", type := 17, offset := 2, embedded := false, tag := "", pkgPath := "runtime", byteOffset := 16 }, { name := "missingMethod", type := 9, offset := 3, embedded := false, tag := "", pkgPath := "runtime", byteOffset := 24 }], 4, 40, .agg #[.pointer none, .pointer none, .pointer none, .string ByteArray.empty]⟩
theorem tyOk184 : TyOk Try.prog 184 ty184 := tyOk_agg Try.underlying184 (by kernel_rfl) rfl rfl rfl ⟨_, rfl⟩
def ty185 : TyI := ⟨.array 0 16, 0, 0, .agg #[]⟩
theorem tyOk185 : TyOk Try.prog 185 ty185 := tyOk_agg Try.underlying185 (by kernel_rfl) rfl rfl rfl ⟨_, rfl⟩
def ty186 : TyI := ⟨.struct #[{ name := "_", type := 185, offset := 0, embedded := false, tag := "", pkgPath := "runtime", byteOffset := 0 }], 0, 0, .agg #[]⟩
theorem tyOk186 : TyOk Try.prog 186 ty186 := tyOk_agg Try.underlying186 (by kernel_rfl) rfl rfl rfl ⟨_, rfl⟩
def ty187 : TyI := ⟨.struct #[{ name := "_", type := 185, offset := 0, embedded := false, tag := "", pkgPath := "runtime", byteOffset := 0 }], 0, 0, .agg #[]⟩
theorem tyOk187 : TyOk Try.prog 187 ty187 := tyOk_agg Try.underlying187 (by kernel_rfl) rfl rfl rfl ⟨_, rfl⟩
def ty189 : TyI := ⟨.int .u8, 1, 1, .int .u8 0⟩
theorem tyOk189 : TyOk Try.prog 189 ty189 := tyOk_one Try.underlying189 (by kernel_rfl) rfl rfl rfl rfl
def ty190 : TyI := ⟨.int .u8, 1, 1, .int .u8 0⟩
theorem tyOk190 : TyOk Try.prog 190 ty190 := tyOk_one Try.underlying190 (by kernel_rfl) rfl rfl rfl rfl
def ty192 : TyI := ⟨.pointer 5, 1, 8, .pointer none⟩
theorem tyOk192 : TyOk Try.prog 192 ty192 := tyOk_one Try.underlying192 (by kernel_rfl) rfl rfl rfl rfl
def ty193 : TyI := ⟨.int .i32, 1, 4, .int .i32 0⟩
theorem tyOk193 : TyOk Try.prog 193 ty193 := tyOk_one Try.underlying193 (by kernel_rfl) rfl rfl rfl rfl
def ty194 : TyI := ⟨.int .i32, 1, 4, .int .i32 0⟩
theorem tyOk194 : TyOk Try.prog 194 ty194 := tyOk_one Try.underlying194 (by kernel_rfl) rfl rfl rfl rfl
def tys : Tys := fun T => match T with
  | 2 => some ty2
  | 3 => some ty3
  | 4 => some ty4
  | 5 => some ty5
  | 6 => some ty6
  | 7 => some ty7
  | 8 => some ty8
  | 9 => some ty9
  | 10 => some ty10
  | 11 => some ty11
  | 12 => some ty12
  | 13 => some ty13
  | 14 => some ty14
  | 15 => some ty15
  | 16 => some ty16
  | 17 => some ty17
  | 18 => some ty18
  | 19 => some ty19
  | 21 => some ty21
  | 22 => some ty22
  | 23 => some ty23
  | 24 => some ty24
  | 25 => some ty25
  | 26 => some ty26
  | 27 => some ty27
  | 28 => some ty28
  | 29 => some ty29
  | 30 => some ty30
  | 31 => some ty31
  | 40 => some ty40
  | 41 => some ty41
  | 42 => some ty42
  | 43 => some ty43
  | 44 => some ty44
  | 52 => some ty52
  | 59 => some ty59
  | 60 => some ty60
  | 61 => some ty61
  | 62 => some ty62
  | 66 => some ty66
  | 67 => some ty67
  | 70 => some ty70
  | 77 => some ty77
  | 78 => some ty78
  | 80 => some ty80
  | 81 => some ty81
  | 84 => some ty84
  | 85 => some ty85
  | 86 => some ty86
  | 89 => some ty89
  | 98 => some ty98
  | 101 => some ty101
  | 104 => some ty104
  | 105 => some ty105
  | 106 => some ty106
  | 124 => some ty124
  | 125 => some ty125
  | 126 => some ty126
  | 127 => some ty127
  | 151 => some ty151
  | 159 => some ty159
  | 162 => some ty162
  | 170 => some ty170
  | 172 => some ty172
  | 173 => some ty173
  | 177 => some ty177
  | 179 => some ty179
  | 183 => some ty183
  | 184 => some ty184
  | 185 => some ty185
  | 186 => some ty186
  | 187 => some ty187
  | 189 => some ty189
  | 190 => some ty190
  | 192 => some ty192
  | 193 => some ty193
  | 194 => some ty194
  | _ => none
theorem tyAt2 : tys 2 = some ty2 := rfl
theorem tyAt3 : tys 3 = some ty3 := rfl
theorem tyAt4 : tys 4 = some ty4 := rfl
theorem tyAt5 : tys 5 = some ty5 := rfl
theorem tyAt6 : tys 6 = some ty6 := rfl
theorem tyAt7 : tys 7 = some ty7 := rfl
theorem tyAt8 : tys 8 = some ty8 := rfl
theorem tyAt9 : tys 9 = some ty9 := rfl
theorem tyAt10 : tys 10 = some ty10 := rfl
theorem tyAt11 : tys 11 = some ty11 := rfl
theorem tyAt12 : tys 12 = some ty12 := rfl
theorem tyAt13 : tys 13 = some ty13 := rfl
theorem tyAt14 : tys 14 = some ty14 := rfl
theorem tyAt15 : tys 15 = some ty15 := rfl
theorem tyAt16 : tys 16 = some ty16 := rfl
theorem tyAt17 : tys 17 = some ty17 := rfl
theorem tyAt18 : tys 18 = some ty18 := rfl
theorem tyAt19 : tys 19 = some ty19 := rfl
theorem tyAt21 : tys 21 = some ty21 := rfl
theorem tyAt22 : tys 22 = some ty22 := rfl
theorem tyAt23 : tys 23 = some ty23 := rfl
theorem tyAt24 : tys 24 = some ty24 := rfl
theorem tyAt25 : tys 25 = some ty25 := rfl
theorem tyAt26 : tys 26 = some ty26 := rfl
theorem tyAt27 : tys 27 = some ty27 := rfl
theorem tyAt28 : tys 28 = some ty28 := rfl
theorem tyAt29 : tys 29 = some ty29 := rfl
theorem tyAt30 : tys 30 = some ty30 := rfl
theorem tyAt31 : tys 31 = some ty31 := rfl
theorem tyAt40 : tys 40 = some ty40 := rfl
theorem tyAt41 : tys 41 = some ty41 := rfl
theorem tyAt42 : tys 42 = some ty42 := rfl
theorem tyAt43 : tys 43 = some ty43 := rfl
theorem tyAt44 : tys 44 = some ty44 := rfl
theorem tyAt52 : tys 52 = some ty52 := rfl
theorem tyAt59 : tys 59 = some ty59 := rfl
theorem tyAt60 : tys 60 = some ty60 := rfl
theorem tyAt61 : tys 61 = some ty61 := rfl
theorem tyAt62 : tys 62 = some ty62 := rfl
theorem tyAt66 : tys 66 = some ty66 := rfl
theorem tyAt67 : tys 67 = some ty67 := rfl
theorem tyAt70 : tys 70 = some ty70 := rfl
theorem tyAt77 : tys 77 = some ty77 := rfl
theorem tyAt78 : tys 78 = some ty78 := rfl
theorem tyAt80 : tys 80 = some ty80 := rfl
theorem tyAt81 : tys 81 = some ty81 := rfl
theorem tyAt84 : tys 84 = some ty84 := rfl
theorem tyAt85 : tys 85 = some ty85 := rfl
theorem tyAt86 : tys 86 = some ty86 := rfl
theorem tyAt89 : tys 89 = some ty89 := rfl
theorem tyAt98 : tys 98 = some ty98 := rfl
theorem tyAt101 : tys 101 = some ty101 := rfl
theorem tyAt104 : tys 104 = some ty104 := rfl
theorem tyAt105 : tys 105 = some ty105 := rfl
theorem tyAt106 : tys 106 = some ty106 := rfl
theorem tyAt124 : tys 124 = some ty124 := rfl
theorem tyAt125 : tys 125 = some ty125 := rfl
theorem tyAt126 : tys 126 = some ty126 := rfl
theorem tyAt127 : tys 127 = some ty127 := rfl
theorem tyAt151 : tys 151 = some ty151 := rfl
theorem tyAt159 : tys 159 = some ty159 := rfl
theorem tyAt162 : tys 162 = some ty162 := rfl
theorem tyAt170 : tys 170 = some ty170 := rfl
theorem tyAt172 : tys 172 = some ty172 := rfl
theorem tyAt173 : tys 173 = some ty173 := rfl
theorem tyAt177 : tys 177 = some ty177 := rfl
theorem tyAt179 : tys 179 = some ty179 := rfl
theorem tyAt183 : tys 183 = some ty183 := rfl
theorem tyAt184 : tys 184 = some ty184 := rfl
theorem tyAt185 : tys 185 = some ty185 := rfl
theorem tyAt186 : tys 186 = some ty186 := rfl
theorem tyAt187 : tys 187 = some ty187 := rfl
theorem tyAt189 : tys 189 = some ty189 := rfl
theorem tyAt190 : tys 190 = some ty190 := rfl
theorem tyAt192 : tys 192 = some ty192 := rfl
theorem tyAt193 : tys 193 = some ty193 := rfl
theorem tyAt194 : tys 194 = some ty194 := rfl
theorem tys_ok : ∀ T i, tys T = some i → TyOk Try.prog T i := by
  intro T i h
  unfold tys at h
  split at h
  · cases h; exact tyOk2
  · cases h; exact tyOk3
  · cases h; exact tyOk4
  · cases h; exact tyOk5
  · cases h; exact tyOk6
  · cases h; exact tyOk7
  · cases h; exact tyOk8
  · cases h; exact tyOk9
  · cases h; exact tyOk10
  · cases h; exact tyOk11
  · cases h; exact tyOk12
  · cases h; exact tyOk13
  · cases h; exact tyOk14
  · cases h; exact tyOk15
  · cases h; exact tyOk16
  · cases h; exact tyOk17
  · cases h; exact tyOk18
  · cases h; exact tyOk19
  · cases h; exact tyOk21
  · cases h; exact tyOk22
  · cases h; exact tyOk23
  · cases h; exact tyOk24
  · cases h; exact tyOk25
  · cases h; exact tyOk26
  · cases h; exact tyOk27
  · cases h; exact tyOk28
  · cases h; exact tyOk29
  · cases h; exact tyOk30
  · cases h; exact tyOk31
  · cases h; exact tyOk40
  · cases h; exact tyOk41
  · cases h; exact tyOk42
  · cases h; exact tyOk43
  · cases h; exact tyOk44
  · cases h; exact tyOk52
  · cases h; exact tyOk59
  · cases h; exact tyOk60
  · cases h; exact tyOk61
  · cases h; exact tyOk62
  · cases h; exact tyOk66
  · cases h; exact tyOk67
  · cases h; exact tyOk70
  · cases h; exact tyOk77
  · cases h; exact tyOk78
  · cases h; exact tyOk80
  · cases h; exact tyOk81
  · cases h; exact tyOk84
  · cases h; exact tyOk85
  · cases h; exact tyOk86
  · cases h; exact tyOk89
  · cases h; exact tyOk98
  · cases h; exact tyOk101
  · cases h; exact tyOk104
  · cases h; exact tyOk105
  · cases h; exact tyOk106
  · cases h; exact tyOk124
  · cases h; exact tyOk125
  · cases h; exact tyOk126
  · cases h; exact tyOk127
  · cases h; exact tyOk151
  · cases h; exact tyOk159
  · cases h; exact tyOk162
  · cases h; exact tyOk170
  · cases h; exact tyOk172
  · cases h; exact tyOk173
  · cases h; exact tyOk177
  · cases h; exact tyOk179
  · cases h; exact tyOk183
  · cases h; exact tyOk184
  · cases h; exact tyOk185
  · cases h; exact tyOk186
  · cases h; exact tyOk187
  · cases h; exact tyOk189
  · cases h; exact tyOk190
  · cases h; exact tyOk192
  · cases h; exact tyOk193
  · cases h; exact tyOk194
  · cases h
end Go.Proofs.Ytpkjmnfgpbliaaa
namespace Go.Proofs.Ytpkjmnfgpbliaaa
open Go.RowKit
set_option linter.unusedSimpArgs false
set_option linter.unusedVariables false

theorem eqOk24 : EqOk Try.prog 24 2 := by
  intro xs ys hx hy w x y
  obtain ⟨a, b, rfl⟩ : ∃ a b, xs = [a, b] := by
    match xs, hx with
    | [a, b], _ => exact ⟨a, b, rfl⟩
  obtain ⟨c, d, rfl⟩ : ∃ a b, ys = [a, b] := by
    match ys, hy with
    | [a, b], _ => exact ⟨a, b, rfl⟩
  have hm : Try.prog.eqGuardType Try.prog.depth 24 = false := by kernel_rfl
  have hp : Try.prog.stoodInHeld 24 = false := by kernel_rfl
  have hu := Try.underlying24
  have h3 := Try.underlying3
  have e : (Op.equalIn 10000 24 (.agg #[.int .i64 a, .int .i64 b]) (.agg #[.int .i64 c, .int .i64 d])).run Try.prog w = .ok ([a, b] == [c, d]) w := by
    rw [run_equalIn_struct w 9999 24 _ _ (by rw [Program.fieldsOf, hu]) hp]
    simp [Program.fieldsOf, hu, Op.eqFields, go_sem, h3]
    by_cases h1 : a = c <;> by_cases h2 : b = d <;> simp [h1, h2]
  constructor
  · simp only [List.map_cons, List.map_nil, Sem.run_bind]
    rw [run_eqGuard_agg _ _ _ _ _ _ _ hm]
    simp only [Result.andThen_ok, run_eql_struct]
    rw [e]; rfl
  · simp only [List.map_cons, List.map_nil, Sem.run_bind]
    rw [run_eqGuard_agg _ _ _ _ _ _ _ hm]
    simp only [Result.andThen_ok, run_neq_struct]
    rw [e]; rfl
def eqsC : List (TypeId × Nat) := [(24, 2)]
theorem eqs_ok : ∀ T n, getA eqsC T = some n → EqOk Try.prog T n := by
  intro T n h
  simp only [eqsC, getA] at h
  split at h
  · rename_i e; subst e; cases h; exact eqOk24
  · cases h
end Go.Proofs.Ytpkjmnfgpbliaaa
namespace Go.Proofs.Ytpkjmnfgpbliaaa
open Go.RowKit
set_option linter.unusedSimpArgs false
set_option linter.unusedVariables false

attribute [simp] cTup2_dec cTup3_dec bind_some' cAgg_dec rInt_decL rStr_decL rK_decL cList_nil stopK_n stopK_e stopK_r wrap_one wrap_zero call_eq callK_n callK_r code_skip code_label code_region regK_some regK_none region_eq closeK_some ops_nil ops_cons opsK_some opsK_none step_eq stepK_t stepK_f putK_some code_seq seqK_n seqK_e seqK_r code_cond condK_t condK_f code_block blkK_n blkK_e blkK_r code_loop code_exit code_scope code_ret startB allocs allocDst aWanted aop aCall aAppend aLen aPick aNil aMinMax aIndexAddr aIndex aSlice aExtract aFieldAddr aField aPart aLoad aBuild aBuildSlice aConv aUn aBin vop iop sop zerosD rowsOf fillD placesD bound? St.ev St.put St.res dstB putT setL getA argT Cx.close closeT closeX closeB closeC annOf locsOf X.strip X.plain X.data X.cells X.rows X.int dataL ofVal ofCell ownTok Own.isEx toksApp tokAt nodupB Res.ofX aRes oneOf tyAt2 tyAt3 tyAt4 tyAt5 tyAt6 tyAt7 tyAt8 tyAt9 tyAt10 tyAt11 tyAt12 tyAt13 tyAt14 tyAt15 tyAt16 tyAt17 tyAt18 tyAt19 tyAt21 tyAt22 tyAt23 tyAt24 tyAt25 tyAt26 tyAt27 tyAt28 tyAt29 tyAt30 tyAt31 tyAt40 tyAt41 tyAt42 tyAt43 tyAt44 tyAt52 tyAt59 tyAt60 tyAt61 tyAt62 tyAt66 tyAt67 tyAt70 tyAt77 tyAt78 tyAt80 tyAt81 tyAt84 tyAt85 tyAt86 tyAt89 tyAt98 tyAt101 tyAt104 tyAt105 tyAt106 tyAt124 tyAt125 tyAt126 tyAt127 tyAt151 tyAt159 tyAt162 tyAt170 tyAt172 tyAt173 tyAt177 tyAt179 tyAt183 tyAt184 tyAt185 tyAt186 tyAt187 tyAt189 tyAt190 tyAt192 tyAt193 tyAt194 TyI.agg TyI.isBool TyI.elem TyI.field TyI.zeroD TyI.zeroZ softD hardX isNilD bz Value.cells Value.oneCell' intsOf delOf sp0 sp1 sp2 sp3 sp4 sp5 cInt_dec cBool_dec cStr_dec cK_dec rInt_k rStr_k rK_k rInt_enc rStr_enc rK_enc cInt_enc cBool_enc cStr_enc cK_enc cList_enc cAgg_enc cTup2_enc cTup3_enc
attribute [simp] ty2 ty3 ty4 ty5 ty6 ty7 ty8 ty9 ty10 ty11 ty12 ty13 ty14 ty15 ty16 ty17 ty18 ty19 ty21 ty22 ty23 ty24 ty25 ty26 ty27 ty28 ty29 ty30 ty31 ty40 ty41 ty42 ty43 ty44 ty52 ty59 ty60 ty61 ty62 ty66 ty67 ty70 ty77 ty78 ty80 ty81 ty84 ty85 ty86 ty89 ty98 ty101 ty104 ty105 ty106 ty124 ty125 ty126 ty127 ty151 ty159 ty162 ty170 ty172 ty173 ty177 ty179 ty183 ty184 ty185 ty186 ty187 ty189 ty190 ty192 ty193 ty194
end Go.Proofs.Ytpkjmnfgpbliaaa
