/-
  What is known of the types of the dip chapter. Conditions: none.
-/
import Derived.Test.YtcgacojnfkklaaaGreatDoorProg
import Derived.Test.YtcgacojnfkklaaaGreatDoorZAmD
import Derived.WalkKit
import Derived.Test.YtcgacojnfkklaaaGreatDoorZAmE
namespace Go.Proofs.YtcgacojnfkklaaaGreatDoor
open Go.RowKit
set_option linter.unusedSimpArgs false
set_option linter.unusedVariables false
theorem tyOk_agg {P : Program} {T : TypeId} {i : TyI} (und : P.underlying T = some i.desc) (inf : (P.info? T).map (fun f => (f.size, f.bytes, f.zero)) = some (i.size, i.bytes, some i.zero)) (zsz : i.zero.cells.size = i.size) (zone : i.zero.cells.toList.all (·.oneCell') = true) (ha : i.agg = true) (hz : ∃ cs, i.zero = .agg cs) : TyOk P T i := by
  refine ⟨und, ?_, zsz, fun v hv => List.all_eq_true.1 zone v hv, fun _ => hz, fun h => by rw [ha] at h; cases h⟩
  cases h : P.info? T with
  | none => rw [h] at inf; cases inf
  | some f =>
    rw [h] at inf
    simp only [Option.map_some, Option.some.injEq, Prod.mk.injEq] at inf
    exact ⟨f, rfl, inf.1, inf.2.1, inf.2.2⟩
theorem tyOk_one {P : Program} {T : TypeId} {i : TyI} (und : P.underlying T = some i.desc) (inf : (P.info? T).map (fun f => (f.size, f.bytes, f.zero)) = some (i.size, i.bytes, some i.zero)) (zsz : i.zero.cells.size = i.size) (zone : i.zero.cells.toList.all (·.oneCell') = true) (ha : i.agg = false) (hz : i.zero.oneCell' = true) : TyOk P T i := by
  refine ⟨und, ?_, zsz, fun v hv => List.all_eq_true.1 zone v hv, (fun h => by rw [ha] at h; cases h), fun _ => hz⟩
  cases h : P.info? T with
  | none => rw [h] at inf; cases inf
  | some f =>
    rw [h] at inf
    simp only [Option.map_some, Option.some.injEq, Prod.mk.injEq] at inf
    exact ⟨f, rfl, inf.1, inf.2.1, inf.2.2⟩
def ty2 : TyI := ⟨.int .i64, 1, 8, .int .i64 0⟩
theorem tyOk2 : TyOk Tryz.prog 2 ty2 := tyOk_one Tryz.underlying2 (by kernel_rfl) rfl rfl rfl rfl
def ty3 : TyI := ⟨.int .i64, 1, 8, .int .i64 0⟩
theorem tyOk3 : TyOk Tryz.prog 3 ty3 := tyOk_one Tryz.underlying3 (by kernel_rfl) rfl rfl rfl rfl
def ty4 : TyI := ⟨.bool, 1, 1, .bool false⟩
theorem tyOk4 : TyOk Tryz.prog 4 ty4 := tyOk_one Tryz.underlying4 (by kernel_rfl) rfl rfl rfl rfl
def ty5 : TyI := ⟨.int .u8, 1, 1, .int .u8 0⟩
theorem tyOk5 : TyOk Tryz.prog 5 ty5 := tyOk_one Tryz.underlying5 (by kernel_rfl) rfl rfl rfl rfl
def ty6 : TyI := ⟨.int .u8, 1, 1, .int .u8 0⟩
theorem tyOk6 : TyOk Tryz.prog 6 ty6 := tyOk_one Tryz.underlying6 (by kernel_rfl) rfl rfl rfl rfl
def ty7 : TyI := ⟨.struct #[{ name := "x", type := 2, offset := 0, embedded := false, tag := "", pkgPath := "runtime", byteOffset := 0 }, { name := "y", type := 3, offset := 1, embedded := false, tag := "", pkgPath := "runtime", byteOffset := 8 }, { name := "signed", type := 4, offset := 2, embedded := false, tag := "", pkgPath := "runtime", byteOffset := 16 }, { name := "code", type := 6, offset := 3, embedded := false, tag := "", pkgPath := "runtime", byteOffset := 17 }], 4, 24, .agg #[.int .i64 0, .int .i64 0, .bool false, .int .u8 0]⟩
theorem tyOk7 : TyOk Tryz.prog 7 ty7 := tyOk_agg Tryz.underlying7 (by kernel_rfl) rfl rfl rfl ⟨_, rfl⟩
def ty8 : TyI := ⟨.struct #[{ name := "x", type := 2, offset := 0, embedded := false, tag := "", pkgPath := "runtime", byteOffset := 0 }, { name := "y", type := 3, offset := 1, embedded := false, tag := "", pkgPath := "runtime", byteOffset := 8 }, { name := "signed", type := 4, offset := 2, embedded := false, tag := "", pkgPath := "runtime", byteOffset := 16 }, { name := "code", type := 6, offset := 3, embedded := false, tag := "", pkgPath := "runtime", byteOffset := 17 }], 4, 24, .agg #[.int .i64 0, .int .i64 0, .bool false, .int .u8 0]⟩
theorem tyOk8 : TyOk Tryz.prog 8 ty8 := tyOk_agg Tryz.underlying8 (by kernel_rfl) rfl rfl rfl ⟨_, rfl⟩
def ty9 : TyI := ⟨.string, 1, 16, .string ByteArray.empty⟩
theorem tyOk9 : TyOk Tryz.prog 9 ty9 := tyOk_one Tryz.underlying9 (by kernel_rfl) rfl rfl rfl rfl
def ty10 : TyI := ⟨.string, 1, 16, .string ByteArray.empty⟩
theorem tyOk10 : TyOk Tryz.prog 10 ty10 := tyOk_one Tryz.underlying10 (by kernel_rfl) rfl rfl rfl rfl
def ty11 : TyI := ⟨.string, 1, 16, .string ByteArray.empty⟩
theorem tyOk11 : TyOk Tryz.prog 11 ty11 := tyOk_one Tryz.underlying11 (by kernel_rfl) rfl rfl rfl rfl
def ty12 : TyI := ⟨.int .u64, 1, 8, .int .u64 0⟩
theorem tyOk12 : TyOk Tryz.prog 12 ty12 := tyOk_one Tryz.underlying12 (by kernel_rfl) rfl rfl rfl rfl
def ty13 : TyI := ⟨.struct #[{ name := "msg", type := 9, offset := 0, embedded := false, tag := "", pkgPath := "runtime", byteOffset := 0 }, { name := "addr", type := 12, offset := 1, embedded := false, tag := "", pkgPath := "runtime", byteOffset := 16 }], 2, 24, .agg #[.string ByteArray.empty, .int .u64 0]⟩
theorem tyOk13 : TyOk Tryz.prog 13 ty13 := tyOk_agg Tryz.underlying13 (by kernel_rfl) rfl rfl rfl ⟨_, rfl⟩
def ty14 : TyI := ⟨.struct #[{ name := "msg", type := 9, offset := 0, embedded := false, tag := "", pkgPath := "runtime", byteOffset := 0 }, { name := "addr", type := 12, offset := 1, embedded := false, tag := "", pkgPath := "runtime", byteOffset := 16 }], 2, 24, .agg #[.string ByteArray.empty, .int .u64 0]⟩
theorem tyOk14 : TyOk Tryz.prog 14 ty14 := tyOk_agg Tryz.underlying14 (by kernel_rfl) rfl rfl rfl ⟨_, rfl⟩
def ty15 : TyI := ⟨.pointer 219, 1, 8, .pointer none⟩
theorem tyOk15 : TyOk Tryz.prog 15 ty15 := tyOk_one Tryz.underlying15 (by kernel_rfl) rfl rfl rfl rfl
def ty16 : TyI := ⟨.pointer 222, 1, 8, .pointer none⟩
theorem tyOk16 : TyOk Tryz.prog 16 ty16 := tyOk_one Tryz.underlying16 (by kernel_rfl) rfl rfl rfl rfl
def ty17 : TyI := ⟨.pointer 229, 1, 8, .pointer none⟩
theorem tyOk17 : TyOk Tryz.prog 17 ty17 := tyOk_one Tryz.underlying17 (by kernel_rfl) rfl rfl rfl rfl
def ty18 : TyI := ⟨.struct #[{ name := "typ", type := 17, offset := 0, embedded := false, tag := "", pkgPath := "internal/runtime/maps", byteOffset := 0 }], 1, 8, .agg #[.pointer none]⟩
theorem tyOk18 : TyOk Tryz.prog 18 ty18 := tyOk_agg Tryz.underlying18 (by kernel_rfl) rfl rfl rfl ⟨_, rfl⟩
def ty19 : TyI := ⟨.struct #[{ name := "typ", type := 17, offset := 0, embedded := false, tag := "", pkgPath := "internal/runtime/maps", byteOffset := 0 }], 1, 8, .agg #[.pointer none]⟩
theorem tyOk19 : TyOk Tryz.prog 19 ty19 := tyOk_agg Tryz.underlying19 (by kernel_rfl) rfl rfl rfl ⟨_, rfl⟩
def ty21 : TyI := ⟨.int .i32, 1, 4, .int .i32 0⟩
theorem tyOk21 : TyOk Tryz.prog 21 ty21 := tyOk_one Tryz.underlying21 (by kernel_rfl) rfl rfl rfl rfl
def ty22 : TyI := ⟨.slice 90, 1, 24, .slice none 0 0⟩
theorem tyOk22 : TyOk Tryz.prog 22 ty22 := tyOk_one Tryz.underlying22 (by kernel_rfl) rfl rfl rfl rfl
def ty23 : TyI := ⟨.struct #[{ name := "Melt", type := 3, offset := 0, embedded := false, tag := "", pkgPath := "", byteOffset := 0 }, { name := "Coat", type := 3, offset := 1, embedded := false, tag := "", pkgPath := "", byteOffset := 8 }, { name := "Thin", type := 3, offset := 2, embedded := false, tag := "", pkgPath := "", byteOffset := 16 }, { name := "Hold", type := 3, offset := 3, embedded := false, tag := "", pkgPath := "", byteOffset := 24 }, { name := "Back", type := 3, offset := 4, embedded := false, tag := "", pkgPath := "", byteOffset := 32 }, { name := "Draw", type := 3, offset := 5, embedded := false, tag := "", pkgPath := "", byteOffset := 40 }, { name := "Set", type := 3, offset := 6, embedded := false, tag := "", pkgPath := "", byteOffset := 48 }, { name := "Run", type := 3, offset := 7, embedded := false, tag := "", pkgPath := "", byteOffset := 56 }, { name := "Baths", type := 22, offset := 8, embedded := false, tag := "", pkgPath := "", byteOffset := 64 }], 9, 88, .agg #[.int .i64 0, .int .i64 0, .int .i64 0, .int .i64 0, .int .i64 0, .int .i64 0, .int .i64 0, .int .i64 0, .slice none 0 0]⟩
theorem tyOk23 : TyOk Tryz.prog 23 ty23 := tyOk_agg Tryz.underlying23 (by kernel_rfl) rfl rfl rfl ⟨_, rfl⟩
def ty24 : TyI := ⟨.struct #[{ name := "Melt", type := 3, offset := 0, embedded := false, tag := "", pkgPath := "", byteOffset := 0 }, { name := "Coat", type := 3, offset := 1, embedded := false, tag := "", pkgPath := "", byteOffset := 8 }, { name := "Thin", type := 3, offset := 2, embedded := false, tag := "", pkgPath := "", byteOffset := 16 }, { name := "Hold", type := 3, offset := 3, embedded := false, tag := "", pkgPath := "", byteOffset := 24 }, { name := "Back", type := 3, offset := 4, embedded := false, tag := "", pkgPath := "", byteOffset := 32 }, { name := "Draw", type := 3, offset := 5, embedded := false, tag := "", pkgPath := "", byteOffset := 40 }, { name := "Set", type := 3, offset := 6, embedded := false, tag := "", pkgPath := "", byteOffset := 48 }, { name := "Run", type := 3, offset := 7, embedded := false, tag := "", pkgPath := "", byteOffset := 56 }, { name := "Baths", type := 22, offset := 8, embedded := false, tag := "", pkgPath := "", byteOffset := 64 }], 9, 88, .agg #[.int .i64 0, .int .i64 0, .int .i64 0, .int .i64 0, .int .i64 0, .int .i64 0, .int .i64 0, .int .i64 0, .slice none 0 0]⟩
theorem tyOk24 : TyOk Tryz.prog 24 ty24 := tyOk_agg Tryz.underlying24 (by kernel_rfl) rfl rfl rfl ⟨_, rfl⟩
def ty25 : TyI := ⟨.struct #[{ name := "Wick", type := 3, offset := 0, embedded := false, tag := "", pkgPath := "", byteOffset := 0 }, { name := "Top", type := 3, offset := 1, embedded := false, tag := "", pkgPath := "", byteOffset := 8 }, { name := "Foot", type := 3, offset := 2, embedded := false, tag := "", pkgPath := "", byteOffset := 16 }], 3, 24, .agg #[.int .i64 0, .int .i64 0, .int .i64 0]⟩
theorem tyOk25 : TyOk Tryz.prog 25 ty25 := tyOk_agg Tryz.underlying25 (by kernel_rfl) rfl rfl rfl ⟨_, rfl⟩
def ty26 : TyI := ⟨.struct #[{ name := "Wick", type := 3, offset := 0, embedded := false, tag := "", pkgPath := "", byteOffset := 0 }, { name := "Top", type := 3, offset := 1, embedded := false, tag := "", pkgPath := "", byteOffset := 8 }, { name := "Foot", type := 3, offset := 2, embedded := false, tag := "", pkgPath := "", byteOffset := 16 }], 3, 24, .agg #[.int .i64 0, .int .i64 0, .int .i64 0]⟩
theorem tyOk26 : TyOk Tryz.prog 26 ty26 := tyOk_agg Tryz.underlying26 (by kernel_rfl) rfl rfl rfl ⟨_, rfl⟩
def ty27 : TyI := ⟨.slice 81, 1, 24, .slice none 0 0⟩
theorem tyOk27 : TyOk Tryz.prog 27 ty27 := tyOk_one Tryz.underlying27 (by kernel_rfl) rfl rfl rfl rfl
def ty28 : TyI := ⟨.slice 3, 1, 24, .slice none 0 0⟩
theorem tyOk28 : TyOk Tryz.prog 28 ty28 := tyOk_one Tryz.underlying28 (by kernel_rfl) rfl rfl rfl rfl
def ty29 : TyI := ⟨.struct #[{ name := "Plan", type := 27, offset := 0, embedded := false, tag := "", pkgPath := "", byteOffset := 0 }, { name := "Warm", type := 28, offset := 1, embedded := false, tag := "", pkgPath := "", byteOffset := 24 }], 2, 48, .agg #[.slice none 0 0, .slice none 0 0]⟩
theorem tyOk29 : TyOk Tryz.prog 29 ty29 := tyOk_agg Tryz.underlying29 (by kernel_rfl) rfl rfl rfl ⟨_, rfl⟩
def ty30 : TyI := ⟨.struct #[{ name := "Plan", type := 27, offset := 0, embedded := false, tag := "", pkgPath := "", byteOffset := 0 }, { name := "Warm", type := 28, offset := 1, embedded := false, tag := "", pkgPath := "", byteOffset := 24 }], 2, 48, .agg #[.slice none 0 0, .slice none 0 0]⟩
theorem tyOk30 : TyOk Tryz.prog 30 ty30 := tyOk_agg Tryz.underlying30 (by kernel_rfl) rfl rfl rfl ⟨_, rfl⟩
def ty31 : TyI := ⟨.int .i64, 1, 8, .int .i64 0⟩
theorem tyOk31 : TyOk Tryz.prog 31 ty31 := tyOk_one Tryz.underlying31 (by kernel_rfl) rfl rfl rfl rfl
def ty38 : TyI := ⟨.struct #[{ name := "Plan", type := 27, offset := 0, embedded := false, tag := "", pkgPath := "", byteOffset := 0 }, { name := "Bound", type := 3, offset := 1, embedded := false, tag := "", pkgPath := "", byteOffset := 24 }], 2, 32, .agg #[.slice none 0 0, .int .i64 0]⟩
theorem tyOk38 : TyOk Tryz.prog 38 ty38 := tyOk_agg Tryz.underlying38 (by kernel_rfl) rfl rfl rfl ⟨_, rfl⟩
def ty39 : TyI := ⟨.struct #[{ name := "Plan", type := 27, offset := 0, embedded := false, tag := "", pkgPath := "", byteOffset := 0 }, { name := "Bound", type := 3, offset := 1, embedded := false, tag := "", pkgPath := "", byteOffset := 24 }], 2, 32, .agg #[.slice none 0 0, .int .i64 0]⟩
theorem tyOk39 : TyOk Tryz.prog 39 ty39 := tyOk_agg Tryz.underlying39 (by kernel_rfl) rfl rfl rfl ⟨_, rfl⟩
def ty40 : TyI := ⟨.slice 71, 1, 24, .slice none 0 0⟩
theorem tyOk40 : TyOk Tryz.prog 40 ty40 := tyOk_one Tryz.underlying40 (by kernel_rfl) rfl rfl rfl rfl
def ty48 : TyI := ⟨.struct #[{ name := "Lo", type := 3, offset := 0, embedded := false, tag := "", pkgPath := "", byteOffset := 0 }, { name := "Hi", type := 3, offset := 1, embedded := false, tag := "", pkgPath := "", byteOffset := 8 }], 2, 16, .agg #[.int .i64 0, .int .i64 0]⟩
theorem tyOk48 : TyOk Tryz.prog 48 ty48 := tyOk_agg Tryz.underlying48 (by kernel_rfl) rfl rfl rfl ⟨_, rfl⟩
def ty49 : TyI := ⟨.struct #[{ name := "Lo", type := 3, offset := 0, embedded := false, tag := "", pkgPath := "", byteOffset := 0 }, { name := "Hi", type := 3, offset := 1, embedded := false, tag := "", pkgPath := "", byteOffset := 8 }], 2, 16, .agg #[.int .i64 0, .int .i64 0]⟩
theorem tyOk49 : TyOk Tryz.prog 49 ty49 := tyOk_agg Tryz.underlying49 (by kernel_rfl) rfl rfl rfl ⟨_, rfl⟩
def ty50 : TyI := ⟨.struct #[{ name := "Kinds", type := 27, offset := 0, embedded := false, tag := "", pkgPath := "", byteOffset := 0 }, { name := "Want", type := 49, offset := 1, embedded := false, tag := "", pkgPath := "", byteOffset := 24 }, { name := "Bound", type := 3, offset := 3, embedded := false, tag := "", pkgPath := "", byteOffset := 40 }], 4, 48, .agg #[.slice none 0 0, .int .i64 0, .int .i64 0, .int .i64 0]⟩
theorem tyOk50 : TyOk Tryz.prog 50 ty50 := tyOk_agg Tryz.underlying50 (by kernel_rfl) rfl rfl rfl ⟨_, rfl⟩
def ty51 : TyI := ⟨.struct #[{ name := "Kinds", type := 27, offset := 0, embedded := false, tag := "", pkgPath := "", byteOffset := 0 }, { name := "Want", type := 49, offset := 1, embedded := false, tag := "", pkgPath := "", byteOffset := 24 }, { name := "Bound", type := 3, offset := 3, embedded := false, tag := "", pkgPath := "", byteOffset := 40 }], 4, 48, .agg #[.slice none 0 0, .int .i64 0, .int .i64 0, .int .i64 0]⟩
theorem tyOk51 : TyOk Tryz.prog 51 ty51 := tyOk_agg Tryz.underlying51 (by kernel_rfl) rfl rfl rfl ⟨_, rfl⟩
def ty64 : TyI := ⟨.slice 85, 1, 24, .slice none 0 0⟩
theorem tyOk64 : TyOk Tryz.prog 64 ty64 := tyOk_one Tryz.underlying64 (by kernel_rfl) rfl rfl rfl rfl
def ty65 : TyI := ⟨.struct #[{ name := "Plan", type := 27, offset := 0, embedded := false, tag := "", pkgPath := "", byteOffset := 0 }, { name := "Warm", type := 64, offset := 1, embedded := false, tag := "", pkgPath := "", byteOffset := 24 }], 2, 48, .agg #[.slice none 0 0, .slice none 0 0]⟩
theorem tyOk65 : TyOk Tryz.prog 65 ty65 := tyOk_agg Tryz.underlying65 (by kernel_rfl) rfl rfl rfl ⟨_, rfl⟩
def ty66 : TyI := ⟨.struct #[{ name := "Plan", type := 27, offset := 0, embedded := false, tag := "", pkgPath := "", byteOffset := 0 }, { name := "Warm", type := 64, offset := 1, embedded := false, tag := "", pkgPath := "", byteOffset := 24 }], 2, 48, .agg #[.slice none 0 0, .slice none 0 0]⟩
theorem tyOk66 : TyOk Tryz.prog 66 ty66 := tyOk_agg Tryz.underlying66 (by kernel_rfl) rfl rfl rfl ⟨_, rfl⟩
def ty70 : TyI := ⟨.struct #[{ name := "Top", type := 49, offset := 0, embedded := false, tag := "", pkgPath := "", byteOffset := 0 }, { name := "Foot", type := 49, offset := 2, embedded := false, tag := "", pkgPath := "", byteOffset := 16 }, { name := "Skew", type := 49, offset := 4, embedded := false, tag := "", pkgPath := "", byteOffset := 32 }], 6, 48, .agg #[.int .i64 0, .int .i64 0, .int .i64 0, .int .i64 0, .int .i64 0, .int .i64 0]⟩
theorem tyOk70 : TyOk Tryz.prog 70 ty70 := tyOk_agg Tryz.underlying70 (by kernel_rfl) rfl rfl rfl ⟨_, rfl⟩
def ty71 : TyI := ⟨.struct #[{ name := "Top", type := 49, offset := 0, embedded := false, tag := "", pkgPath := "", byteOffset := 0 }, { name := "Foot", type := 49, offset := 2, embedded := false, tag := "", pkgPath := "", byteOffset := 16 }, { name := "Skew", type := 49, offset := 4, embedded := false, tag := "", pkgPath := "", byteOffset := 32 }], 6, 48, .agg #[.int .i64 0, .int .i64 0, .int .i64 0, .int .i64 0, .int .i64 0, .int .i64 0]⟩
theorem tyOk71 : TyOk Tryz.prog 71 ty71 := tyOk_agg Tryz.underlying71 (by kernel_rfl) rfl rfl rfl ⟨_, rfl⟩
def ty74 : TyI := ⟨.struct #[{ name := "Plan", type := 27, offset := 0, embedded := false, tag := "", pkgPath := "", byteOffset := 0 }, { name := "Bound", type := 3, offset := 1, embedded := false, tag := "", pkgPath := "", byteOffset := 24 }, { name := "Warm", type := 64, offset := 2, embedded := false, tag := "", pkgPath := "", byteOffset := 32 }], 3, 56, .agg #[.slice none 0 0, .int .i64 0, .slice none 0 0]⟩
theorem tyOk74 : TyOk Tryz.prog 74 ty74 := tyOk_agg Tryz.underlying74 (by kernel_rfl) rfl rfl rfl ⟨_, rfl⟩
def ty75 : TyI := ⟨.struct #[{ name := "Plan", type := 27, offset := 0, embedded := false, tag := "", pkgPath := "", byteOffset := 0 }, { name := "Bound", type := 3, offset := 1, embedded := false, tag := "", pkgPath := "", byteOffset := 24 }, { name := "Warm", type := 64, offset := 2, embedded := false, tag := "", pkgPath := "", byteOffset := 32 }], 3, 56, .agg #[.slice none 0 0, .int .i64 0, .slice none 0 0]⟩
theorem tyOk75 : TyOk Tryz.prog 75 ty75 := tyOk_agg Tryz.underlying75 (by kernel_rfl) rfl rfl rfl ⟨_, rfl⟩
def ty77 : TyI := ⟨.slice 5, 1, 24, .slice none 0 0⟩
theorem tyOk77 : TyOk Tryz.prog 77 ty77 := tyOk_one Tryz.underlying77 (by kernel_rfl) rfl rfl rfl rfl
def ty78 : TyI := ⟨.struct #[{ name := "Of", type := 51, offset := 0, embedded := false, tag := "", pkgPath := "", byteOffset := 0 }, { name := "Dips", type := 77, offset := 4, embedded := false, tag := "", pkgPath := "", byteOffset := 48 }], 5, 72, .agg #[.slice none 0 0, .int .i64 0, .int .i64 0, .int .i64 0, .slice none 0 0]⟩
theorem tyOk78 : TyOk Tryz.prog 78 ty78 := tyOk_agg Tryz.underlying78 (by kernel_rfl) rfl rfl rfl ⟨_, rfl⟩
def ty79 : TyI := ⟨.struct #[{ name := "Of", type := 51, offset := 0, embedded := false, tag := "", pkgPath := "", byteOffset := 0 }, { name := "Dips", type := 77, offset := 4, embedded := false, tag := "", pkgPath := "", byteOffset := 48 }], 5, 72, .agg #[.slice none 0 0, .int .i64 0, .int .i64 0, .int .i64 0, .slice none 0 0]⟩
theorem tyOk79 : TyOk Tryz.prog 79 ty79 := tyOk_agg Tryz.underlying79 (by kernel_rfl) rfl rfl rfl ⟨_, rfl⟩
def ty80 : TyI := ⟨.struct #[{ name := "Bath", type := 3, offset := 0, embedded := false, tag := "", pkgPath := "", byteOffset := 0 }, { name := "Seconds", type := 3, offset := 1, embedded := false, tag := "", pkgPath := "", byteOffset := 8 }, { name := "Pause", type := 3, offset := 2, embedded := false, tag := "", pkgPath := "", byteOffset := 16 }, { name := "Turned", type := 4, offset := 3, embedded := false, tag := "", pkgPath := "", byteOffset := 24 }], 4, 32, .agg #[.int .i64 0, .int .i64 0, .int .i64 0, .bool false]⟩
theorem tyOk80 : TyOk Tryz.prog 80 ty80 := tyOk_agg Tryz.underlying80 (by kernel_rfl) rfl rfl rfl ⟨_, rfl⟩
def ty81 : TyI := ⟨.struct #[{ name := "Bath", type := 3, offset := 0, embedded := false, tag := "", pkgPath := "", byteOffset := 0 }, { name := "Seconds", type := 3, offset := 1, embedded := false, tag := "", pkgPath := "", byteOffset := 8 }, { name := "Pause", type := 3, offset := 2, embedded := false, tag := "", pkgPath := "", byteOffset := 16 }, { name := "Turned", type := 4, offset := 3, embedded := false, tag := "", pkgPath := "", byteOffset := 24 }], 4, 32, .agg #[.int .i64 0, .int .i64 0, .int .i64 0, .bool false]⟩
theorem tyOk81 : TyOk Tryz.prog 81 ty81 := tyOk_agg Tryz.underlying81 (by kernel_rfl) rfl rfl rfl ⟨_, rfl⟩
def ty85 : TyI := ⟨.int .u16, 1, 2, .int .u16 0⟩
theorem tyOk85 : TyOk Tryz.prog 85 ty85 := tyOk_one Tryz.underlying85 (by kernel_rfl) rfl rfl rfl rfl
def ty86 : TyI := ⟨.array 4 85, 4, 8, .agg #[.int .u16 0, .int .u16 0, .int .u16 0, .int .u16 0]⟩
theorem tyOk86 : TyOk Tryz.prog 86 ty86 := tyOk_agg Tryz.underlying86 (by kernel_rfl) rfl rfl rfl ⟨_, rfl⟩
def ty89 : TyI := ⟨.struct #[{ name := "Name", type := 9, offset := 0, embedded := false, tag := "", pkgPath := "", byteOffset := 0 }, { name := "Warm", type := 49, offset := 1, embedded := false, tag := "", pkgPath := "", byteOffset := 16 }], 3, 32, .agg #[.string ByteArray.empty, .int .i64 0, .int .i64 0]⟩
theorem tyOk89 : TyOk Tryz.prog 89 ty89 := tyOk_agg Tryz.underlying89 (by kernel_rfl) rfl rfl rfl ⟨_, rfl⟩
def ty90 : TyI := ⟨.struct #[{ name := "Name", type := 9, offset := 0, embedded := false, tag := "", pkgPath := "", byteOffset := 0 }, { name := "Warm", type := 49, offset := 1, embedded := false, tag := "", pkgPath := "", byteOffset := 16 }], 3, 32, .agg #[.string ByteArray.empty, .int .i64 0, .int .i64 0]⟩
theorem tyOk90 : TyOk Tryz.prog 90 ty90 := tyOk_agg Tryz.underlying90 (by kernel_rfl) rfl rfl rfl ⟨_, rfl⟩
def ty91 : TyI := ⟨.struct #[{ name := "DpShop", type := 24, offset := 0, embedded := true, tag := "", pkgPath := "", byteOffset := 0 }], 9, 88, .agg #[.int .i64 0, .int .i64 0, .int .i64 0, .int .i64 0, .int .i64 0, .int .i64 0, .int .i64 0, .int .i64 0, .slice none 0 0]⟩
theorem tyOk91 : TyOk Tryz.prog 91 ty91 := tyOk_agg Tryz.underlying91 (by kernel_rfl) rfl rfl rfl ⟨_, rfl⟩
def ty92 : TyI := ⟨.struct #[{ name := "DpShop", type := 24, offset := 0, embedded := true, tag := "", pkgPath := "", byteOffset := 0 }], 9, 88, .agg #[.int .i64 0, .int .i64 0, .int .i64 0, .int .i64 0, .int .i64 0, .int .i64 0, .int .i64 0, .int .i64 0, .slice none 0 0]⟩
theorem tyOk92 : TyOk Tryz.prog 92 ty92 := tyOk_agg Tryz.underlying92 (by kernel_rfl) rfl rfl rfl ⟨_, rfl⟩
def ty104 : TyI := ⟨.struct #[{ name := "top", type := 3, offset := 0, embedded := false, tag := "", pkgPath := "stearin/dip", byteOffset := 0 }, { name := "foot", type := 3, offset := 1, embedded := false, tag := "", pkgPath := "stearin/dip", byteOffset := 8 }], 2, 16, .agg #[.int .i64 0, .int .i64 0]⟩
theorem tyOk104 : TyOk Tryz.prog 104 ty104 := tyOk_agg Tryz.underlying104 (by kernel_rfl) rfl rfl rfl ⟨_, rfl⟩
def ty105 : TyI := ⟨.struct #[{ name := "top", type := 3, offset := 0, embedded := false, tag := "", pkgPath := "stearin/dip", byteOffset := 0 }, { name := "foot", type := 3, offset := 1, embedded := false, tag := "", pkgPath := "stearin/dip", byteOffset := 8 }], 2, 16, .agg #[.int .i64 0, .int .i64 0]⟩
theorem tyOk105 : TyOk Tryz.prog 105 ty105 := tyOk_agg Tryz.underlying105 (by kernel_rfl) rfl rfl rfl ⟨_, rfl⟩
def ty120 : TyI := ⟨.map 125 3, 1, 8, .map none⟩
theorem tyOk120 : TyOk Tryz.prog 120 ty120 := tyOk_one Tryz.underlying120 (by kernel_rfl) rfl rfl rfl rfl
def ty121 : TyI := ⟨.func #[123, 71, 3] #[4] false, 1, 8, .nilFunc⟩
theorem tyOk121 : TyOk Tryz.prog 121 ty121 := tyOk_one Tryz.underlying121 (by kernel_rfl) rfl rfl rfl rfl
def ty122 : TyI := ⟨.array 5 3, 5, 40, .agg #[.int .i64 0, .int .i64 0, .int .i64 0, .int .i64 0, .int .i64 0]⟩
theorem tyOk122 : TyOk Tryz.prog 122 ty122 := tyOk_agg Tryz.underlying122 (by kernel_rfl) rfl rfl rfl ⟨_, rfl⟩
def ty123 : TyI := ⟨.array 5 3, 5, 40, .agg #[.int .i64 0, .int .i64 0, .int .i64 0, .int .i64 0, .int .i64 0]⟩
theorem tyOk123 : TyOk Tryz.prog 123 ty123 := tyOk_agg Tryz.underlying123 (by kernel_rfl) rfl rfl rfl ⟨_, rfl⟩
def ty124 : TyI := ⟨.struct #[{ name := "counts", type := 123, offset := 0, embedded := true, tag := "", pkgPath := "stearin/dip", byteOffset := 0 }, { name := "left", type := 3, offset := 5, embedded := false, tag := "", pkgPath := "stearin/dip", byteOffset := 40 }], 6, 48, .agg #[.int .i64 0, .int .i64 0, .int .i64 0, .int .i64 0, .int .i64 0, .int .i64 0]⟩
theorem tyOk124 : TyOk Tryz.prog 124 ty124 := tyOk_agg Tryz.underlying124 (by kernel_rfl) rfl rfl rfl ⟨_, rfl⟩
def ty125 : TyI := ⟨.struct #[{ name := "counts", type := 123, offset := 0, embedded := true, tag := "", pkgPath := "stearin/dip", byteOffset := 0 }, { name := "left", type := 3, offset := 5, embedded := false, tag := "", pkgPath := "stearin/dip", byteOffset := 40 }], 6, 48, .agg #[.int .i64 0, .int .i64 0, .int .i64 0, .int .i64 0, .int .i64 0, .int .i64 0]⟩
theorem tyOk125 : TyOk Tryz.prog 125 ty125 := tyOk_agg Tryz.underlying125 (by kernel_rfl) rfl rfl rfl ⟨_, rfl⟩
def ty132 : TyI := ⟨.struct #[{ name := "plan", type := 27, offset := 0, embedded := false, tag := "", pkgPath := "stearin/stearinref04", byteOffset := 0 }, { name := "kinds", type := 28, offset := 1, embedded := false, tag := "", pkgPath := "stearin/stearinref04", byteOffset := 24 }], 2, 48, .agg #[.slice none 0 0, .slice none 0 0]⟩
theorem tyOk132 : TyOk Tryz.prog 132 ty132 := tyOk_agg Tryz.underlying132 (by kernel_rfl) rfl rfl rfl ⟨_, rfl⟩
def ty133 : TyI := ⟨.struct #[{ name := "plan", type := 27, offset := 0, embedded := false, tag := "", pkgPath := "stearin/stearinref04", byteOffset := 0 }, { name := "kinds", type := 28, offset := 1, embedded := false, tag := "", pkgPath := "stearin/stearinref04", byteOffset := 24 }], 2, 48, .agg #[.slice none 0 0, .slice none 0 0]⟩
theorem tyOk133 : TyOk Tryz.prog 133 ty133 := tyOk_agg Tryz.underlying133 (by kernel_rfl) rfl rfl rfl ⟨_, rfl⟩
def ty134 : TyI := ⟨.slice 4, 1, 24, .slice none 0 0⟩
theorem tyOk134 : TyOk Tryz.prog 134 ty134 := tyOk_one Tryz.underlying134 (by kernel_rfl) rfl rfl rfl rfl
def ty135 : TyI := ⟨.pointer 137, 1, 8, .pointer none⟩
theorem tyOk135 : TyOk Tryz.prog 135 ty135 := tyOk_one Tryz.underlying135 (by kernel_rfl) rfl rfl rfl rfl
def ty136 : TyI := ⟨.struct #[{ name := "addr", type := 135, offset := 0, embedded := false, tag := "", pkgPath := "strings", byteOffset := 0 }, { name := "buf", type := 77, offset := 1, embedded := false, tag := "", pkgPath := "strings", byteOffset := 8 }], 2, 32, .agg #[.pointer none, .slice none 0 0]⟩
theorem tyOk136 : TyOk Tryz.prog 136 ty136 := tyOk_agg Tryz.underlying136 (by kernel_rfl) rfl rfl rfl ⟨_, rfl⟩
def ty137 : TyI := ⟨.struct #[{ name := "addr", type := 135, offset := 0, embedded := false, tag := "", pkgPath := "strings", byteOffset := 0 }, { name := "buf", type := 77, offset := 1, embedded := false, tag := "", pkgPath := "strings", byteOffset := 8 }], 2, 32, .agg #[.pointer none, .slice none 0 0]⟩
theorem tyOk137 : TyOk Tryz.prog 137 ty137 := tyOk_agg Tryz.underlying137 (by kernel_rfl) rfl rfl rfl ⟨_, rfl⟩
def ty139 : TyI := ⟨.slice 9, 1, 24, .slice none 0 0⟩
theorem tyOk139 : TyOk Tryz.prog 139 ty139 := tyOk_one Tryz.underlying139 (by kernel_rfl) rfl rfl rfl rfl
def ty115 : TyI := ⟨.func #[81] #[105, 3] false, 1, 8, .nilFunc⟩
theorem tyOk115 : TyOk Tryz.prog 115 ty115 := tyOk_one Tryz.underlying115 (by kernel_rfl) rfl rfl rfl rfl
def ty162 : TyI := ⟨.array 4 115, 4, 32, .agg #[.nilFunc, .nilFunc, .nilFunc, .nilFunc]⟩
theorem tyOk162 : TyOk Tryz.prog 162 ty162 := tyOk_agg Tryz.underlying162 (by kernel_rfl) rfl rfl rfl ⟨_, rfl⟩
def ty161 : TyI := ⟨.array 4 105, 8, 64, .agg #[.int .i64 0, .int .i64 0, .int .i64 0, .int .i64 0, .int .i64 0, .int .i64 0, .int .i64 0, .int .i64 0]⟩
theorem tyOk161 : TyOk Tryz.prog 161 ty161 := tyOk_agg Tryz.underlying161 (by kernel_rfl) rfl rfl rfl ⟨_, rfl⟩
def ty167 : TyI := ⟨.pointer 5, 1, 8, .pointer none⟩
theorem tyOk167 : TyOk Tryz.prog 167 ty167 := tyOk_one Tryz.underlying167 (by kernel_rfl) rfl rfl rfl rfl
def ty177 : TyI := ⟨.array 24 5, 24, 24, .agg #[.int .u8 0, .int .u8 0, .int .u8 0, .int .u8 0, .int .u8 0, .int .u8 0, .int .u8 0, .int .u8 0, .int .u8 0, .int .u8 0, .int .u8 0, .int .u8 0, .int .u8 0, .int .u8 0, .int .u8 0, .int .u8 0, .int .u8 0, .int .u8 0, .int .u8 0, .int .u8 0, .int .u8 0, .int .u8 0, .int .u8 0, .int .u8 0]⟩
theorem tyOk177 : TyOk Tryz.prog 177 ty177 := tyOk_agg Tryz.underlying177 (by kernel_rfl) rfl rfl rfl ⟨_, rfl⟩
def ty178 : TyI := ⟨.int .u64, 1, 8, .int .u64 0⟩
theorem tyOk178 : TyOk Tryz.prog 178 ty178 := tyOk_one Tryz.underlying178 (by kernel_rfl) rfl rfl rfl rfl
def ty185 : TyI := ⟨.int .u64, 1, 8, .int .u64 0⟩
theorem tyOk185 : TyOk Tryz.prog 185 ty185 := tyOk_one Tryz.underlying185 (by kernel_rfl) rfl rfl rfl rfl
def ty188 : TyI := ⟨.int .i64, 1, 8, .int .i64 0⟩
theorem tyOk188 : TyOk Tryz.prog 188 ty188 := tyOk_one Tryz.underlying188 (by kernel_rfl) rfl rfl rfl rfl
def ty191 : TyI := ⟨.pointer 205, 1, 8, .pointer none⟩
theorem tyOk191 : TyOk Tryz.prog 191 ty191 := tyOk_one Tryz.underlying191 (by kernel_rfl) rfl rfl rfl rfl
def ty195 : TyI := ⟨.array 20 178, 20, 160, .agg #[.int .u64 0, .int .u64 0, .int .u64 0, .int .u64 0, .int .u64 0, .int .u64 0, .int .u64 0, .int .u64 0, .int .u64 0, .int .u64 0, .int .u64 0, .int .u64 0, .int .u64 0, .int .u64 0, .int .u64 0, .int .u64 0, .int .u64 0, .int .u64 0, .int .u64 0, .int .u64 0]⟩
theorem tyOk195 : TyOk Tryz.prog 195 ty195 := tyOk_agg Tryz.underlying195 (by kernel_rfl) rfl rfl rfl ⟨_, rfl⟩
def ty196 : TyI := ⟨.int .u32, 1, 4, .int .u32 0⟩
theorem tyOk196 : TyOk Tryz.prog 196 ty196 := tyOk_one Tryz.underlying196 (by kernel_rfl) rfl rfl rfl rfl
def ty197 : TyI := ⟨.array 65 5, 65, 65, .agg #[.int .u8 0, .int .u8 0, .int .u8 0, .int .u8 0, .int .u8 0, .int .u8 0, .int .u8 0, .int .u8 0, .int .u8 0, .int .u8 0, .int .u8 0, .int .u8 0, .int .u8 0, .int .u8 0, .int .u8 0, .int .u8 0, .int .u8 0, .int .u8 0, .int .u8 0, .int .u8 0, .int .u8 0, .int .u8 0, .int .u8 0, .int .u8 0, .int .u8 0, .int .u8 0, .int .u8 0, .int .u8 0, .int .u8 0, .int .u8 0, .int .u8 0, .int .u8 0, .int .u8 0, .int .u8 0, .int .u8 0, .int .u8 0, .int .u8 0, .int .u8 0, .int .u8 0, .int .u8 0, .int .u8 0, .int .u8 0, .int .u8 0, .int .u8 0, .int .u8 0, .int .u8 0, .int .u8 0, .int .u8 0, .int .u8 0, .int .u8 0, .int .u8 0, .int .u8 0, .int .u8 0, .int .u8 0, .int .u8 0, .int .u8 0, .int .u8 0, .int .u8 0, .int .u8 0, .int .u8 0, .int .u8 0, .int .u8 0, .int .u8 0, .int .u8 0, .int .u8 0]⟩
theorem tyOk197 : TyOk Tryz.prog 197 ty197 := tyOk_agg Tryz.underlying197 (by kernel_rfl) rfl rfl rfl ⟨_, rfl⟩
def ty209 : TyI := ⟨.struct #[{ name := "lo", type := 5, offset := 0, embedded := false, tag := "", pkgPath := "unicode/utf8", byteOffset := 0 }, { name := "hi", type := 5, offset := 1, embedded := false, tag := "", pkgPath := "unicode/utf8", byteOffset := 1 }], 2, 2, .agg #[.int .u8 0, .int .u8 0]⟩
theorem tyOk209 : TyOk Tryz.prog 209 ty209 := tyOk_agg Tryz.underlying209 (by kernel_rfl) rfl rfl rfl ⟨_, rfl⟩
def ty210 : TyI := ⟨.struct #[{ name := "lo", type := 5, offset := 0, embedded := false, tag := "", pkgPath := "unicode/utf8", byteOffset := 0 }, { name := "hi", type := 5, offset := 1, embedded := false, tag := "", pkgPath := "unicode/utf8", byteOffset := 1 }], 2, 2, .agg #[.int .u8 0, .int .u8 0]⟩
theorem tyOk210 : TyOk Tryz.prog 210 ty210 := tyOk_agg Tryz.underlying210 (by kernel_rfl) rfl rfl rfl ⟨_, rfl⟩
def ty211 : TyI := ⟨.array 16 210, 32, 32, .agg #[.int .u8 0, .int .u8 0, .int .u8 0, .int .u8 0, .int .u8 0, .int .u8 0, .int .u8 0, .int .u8 0, .int .u8 0, .int .u8 0, .int .u8 0, .int .u8 0, .int .u8 0, .int .u8 0, .int .u8 0, .int .u8 0, .int .u8 0, .int .u8 0, .int .u8 0, .int .u8 0, .int .u8 0, .int .u8 0, .int .u8 0, .int .u8 0, .int .u8 0, .int .u8 0, .int .u8 0, .int .u8 0, .int .u8 0, .int .u8 0, .int .u8 0, .int .u8 0]⟩
theorem tyOk211 : TyOk Tryz.prog 211 ty211 := tyOk_agg Tryz.underlying211 (by kernel_rfl) rfl rfl rfl ⟨_, rfl⟩
def ty213 : TyI := ⟨.pointer 215, 1, 8, .pointer none⟩
theorem tyOk213 : TyOk Tryz.prog 213 ty213 := tyOk_one Tryz.underlying213 (by kernel_rfl) rfl rfl rfl rfl
def ty214 : TyI := ⟨.struct #[{ name := "s", type := 9, offset := 0, embedded := false, tag := "", pkgPath := "errors", byteOffset := 0 }], 1, 16, .agg #[.string ByteArray.empty]⟩
theorem tyOk214 : TyOk Tryz.prog 214 ty214 := tyOk_agg Tryz.underlying214 (by kernel_rfl) rfl rfl rfl ⟨_, rfl⟩
def ty215 : TyI := ⟨.struct #[{ name := "s", type := 9, offset := 0, embedded := false, tag := "", pkgPath := "errors", byteOffset := 0 }], 1, 16, .agg #[.string ByteArray.empty]⟩
theorem tyOk215 : TyOk Tryz.prog 215 ty215 := tyOk_agg Tryz.underlying215 (by kernel_rfl) rfl rfl rfl ⟨_, rfl⟩
def ty216 : TyI := ⟨.array 32 5, 32, 32, .agg #[.int .u8 0, .int .u8 0, .int .u8 0, .int .u8 0, .int .u8 0, .int .u8 0, .int .u8 0, .int .u8 0, .int .u8 0, .int .u8 0, .int .u8 0, .int .u8 0, .int .u8 0, .int .u8 0, .int .u8 0, .int .u8 0, .int .u8 0, .int .u8 0, .int .u8 0, .int .u8 0, .int .u8 0, .int .u8 0, .int .u8 0, .int .u8 0, .int .u8 0, .int .u8 0, .int .u8 0, .int .u8 0, .int .u8 0, .int .u8 0, .int .u8 0, .int .u8 0]⟩
theorem tyOk216 : TyOk Tryz.prog 216 ty216 := tyOk_agg Tryz.underlying216 (by kernel_rfl) rfl rfl rfl ⟨_, rfl⟩
def ty217 : TyI := ⟨.array 64 5, 64, 64, .agg #[.int .u8 0, .int .u8 0, .int .u8 0, .int .u8 0, .int .u8 0, .int .u8 0, .int .u8 0, .int .u8 0, .int .u8 0, .int .u8 0, .int .u8 0, .int .u8 0, .int .u8 0, .int .u8 0, .int .u8 0, .int .u8 0, .int .u8 0, .int .u8 0, .int .u8 0, .int .u8 0, .int .u8 0, .int .u8 0, .int .u8 0, .int .u8 0, .int .u8 0, .int .u8 0, .int .u8 0, .int .u8 0, .int .u8 0, .int .u8 0, .int .u8 0, .int .u8 0, .int .u8 0, .int .u8 0, .int .u8 0, .int .u8 0, .int .u8 0, .int .u8 0, .int .u8 0, .int .u8 0, .int .u8 0, .int .u8 0, .int .u8 0, .int .u8 0, .int .u8 0, .int .u8 0, .int .u8 0, .int .u8 0, .int .u8 0, .int .u8 0, .int .u8 0, .int .u8 0, .int .u8 0, .int .u8 0, .int .u8 0, .int .u8 0, .int .u8 0, .int .u8 0, .int .u8 0, .int .u8 0, .int .u8 0, .int .u8 0, .int .u8 0, .int .u8 0]⟩
theorem tyOk217 : TyOk Tryz.prog 217 ty217 := tyOk_agg Tryz.underlying217 (by kernel_rfl) rfl rfl rfl ⟨_, rfl⟩
def ty218 : TyI := ⟨.struct #[{ name := "_interface", type := 17, offset := 0, embedded := false, tag := "", pkgPath := "runtime", byteOffset := 0 }, { name := "concrete", type := 17, offset := 1, embedded := false, tag := "", pkgPath := "runtime", byteOffset := 8 }, { name := "asserted", type := 17, offset := 2, embedded := false, tag := "", pkgPath := "runtime", byteOffset := 16 }, { name := "missingMethod", type := 9, offset := 3, embedded := false, tag := "", pkgPath := "runtime", byteOffset := 24 }], 4, 40, .agg #[.pointer none, .pointer none, .pointer none, .string ByteArray.empty]⟩
theorem tyOk218 : TyOk Tryz.prog 218 ty218 := tyOk_agg Tryz.underlying218 (by kernel_rfl) rfl rfl rfl ⟨_, rfl⟩
def ty219 : TyI := ⟨.struct #[{ name := "_interface", type := 17, offset := 0, embedded := false, tag := "", pkgPath := "runtime", byteOffset := 0 }, { name := "concrete", type := 17, offset := 1, embedded := false, tag := "", pkgPath := "runtime", byteOffset := 8 }, { name := "asserted", type := 17, offset := 2, embedded := false, tag := "", pkgPath := "runtime", byteOffset := 16 }, { name := "missingMethod", type := 9, offset := 3, embedded := false, tag := "", pkgPath := "runtime", byteOffset := 24 }], 4, 40, .agg #[.pointer none, .pointer none, .pointer none, .string ByteArray.empty]⟩
theorem tyOk219 : TyOk Tryz.prog 219 ty219 := tyOk_agg Tryz.underlying219 (by kernel_rfl) rfl rfl rfl ⟨_, rfl⟩
def ty220 : TyI := ⟨.array 0 16, 0, 0, .agg #[]⟩
theorem tyOk220 : TyOk Tryz.prog 220 ty220 := tyOk_agg Tryz.underlying220 (by kernel_rfl) rfl rfl rfl ⟨_, rfl⟩
def ty221 : TyI := ⟨.struct #[{ name := "_", type := 220, offset := 0, embedded := false, tag := "", pkgPath := "runtime", byteOffset := 0 }], 0, 0, .agg #[]⟩
theorem tyOk221 : TyOk Tryz.prog 221 ty221 := tyOk_agg Tryz.underlying221 (by kernel_rfl) rfl rfl rfl ⟨_, rfl⟩
def ty222 : TyI := ⟨.struct #[{ name := "_", type := 220, offset := 0, embedded := false, tag := "", pkgPath := "runtime", byteOffset := 0 }], 0, 0, .agg #[]⟩
theorem tyOk222 : TyOk Tryz.prog 222 ty222 := tyOk_agg Tryz.underlying222 (by kernel_rfl) rfl rfl rfl ⟨_, rfl⟩
def ty223 : TyI := ⟨.int .u8, 1, 1, .int .u8 0⟩
theorem tyOk223 : TyOk Tryz.prog 223 ty223 := tyOk_one Tryz.underlying223 (by kernel_rfl) rfl rfl rfl rfl
def ty224 : TyI := ⟨.int .u8, 1, 1, .int .u8 0⟩
theorem tyOk224 : TyOk Tryz.prog 224 ty224 := tyOk_one Tryz.underlying224 (by kernel_rfl) rfl rfl rfl rfl
def ty226 : TyI := ⟨.int .i32, 1, 4, .int .i32 0⟩
theorem tyOk226 : TyOk Tryz.prog 226 ty226 := tyOk_one Tryz.underlying226 (by kernel_rfl) rfl rfl rfl rfl
def ty227 : TyI := ⟨.int .i32, 1, 4, .int .i32 0⟩
theorem tyOk227 : TyOk Tryz.prog 227 ty227 := tyOk_one Tryz.underlying227 (by kernel_rfl) rfl rfl rfl rfl
def tys : Tys := fun T => match T with
  | 2 => some ty2
  | 3 => some ty3
  | 4 => some ty4
  | 5 => some ty5
  | 6 => some ty6
  | 7 => some ty7
  | 8 => some ty8
  | 9 => some ty9
  | 10 => some ty10
  | 11 => some ty11
  | 12 => some ty12
  | 13 => some ty13
  | 14 => some ty14
  | 15 => some ty15
  | 16 => some ty16
  | 17 => some ty17
  | 18 => some ty18
  | 19 => some ty19
  | 21 => some ty21
  | 22 => some ty22
  | 23 => some ty23
  | 24 => some ty24
  | 25 => some ty25
  | 26 => some ty26
  | 27 => some ty27
  | 28 => some ty28
  | 29 => some ty29
  | 30 => some ty30
  | 31 => some ty31
  | 38 => some ty38
  | 39 => some ty39
  | 40 => some ty40
  | 48 => some ty48
  | 49 => some ty49
  | 50 => some ty50
  | 51 => some ty51
  | 64 => some ty64
  | 65 => some ty65
  | 66 => some ty66
  | 70 => some ty70
  | 71 => some ty71
  | 74 => some ty74
  | 75 => some ty75
  | 77 => some ty77
  | 78 => some ty78
  | 79 => some ty79
  | 80 => some ty80
  | 81 => some ty81
  | 85 => some ty85
  | 86 => some ty86
  | 89 => some ty89
  | 90 => some ty90
  | 91 => some ty91
  | 92 => some ty92
  | 104 => some ty104
  | 105 => some ty105
  | 120 => some ty120
  | 121 => some ty121
  | 122 => some ty122
  | 123 => some ty123
  | 124 => some ty124
  | 125 => some ty125
  | 132 => some ty132
  | 133 => some ty133
  | 134 => some ty134
  | 135 => some ty135
  | 136 => some ty136
  | 137 => some ty137
  | 139 => some ty139
  | 115 => some ty115
  | 162 => some ty162
  | 161 => some ty161
  | 167 => some ty167
  | 177 => some ty177
  | 178 => some ty178
  | 185 => some ty185
  | 188 => some ty188
  | 191 => some ty191
  | 195 => some ty195
  | 196 => some ty196
  | 197 => some ty197
  | 209 => some ty209
  | 210 => some ty210
  | 211 => some ty211
  | 213 => some ty213
  | 214 => some ty214
  | 215 => some ty215
  | 216 => some ty216
  | 217 => some ty217
  | 218 => some ty218
  | 219 => some ty219
  | 220 => some ty220
  | 221 => some ty221
  | 222 => some ty222
  | 223 => some ty223
  | 224 => some ty224
  | 226 => some ty226
  | 227 => some ty227
  | _ => none
theorem tyAt2 : tys 2 = some ty2 := rfl
theorem tyAt3 : tys 3 = some ty3 := rfl
theorem tyAt4 : tys 4 = some ty4 := rfl
theorem tyAt5 : tys 5 = some ty5 := rfl
theorem tyAt6 : tys 6 = some ty6 := rfl
theorem tyAt7 : tys 7 = some ty7 := rfl
theorem tyAt8 : tys 8 = some ty8 := rfl
theorem tyAt9 : tys 9 = some ty9 := rfl
theorem tyAt10 : tys 10 = some ty10 := rfl
theorem tyAt11 : tys 11 = some ty11 := rfl
theorem tyAt12 : tys 12 = some ty12 := rfl
theorem tyAt13 : tys 13 = some ty13 := rfl
theorem tyAt14 : tys 14 = some ty14 := rfl
theorem tyAt15 : tys 15 = some ty15 := rfl
theorem tyAt16 : tys 16 = some ty16 := rfl
theorem tyAt17 : tys 17 = some ty17 := rfl
theorem tyAt18 : tys 18 = some ty18 := rfl
theorem tyAt19 : tys 19 = some ty19 := rfl
theorem tyAt21 : tys 21 = some ty21 := rfl
theorem tyAt22 : tys 22 = some ty22 := rfl
theorem tyAt23 : tys 23 = some ty23 := rfl
theorem tyAt24 : tys 24 = some ty24 := rfl
theorem tyAt25 : tys 25 = some ty25 := rfl
theorem tyAt26 : tys 26 = some ty26 := rfl
theorem tyAt27 : tys 27 = some ty27 := rfl
theorem tyAt28 : tys 28 = some ty28 := rfl
theorem tyAt29 : tys 29 = some ty29 := rfl
theorem tyAt30 : tys 30 = some ty30 := rfl
theorem tyAt31 : tys 31 = some ty31 := rfl
theorem tyAt38 : tys 38 = some ty38 := rfl
theorem tyAt39 : tys 39 = some ty39 := rfl
theorem tyAt40 : tys 40 = some ty40 := rfl
theorem tyAt48 : tys 48 = some ty48 := rfl
theorem tyAt49 : tys 49 = some ty49 := rfl
theorem tyAt50 : tys 50 = some ty50 := rfl
theorem tyAt51 : tys 51 = some ty51 := rfl
theorem tyAt64 : tys 64 = some ty64 := rfl
theorem tyAt65 : tys 65 = some ty65 := rfl
theorem tyAt66 : tys 66 = some ty66 := rfl
theorem tyAt70 : tys 70 = some ty70 := rfl
theorem tyAt71 : tys 71 = some ty71 := rfl
theorem tyAt74 : tys 74 = some ty74 := rfl
theorem tyAt75 : tys 75 = some ty75 := rfl
theorem tyAt77 : tys 77 = some ty77 := rfl
theorem tyAt78 : tys 78 = some ty78 := rfl
theorem tyAt79 : tys 79 = some ty79 := rfl
theorem tyAt80 : tys 80 = some ty80 := rfl
theorem tyAt81 : tys 81 = some ty81 := rfl
theorem tyAt85 : tys 85 = some ty85 := rfl
theorem tyAt86 : tys 86 = some ty86 := rfl
theorem tyAt89 : tys 89 = some ty89 := rfl
theorem tyAt90 : tys 90 = some ty90 := rfl
theorem tyAt91 : tys 91 = some ty91 := rfl
theorem tyAt92 : tys 92 = some ty92 := rfl
theorem tyAt104 : tys 104 = some ty104 := rfl
theorem tyAt105 : tys 105 = some ty105 := rfl
theorem tyAt120 : tys 120 = some ty120 := rfl
theorem tyAt121 : tys 121 = some ty121 := rfl
theorem tyAt122 : tys 122 = some ty122 := rfl
theorem tyAt123 : tys 123 = some ty123 := rfl
theorem tyAt124 : tys 124 = some ty124 := rfl
theorem tyAt125 : tys 125 = some ty125 := rfl
theorem tyAt132 : tys 132 = some ty132 := rfl
theorem tyAt133 : tys 133 = some ty133 := rfl
theorem tyAt134 : tys 134 = some ty134 := rfl
theorem tyAt135 : tys 135 = some ty135 := rfl
theorem tyAt136 : tys 136 = some ty136 := rfl
theorem tyAt137 : tys 137 = some ty137 := rfl
theorem tyAt139 : tys 139 = some ty139 := rfl
theorem tyAt115 : tys 115 = some ty115 := rfl
theorem tyAt162 : tys 162 = some ty162 := rfl
theorem tyAt161 : tys 161 = some ty161 := rfl
theorem tyAt167 : tys 167 = some ty167 := rfl
theorem tyAt177 : tys 177 = some ty177 := rfl
theorem tyAt178 : tys 178 = some ty178 := rfl
theorem tyAt185 : tys 185 = some ty185 := rfl
theorem tyAt188 : tys 188 = some ty188 := rfl
theorem tyAt191 : tys 191 = some ty191 := rfl
theorem tyAt195 : tys 195 = some ty195 := rfl
theorem tyAt196 : tys 196 = some ty196 := rfl
theorem tyAt197 : tys 197 = some ty197 := rfl
theorem tyAt209 : tys 209 = some ty209 := rfl
theorem tyAt210 : tys 210 = some ty210 := rfl
theorem tyAt211 : tys 211 = some ty211 := rfl
theorem tyAt213 : tys 213 = some ty213 := rfl
theorem tyAt214 : tys 214 = some ty214 := rfl
theorem tyAt215 : tys 215 = some ty215 := rfl
theorem tyAt216 : tys 216 = some ty216 := rfl
theorem tyAt217 : tys 217 = some ty217 := rfl
theorem tyAt218 : tys 218 = some ty218 := rfl
theorem tyAt219 : tys 219 = some ty219 := rfl
theorem tyAt220 : tys 220 = some ty220 := rfl
theorem tyAt221 : tys 221 = some ty221 := rfl
theorem tyAt222 : tys 222 = some ty222 := rfl
theorem tyAt223 : tys 223 = some ty223 := rfl
theorem tyAt224 : tys 224 = some ty224 := rfl
theorem tyAt226 : tys 226 = some ty226 := rfl
theorem tyAt227 : tys 227 = some ty227 := rfl
theorem tys_ok : ∀ T i, tys T = some i → TyOk Tryz.prog T i := by
  intro T i h
  unfold tys at h
  split at h
  · cases h; exact tyOk2
  · cases h; exact tyOk3
  · cases h; exact tyOk4
  · cases h; exact tyOk5
  · cases h; exact tyOk6
  · cases h; exact tyOk7
  · cases h; exact tyOk8
  · cases h; exact tyOk9
  · cases h; exact tyOk10
  · cases h; exact tyOk11
  · cases h; exact tyOk12
  · cases h; exact tyOk13
  · cases h; exact tyOk14
  · cases h; exact tyOk15
  · cases h; exact tyOk16
  · cases h; exact tyOk17
  · cases h; exact tyOk18
  · cases h; exact tyOk19
  · cases h; exact tyOk21
  · cases h; exact tyOk22
  · cases h; exact tyOk23
  · cases h; exact tyOk24
  · cases h; exact tyOk25
  · cases h; exact tyOk26
  · cases h; exact tyOk27
  · cases h; exact tyOk28
  · cases h; exact tyOk29
  · cases h; exact tyOk30
  · cases h; exact tyOk31
  · cases h; exact tyOk38
  · cases h; exact tyOk39
  · cases h; exact tyOk40
  · cases h; exact tyOk48
  · cases h; exact tyOk49
  · cases h; exact tyOk50
  · cases h; exact tyOk51
  · cases h; exact tyOk64
  · cases h; exact tyOk65
  · cases h; exact tyOk66
  · cases h; exact tyOk70
  · cases h; exact tyOk71
  · cases h; exact tyOk74
  · cases h; exact tyOk75
  · cases h; exact tyOk77
  · cases h; exact tyOk78
  · cases h; exact tyOk79
  · cases h; exact tyOk80
  · cases h; exact tyOk81
  · cases h; exact tyOk85
  · cases h; exact tyOk86
  · cases h; exact tyOk89
  · cases h; exact tyOk90
  · cases h; exact tyOk91
  · cases h; exact tyOk92
  · cases h; exact tyOk104
  · cases h; exact tyOk105
  · cases h; exact tyOk120
  · cases h; exact tyOk121
  · cases h; exact tyOk122
  · cases h; exact tyOk123
  · cases h; exact tyOk124
  · cases h; exact tyOk125
  · cases h; exact tyOk132
  · cases h; exact tyOk133
  · cases h; exact tyOk134
  · cases h; exact tyOk135
  · cases h; exact tyOk136
  · cases h; exact tyOk137
  · cases h; exact tyOk139
  · cases h; exact tyOk115
  · cases h; exact tyOk162
  · cases h; exact tyOk161
  · cases h; exact tyOk167
  · cases h; exact tyOk177
  · cases h; exact tyOk178
  · cases h; exact tyOk185
  · cases h; exact tyOk188
  · cases h; exact tyOk191
  · cases h; exact tyOk195
  · cases h; exact tyOk196
  · cases h; exact tyOk197
  · cases h; exact tyOk209
  · cases h; exact tyOk210
  · cases h; exact tyOk211
  · cases h; exact tyOk213
  · cases h; exact tyOk214
  · cases h; exact tyOk215
  · cases h; exact tyOk216
  · cases h; exact tyOk217
  · cases h; exact tyOk218
  · cases h; exact tyOk219
  · cases h; exact tyOk220
  · cases h; exact tyOk221
  · cases h; exact tyOk222
  · cases h; exact tyOk223
  · cases h; exact tyOk224
  · cases h; exact tyOk226
  · cases h; exact tyOk227
  · cases h
end Go.Proofs.YtcgacojnfkklaaaGreatDoor
namespace Go.Proofs.YtcgacojnfkklaaaGreatDoor
open Go.RowKit
set_option linter.unusedSimpArgs false
set_option linter.unusedVariables false
theorem eqOk49 : EqOk Tryz.prog 49 5 := by
  intro xs ys hx hy w x y
  obtain ⟨a0, t, rfl, hx0⟩ := shape_int (k := 1) hx
  obtain ⟨a1, t, rfl, hx1⟩ := shape_int (k := 0) hx0
  obtain rfl := shape_nil hx1
  obtain ⟨b0, t, rfl, hy0⟩ := shape_int (k := 1) hy
  obtain ⟨b1, t, rfl, hy1⟩ := shape_int (k := 0) hy0
  obtain rfl := shape_nil hy1
  have hm : Tryz.prog.eqGuardType Tryz.prog.depth 49 = false := by kernel_rfl
  have hp : Tryz.prog.stoodInHeld 49 = false := by kernel_rfl
  have hu := Tryz.underlying49
  have h3 := Tryz.underlying3
  have e : (Op.equalIn 10000 49 (.agg #[.int .i64 a0, .int .i64 a1]) (.agg #[.int .i64 b0, .int .i64 b1])).run Tryz.prog w = .ok ([Value.int .i64 a0, Value.int .i64 a1].map codeV == [Value.int .i64 b0, Value.int .i64 b1].map codeV) w := by
    rw [run_equalIn_struct w 9999 49 _ _ (by rw [Program.fieldsOf, hu]) hp]
    simp [Program.fieldsOf, hu, Op.eqFields, go_sem, h3, codeV]
    by_cases q0 : a0 = b0 <;> by_cases q1 : a1 = b1 <;> simp [q0, q1]
  constructor
  · simp only [Sem.run_bind]
    rw [run_eqGuard_agg _ _ _ _ _ _ _ hm]
    simp only [Result.andThen_ok, run_eql_struct]
    rw [e]; rfl
  · simp only [Sem.run_bind]
    rw [run_eqGuard_agg _ _ _ _ _ _ _ hm]
    simp only [Result.andThen_ok, run_neq_struct]
    rw [e]; rfl
theorem eqOk26 : EqOk Tryz.prog 26 21 := by
  intro xs ys hx hy w x y
  obtain ⟨a0, t, rfl, hx0⟩ := shape_int (k := 5) hx
  obtain ⟨a1, t, rfl, hx1⟩ := shape_int (k := 1) hx0
  obtain ⟨a2, t, rfl, hx2⟩ := shape_int (k := 0) hx1
  obtain rfl := shape_nil hx2
  obtain ⟨b0, t, rfl, hy0⟩ := shape_int (k := 5) hy
  obtain ⟨b1, t, rfl, hy1⟩ := shape_int (k := 1) hy0
  obtain ⟨b2, t, rfl, hy2⟩ := shape_int (k := 0) hy1
  obtain rfl := shape_nil hy2
  have hm : Tryz.prog.eqGuardType Tryz.prog.depth 26 = false := by kernel_rfl
  have hp : Tryz.prog.stoodInHeld 26 = false := by kernel_rfl
  have hu := Tryz.underlying26
  have h3 := Tryz.underlying3
  have e : (Op.equalIn 10000 26 (.agg #[.int .i64 a0, .int .i64 a1, .int .i64 a2]) (.agg #[.int .i64 b0, .int .i64 b1, .int .i64 b2])).run Tryz.prog w = .ok ([Value.int .i64 a0, Value.int .i64 a1, Value.int .i64 a2].map codeV == [Value.int .i64 b0, Value.int .i64 b1, Value.int .i64 b2].map codeV) w := by
    rw [run_equalIn_struct w 9999 26 _ _ (by rw [Program.fieldsOf, hu]) hp]
    simp [Program.fieldsOf, hu, Op.eqFields, go_sem, h3, codeV]
    by_cases q0 : a0 = b0 <;> by_cases q1 : a1 = b1 <;> by_cases q2 : a2 = b2 <;> simp [q0, q1, q2]
  constructor
  · simp only [Sem.run_bind]
    rw [run_eqGuard_agg _ _ _ _ _ _ _ hm]
    simp only [Result.andThen_ok, run_eql_struct]
    rw [e]; rfl
  · simp only [Sem.run_bind]
    rw [run_eqGuard_agg _ _ _ _ _ _ _ hm]
    simp only [Result.andThen_ok, run_neq_struct]
    rw [e]; rfl
theorem eqOk71 : EqOk Tryz.prog 71 1365 := by
  intro xs ys hx hy w x y
  obtain ⟨a0, t, rfl, hx0⟩ := shape_int (k := 341) hx
  obtain ⟨a1, t, rfl, hx1⟩ := shape_int (k := 85) hx0
  obtain ⟨a2, t, rfl, hx2⟩ := shape_int (k := 21) hx1
  obtain ⟨a3, t, rfl, hx3⟩ := shape_int (k := 5) hx2
  obtain ⟨a4, t, rfl, hx4⟩ := shape_int (k := 1) hx3
  obtain ⟨a5, t, rfl, hx5⟩ := shape_int (k := 0) hx4
  obtain rfl := shape_nil hx5
  obtain ⟨b0, t, rfl, hy0⟩ := shape_int (k := 341) hy
  obtain ⟨b1, t, rfl, hy1⟩ := shape_int (k := 85) hy0
  obtain ⟨b2, t, rfl, hy2⟩ := shape_int (k := 21) hy1
  obtain ⟨b3, t, rfl, hy3⟩ := shape_int (k := 5) hy2
  obtain ⟨b4, t, rfl, hy4⟩ := shape_int (k := 1) hy3
  obtain ⟨b5, t, rfl, hy5⟩ := shape_int (k := 0) hy4
  obtain rfl := shape_nil hy5
  have hm : Tryz.prog.eqGuardType Tryz.prog.depth 71 = false := by kernel_rfl
  have hp : Tryz.prog.stoodInHeld 71 = false := by kernel_rfl
  have hu := Tryz.underlying71
  have h3 := Tryz.underlying3
  have h49 := Tryz.underlying49
  have e : (Op.equalIn 10000 71 (.agg #[.int .i64 a0, .int .i64 a1, .int .i64 a2, .int .i64 a3, .int .i64 a4, .int .i64 a5]) (.agg #[.int .i64 b0, .int .i64 b1, .int .i64 b2, .int .i64 b3, .int .i64 b4, .int .i64 b5])).run Tryz.prog w = .ok ([Value.int .i64 a0, Value.int .i64 a1, Value.int .i64 a2, Value.int .i64 a3, Value.int .i64 a4, Value.int .i64 a5].map codeV == [Value.int .i64 b0, Value.int .i64 b1, Value.int .i64 b2, Value.int .i64 b3, Value.int .i64 b4, Value.int .i64 b5].map codeV) w := by
    rw [run_equalIn_struct w 9999 71 _ _ (by rw [Program.fieldsOf, hu]) hp]
    have hp2 : Tryz.prog.stoodInHeld 49 = false := by kernel_rfl
    have e2 : ∀ (a b c d : Int), (Op.equalIn 9999 49 (.agg #[.int .i64 a, .int .i64 b]) (.agg #[.int .i64 c, .int .i64 d])).run Tryz.prog w = .ok ([a, b] == [c, d]) w := by
      intro a b c d
      rw [run_equalIn_struct w 9998 49 _ _ (by rw [Program.fieldsOf, h49]) hp2]
      simp [Program.fieldsOf, h49, Op.eqFields, go_sem, h3]
      by_cases h1 : a = c <;> by_cases h2 : b = d <;> simp [h1, h2]
    simp [Program.fieldsOf, hu, Op.eqFields, go_sem, h3, h49, codeV, e2]
    by_cases q0 : a0 = b0 <;> by_cases q1 : a1 = b1 <;> by_cases q2 : a2 = b2 <;> by_cases q3 : a3 = b3 <;> by_cases q4 : a4 = b4 <;> by_cases q5 : a5 = b5 <;> simp [q0, q1, q2, q3, q4, q5]
  constructor
  · simp only [Sem.run_bind]
    rw [run_eqGuard_agg _ _ _ _ _ _ _ hm]
    simp only [Result.andThen_ok, run_eql_struct]
    rw [e]; rfl
  · simp only [Sem.run_bind]
    rw [run_eqGuard_agg _ _ _ _ _ _ _ hm]
    simp only [Result.andThen_ok, run_neq_struct]
    rw [e]; rfl
theorem eqOk81 : EqOk Tryz.prog 81 149 := by
  intro xs ys hx hy w x y
  obtain ⟨a0, t, rfl, hx0⟩ := shape_int (k := 37) hx
  obtain ⟨a1, t, rfl, hx1⟩ := shape_int (k := 9) hx0
  obtain ⟨a2, t, rfl, hx2⟩ := shape_int (k := 2) hx1
  obtain ⟨a3, t, rfl, hx3⟩ := shape_bool (k := 0) hx2
  obtain rfl := shape_nil hx3
  obtain ⟨b0, t, rfl, hy0⟩ := shape_int (k := 37) hy
  obtain ⟨b1, t, rfl, hy1⟩ := shape_int (k := 9) hy0
  obtain ⟨b2, t, rfl, hy2⟩ := shape_int (k := 2) hy1
  obtain ⟨b3, t, rfl, hy3⟩ := shape_bool (k := 0) hy2
  obtain rfl := shape_nil hy3
  have hm : Tryz.prog.eqGuardType Tryz.prog.depth 81 = false := by kernel_rfl
  have hp : Tryz.prog.stoodInHeld 81 = false := by kernel_rfl
  have hu := Tryz.underlying81
  have h3 := Tryz.underlying3
  have h4 := Tryz.underlying4
  have e : (Op.equalIn 10000 81 (.agg #[.int .i64 a0, .int .i64 a1, .int .i64 a2, .bool a3]) (.agg #[.int .i64 b0, .int .i64 b1, .int .i64 b2, .bool b3])).run Tryz.prog w = .ok ([Value.int .i64 a0, Value.int .i64 a1, Value.int .i64 a2, Value.bool a3].map codeV == [Value.int .i64 b0, Value.int .i64 b1, Value.int .i64 b2, Value.bool b3].map codeV) w := by
    rw [run_equalIn_struct w 9999 81 _ _ (by rw [Program.fieldsOf, hu]) hp]
    simp [Program.fieldsOf, hu, Op.eqFields, go_sem, h3, h4, codeV]
    by_cases q0 : a0 = b0 <;> by_cases q1 : a1 = b1 <;> by_cases q2 : a2 = b2 <;> cases a3 <;> cases b3 <;> simp [q0, q1, q2]
  constructor
  · simp only [Sem.run_bind]
    rw [run_eqGuard_agg _ _ _ _ _ _ _ hm]
    simp only [Result.andThen_ok, run_eql_struct]
    rw [e]; rfl
  · simp only [Sem.run_bind]
    rw [run_eqGuard_agg _ _ _ _ _ _ _ hm]
    simp only [Result.andThen_ok, run_neq_struct]
    rw [e]; rfl
def eqsC : List (TypeId × Nat) := [(49, 5), (26, 21), (71, 1365), (81, 149)]
theorem eqs_ok : ∀ T n, getA eqsC T = some n → EqOk Tryz.prog T n := by
  intro T n h
  simp only [eqsC, getA] at h
  (repeat' split at h) <;> first | (cases h; done) | (rename_i e; subst e; cases h; first | exact eqOk49 | exact eqOk26 | exact eqOk71 | exact eqOk81)
end Go.Proofs.YtcgacojnfkklaaaGreatDoor
namespace Go.Proofs.YtcgacojnfkklaaaGreatDoor
open Go.RowKit
set_option linter.unusedSimpArgs false
set_option linter.unusedVariables false
attribute [simp] cTup2_dec cTup3_dec bind_some' cAgg_dec rInt_decL rStr_decL rK_decL cList_nil stopK_n stopK_e stopK_r wrap_one wrap_zero call_eq callK_n callK_r code_skip code_label code_regionT code_regionF regionE_eq opsE_nil opsE_cons opsEK_some opsEK_none stepEK_some putK_none callE_eq callEK_n callEK_r effArgs locsL posIn X.ren renC capX X.locs capNames updB lensB effOf outNames NewC.x aMake X.inBox Cx.eff nilL_dec nilL_enc consL_dec consL_enc cTupL_dec cTupL_enc cCells_enc cCells_bools cCells_ints regK_some regK_none region_eq closeK_some closeD_some diffB memAddr dsts locX ops_nil ops_cons opsK_some opsK_none step_eq stepK_t stepK_f putK_some code_seq seqK_n seqK_e seqK_r code_cond condK_t condK_f code_block blkK_n blkK_e blkK_r code_loop code_exit code_scope code_ret startB allocs allocDst aWanted aop aCall aAppend aLen aPick aNil aMinMax aIndexAddr aIndex aSlice aExtract aFieldAddr aField aPart aLoad aLoad0 X.soft aBuild aBuildSlice aConv aConvI aConvB bytesOf aUn aBin vop iop sop zerosD rowsOf fillD placesD bound? St.ev St.put St.res dstB putT setL getA argT Cx.close closeT closeX closeB closeC annOf locsOf X.strip X.plain X.data X.cells X.rows X.int dataL ofVal ofCell ownTok Own.isEx toksApp tokAt nodupB Res.ofX aRes aResS X.outD oneOf tyAt2 tyAt3 tyAt4 tyAt5 tyAt6 tyAt7 tyAt8 tyAt9 tyAt10 tyAt11 tyAt12 tyAt13 tyAt14 tyAt15 tyAt16 tyAt17 tyAt18 tyAt19 tyAt21 tyAt22 tyAt23 tyAt24 tyAt25 tyAt26 tyAt27 tyAt28 tyAt29 tyAt30 tyAt31 tyAt38 tyAt39 tyAt40 tyAt48 tyAt49 tyAt50 tyAt51 tyAt64 tyAt65 tyAt66 tyAt70 tyAt71 tyAt74 tyAt75 tyAt77 tyAt78 tyAt79 tyAt80 tyAt81 tyAt85 tyAt86 tyAt89 tyAt90 tyAt91 tyAt92 tyAt104 tyAt105 tyAt120 tyAt121 tyAt122 tyAt123 tyAt124 tyAt125 tyAt132 tyAt133 tyAt134 tyAt135 tyAt136 tyAt137 tyAt139 tyAt115 tyAt162 tyAt161 tyAt167 tyAt177 tyAt178 tyAt185 tyAt188 tyAt191 tyAt195 tyAt196 tyAt197 tyAt209 tyAt210 tyAt211 tyAt213 tyAt214 tyAt215 tyAt216 tyAt217 tyAt218 tyAt219 tyAt220 tyAt221 tyAt222 tyAt223 tyAt224 tyAt226 tyAt227 TyI.agg TyI.isBool TyI.elem TyI.field TyI.zeroD TyI.zeroZ softD hardX isNilD bz snapC X.snap snapL flat1 flat2 flatD capsOf plainC mkFn aFunc aCallS plainCaps capLocs codeV shapeV Value.cells Value.oneCell' intsOf delOf sp0 sp1 sp2 sp3 sp4 sp5 cInt_dec cBool_dec cStr_dec cK_dec rInt_k rStr_k rK_k rInt_enc rStr_enc rK_enc cInt_enc cBool_enc cStr_enc cK_enc cList_enc cAgg_enc cTup2_enc cTup3_enc stepEK_none effK_t regionM_0 regionM_1 regionM_2 regionM_3 regionSK_cons midK_some restS_some restO idO regionLK_one regionIK_some lastK_some incK_some closeK_none code_range rangeK_some restK_n restK_e restK_r roundK_n roundOf_eq argX outC boxesC mapsC St.cont contsOf Cont.locs locsC addN reach X.ownT ownX ownC tokL tokE Cont.ren backC X.back updM oneB toksBack dedM Cx.effCall X.key wf1B wfKB Cx.mapAt Cx.lookup plainVB incOf tops Cx.incS allocsC X.keepP keepB keepM keepT restT zipT Cx.iterOf seqOf shK shVs sh1 code_regionTP code_regionFP regQ_some regQ_none tryQ_nil tryQ_cons tryK_some tryK_none oneQ_eq lastQ_some lastQ_none opsQ_nil opsQ_cons opsQ_skip opsQK_some resK_some resQ qT notIn runP_nil runP_cons runPK_some runPK_none panW_t panV_some panOf seqK_p blkK_p closeD_none aAssert Cx.panAt Cx.panF stopK_p
attribute [simp] ty2 ty3 ty4 ty5 ty6 ty7 ty8 ty9 ty10 ty11 ty12 ty13 ty14 ty15 ty16 ty17 ty18 ty19 ty21 ty22 ty23 ty24 ty25 ty26 ty27 ty28 ty29 ty30 ty31 ty38 ty39 ty40 ty48 ty49 ty50 ty51 ty64 ty65 ty66 ty70 ty71 ty74 ty75 ty77 ty78 ty79 ty80 ty81 ty85 ty86 ty89 ty90 ty91 ty92 ty104 ty105 ty120 ty121 ty122 ty123 ty124 ty125 ty132 ty133 ty134 ty135 ty136 ty137 ty139 ty115 ty162 ty161 ty167 ty177 ty178 ty185 ty188 ty191 ty195 ty196 ty197 ty209 ty210 ty211 ty213 ty214 ty215 ty216 ty217 ty218 ty219 ty220 ty221 ty222 ty223 ty224 ty226 ty227
end Go.Proofs.YtcgacojnfkklaaaGreatDoor
namespace Go.Proofs.YtcgacojnfkklaaaGreatDoor
open Go.RowKit
set_option linter.unusedSimpArgs false
set_option linter.unusedVariables false
theorem limp_cons {a b : D} {s t : List D} (h : DImp a b) (g : LImp s t) : LImp (a :: s) (b :: t) := ⟨b, t, rfl, h, g⟩
structure Spn where
  lo : Int
  hi : Int
structure Bth where
  name : ByteArray
  warm : Spn
structure Dsh where
  melt : Int
  coat : Int
  thin : Int
  hold : Int
  back : Int
  draw : Int
  set : Int
  run : Int
  baths : List Bth
structure Tap where
  wick : Int
  top : Int
  foot : Int
structure Dip where
  bath : Int
  secs : Int
  pause : Int
  turned : Bool
structure Rng where
  top : Spn
  foot : Spn
  skew : Spn
instance : Inhabited Spn := ⟨⟨0, 0⟩⟩
instance : Inhabited Bth := ⟨⟨ByteArray.empty, default⟩⟩
instance : Inhabited Dip := ⟨⟨0, 0, 0, false⟩⟩
instance : Inhabited Rng := ⟨⟨default, default, default⟩⟩
def rSpn : Row Spn := ⟨2, fun x => [DI x.lo, DI x.hi], fun d => match d with | [.v (.int .i64 a0), .v (.int .i64 a1)] => some ⟨a0, a1⟩ | _ => none, fun _ => rfl, fun d x h => by
  split at h
  · cases h; exact LImp.refl _
  · cases h⟩
theorem rSpn_enc (x : Spn) : rSpn.enc x = [DI x.lo, DI x.hi] := rfl
theorem rSpn_dec (x : Spn) : rSpn.dec [DI x.lo, DI x.hi] = some x := rSpn.de x
def rBth : Row Bth := ⟨3, fun x => [DS x.name, DI x.warm.lo, DI x.warm.hi], fun d => match d with | [.v (.string a0), .v (.int .i64 a1), .v (.int .i64 a2)] => some ⟨a0, ⟨a1, a2⟩⟩ | _ => none, fun _ => rfl, fun d x h => by
  split at h
  · cases h; exact LImp.refl _
  · cases h⟩
theorem rBth_enc (x : Bth) : rBth.enc x = [DS x.name, DI x.warm.lo, DI x.warm.hi] := rfl
theorem rBth_k : rBth.k = 3 := rfl
theorem rBth_dec (x : Bth) : rBth.dec [DS x.name, DI x.warm.lo, DI x.warm.hi] = some x := rBth.de x
theorem rBth_decL (l : List Bth) : (cList rBth).dec (.sl 3 (l.map rBth.enc)) = some l := cList_dec rBth l 3 rfl
def rDsh : Row Dsh := ⟨9, fun x => [DI x.melt, DI x.coat, DI x.thin, DI x.hold, DI x.back, DI x.draw, DI x.set, DI x.run, .sl 3 (x.baths.map rBth.enc)], fun d => match d with
  | [.v (.int .i64 a0), .v (.int .i64 a1), .v (.int .i64 a2), .v (.int .i64 a3), .v (.int .i64 a4), .v (.int .i64 a5), .v (.int .i64 a6), .v (.int .i64 a7), y8] => ((cList rBth).dec y8).map fun l8 => ⟨a0, a1, a2, a3, a4, a5, a6, a7, l8⟩
  | _ => none, fun x => by simp [DI, DS, DB, cList_dec rBth x.baths 3 rfl], fun d x h => by
  split at h
  · simp only [Option.map_eq_some_iff] at h
    obtain ⟨o, ho, rfl⟩ := h
    exact limp_cons (DImp.refl _) (limp_cons (DImp.refl _) (limp_cons (DImp.refl _) (limp_cons (DImp.refl _) (limp_cons (DImp.refl _) (limp_cons (DImp.refl _) (limp_cons (DImp.refl _) (limp_cons (DImp.refl _) (limp_cons ((cList rBth).ed _ _ ho) (LImp.refl _)))))))))
  · cases h⟩
theorem rDsh_enc (x : Dsh) : rDsh.enc x = [DI x.melt, DI x.coat, DI x.thin, DI x.hold, DI x.back, DI x.draw, DI x.set, DI x.run, .sl 3 (x.baths.map rBth.enc)] := rfl
theorem rDsh_dec (x : Dsh) : rDsh.dec [DI x.melt, DI x.coat, DI x.thin, DI x.hold, DI x.back, DI x.draw, DI x.set, DI x.run, .sl 3 (x.baths.map rBth.enc)] = some x := rDsh.de x
def rTap : Row Tap := ⟨3, fun x => [DI x.wick, DI x.top, DI x.foot], fun d => match d with | [.v (.int .i64 a0), .v (.int .i64 a1), .v (.int .i64 a2)] => some ⟨a0, a1, a2⟩ | _ => none, fun _ => rfl, fun d x h => by
  split at h
  · cases h; exact LImp.refl _
  · cases h⟩
theorem rTap_enc (x : Tap) : rTap.enc x = [DI x.wick, DI x.top, DI x.foot] := rfl
theorem rTap_dec (x : Tap) : rTap.dec [DI x.wick, DI x.top, DI x.foot] = some x := rTap.de x
def rDip : Row Dip := ⟨4, fun x => [DI x.bath, DI x.secs, DI x.pause, DB x.turned], fun d => match d with | [.v (.int .i64 a0), .v (.int .i64 a1), .v (.int .i64 a2), .v (.bool a3)] => some ⟨a0, a1, a2, a3⟩ | _ => none, fun _ => rfl, fun d x h => by
  split at h
  · cases h; exact LImp.refl _
  · cases h⟩
theorem rDip_enc (x : Dip) : rDip.enc x = [DI x.bath, DI x.secs, DI x.pause, DB x.turned] := rfl
theorem rDip_k : rDip.k = 4 := rfl
theorem rDip_dec (x : Dip) : rDip.dec [DI x.bath, DI x.secs, DI x.pause, DB x.turned] = some x := rDip.de x
theorem rDip_decL (l : List Dip) : (cList rDip).dec (.sl 4 (l.map rDip.enc)) = some l := cList_dec rDip l 4 rfl
def rRng : Row Rng := ⟨6, fun x => [DI x.top.lo, DI x.top.hi, DI x.foot.lo, DI x.foot.hi, DI x.skew.lo, DI x.skew.hi], fun d => match d with | [.v (.int .i64 a0), .v (.int .i64 a1), .v (.int .i64 a2), .v (.int .i64 a3), .v (.int .i64 a4), .v (.int .i64 a5)] => some ⟨⟨a0, a1⟩, ⟨a2, a3⟩, ⟨a4, a5⟩⟩ | _ => none, fun _ => rfl, fun d x h => by
  split at h
  · cases h; exact LImp.refl _
  · cases h⟩
theorem rRng_enc (x : Rng) : rRng.enc x = [DI x.top.lo, DI x.top.hi, DI x.foot.lo, DI x.foot.hi, DI x.skew.lo, DI x.skew.hi] := rfl
theorem rRng_k : rRng.k = 6 := rfl
theorem rRng_dec (x : Rng) : rRng.dec [DI x.top.lo, DI x.top.hi, DI x.foot.lo, DI x.foot.hi, DI x.skew.lo, DI x.skew.hi] = some x := rRng.de x
theorem rRng_decL (l : List Rng) : (cList rRng).dec (.sl 6 (l.map rRng.enc)) = some l := cList_dec rRng l 6 rfl
def inR (n lo hi : Int) : Bool := decide (lo ≤ n) && decide (n ≤ hi)
def numbersB (x : Dsh) : Bool := inR x.hold 0 600 && inR x.draw 0 600 && inR x.set 0 600 && inR x.melt 0 2000 && inR x.coat 0 5000 && inR x.thin 0 100 && inR x.back 0 10 && inR x.run 0 50
def tapE (t : Tap) : Int :=
  if !(inR t.wick 0 100000 && inR t.top 0 100000 && inR t.foot 0 100000) then 7 else if t.top < t.wick ∨ t.foot < t.wick then 2 else 0
def dipE (x : Dsh) (d : Dip) : Int :=
  if !inR d.bath 0 ((x.baths.length : Int) - 1) then 4 else if !(inR d.secs 0 600 && inR d.pause 0 600) then 7 else if d.secs ≤ x.draw then 2 else 0
def findI {α : Type} (f : Nat → α → Int) : Nat → List α → Int × Int
  | _, [] => (0, 0)
  | i, a :: t => if f i a = 0 then findI f (i + 1) t else ((i : Int), f i a)
theorem findI_from {α : Type} (f : Nat → α → Int) : ∀ (l : List α) (i : Nat), (findI f i l = (0, 0) ∧ ∀ k (h : k < l.length), f (i + k) l[k] = 0) ∨ ∃ k, ∃ h : k < l.length, findI f i l = (((i + k : Nat) : Int), f (i + k) l[k]) ∧ ¬ f (i + k) l[k] = 0 ∧ ∀ j (hj : j < l.length), j < k → f (i + j) l[j] = 0
  | [], i => .inl ⟨rfl, fun k h => absurd h (by simp)⟩
  | a :: t, i => by
    by_cases ha : f i a = 0
    · rcases findI_from f t (i + 1) with ⟨h1, h2⟩ | ⟨k, hk, h1, h2, h3⟩
      · refine .inl ⟨by rw [findI, if_pos ha]; exact h1, fun k h => ?_⟩
        cases k with
        | zero => simpa using ha
        | succ k => have := h2 k (by simpa using h); simpa [Nat.add_assoc, Nat.add_comm 1 k] using this
      · have e : i + 1 + k = i + (k + 1) := by omega
        rw [e] at h1 h2
        refine .inr ⟨k + 1, by simpa using hk, by rw [findI, if_pos ha]; simpa using h1, by simpa using h2, fun j hj hjk => ?_⟩
        cases j with
        | zero => simpa using ha
        | succ j => have := h3 j (by simpa using hj) (by omega); simpa [Nat.add_assoc, Nat.add_comm 1 j] using this
    · exact .inr ⟨0, by simp, by rw [findI, if_neg ha]; simp, by simpa using ha, fun j _ h => absurd h (by omega)⟩
theorem findI_cases {α : Type} (f : Nat → α → Int) (l : List α) : (findI f 0 l = (0, 0) ∧ ∀ k (h : k < l.length), f k l[k] = 0) ∨ ∃ k, ∃ h : k < l.length, findI f 0 l = ((k : Int), f k l[k]) ∧ ¬ f k l[k] = 0 ∧ ∀ j (hj : j < l.length), j < k → f j l[j] = 0 := by
  have := findI_from f l 0
  simpa using this
def planE (x : Dsh) (l : List Dip) : Int := if 30 < l.length then 3 else (findI (fun _ d => dipE x d) 0 l).2
def coatV (x : Dsh) (warm secs : Int) : Int := x.coat - x.thin * (warm - x.melt) - x.back * (warm - x.melt) * max 0 (secs - x.hold)
def grownV (x : Dsh) (d : Dip) (warm : Int) : Int × Int :=
  let run := x.run * max 0 (x.set - d.pause)
  let lower := 2 * (coatV x warm d.secs + run)
  let upper := 2 * (coatV x warm (d.secs - x.draw) - run)
  if d.turned then (lower, upper) else (upper, lower)
def dippedV (x : Dsh) (t : Tap) (d : Dip) (warm : Int) : Tap := ⟨t.wick, t.top + (grownV x d warm).1, t.foot + (grownV x d warm).2⟩
def lostB (t : Tap) : Bool := decide (t.top < t.wick) || decide (t.foot < t.wick)
end Go.Proofs.YtcgacojnfkklaaaGreatDoor
namespace Go.Proofs.YtcgacojnfkklaaaGreatDoor
open Go.RowKit
set_option linter.unusedSimpArgs false
set_option linter.unusedVariables false
def fuel : Nat := 281474976710656
def mkCx (l : List (Nat × (List D → Option D))) (N : Nat) (kp : Nat → List (Nat × Option Nat)) (kb : List (Nat × Nat × Nat)) : Cx := { Γ := tys, eqs := eqsC, Δ := delOf l, N := N, F := fuel, kp := kp, kb := kb }
attribute [simp] mkCx eqsC
theorem mkCx_ok {l : List (Nat × (List D → Option D))} (h : DelOk Tryz.prog (delOf l)) (N : Nat) (kp : Nat → List (Nat × Option Nat)) (kb : List (Nat × Nat × Nat)) : CxOk Tryz.prog (mkCx l N kp kb) :=
  ⟨tys_ok, eqs_ok, h, (fun _ _ _ _ _ _ _ h => by cases h), by kernel_rfl, (fun _ _ h => by cases h), pan_none, seq_none⟩
def mkCxE (l : List (Nat × (List D → Option D))) (le : List (Nat × EffSp)) (N : Nat) (kp : Nat → List (Nat × Option Nat)) (kb : List (Nat × Nat × Nat)) (df : Nat → List (Nat × Nat)) (md : Nat → Nat) (ks : List (TypeId × Nat)) (sq : List (Nat × (List D → Option (List (List Value))))) : Cx := { Γ := tys, eqs := eqsC, Δ := delOf l, N := N, F := fuel, kp := kp, kb := kb, Δe := effOf le, diff := df, md := md, keys := ks, seq := seqOf sq }
attribute [simp] mkCxE
theorem mkCxE_ok {l : List (Nat × (List D → Option D))} (h : DelOk Tryz.prog (delOf l)) {le : List (Nat × EffSp)} (he : EffOk Tryz.prog (effOf le)) {ks : List (TypeId × Nat)} (hk : ∀ K sh, getA ks K = some sh → KeyOk Tryz.prog K sh) {sq : List (Nat × (List D → Option (List (List Value))))} (hs : SeqOk Tryz.prog (seqOf sq)) (N : Nat) (kp : Nat → List (Nat × Option Nat)) (kb : List (Nat × Nat × Nat)) (df : Nat → List (Nat × Nat)) (md : Nat → Nat) : CxOk Tryz.prog (mkCxE l le N kp kb df md ks sq) :=
  ⟨tys_ok, eqs_ok, h, he, by kernel_rfl, hk, pan_none, hs⟩
def mkCxP (l : List (Nat × (List D → Option D))) (lp : List (Nat × (List D → Option Value))) (N : Nat) (kp : Nat → List (Nat × Option Nat)) (kb : List (Nat × Nat × Nat)) (df : Nat → List (Nat × Nat)) (pq : Nat → List (Nat × List Nat)) : Cx := { Γ := tys, eqs := eqsC, Δ := delOf l, N := N, F := fuel, kp := kp, kb := kb, diff := df, Δp := panOf lp, pan := true, pq := pq }
attribute [simp] mkCxP
theorem mkCxP_ok {l : List (Nat × (List D → Option D))} (h : DelOk Tryz.prog (delOf l)) {lp : List (Nat × (List D → Option Value))} (hp : PanOk Tryz.prog (panOf lp)) (N : Nat) (kp : Nat → List (Nat × Option Nat)) (kb : List (Nat × Nat × Nat)) (df : Nat → List (Nat × Nat)) (pq : Nat → List (Nat × List Nat)) : CxOk Tryz.prog (mkCxP l lp N kp kb df pq) :=
  ⟨tys_ok, eqs_ok, h, (fun _ _ _ _ _ _ _ h => by cases h), by kernel_rfl, (fun _ _ h => by cases h), hp, seq_none⟩
theorem keys_nil : ∀ (K : TypeId) (sh : Nat), getA ([] : List (TypeId × Nat)) K = some sh → KeyOk Tryz.prog K sh := fun _ _ h => by cases h
theorem wrap_small (x : Int) (h1 : -9223372036854775808 ≤ x) (h2 : x ≤ 9223372036854775807) : IntKind.i64.wrap x = x := IntWalk.i64_in _ ⟨h1, h2⟩
theorem getD_at {α : Type} (l : List α) (i : Nat) (d : α) (h : i < l.length) : l.getD i d = l[i] := by simp [List.getD, h]
theorem mul_bd {a b A B : Int} (h0 : 0 ≤ a) (h1 : a ≤ A) (h2 : 0 ≤ b) (h3 : b ≤ B) : 0 ≤ a * b ∧ a * b ≤ A * B := ⟨Int.mul_nonneg h0 h2, Int.mul_le_mul h1 h3 h2 (by omega)⟩
structure Nums (x : Dsh) : Prop where
  m0 : 0 ≤ x.melt
  m1 : x.melt ≤ 2000
  c0 : 0 ≤ x.coat
  c1 : x.coat ≤ 5000
  t0 : 0 ≤ x.thin
  t1 : x.thin ≤ 100
  h0 : 0 ≤ x.hold
  h1 : x.hold ≤ 600
  b0 : 0 ≤ x.back
  b1 : x.back ≤ 10
  d0 : 0 ≤ x.draw
  d1 : x.draw ≤ 600
  s0 : 0 ≤ x.set
  s1 : x.set ≤ 600
  r0 : 0 ≤ x.run
  r1 : x.run ≤ 50
theorem inR_iff {n lo hi : Int} : inR n lo hi = true ↔ lo ≤ n ∧ n ≤ hi := by simp [inR]
theorem nums_of {x : Dsh} (h : numbersB x = true) : Nums x := by
  unfold numbersB at h
  simp only [Bool.and_eq_true, inR_iff] at h
  obtain ⟨⟨⟨⟨⟨⟨⟨a, b⟩, c⟩, d⟩, e⟩, f⟩, g⟩, i⟩ := h
  exact ⟨d.1, d.2, e.1, e.2, f.1, f.2, a.1, a.2, g.1, g.2, b.1, b.2, c.1, c.2, i.1, i.2⟩
def warmOk (x : Dsh) (w : Int) : Prop := numbersB x = true ∧ x.melt ≤ w ∧ w ≤ 2000
instance (x : Dsh) (w : Int) : Decidable (warmOk x w) := inferInstanceAs (Decidable (_ ∧ _))
def secOk (n : Int) : Prop := -600 ≤ n ∧ n ≤ 600
instance (n : Int) : Decidable (secOk n) := inferInstanceAs (Decidable (_ ∧ _))
theorem coat_bd {x : Dsh} {w n : Int} (hw : warmOk x w) (hn : secOk n) : (0 ≤ x.thin * (w - x.melt) ∧ x.thin * (w - x.melt) ≤ 200000) ∧ (0 ≤ x.back * (w - x.melt) ∧ x.back * (w - x.melt) ≤ 20000) ∧
    (0 ≤ max 0 (n - x.hold) ∧ max 0 (n - x.hold) ≤ 600) ∧ (0 ≤ x.back * (w - x.melt) * max 0 (n - x.hold) ∧ x.back * (w - x.melt) * max 0 (n - x.hold) ≤ 12000000) ∧ -12200000 ≤ coatV x w n ∧ coatV x w n ≤ 5000 := by
  obtain ⟨h1, h2, h3⟩ := hw
  have hx := nums_of h1
  obtain ⟨m0, m1, c0, c1, t0, t1, g0, g1, b0, b1, d0, d1, s0, s1, r0, r1⟩ := hx
  obtain ⟨n0, n1⟩ := hn
  have e1 := mul_bd t0 t1 (show 0 ≤ w - x.melt by omega) (show w - x.melt ≤ 2000 by omega)
  have e2 := mul_bd b0 b1 (show 0 ≤ w - x.melt by omega) (show w - x.melt ≤ 2000 by omega)
  have e3 : 0 ≤ max 0 (n - x.hold) ∧ max 0 (n - x.hold) ≤ 600 := by omega
  have e4 := mul_bd e2.1 (show x.back * (w - x.melt) ≤ 20000 by omega) e3.1 e3.2
  refine ⟨by omega, by omega, e3, by omega, ?_, ?_⟩ <;> unfold coatV <;> omega
theorem run_bd {x : Dsh} (hx : Nums x) {p : Int} (h0 : 0 ≤ p) : 0 ≤ max 0 (x.set - p) ∧ max 0 (x.set - p) ≤ 600 ∧ 0 ≤ x.run * max 0 (x.set - p) ∧ x.run * max 0 (x.set - p) ≤ 30000 := by
  have e1 : 0 ≤ max 0 (x.set - p) ∧ max 0 (x.set - p) ≤ 600 := by have := hx.s1; omega
  have e2 := mul_bd hx.r0 hx.r1 e1.1 e1.2
  omega
end Go.Proofs.YtcgacojnfkklaaaGreatDoor
