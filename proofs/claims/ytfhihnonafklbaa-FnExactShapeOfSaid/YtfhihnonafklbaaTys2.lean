/- What the operations ask of this translation's types. -/
import Derived.Test.YtfhihnonafklbaaTys
import Derived.Test.YtfhihnonafklbaaProg
namespace Go.Proofs.Ytfhihnonafklbaa.Eng
open Go
set_option maxRecDepth 100000
instance : TAgg Try.prog 50 6 := ⟨agg_of (by kernel_rfl), by kernel_rfl⟩
instance : TField Try.prog 50 0 0 := ⟨field_of (by kernel_rfl)⟩
instance : TField Try.prog 50 1 1 := ⟨field_of (by kernel_rfl)⟩
instance : TField Try.prog 50 2 2 := ⟨field_of (by kernel_rfl)⟩
instance : TField Try.prog 50 3 3 := ⟨field_of (by kernel_rfl)⟩
instance : TField Try.prog 50 4 4 := ⟨field_of (by kernel_rfl)⟩
instance : TField Try.prog 50 5 5 := ⟨field_of (by kernel_rfl)⟩
instance : TFlat Try.prog 50 [.int .i64 0, .int .i64 0, .int .i64 0, .int .i64 0, .string ByteArray.empty, .slice none 0 0] := ⟨by kernel_rfl, by kernel_rfl⟩
instance : TZero Try.prog 50 (.agg #[.int .i64 0, .int .i64 0, .int .i64 0, .int .i64 0, .string ByteArray.empty, .slice none 0 0]) := ⟨by kernel_rfl⟩
instance : TAgg Try.prog 30 2 := ⟨agg_of (by kernel_rfl), by kernel_rfl⟩
instance : TField Try.prog 30 0 0 := ⟨field_of (by kernel_rfl)⟩
instance : TField Try.prog 30 1 1 := ⟨field_of (by kernel_rfl)⟩
instance : TFlat Try.prog 30 [.slice none 0 0, .slice none 0 0] := ⟨by kernel_rfl, by kernel_rfl⟩
instance : TZero Try.prog 30 (.agg #[.slice none 0 0, .slice none 0 0]) := ⟨by kernel_rfl⟩
instance : TSlice Try.prog 28 50 6 := ⟨by kernel_rfl, by kernel_rfl⟩
instance : TOne Try.prog 28 := ⟨one_of (by kernel_rfl), by kernel_rfl⟩
instance : TMap Try.prog 92 3 3 := ⟨by kernel_rfl⟩
instance : TOne Try.prog 92 := ⟨one_of (by kernel_rfl), by kernel_rfl⟩
instance : TAgg Try.prog 94 3 := ⟨agg_of (by kernel_rfl), by kernel_rfl⟩
instance : TField Try.prog 94 0 0 := ⟨field_of (by kernel_rfl)⟩
instance : TField Try.prog 94 1 1 := ⟨field_of (by kernel_rfl)⟩
instance : TField Try.prog 94 2 2 := ⟨field_of (by kernel_rfl)⟩
instance : TFlat Try.prog 94 [.pointer none, .map none, .slice none 0 0] := ⟨by kernel_rfl, by kernel_rfl⟩
instance : TZero Try.prog 94 (.agg #[.pointer none, .map none, .slice none 0 0]) := ⟨by kernel_rfl⟩
instance : TOne Try.prog 91 := ⟨one_of (by kernel_rfl), by kernel_rfl⟩
instance : TInfo Try.prog 50 (.agg #[.int .i64 0, .int .i64 0, .int .i64 0, .int .i64 0, .string ByteArray.empty, .slice none 0 0]) 6 72 := ⟨by kernel_rfl⟩
end Go.Proofs.Ytfhihnonafklbaa.Eng
