/- What the operations ask of this translation's types. -/
import Derived.Test.YtfmhlieaodbgiaaGreatBkO
import Derived.Test.YtfmhlieaodbgiaaGreatProg
namespace Go.Proofs.YtfmhlieaodbgiaaGreat.Eng
open Go
set_option maxRecDepth 100000
instance : TInt Tryz.prog 3 .i64 := ⟨by kernel_rfl⟩
instance : TOne Tryz.prog 3 := ⟨one_of (by kernel_rfl), by kernel_rfl⟩
instance : TBool Tryz.prog 4 := ⟨by kernel_rfl⟩
instance : TOne Tryz.prog 4 := ⟨one_of (by kernel_rfl), by kernel_rfl⟩
instance : TInt Tryz.prog 5 .u8 := ⟨by kernel_rfl⟩
instance : TOne Tryz.prog 5 := ⟨one_of (by kernel_rfl), by kernel_rfl⟩
instance : TInt Tryz.prog 64 .u64 := ⟨by kernel_rfl⟩
instance : TOne Tryz.prog 64 := ⟨one_of (by kernel_rfl), by kernel_rfl⟩
instance : TInt Tryz.prog 136 .u64 := ⟨by kernel_rfl⟩
instance : TOne Tryz.prog 136 := ⟨one_of (by kernel_rfl), by kernel_rfl⟩
instance : TStr Tryz.prog 9 := ⟨by kernel_rfl⟩
instance : TOne Tryz.prog 9 := ⟨one_of (by kernel_rfl), by kernel_rfl⟩
instance : TSlice Tryz.prog 30 64 1 := ⟨by kernel_rfl, by kernel_rfl⟩
instance : TOne Tryz.prog 30 := ⟨one_of (by kernel_rfl), by kernel_rfl⟩
instance : TSlice Tryz.prog 31 35 2 := ⟨by kernel_rfl, by kernel_rfl⟩
instance : TOne Tryz.prog 31 := ⟨one_of (by kernel_rfl), by kernel_rfl⟩
instance : TSlice Tryz.prog 110 3 1 := ⟨by kernel_rfl, by kernel_rfl⟩
instance : TOne Tryz.prog 110 := ⟨one_of (by kernel_rfl), by kernel_rfl⟩
instance : TSlice Tryz.prog 124 5 1 := ⟨by kernel_rfl, by kernel_rfl⟩
instance : TOne Tryz.prog 124 := ⟨one_of (by kernel_rfl), by kernel_rfl⟩
instance : TAgg Tryz.prog 33 10 := ⟨agg_of (by kernel_rfl), by kernel_rfl⟩
instance : TField Tryz.prog 33 0 0 := ⟨field_of (by kernel_rfl)⟩
instance : TField Tryz.prog 33 1 1 := ⟨field_of (by kernel_rfl)⟩
instance : TField Tryz.prog 33 2 2 := ⟨field_of (by kernel_rfl)⟩
instance : TField Tryz.prog 33 3 3 := ⟨field_of (by kernel_rfl)⟩
instance : TField Tryz.prog 33 4 4 := ⟨field_of (by kernel_rfl)⟩
instance : TField Tryz.prog 33 5 5 := ⟨field_of (by kernel_rfl)⟩
instance : TField Tryz.prog 33 6 6 := ⟨field_of (by kernel_rfl)⟩
instance : TField Tryz.prog 33 7 7 := ⟨field_of (by kernel_rfl)⟩
instance : TField Tryz.prog 33 8 8 := ⟨field_of (by kernel_rfl)⟩
instance : TField Tryz.prog 33 9 9 := ⟨field_of (by kernel_rfl)⟩
instance : TFlat Tryz.prog 33 [.slice none 0 0, .int .i64 0, .int .i64 0, .int .i64 0, .bool false, .int .i64 0, .int .i64 0, .int .i64 0, .int .i64 0, .slice none 0 0] := ⟨by kernel_rfl, by kernel_rfl⟩
instance : TZero Tryz.prog 33 (.agg #[.slice none 0 0, .int .i64 0, .int .i64 0, .int .i64 0, .bool false, .int .i64 0, .int .i64 0, .int .i64 0, .int .i64 0, .slice none 0 0]) := ⟨by kernel_rfl⟩
instance : TAgg Tryz.prog 87 3 := ⟨agg_of (by kernel_rfl), by kernel_rfl⟩
instance : TField Tryz.prog 87 0 0 := ⟨field_of (by kernel_rfl)⟩
instance : TField Tryz.prog 87 1 1 := ⟨field_of (by kernel_rfl)⟩
instance : TField Tryz.prog 87 2 2 := ⟨field_of (by kernel_rfl)⟩
instance : TFlat Tryz.prog 87 [.int .i64 0, .int .i64 0, .int .i64 0] := ⟨by kernel_rfl, by kernel_rfl⟩
instance : TZero Tryz.prog 87 (.agg #[.int .i64 0, .int .i64 0, .int .i64 0]) := ⟨by kernel_rfl⟩
instance : TAgg Tryz.prog 35 2 := ⟨agg_of (by kernel_rfl), by kernel_rfl⟩
instance : TField Tryz.prog 35 0 0 := ⟨field_of (by kernel_rfl)⟩
instance : TField Tryz.prog 35 1 1 := ⟨field_of (by kernel_rfl)⟩
instance : TFlat Tryz.prog 35 [.int .i64 0, .int .i64 0] := ⟨by kernel_rfl, by kernel_rfl⟩
instance : TZero Tryz.prog 35 (.agg #[.int .i64 0, .int .i64 0]) := ⟨by kernel_rfl⟩
instance : TOne Tryz.prog 92 := ⟨one_of (by kernel_rfl), by kernel_rfl⟩
instance : TOne Tryz.prog 125 := ⟨one_of (by kernel_rfl), by kernel_rfl⟩
instance : TInfo Tryz.prog 3 (.int .i64 0) 1 8 := ⟨by kernel_rfl⟩
instance : TInfo Tryz.prog 64 (.int .u64 0) 1 8 := ⟨by kernel_rfl⟩
instance : TInfo Tryz.prog 4 (.bool false) 1 1 := ⟨by kernel_rfl⟩
instance : TInfo Tryz.prog 5 (.int .u8 0) 1 1 := ⟨by kernel_rfl⟩
instance : TInfo Tryz.prog 35 (.agg #[.int .i64 0, .int .i64 0]) 2 16 := ⟨by kernel_rfl⟩
end Go.Proofs.YtfmhlieaodbgiaaGreat.Eng
