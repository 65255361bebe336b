/-
  Of each type of this seat's program: its zero value, how many cells, how many bytes.
-/
import Derived.Test.YtmpgffdfejnklaaRows
import Derived.Test.YtmpgffdfejnklaaKo
namespace Go.Proofs.Ytmpgffdfejnklaa
theorem ti0 : TI Try.prog 0 (.tuple #[]) 1 0 := by unfold TI; kernel_rfl
theorem ti1 : TI Try.prog 1 (.nilFunc) 1 8 := by unfold TI; kernel_rfl
theorem ti2 : TI Try.prog 2 (.int .i64 0) 1 8 := by unfold TI; kernel_rfl
theorem ti3 : TI Try.prog 3 (.int .i64 0) 1 8 := by unfold TI; kernel_rfl
theorem ti4 : TI Try.prog 4 (.bool false) 1 1 := by unfold TI; kernel_rfl
theorem ti5 : TI Try.prog 5 (.int .u8 0) 1 1 := by unfold TI; kernel_rfl
theorem ti6 : TI Try.prog 6 (.int .u8 0) 1 1 := by unfold TI; kernel_rfl
theorem ti7 : TI Try.prog 7 (.agg #[.int .i64 0, .int .i64 0, .bool false, .int .u8 0]) 4 24 := by unfold TI; kernel_rfl
theorem ti8 : TI Try.prog 8 (.agg #[.int .i64 0, .int .i64 0, .bool false, .int .u8 0]) 4 24 := by unfold TI; kernel_rfl
theorem ti9 : TI Try.prog 9 (str []) 1 16 := by unfold TI; kernel_rfl
theorem ti10 : TI Try.prog 10 (str []) 1 16 := by unfold TI; kernel_rfl
theorem ti11 : TI Try.prog 11 (str []) 1 16 := by unfold TI; kernel_rfl
theorem ti12 : TI Try.prog 12 (.int .u64 0) 1 8 := by unfold TI; kernel_rfl
theorem ti13 : TI Try.prog 13 (.agg #[str [], .int .u64 0]) 2 24 := by unfold TI; kernel_rfl
theorem ti14 : TI Try.prog 14 (.agg #[str [], .int .u64 0]) 2 24 := by unfold TI; kernel_rfl
theorem ti15 : TI Try.prog 15 (.pointer none) 1 8 := by unfold TI; kernel_rfl
theorem ti16 : TI Try.prog 16 (.pointer none) 1 8 := by unfold TI; kernel_rfl
theorem ti17 : TI Try.prog 17 (.pointer none) 1 8 := by unfold TI; kernel_rfl
theorem ti18 : TI Try.prog 18 (.agg #[.pointer none]) 1 8 := by unfold TI; kernel_rfl
theorem ti19 : TI Try.prog 19 (.agg #[.pointer none]) 1 8 := by unfold TI; kernel_rfl
theorem ti20 : TI Try.prog 20 (.nilIface) 1 16 := by unfold TI; kernel_rfl
theorem ti21 : TI Try.prog 21 (.int .i32 0) 1 4 := by unfold TI; kernel_rfl
theorem ti22 : TI Try.prog 22 (.int .u32 0) 1 4 := by unfold TI; kernel_rfl
theorem ti23 : TI Try.prog 23 (.nilFunc) 1 8 := by unfold TI; kernel_rfl
theorem ti24 : TI Try.prog 24 (.nilFunc) 1 8 := by unfold TI; kernel_rfl
theorem ti25 : TI Try.prog 25 (.nilFunc) 1 8 := by unfold TI; kernel_rfl
theorem ti26 : TI Try.prog 26 (.nilFunc) 1 8 := by unfold TI; kernel_rfl
theorem ti27 : TI Try.prog 27 (.nilFunc) 1 8 := by unfold TI; kernel_rfl
theorem ti28 : TI Try.prog 28 (.slice none 0 0) 1 24 := by unfold TI; kernel_rfl
theorem ti29 : TI Try.prog 29 (.nilFunc) 1 8 := by unfold TI; kernel_rfl
theorem ti30 : TI Try.prog 30 (.nilFunc) 1 8 := by unfold TI; kernel_rfl
theorem ti31 : TI Try.prog 31 (.nilFunc) 1 8 := by unfold TI; kernel_rfl
theorem ti32 : TI Try.prog 32 (.slice none 0 0) 1 24 := by unfold TI; kernel_rfl
theorem ti33 : TI Try.prog 33 (.nilFunc) 1 8 := by unfold TI; kernel_rfl
theorem ti34 : TI Try.prog 34 (.nilFunc) 1 8 := by unfold TI; kernel_rfl
theorem ti35 : TI Try.prog 35 (.nilFunc) 1 8 := by unfold TI; kernel_rfl
theorem ti37 : TI Try.prog 37 (.nilFunc) 1 8 := by unfold TI; kernel_rfl
theorem ti38 : TI Try.prog 38 (.int .u64 0) 1 8 := by unfold TI; kernel_rfl
theorem ti39 : TI Try.prog 39 (.slice none 0 0) 1 24 := by unfold TI; kernel_rfl
theorem ti40 : TI Try.prog 40 (.nilFunc) 1 8 := by unfold TI; kernel_rfl
theorem ti41 : TI Try.prog 41 (.tuple #[.slice none 0 0, .bool false]) 1 0 := by unfold TI; kernel_rfl
theorem ti42 : TI Try.prog 42 (.nilFunc) 1 8 := by unfold TI; kernel_rfl
theorem ti43 : TI Try.prog 43 (.int .u64 0) 1 8 := by unfold TI; kernel_rfl
theorem ti44 : TI Try.prog 44 (.nilFunc) 1 8 := by unfold TI; kernel_rfl
theorem ti45 : TI Try.prog 45 (.nilFunc) 1 8 := by unfold TI; kernel_rfl
theorem ti46 : TI Try.prog 46 (.nilFunc) 1 8 := by unfold TI; kernel_rfl
theorem ti47 : TI Try.prog 47 (.nilFunc) 1 8 := by unfold TI; kernel_rfl
theorem ti48 : TI Try.prog 48 (.slice none 0 0) 1 24 := by unfold TI; kernel_rfl
theorem ti49 : TI Try.prog 49 (.nilFunc) 1 8 := by unfold TI; kernel_rfl
theorem ti50 : TI Try.prog 50 (.nilFunc) 1 8 := by unfold TI; kernel_rfl
theorem ti51 : TI Try.prog 51 (.agg #[.pointer none, .pointer none, .pointer none, str []]) 4 40 := by unfold TI; kernel_rfl
theorem ti52 : TI Try.prog 52 (.agg #[.pointer none, .pointer none, .pointer none, str []]) 4 40 := by unfold TI; kernel_rfl
theorem ti53 : TI Try.prog 53 (.agg #[]) 0 0 := by unfold TI; kernel_rfl
theorem ti54 : TI Try.prog 54 (.agg #[]) 0 0 := by unfold TI; kernel_rfl
theorem ti55 : TI Try.prog 55 (.agg #[]) 0 0 := by unfold TI; kernel_rfl
theorem ti56 : TI Try.prog 56 (.nilFunc) 1 8 := by unfold TI; kernel_rfl
theorem ti57 : TI Try.prog 57 (.int .u8 0) 1 1 := by unfold TI; kernel_rfl
theorem ti58 : TI Try.prog 58 (.int .u8 0) 1 1 := by unfold TI; kernel_rfl
theorem ti59 : TI Try.prog 59 (.nilFunc) 1 8 := by unfold TI; kernel_rfl
theorem ti60 : TI Try.prog 60 (.pointer none) 1 8 := by unfold TI; kernel_rfl
theorem ti61 : TI Try.prog 61 (.int .i32 0) 1 4 := by unfold TI; kernel_rfl
theorem ti62 : TI Try.prog 62 (.int .i32 0) 1 4 := by unfold TI; kernel_rfl
theorem ti63 : TI Try.prog 63 (.agg #[.int .u64 0, .int .u64 0, .int .u32 0, .int .u8 0, .int .u8 0, .int .u8 0, .int .u8 0, .nilFunc, .pointer none, .int .i32 0, .int .i32 0]) 11 48 := by unfold TI; kernel_rfl
theorem ti64 : TI Try.prog 64 (.agg #[.int .u64 0, .int .u64 0, .int .u32 0, .int .u8 0, .int .u8 0, .int .u8 0, .int .u8 0, .nilFunc, .pointer none, .int .i32 0, .int .i32 0]) 11 48 := by unfold TI; kernel_rfl
theorem ti65 : TI Try.prog 65 (.pointer none) 1 8 := by unfold TI; kernel_rfl
end Go.Proofs.Ytmpgffdfejnklaa
