/- Closed facts on the types and functions of the program. -/
import Derived.Test.YtcdbemdogkmahaaAcqPure
import Derived.Test.YtcdbemdogkmahaaAcqDrawG
import Derived.Test.YtcdbemdogkmahaaChecked
namespace Go.Proofs.Ytcdbemdogkmahaa.Acq
open Go Go.Acq Go.RowKit Go.Proofs
theorem mixed : Try.prog.follows .mixedOrders = true := by kernel_rfl
theorem Ty.a109 : aggT Try.prog 109 2 = true := by kernel_rfl
theorem Ty.a110 : aggT Try.prog 110 12 = true := by kernel_rfl
theorem Ty.a24 : aggT Try.prog 24 4 = true := by kernel_rfl
theorem Ty.a28 : aggT Try.prog 28 3 = true := by kernel_rfl
theorem Ty.b2 : bytesT Try.prog 2 = some 8 := by kernel_rfl
theorem Ty.b28 : bytesT Try.prog 28 = some 24 := by kernel_rfl
theorem Ty.b3 : bytesT Try.prog 3 = some 8 := by kernel_rfl
theorem Ty.c100 : callable Try.prog 100 = true := by kernel_rfl
theorem Ty.c76 : callable Try.prog 76 = true := by kernel_rfl
theorem Ty.c85 : callable Try.prog 85 = true := by kernel_rfl
theorem Ty.c86 : callable Try.prog 86 = true := by kernel_rfl
theorem Ty.c87 : callable Try.prog 87 = true := by kernel_rfl
theorem Ty.c88 : callable Try.prog 88 = true := by kernel_rfl
theorem Ty.c89 : callable Try.prog 89 = true := by kernel_rfl
theorem Ty.c90 : callable Try.prog 90 = true := by kernel_rfl
theorem Ty.c91 : callable Try.prog 91 = true := by kernel_rfl
theorem Ty.c92 : callable Try.prog 92 = true := by kernel_rfl
theorem Ty.c93 : callable Try.prog 93 = true := by kernel_rfl
theorem Ty.c97 : callable Try.prog 97 = true := by kernel_rfl
theorem Ty.c98 : callable Try.prog 98 = true := by kernel_rfl
theorem Ty.c99 : callable Try.prog 99 = true := by kernel_rfl
theorem Ty.f109_0 : fieldT Try.prog 109 0 = some 0 := by kernel_rfl
theorem Ty.f109_1 : fieldT Try.prog 109 1 = some 1 := by kernel_rfl
theorem Ty.f24_0 : fieldT Try.prog 24 0 = some 0 := by kernel_rfl
theorem Ty.f24_1 : fieldT Try.prog 24 1 = some 1 := by kernel_rfl
theorem Ty.f24_2 : fieldT Try.prog 24 2 = some 2 := by kernel_rfl
theorem Ty.f24_3 : fieldT Try.prog 24 3 = some 3 := by kernel_rfl
theorem Ty.f28_0 : fieldT Try.prog 28 0 = some 0 := by kernel_rfl
theorem Ty.f28_1 : fieldT Try.prog 28 1 = some 1 := by kernel_rfl
theorem Ty.f28_2 : fieldT Try.prog 28 2 = some 2 := by kernel_rfl
theorem Ty.f33_4 : fieldT Try.prog 33 4 = some 4 := by kernel_rfl
theorem Ty.f33_6 : fieldT Try.prog 33 6 = some 6 := by kernel_rfl
theorem Ty.f33_7 : fieldT Try.prog 33 7 = some 7 := by kernel_rfl
theorem Ty.f33_8 : fieldT Try.prog 33 8 = some 8 := by kernel_rfl
theorem Ty.l22 : sliceT Try.prog 22 = some 28 := by kernel_rfl
theorem Ty.l25 : sliceT Try.prog 25 = some 2 := by kernel_rfl
theorem Ty.l30 : sliceT Try.prog 30 = some 3 := by kernel_rfl
theorem Ty.l31 : sliceT Try.prog 31 = some 4 := by kernel_rfl
theorem Ty.n109 : sizeT Try.prog 109 = some 2 := by kernel_rfl
theorem Ty.n110 : sizeT Try.prog 110 = some 12 := by kernel_rfl
theorem Ty.n2 : sizeT Try.prog 2 = some 1 := by kernel_rfl
theorem Ty.n28 : sizeT Try.prog 28 = some 3 := by kernel_rfl
theorem Ty.n3 : sizeT Try.prog 3 = some 1 := by kernel_rfl
theorem Ty.n4 : sizeT Try.prog 4 = some 1 := by kernel_rfl
theorem Ty.r110 : Try.prog.underlying 110 = some (.array 6 109) := by kernel_rfl
theorem Ty.s123 : scalT Try.prog 123 = true := by kernel_rfl
theorem Ty.s2 : scalT Try.prog 2 = true := by kernel_rfl
theorem Ty.s22 : scalT Try.prog 22 = true := by kernel_rfl
theorem Ty.s25 : scalT Try.prog 25 = true := by kernel_rfl
theorem Ty.s3 : scalT Try.prog 3 = true := by kernel_rfl
theorem Ty.s30 : scalT Try.prog 30 = true := by kernel_rfl
theorem Ty.s31 : scalT Try.prog 31 = true := by kernel_rfl
theorem Ty.s34 : scalT Try.prog 34 = true := by kernel_rfl
theorem Ty.s4 : scalT Try.prog 4 = true := by kernel_rfl
theorem Ty.s48 : scalT Try.prog 48 = true := by kernel_rfl
theorem Ty.u4 : Try.prog.underlying 4 = some .bool := by kernel_rfl
theorem Ty.z109 : zeroT Try.prog 109 = some (.agg #[.nilFunc, .int .i64 0]) := by kernel_rfl
theorem Ty.z110 : zeroT Try.prog 110 = some (.agg #[.nilFunc, .int .i64 0, .nilFunc, .int .i64 0, .nilFunc, .int .i64 0, .nilFunc, .int .i64 0, .nilFunc, .int .i64 0, .nilFunc, .int .i64 0]) := by kernel_rfl
theorem Ty.z2 : zeroT Try.prog 2 = some (.int .i64 0) := by kernel_rfl
theorem Ty.z28 : zeroT Try.prog 28 = some (.agg #[.int .i64 0, .int .i64 0, .int .i64 0]) := by kernel_rfl
theorem Ty.z3 : zeroT Try.prog 3 = some (.int .i64 0) := by kernel_rfl
end Go.Proofs.Ytcdbemdogkmahaa.Acq
