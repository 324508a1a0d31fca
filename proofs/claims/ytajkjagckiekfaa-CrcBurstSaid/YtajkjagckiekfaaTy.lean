/-
  What the types are and which functions have a body: closed facts, each reckoned by the kernel (written by a program of this workplace: ty.py).
-/
import Derived.Test.YtajkjagckiekfaaChecked
import Derived.Test.YtajkjagckiekfaaSL2
namespace Go.Proofs.Ytajkjagckiekfaa
open Go Go.SL
theorem mixed : Try.prog.follows .mixedOrders = true := by kernel_rfl
theorem I0 : Inf Try.prog 0 1 0 (.tuple #[]) := Inf.of (by kernel_rfl)
theorem I1 : Inf Try.prog 1 1 8 .nilFunc := Inf.of (by kernel_rfl)
theorem I2 : Inf Try.prog 2 1 8 (.int .i64 0) := Inf.of (by kernel_rfl)
theorem I3 : Inf Try.prog 3 1 8 (.int .i64 0) := Inf.of (by kernel_rfl)
theorem I4 : Inf Try.prog 4 1 1 (.bool false) := Inf.of (by kernel_rfl)
theorem I5 : Inf Try.prog 5 1 1 (.int .u8 0) := Inf.of (by kernel_rfl)
theorem I6 : Inf Try.prog 6 1 1 (.int .u8 0) := Inf.of (by kernel_rfl)
theorem I7 : Inf Try.prog 7 4 24 (.agg #[(.int .i64 0), (.int .i64 0), (.bool false), (.int .u8 0)]) := Inf.of (by kernel_rfl)
theorem I8 : Inf Try.prog 8 4 24 (.agg #[(.int .i64 0), (.int .i64 0), (.bool false), (.int .u8 0)]) := Inf.of (by kernel_rfl)
theorem I9 : Inf Try.prog 9 1 16 (.string ByteArray.empty) := Inf.of (by kernel_rfl)
theorem I10 : Inf Try.prog 10 1 16 (.string ByteArray.empty) := Inf.of (by kernel_rfl)
theorem I11 : Inf Try.prog 11 1 16 (.string ByteArray.empty) := Inf.of (by kernel_rfl)
theorem I12 : Inf Try.prog 12 1 8 (.int .u64 0) := Inf.of (by kernel_rfl)
theorem I13 : Inf Try.prog 13 2 24 (.agg #[(.string ByteArray.empty), (.int .u64 0)]) := Inf.of (by kernel_rfl)
theorem I14 : Inf Try.prog 14 2 24 (.agg #[(.string ByteArray.empty), (.int .u64 0)]) := Inf.of (by kernel_rfl)
theorem I15 : Inf Try.prog 15 1 8 (.pointer none) := Inf.of (by kernel_rfl)
theorem I16 : Inf Try.prog 16 1 8 (.pointer none) := Inf.of (by kernel_rfl)
theorem I17 : Inf Try.prog 17 1 8 (.pointer none) := Inf.of (by kernel_rfl)
theorem I18 : Inf Try.prog 18 1 8 (.agg #[(.pointer none)]) := Inf.of (by kernel_rfl)
theorem I19 : Inf Try.prog 19 1 8 (.agg #[(.pointer none)]) := Inf.of (by kernel_rfl)
theorem I20 : Inf Try.prog 20 1 16 .nilIface := Inf.of (by kernel_rfl)
theorem I21 : Inf Try.prog 21 1 4 (.int .i32 0) := Inf.of (by kernel_rfl)
theorem I22 : Inf Try.prog 22 1 24 (.slice none 0 0) := Inf.of (by kernel_rfl)
theorem I23 : Inf Try.prog 23 1 8 .nilFunc := Inf.of (by kernel_rfl)
theorem I24 : Inf Try.prog 24 1 8 .nilFunc := Inf.of (by kernel_rfl)
theorem I25 : Inf Try.prog 25 1 4 (.int .u32 0) := Inf.of (by kernel_rfl)
theorem I26 : Inf Try.prog 26 1 8 .nilFunc := Inf.of (by kernel_rfl)
theorem I27 : Inf Try.prog 27 1 8 .nilFunc := Inf.of (by kernel_rfl)
theorem I28 : Inf Try.prog 28 1 8 .nilFunc := Inf.of (by kernel_rfl)
theorem I29 : Inf Try.prog 29 1 8 .nilFunc := Inf.of (by kernel_rfl)
theorem I30 : Inf Try.prog 30 1 8 .nilFunc := Inf.of (by kernel_rfl)
theorem I31 : Inf Try.prog 31 1 24 (.slice none 0 0) := Inf.of (by kernel_rfl)
theorem I32 : Inf Try.prog 32 1 8 .nilFunc := Inf.of (by kernel_rfl)
theorem I33 : Inf Try.prog 33 1 8 (.int .u64 0) := Inf.of (by kernel_rfl)
theorem I34 : Inf Try.prog 34 1 8 .nilFunc := Inf.of (by kernel_rfl)
theorem I35 : Inf Try.prog 35 4 40 (.agg #[(.pointer none), (.pointer none), (.pointer none), (.string ByteArray.empty)]) := Inf.of (by kernel_rfl)
theorem I36 : Inf Try.prog 36 4 40 (.agg #[(.pointer none), (.pointer none), (.pointer none), (.string ByteArray.empty)]) := Inf.of (by kernel_rfl)
theorem I37 : Inf Try.prog 37 0 0 (.agg #[]) := Inf.of (by kernel_rfl)
theorem I38 : Inf Try.prog 38 0 0 (.agg #[]) := Inf.of (by kernel_rfl)
theorem I39 : Inf Try.prog 39 0 0 (.agg #[]) := Inf.of (by kernel_rfl)
theorem I40 : Inf Try.prog 40 1 8 .nilFunc := Inf.of (by kernel_rfl)
theorem I41 : Inf Try.prog 41 1 1 (.int .u8 0) := Inf.of (by kernel_rfl)
theorem I42 : Inf Try.prog 42 1 1 (.int .u8 0) := Inf.of (by kernel_rfl)
theorem I43 : Inf Try.prog 43 1 8 .nilFunc := Inf.of (by kernel_rfl)
theorem I44 : Inf Try.prog 44 1 8 (.pointer none) := Inf.of (by kernel_rfl)
theorem I45 : Inf Try.prog 45 1 4 (.int .i32 0) := Inf.of (by kernel_rfl)
theorem I46 : Inf Try.prog 46 1 4 (.int .i32 0) := Inf.of (by kernel_rfl)
theorem I47 : Inf Try.prog 47 11 48 (.agg #[(.int .u64 0), (.int .u64 0), (.int .u32 0), (.int .u8 0), (.int .u8 0), (.int .u8 0), (.int .u8 0), .nilFunc, (.pointer none), (.int .i32 0), (.int .i32 0)]) := Inf.of (by kernel_rfl)
theorem I48 : Inf Try.prog 48 11 48 (.agg #[(.int .u64 0), (.int .u64 0), (.int .u32 0), (.int .u8 0), (.int .u8 0), (.int .u8 0), (.int .u8 0), .nilFunc, (.pointer none), (.int .i32 0), (.int .i32 0)]) := Inf.of (by kernel_rfl)
theorem I49 : Inf Try.prog 49 1 8 (.pointer none) := Inf.of (by kernel_rfl)
theorem E2 : Enters Try.prog 2 := Enters.of Try.func2 (by kernel_rfl) rfl
theorem E3 : Enters Try.prog 3 := Enters.of Try.func3 (by kernel_rfl) rfl
theorem E4 : Enters Try.prog 4 := Enters.of Try.func4 (by kernel_rfl) rfl
theorem E5 : Enters Try.prog 5 := Enters.of Try.func5 (by kernel_rfl) rfl
theorem E6 : Enters Try.prog 6 := Enters.of Try.func6 (by kernel_rfl) rfl
theorem E7 : Enters Try.prog 7 := Enters.of Try.func7 (by kernel_rfl) rfl
theorem E8 : Enters Try.prog 8 := Enters.of Try.func8 (by kernel_rfl) rfl
theorem E9 : Enters Try.prog 9 := Enters.of Try.func9 (by kernel_rfl) rfl
theorem E10 : Enters Try.prog 10 := Enters.of Try.func10 (by kernel_rfl) rfl
theorem E11 : Enters Try.prog 11 := Enters.of Try.func11 (by kernel_rfl) rfl
end Go.Proofs.Ytajkjagckiekfaa
