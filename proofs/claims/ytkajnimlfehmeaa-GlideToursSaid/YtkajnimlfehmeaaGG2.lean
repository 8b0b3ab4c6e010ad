/-
  Two calls at known values (glide.Time), run by the kernel.
-/
import Derived.Test.YtkajnimlfehmeaaGG1
set_option linter.unusedSimpArgs false
set_option linter.unusedVariables false
namespace Go.Proofs.Ytkajnimlfehmeaa
open Go.Vl
theorem time_a : evF Try.prog noneKnown 1000 10 18 [vecPV 0 0 0, vecPV 1000 0 0, .agg [.int .i64 500, .int .i64 10000]] = some (.tup [.int .i64 3750, .int .i64 0]) := by kernel_rfl
theorem time_b : evF Try.prog noneKnown 1000 10 18 [vecPV 1 2 3, vecPV 1 2 3, .agg [.int .i64 500, .int .i64 10000]] = some (.tup [.int .i64 1, .int .i64 0]) := by kernel_rfl
end Go.Proofs.Ytkajnimlfehmeaa
