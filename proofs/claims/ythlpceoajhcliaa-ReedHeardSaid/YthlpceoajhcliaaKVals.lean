/-
  The chapter's examples, reckoned.
-/
import Derived.Test.YthlpceoajhcliaaKTuned
import Derived.Test.YthlpceoajhcliaaRWindow
import Derived.Test.YthlpceoajhcliaaRAfterT
import Derived.Test.YthlpceoajhcliaaRShort
import Derived.Test.YthlpceoajhcliaaGGuided
namespace Go.Proofs.Ythlpceoajhcliaa
set_option linter.unusedSimpArgs false
set_option linter.unusedVariables false
open Go.RowKit

set_option maxRecDepth 100000
theorem ex_window : windowJ (exJ (-12) (-8)) = ((-3, 2), 0) := by decide +kernel
theorem ex_strokes : checkStrokesJ (exJ (-12) (-8)) [1, 2] = 0 := by decide +kernel
theorem ex_after : afterC (exJ (-12) (-8)) [1, 2] = #[.int .i64 (-12), .int .i64 (-6), .int .i64 28, .int .i64 31, .int .i64 39, .int .i64 40] := by
  unfold afterC
  rw [if_pos ex_strokes]
  rfl
theorem ex_short : shortL (exJ (-9) (-9)) = [1, 1] := by decide +kernel
theorem ex_shortE : shortE (exJ (-9) (-9)) = 0 := by decide +kernel
theorem ex_guided : guidedJ (exJ (-12) (-8)) = (3, 0) := by decide +kernel
theorem ex_next : nextJ (exJ 4 6) = (2, 2, 0) := by decide +kernel

end Go.Proofs.Ythlpceoajhcliaa
