/-
  reed: how thin a tongue is.
-/
import Derived.Test.YthlpceoajhcliaaReedB
namespace Go.Proofs.Ythlpceoajhcliaa
set_option linter.unusedSimpArgs false
set_option linter.unusedVariables false
open Go.RowKit

def St.spoiled (s : St) : Int := if s.t1 < s.le ∨ s.r1 < s.le then 1 else if s.le ≤ s.t0 ∧ s.le ≤ s.r0 then 2 else 3

set_option maxHeartbeats 1000000 in
theorem spoiled_any (s : St) (w : World) :
    Calls Try.prog 87 #[stV s] w fun e w' => e = .returned (.int .i64 s.spoiled) ∧ Below w.heap.size w w' := by
  go_enter Try.func87, Try.ntmps87
  go_wp2
  all_goals
    go_ret
    refine ⟨ret_int ?_, by (repeat' (first | (with_reducible exact Below.refl _ _) | (with_reducible refine Below.alloc ?_ ?_ _) | (with_reducible refine Below.setCell ?_ ?_ _) | (with_reducible refine Below.drew ?_) | ((with_reducible refine Below.trans ?_ (Below.mono (by assumption) ?_))) | go_size))⟩
    unfold St.spoiled
    (repeat' split)
    all_goals first | rfl | contradiction | omega | (simp_all; done) | (simp_all; omega)

end Go.Proofs.Ythlpceoajhcliaa
