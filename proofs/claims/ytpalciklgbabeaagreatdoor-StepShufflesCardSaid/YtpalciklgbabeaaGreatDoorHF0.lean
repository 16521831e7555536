import Derived.Test.YtpalciklgbabeaaGreatDoorRows
import Derived.JoinedOf
import Derived.KernelRfl
/- Closed facts on the row of StepShuffles. -/
namespace Go.Proofs.YtpalciklgbabeaaGreatDoor.stepShuffles
open Go
set_option maxRecDepth 100000
set_option linter.unusedVariables false
set_option linter.unusedSimpArgs false
set_option maxHeartbeats 8000000 in
theorem joined : joinedFacts Tryz.pinned.checked.prog 4 Tryz.f4 Rows.stepShufflesSpec Rows.stepShufflesRow = true := by
  unfold joinedFacts
  simp only [Bool.and_eq_true]
  repeat' apply And.intro
  all_goals (as_aux_lemma => kernel_rfl)
end Go.Proofs.YtpalciklgbabeaaGreatDoor.stepShuffles
