import Derived.Test.YtjhamfilfgbhlaaGreatDoorRows
import Derived.JoinedOf
import Derived.KernelRfl
/- Closed facts on the row of SlowCatches. -/
namespace Go.Proofs.YtjhamfilfgbhlaaGreatDoor.slowCatches
open Go
set_option maxRecDepth 100000
set_option linter.unusedVariables false
set_option linter.unusedSimpArgs false
set_option maxHeartbeats 8000000 in
theorem joined : joinedFacts Tryz.pinned.checked.prog 5 Tryz.f5 Rows.slowCatchesSpec Rows.slowCatchesRow = true := by
  unfold joinedFacts
  simp only [Bool.and_eq_true]
  repeat' apply And.intro
  all_goals (as_aux_lemma => kernel_rfl)
end Go.Proofs.YtjhamfilfgbhlaaGreatDoor.slowCatches
