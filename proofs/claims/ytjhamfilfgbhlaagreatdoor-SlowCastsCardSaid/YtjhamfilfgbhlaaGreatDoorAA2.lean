import Derived.Test.YtjhamfilfgbhlaaGreatDoorAAd
/- What the evaluator answers at cases of SlowCasts. Conditions: none of its own. -/
namespace Go.Proofs.YtjhamfilfgbhlaaGreatDoor.slowCasts
open Go Ev
theorem ans_1_1 : isT (run (@tabR T0 (told 1 1)) 1000 noY 7 (.cons (.ref 12 0 0 0 0 0) (.cons (.ref 12 1 0 0 0 0) .nil)) .leaf 0) = true := by kernel_rfl
theorem ans_1_2 : isT (run (@tabR T0 (told 1 2)) 1000 noY 7 (.cons (.ref 12 0 0 0 0 0) (.cons (.ref 12 1 0 0 0 0) .nil)) .leaf 0) = true := by kernel_rfl
theorem ans_1_3 : isT (run (@tabR T0 (told 1 3)) 1000 noY 7 (.cons (.ref 12 0 0 0 0 0) (.cons (.ref 12 1 0 0 0 0) .nil)) .leaf 0) = true := by kernel_rfl
theorem ans_1_4 : isT (run (@tabR T0 (told 1 4)) 1000 noY 7 (.cons (.ref 12 0 0 0 0 0) (.cons (.ref 12 1 0 0 0 0) .nil)) .leaf 0) = true := by kernel_rfl
end Go.Proofs.YtjhamfilfgbhlaaGreatDoor.slowCasts
