import Derived.Test.YtjhamfilfgbhlaaGreatDoorAAd
/- What the evaluator answers at cases of SlowCasts. Conditions: none of its own. -/
namespace Go.Proofs.YtjhamfilfgbhlaaGreatDoor.slowCasts
open Go Ev
theorem ans_0_0 : isT (run (@tabR T0 (told 0 0)) 1000 noY 7 (.cons (.ref 12 0 0 0 0 0) (.cons (.ref 12 1 0 0 0 0) .nil)) .leaf 0) = true := by kernel_rfl
theorem ans_0_1 : isT (run (@tabR T0 (told 0 1)) 1000 noY 7 (.cons (.ref 12 0 0 0 0 0) (.cons (.ref 12 1 0 0 0 0) .nil)) .leaf 0) = true := by kernel_rfl
theorem ans_0_2 : isT (run (@tabR T0 (told 0 2)) 1000 noY 7 (.cons (.ref 12 0 0 0 0 0) (.cons (.ref 12 1 0 0 0 0) .nil)) .leaf 0) = true := by kernel_rfl
theorem ans_0_3 : isT (run (@tabR T0 (told 0 3)) 1000 noY 7 (.cons (.ref 12 0 0 0 0 0) (.cons (.ref 12 1 0 0 0 0) .nil)) .leaf 0) = true := by kernel_rfl
end Go.Proofs.YtjhamfilfgbhlaaGreatDoor.slowCasts
