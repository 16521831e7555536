import Derived.Test.YtjhamfilfgbhlaaGreatDoorAAd
/- What the evaluator answers at cases of SlowCasts. Conditions: none of its own. -/
namespace Go.Proofs.YtjhamfilfgbhlaaGreatDoor.slowCasts
open Go Ev
theorem ans_2_6 : isT (run (@tabR T0 (told 2 6)) 1000 noY 7 (.cons (.ref 12 0 0 0 0 0) (.cons (.ref 12 1 0 0 0 0) .nil)) .leaf 0) = true := by kernel_rfl
theorem ans_3_0 : isT (run (@tabR T0 (told 3 0)) 1000 noY 7 (.cons (.ref 12 0 0 0 0 0) (.cons (.ref 12 1 0 0 0 0) .nil)) .leaf 0) = true := by kernel_rfl
theorem ans_3_1 : isT (run (@tabR T0 (told 3 1)) 1000 noY 7 (.cons (.ref 12 0 0 0 0 0) (.cons (.ref 12 1 0 0 0 0) .nil)) .leaf 0) = true := by kernel_rfl
theorem ans_3_2 : isT (run (@tabR T0 (told 3 2)) 1000 noY 7 (.cons (.ref 12 0 0 0 0 0) (.cons (.ref 12 1 0 0 0 0) .nil)) .leaf 0) = true := by kernel_rfl
end Go.Proofs.YtjhamfilfgbhlaaGreatDoor.slowCasts
