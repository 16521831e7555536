import Derived.Test.YtjhamfilfgbhlaaGreatDoorAAd
/- What the evaluator answers at cases of SlowCasts. Conditions: none of its own. -/
namespace Go.Proofs.YtjhamfilfgbhlaaGreatDoor.slowCasts
open Go Ev
theorem ans_1_5 : isT (run (@tabR T0 (told 1 5)) 1000 noY 7 (.cons (.ref 12 0 0 0 0 0) (.cons (.ref 12 1 0 0 0 0) .nil)) .leaf 0) = true := by kernel_rfl
theorem ans_1_6 : isT (run (@tabR T0 (told 1 6)) 1000 noY 7 (.cons (.ref 12 0 0 0 0 0) (.cons (.ref 12 1 0 0 0 0) .nil)) .leaf 0) = true := by kernel_rfl
theorem ans_2_0 : isT (run (@tabR T0 (told 2 0)) 1000 noY 7 (.cons (.ref 12 0 0 0 0 0) (.cons (.ref 12 1 0 0 0 0) .nil)) .leaf 0) = true := by kernel_rfl
theorem ans_2_1 : isT (run (@tabR T0 (told 2 1)) 1000 noY 7 (.cons (.ref 12 0 0 0 0 0) (.cons (.ref 12 1 0 0 0 0) .nil)) .leaf 0) = true := by kernel_rfl
end Go.Proofs.YtjhamfilfgbhlaaGreatDoor.slowCasts
