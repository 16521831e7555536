import Derived.Test.YtjhamfilfgbhlaaGreatDoorAAd
/- What the evaluator answers at cases of SlowCasts. Conditions: none of its own. -/
namespace Go.Proofs.YtjhamfilfgbhlaaGreatDoor.slowCasts
open Go Ev
theorem ans_0_4 : isT (run (@tabR T0 (told 0 4)) 1000 noY 7 (.cons (.ref 12 0 0 0 0 0) (.cons (.ref 12 1 0 0 0 0) .nil)) .leaf 0) = true := by kernel_rfl
theorem ans_0_5 : isT (run (@tabR T0 (told 0 5)) 1000 noY 7 (.cons (.ref 12 0 0 0 0 0) (.cons (.ref 12 1 0 0 0 0) .nil)) .leaf 0) = true := by kernel_rfl
theorem ans_0_6 : isT (run (@tabR T0 (told 0 6)) 1000 noY 7 (.cons (.ref 12 0 0 0 0 0) (.cons (.ref 12 1 0 0 0 0) .nil)) .leaf 0) = true := by kernel_rfl
theorem ans_1_0 : isT (run (@tabR T0 (told 1 0)) 1000 noY 7 (.cons (.ref 12 0 0 0 0 0) (.cons (.ref 12 1 0 0 0 0) .nil)) .leaf 0) = true := by kernel_rfl
end Go.Proofs.YtjhamfilfgbhlaaGreatDoor.slowCasts
