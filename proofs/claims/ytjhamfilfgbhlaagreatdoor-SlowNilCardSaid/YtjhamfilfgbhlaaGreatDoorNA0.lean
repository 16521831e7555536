import Derived.Test.YtjhamfilfgbhlaaGreatDoorNAd
/- What the evaluator answers at cases of SlowNil. Conditions: none of its own. -/
namespace Go.Proofs.YtjhamfilfgbhlaaGreatDoor.slowNil
open Go Ev
theorem ans_0 : isT (run (@tabR T0 (told 0)) 1000 noY 3 (.cons (.ref 12 0 0 0 0 0) .nil) .leaf 0) = true := by kernel_rfl
theorem ans_1 : isT (run (@tabR T0 (told 1)) 1000 noY 3 (.cons (.ref 12 0 0 0 0 0) .nil) .leaf 0) = true := by kernel_rfl
theorem ans_2 : isT (run (@tabR T0 (told 2)) 1000 noY 3 (.cons (.ref 12 0 0 0 0 0) .nil) .leaf 0) = true := by kernel_rfl
theorem ans_3 : isT (run (@tabR T0 (told 3)) 1000 noY 3 (.cons (.ref 12 0 0 0 0 0) .nil) .leaf 0) = true := by kernel_rfl
end Go.Proofs.YtjhamfilfgbhlaaGreatDoor.slowNil
