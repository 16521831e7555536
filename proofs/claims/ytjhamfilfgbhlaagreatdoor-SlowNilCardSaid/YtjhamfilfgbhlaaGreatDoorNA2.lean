import Derived.Test.YtjhamfilfgbhlaaGreatDoorNAd
/- What the evaluator answers at cases of SlowNil. Conditions: none of its own. -/
namespace Go.Proofs.YtjhamfilfgbhlaaGreatDoor.slowNil
open Go Ev
theorem ans_8 : isT (run (@tabR T0 (told 8)) 1000 noY 3 (.cons (.ref 12 0 0 0 0 0) .nil) .leaf 0) = true := by kernel_rfl
theorem ans_9 : isT (run (@tabR T0 (told 9)) 1000 noY 3 (.cons (.ref 12 0 0 0 0 0) .nil) .leaf 0) = true := by kernel_rfl
theorem ans_10 : isT (run (@tabR T0 (told 10)) 1000 noY 3 (.cons (.ref 12 0 0 0 0 0) .nil) .leaf 0) = true := by kernel_rfl
theorem ans_11 : isT (run (@tabR T0 (told 11)) 1000 noY 3 (.cons (.ref 12 0 0 0 0 0) .nil) .leaf 0) = true := by kernel_rfl
end Go.Proofs.YtjhamfilfgbhlaaGreatDoor.slowNil
