import Derived.Test.YtjhamfilfgbhlaaGreatDoorNAd
/- What the evaluator answers at cases of SlowNil. Conditions: none of its own. -/
namespace Go.Proofs.YtjhamfilfgbhlaaGreatDoor.slowNil
open Go Ev
theorem ans_4 : isT (run (@tabR T0 (told 4)) 1000 noY 3 (.cons (.ref 12 0 0 0 0 0) .nil) .leaf 0) = true := by kernel_rfl
theorem ans_5 : isT (run (@tabR T0 (told 5)) 1000 noY 3 (.cons (.ref 12 0 0 0 0 0) .nil) .leaf 0) = true := by kernel_rfl
theorem ans_6 : isT (run (@tabR T0 (told 6)) 1000 noY 3 (.cons (.ref 12 0 0 0 0 0) .nil) .leaf 0) = true := by kernel_rfl
theorem ans_7 : isT (run (@tabR T0 (told 7)) 1000 noY 3 (.cons (.ref 12 0 0 0 0 0) .nil) .leaf 0) = true := by kernel_rfl
end Go.Proofs.YtjhamfilfgbhlaaGreatDoor.slowNil
