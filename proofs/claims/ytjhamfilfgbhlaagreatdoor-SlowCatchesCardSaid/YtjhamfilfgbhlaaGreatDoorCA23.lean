import Derived.Test.YtjhamfilfgbhlaaGreatDoorCAd
/- What the evaluator answers at cases of SlowCatches. Conditions: none of its own. -/
namespace Go.Proofs.YtjhamfilfgbhlaaGreatDoor.slowCatches
open Go Ev
theorem ans_3_3_1_f : isT (run (@tabR T0 (told 3 3 1)) 1000 noY 5 (.cons (.ref 12 0 0 0 0 0) (.cons (.ref 12 1 0 0 0 0) (.cons (.ref 12 2 0 0 0 0) (.cons (.num 8 (.ofNat 0)) .nil)))) .leaf 0) = true := by kernel_rfl
theorem ans_3_3_1_t : isT (run (@tabR T0 (told 3 3 1)) 1000 noY 5 (.cons (.ref 12 0 0 0 0 0) (.cons (.ref 12 1 0 0 0 0) (.cons (.ref 12 2 0 0 0 0) (.cons (.num 8 (.ofNat 1)) .nil)))) .leaf 0) = true := by kernel_rfl
theorem ans_3_3_2_f : isT (run (@tabR T0 (told 3 3 2)) 1000 noY 5 (.cons (.ref 12 0 0 0 0 0) (.cons (.ref 12 1 0 0 0 0) (.cons (.ref 12 2 0 0 0 0) (.cons (.num 8 (.ofNat 0)) .nil)))) .leaf 0) = true := by kernel_rfl
theorem ans_3_3_2_t : isT (run (@tabR T0 (told 3 3 2)) 1000 noY 5 (.cons (.ref 12 0 0 0 0 0) (.cons (.ref 12 1 0 0 0 0) (.cons (.ref 12 2 0 0 0 0) (.cons (.num 8 (.ofNat 1)) .nil)))) .leaf 0) = true := by kernel_rfl
end Go.Proofs.YtjhamfilfgbhlaaGreatDoor.slowCatches
