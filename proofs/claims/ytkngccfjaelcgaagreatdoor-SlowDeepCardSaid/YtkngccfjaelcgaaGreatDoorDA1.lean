import Derived.Test.YtkngccfjaelcgaaGreatDoorDAd
/- What the evaluator answers at cases of SlowDeep. Conditions: none of its own. -/
namespace Go.Proofs.YtkngccfjaelcgaaGreatDoor.slowDeep
open Go Ev
theorem ans1f_7 : isT (run (@tabR (TA 8) (res1 7)) 1000 noY 4 (args false) .leaf 0) = true := by kernel_rfl
theorem ans1f_8 : isT (run (@tabR (TA 9) (res1 8)) 1000 noY 4 (args false) .leaf 0) = true := by kernel_rfl
theorem ans1f_9 : isT (run (@tabR (TA 10) (res1 9)) 1000 noY 4 (args false) .leaf 0) = true := by kernel_rfl
theorem ans1f_10 : isT (run (@tabR (TA 11) (res1 10)) 1000 noY 4 (args false) .leaf 0) = true := by kernel_rfl
theorem ans1f_11 : isT (run (@tabR (TA 12) (res1 11)) 1000 noY 4 (args false) .leaf 0) = true := by kernel_rfl
theorem ans1f_12 : isT (run (@tabR (TA 13) (res1 12)) 1000 noY 4 (args false) .leaf 0) = true := by kernel_rfl
theorem ans1f_13 : isT (run (@tabR (TA 14) (res1 13)) 1000 noY 4 (args false) .leaf 0) = true := by kernel_rfl
end Go.Proofs.YtkngccfjaelcgaaGreatDoor.slowDeep
