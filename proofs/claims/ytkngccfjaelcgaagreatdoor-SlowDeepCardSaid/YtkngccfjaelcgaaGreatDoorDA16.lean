import Derived.Test.YtkngccfjaelcgaaGreatDoorDAd
/- What the evaluator answers at cases of SlowDeep. Conditions: none of its own. -/
namespace Go.Proofs.YtkngccfjaelcgaaGreatDoor.slowDeep
open Go Ev
theorem ans1t_52 : isT (run (@tabR (TA 54) (res1 52)) 1000 noY 4 (args true) .leaf 0) = true := by kernel_rfl
theorem ans1t_53 : isT (run (@tabR (TA 55) (res1 53)) 1000 noY 4 (args true) .leaf 0) = true := by kernel_rfl
theorem ans1t_54 : isT (run (@tabR (TA 56) (res1 54)) 1000 noY 4 (args true) .leaf 0) = true := by kernel_rfl
theorem ans1t_55 : isT (run (@tabR (TA 57) (res1 55)) 1000 noY 4 (args true) .leaf 0) = true := by kernel_rfl
theorem ans1t_56 : isT (run (@tabR (TA 58) (res1 56)) 1000 noY 4 (args true) .leaf 0) = true := by kernel_rfl
theorem ans1t_57 : isT (run (@tabR (TA 59) (res1 57)) 1000 noY 4 (args true) .leaf 0) = true := by kernel_rfl
theorem ans1t_58 : isT (run (@tabR (TA 60) (res1 58)) 1000 noY 4 (args true) .leaf 0) = true := by kernel_rfl
end Go.Proofs.YtkngccfjaelcgaaGreatDoor.slowDeep
