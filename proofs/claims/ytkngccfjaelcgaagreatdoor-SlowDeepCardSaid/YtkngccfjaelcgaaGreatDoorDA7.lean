import Derived.Test.YtkngccfjaelcgaaGreatDoorDAd
/- What the evaluator answers at cases of SlowDeep. Conditions: none of its own. -/
namespace Go.Proofs.YtkngccfjaelcgaaGreatDoor.slowDeep
open Go Ev
theorem ans1f_49 : isT (run (@tabR (TA 50) (res1 49)) 1000 noY 4 (args false) .leaf 0) = true := by kernel_rfl
theorem ans1f_50 : isT (run (@tabR (TA 51) (res1 50)) 1000 noY 4 (args false) .leaf 0) = true := by kernel_rfl
theorem ans1f_51 : isT (run (@tabR (TA 52) (res1 51)) 1000 noY 4 (args false) .leaf 0) = true := by kernel_rfl
theorem ans1f_52 : isT (run (@tabR (TA 53) (res1 52)) 1000 noY 4 (args false) .leaf 0) = true := by kernel_rfl
theorem ans1f_53 : isT (run (@tabR (TA 54) (res1 53)) 1000 noY 4 (args false) .leaf 0) = true := by kernel_rfl
theorem ans1f_54 : isT (run (@tabR (TA 55) (res1 54)) 1000 noY 4 (args false) .leaf 0) = true := by kernel_rfl
theorem ans1f_55 : isT (run (@tabR (TA 56) (res1 55)) 1000 noY 4 (args false) .leaf 0) = true := by kernel_rfl
end Go.Proofs.YtkngccfjaelcgaaGreatDoor.slowDeep
