import Derived.Test.YtkngccfjaelcgaaGreatDoorDAd
/- What the evaluator answers at cases of SlowDeep. Conditions: none of its own. -/
namespace Go.Proofs.YtkngccfjaelcgaaGreatDoor.slowDeep
open Go Ev
theorem ans1t_38 : isT (run (@tabR (TA 40) (res1 38)) 1000 noY 4 (args true) .leaf 0) = true := by kernel_rfl
theorem ans1t_39 : isT (run (@tabR (TA 41) (res1 39)) 1000 noY 4 (args true) .leaf 0) = true := by kernel_rfl
theorem ans1t_40 : isT (run (@tabR (TA 42) (res1 40)) 1000 noY 4 (args true) .leaf 0) = true := by kernel_rfl
theorem ans1t_41 : isT (run (@tabR (TA 43) (res1 41)) 1000 noY 4 (args true) .leaf 0) = true := by kernel_rfl
theorem ans1t_42 : isT (run (@tabR (TA 44) (res1 42)) 1000 noY 4 (args true) .leaf 0) = true := by kernel_rfl
theorem ans1t_43 : isT (run (@tabR (TA 45) (res1 43)) 1000 noY 4 (args true) .leaf 0) = true := by kernel_rfl
theorem ans1t_44 : isT (run (@tabR (TA 46) (res1 44)) 1000 noY 4 (args true) .leaf 0) = true := by kernel_rfl
end Go.Proofs.YtkngccfjaelcgaaGreatDoor.slowDeep
