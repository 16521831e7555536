import Derived.Test.YtkngccfjaelcgaaGreatDoorDAd
/- What the evaluator answers at cases of SlowDeep. Conditions: none of its own. -/
namespace Go.Proofs.YtkngccfjaelcgaaGreatDoor.slowDeep
open Go Ev
theorem ans1t_10 : isT (run (@tabR (TA 12) (res1 10)) 1000 noY 4 (args true) .leaf 0) = true := by kernel_rfl
theorem ans1t_11 : isT (run (@tabR (TA 13) (res1 11)) 1000 noY 4 (args true) .leaf 0) = true := by kernel_rfl
theorem ans1t_12 : isT (run (@tabR (TA 14) (res1 12)) 1000 noY 4 (args true) .leaf 0) = true := by kernel_rfl
theorem ans1t_13 : isT (run (@tabR (TA 15) (res1 13)) 1000 noY 4 (args true) .leaf 0) = true := by kernel_rfl
theorem ans1t_14 : isT (run (@tabR (TA 16) (res1 14)) 1000 noY 4 (args true) .leaf 0) = true := by kernel_rfl
theorem ans1t_15 : isT (run (@tabR (TA 17) (res1 15)) 1000 noY 4 (args true) .leaf 0) = true := by kernel_rfl
theorem ans1t_16 : isT (run (@tabR (TA 18) (res1 16)) 1000 noY 4 (args true) .leaf 0) = true := by kernel_rfl
end Go.Proofs.YtkngccfjaelcgaaGreatDoor.slowDeep
