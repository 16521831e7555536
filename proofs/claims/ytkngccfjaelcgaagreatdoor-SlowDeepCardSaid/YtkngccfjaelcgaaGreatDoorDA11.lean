import Derived.Test.YtkngccfjaelcgaaGreatDoorDAd
/- What the evaluator answers at cases of SlowDeep. Conditions: none of its own. -/
namespace Go.Proofs.YtkngccfjaelcgaaGreatDoor.slowDeep
open Go Ev
theorem ans1t_17 : isT (run (@tabR (TA 19) (res1 17)) 1000 noY 4 (args true) .leaf 0) = true := by kernel_rfl
theorem ans1t_18 : isT (run (@tabR (TA 20) (res1 18)) 1000 noY 4 (args true) .leaf 0) = true := by kernel_rfl
theorem ans1t_19 : isT (run (@tabR (TA 21) (res1 19)) 1000 noY 4 (args true) .leaf 0) = true := by kernel_rfl
theorem ans1t_20 : isT (run (@tabR (TA 22) (res1 20)) 1000 noY 4 (args true) .leaf 0) = true := by kernel_rfl
theorem ans1t_21 : isT (run (@tabR (TA 23) (res1 21)) 1000 noY 4 (args true) .leaf 0) = true := by kernel_rfl
theorem ans1t_22 : isT (run (@tabR (TA 24) (res1 22)) 1000 noY 4 (args true) .leaf 0) = true := by kernel_rfl
theorem ans1t_23 : isT (run (@tabR (TA 25) (res1 23)) 1000 noY 4 (args true) .leaf 0) = true := by kernel_rfl
end Go.Proofs.YtkngccfjaelcgaaGreatDoor.slowDeep
