import Derived.Test.YtkngccfjaelcgaaGreatDoorDAd
/- What the evaluator answers at cases of SlowDeep. Conditions: none of its own. -/
namespace Go.Proofs.YtkngccfjaelcgaaGreatDoor.slowDeep
open Go Ev
theorem ans1t_3 : isT (run (@tabR (TA 5) (res1 3)) 1000 noY 4 (args true) .leaf 0) = true := by kernel_rfl
theorem ans1t_4 : isT (run (@tabR (TA 6) (res1 4)) 1000 noY 4 (args true) .leaf 0) = true := by kernel_rfl
theorem ans1t_5 : isT (run (@tabR (TA 7) (res1 5)) 1000 noY 4 (args true) .leaf 0) = true := by kernel_rfl
theorem ans1t_6 : isT (run (@tabR (TA 8) (res1 6)) 1000 noY 4 (args true) .leaf 0) = true := by kernel_rfl
theorem ans1t_7 : isT (run (@tabR (TA 9) (res1 7)) 1000 noY 4 (args true) .leaf 0) = true := by kernel_rfl
theorem ans1t_8 : isT (run (@tabR (TA 10) (res1 8)) 1000 noY 4 (args true) .leaf 0) = true := by kernel_rfl
theorem ans1t_9 : isT (run (@tabR (TA 11) (res1 9)) 1000 noY 4 (args true) .leaf 0) = true := by kernel_rfl
end Go.Proofs.YtkngccfjaelcgaaGreatDoor.slowDeep
