import Derived.Test.YtkngccfjaelcgaaGreatDoorDAd
/- What the evaluator answers at cases of SlowDeep. Conditions: none of its own. -/
namespace Go.Proofs.YtkngccfjaelcgaaGreatDoor.slowDeep
open Go Ev
theorem ans1f_56 : isT (run (@tabR (TA 57) (res1 56)) 1000 noY 4 (args false) .leaf 0) = true := by kernel_rfl
theorem ans1f_57 : isT (run (@tabR (TA 58) (res1 57)) 1000 noY 4 (args false) .leaf 0) = true := by kernel_rfl
theorem ans1f_58 : isT (run (@tabR (TA 59) (res1 58)) 1000 noY 4 (args false) .leaf 0) = true := by kernel_rfl
theorem ans1f_59 : isT (run (@tabR (TA 60) (res1 59)) 1000 noY 4 (args false) .leaf 0) = true := by kernel_rfl
theorem ans1t_0 : isT (run (@tabR (TA 2) (res1 0)) 1000 noY 4 (args true) .leaf 0) = true := by kernel_rfl
theorem ans1t_1 : isT (run (@tabR (TA 3) (res1 1)) 1000 noY 4 (args true) .leaf 0) = true := by kernel_rfl
theorem ans1t_2 : isT (run (@tabR (TA 4) (res1 2)) 1000 noY 4 (args true) .leaf 0) = true := by kernel_rfl
end Go.Proofs.YtkngccfjaelcgaaGreatDoor.slowDeep
