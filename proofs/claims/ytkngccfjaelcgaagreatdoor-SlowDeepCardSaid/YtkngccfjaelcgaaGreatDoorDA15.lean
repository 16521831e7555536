import Derived.Test.YtkngccfjaelcgaaGreatDoorDAd
/- What the evaluator answers at cases of SlowDeep. Conditions: none of its own. -/
namespace Go.Proofs.YtkngccfjaelcgaaGreatDoor.slowDeep
open Go Ev
theorem ans1t_45 : isT (run (@tabR (TA 47) (res1 45)) 1000 noY 4 (args true) .leaf 0) = true := by kernel_rfl
theorem ans1t_46 : isT (run (@tabR (TA 48) (res1 46)) 1000 noY 4 (args true) .leaf 0) = true := by kernel_rfl
theorem ans1t_47 : isT (run (@tabR (TA 49) (res1 47)) 1000 noY 4 (args true) .leaf 0) = true := by kernel_rfl
theorem ans1t_48 : isT (run (@tabR (TA 50) (res1 48)) 1000 noY 4 (args true) .leaf 0) = true := by kernel_rfl
theorem ans1t_49 : isT (run (@tabR (TA 51) (res1 49)) 1000 noY 4 (args true) .leaf 0) = true := by kernel_rfl
theorem ans1t_50 : isT (run (@tabR (TA 52) (res1 50)) 1000 noY 4 (args true) .leaf 0) = true := by kernel_rfl
theorem ans1t_51 : isT (run (@tabR (TA 53) (res1 51)) 1000 noY 4 (args true) .leaf 0) = true := by kernel_rfl
end Go.Proofs.YtkngccfjaelcgaaGreatDoor.slowDeep
