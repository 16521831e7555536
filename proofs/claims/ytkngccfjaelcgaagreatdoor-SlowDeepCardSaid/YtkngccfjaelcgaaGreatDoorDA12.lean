import Derived.Test.YtkngccfjaelcgaaGreatDoorDAd
/- What the evaluator answers at cases of SlowDeep. Conditions: none of its own. -/
namespace Go.Proofs.YtkngccfjaelcgaaGreatDoor.slowDeep
open Go Ev
theorem ans1t_24 : isT (run (@tabR (TA 26) (res1 24)) 1000 noY 4 (args true) .leaf 0) = true := by kernel_rfl
theorem ans1t_25 : isT (run (@tabR (TA 27) (res1 25)) 1000 noY 4 (args true) .leaf 0) = true := by kernel_rfl
theorem ans1t_26 : isT (run (@tabR (TA 28) (res1 26)) 1000 noY 4 (args true) .leaf 0) = true := by kernel_rfl
theorem ans1t_27 : isT (run (@tabR (TA 29) (res1 27)) 1000 noY 4 (args true) .leaf 0) = true := by kernel_rfl
theorem ans1t_28 : isT (run (@tabR (TA 30) (res1 28)) 1000 noY 4 (args true) .leaf 0) = true := by kernel_rfl
theorem ans1t_29 : isT (run (@tabR (TA 31) (res1 29)) 1000 noY 4 (args true) .leaf 0) = true := by kernel_rfl
theorem ans1t_30 : isT (run (@tabR (TA 32) (res1 30)) 1000 noY 4 (args true) .leaf 0) = true := by kernel_rfl
end Go.Proofs.YtkngccfjaelcgaaGreatDoor.slowDeep
