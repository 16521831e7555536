import Derived.Test.YtkngccfjaelcgaaGreatDoorDAd
/- What the evaluator answers at cases of SlowDeep. Conditions: none of its own. -/
namespace Go.Proofs.YtkngccfjaelcgaaGreatDoor.slowDeep
open Go Ev
theorem ans1t_31 : isT (run (@tabR (TA 33) (res1 31)) 1000 noY 4 (args true) .leaf 0) = true := by kernel_rfl
theorem ans1t_32 : isT (run (@tabR (TA 34) (res1 32)) 1000 noY 4 (args true) .leaf 0) = true := by kernel_rfl
theorem ans1t_33 : isT (run (@tabR (TA 35) (res1 33)) 1000 noY 4 (args true) .leaf 0) = true := by kernel_rfl
theorem ans1t_34 : isT (run (@tabR (TA 36) (res1 34)) 1000 noY 4 (args true) .leaf 0) = true := by kernel_rfl
theorem ans1t_35 : isT (run (@tabR (TA 37) (res1 35)) 1000 noY 4 (args true) .leaf 0) = true := by kernel_rfl
theorem ans1t_36 : isT (run (@tabR (TA 38) (res1 36)) 1000 noY 4 (args true) .leaf 0) = true := by kernel_rfl
theorem ans1t_37 : isT (run (@tabR (TA 39) (res1 37)) 1000 noY 4 (args true) .leaf 0) = true := by kernel_rfl
end Go.Proofs.YtkngccfjaelcgaaGreatDoor.slowDeep
