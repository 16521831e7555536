import Derived.Test.YtkngccfjaelcgaaGreatDoorDAd
/- What the evaluator answers at cases of SlowDeep. Conditions: none of its own. -/
namespace Go.Proofs.YtkngccfjaelcgaaGreatDoor.slowDeep
open Go Ev
theorem ans1f_21 : isT (run (@tabR (TA 22) (res1 21)) 1000 noY 4 (args false) .leaf 0) = true := by kernel_rfl
theorem ans1f_22 : isT (run (@tabR (TA 23) (res1 22)) 1000 noY 4 (args false) .leaf 0) = true := by kernel_rfl
theorem ans1f_23 : isT (run (@tabR (TA 24) (res1 23)) 1000 noY 4 (args false) .leaf 0) = true := by kernel_rfl
theorem ans1f_24 : isT (run (@tabR (TA 25) (res1 24)) 1000 noY 4 (args false) .leaf 0) = true := by kernel_rfl
theorem ans1f_25 : isT (run (@tabR (TA 26) (res1 25)) 1000 noY 4 (args false) .leaf 0) = true := by kernel_rfl
theorem ans1f_26 : isT (run (@tabR (TA 27) (res1 26)) 1000 noY 4 (args false) .leaf 0) = true := by kernel_rfl
theorem ans1f_27 : isT (run (@tabR (TA 28) (res1 27)) 1000 noY 4 (args false) .leaf 0) = true := by kernel_rfl
end Go.Proofs.YtkngccfjaelcgaaGreatDoor.slowDeep
