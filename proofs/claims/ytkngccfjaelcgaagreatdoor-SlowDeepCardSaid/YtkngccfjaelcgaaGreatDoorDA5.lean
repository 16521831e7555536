import Derived.Test.YtkngccfjaelcgaaGreatDoorDAd
/- What the evaluator answers at cases of SlowDeep. Conditions: none of its own. -/
namespace Go.Proofs.YtkngccfjaelcgaaGreatDoor.slowDeep
open Go Ev
theorem ans1f_35 : isT (run (@tabR (TA 36) (res1 35)) 1000 noY 4 (args false) .leaf 0) = true := by kernel_rfl
theorem ans1f_36 : isT (run (@tabR (TA 37) (res1 36)) 1000 noY 4 (args false) .leaf 0) = true := by kernel_rfl
theorem ans1f_37 : isT (run (@tabR (TA 38) (res1 37)) 1000 noY 4 (args false) .leaf 0) = true := by kernel_rfl
theorem ans1f_38 : isT (run (@tabR (TA 39) (res1 38)) 1000 noY 4 (args false) .leaf 0) = true := by kernel_rfl
theorem ans1f_39 : isT (run (@tabR (TA 40) (res1 39)) 1000 noY 4 (args false) .leaf 0) = true := by kernel_rfl
theorem ans1f_40 : isT (run (@tabR (TA 41) (res1 40)) 1000 noY 4 (args false) .leaf 0) = true := by kernel_rfl
theorem ans1f_41 : isT (run (@tabR (TA 42) (res1 41)) 1000 noY 4 (args false) .leaf 0) = true := by kernel_rfl
end Go.Proofs.YtkngccfjaelcgaaGreatDoor.slowDeep
