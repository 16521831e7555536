import Derived.Test.YtkngccfjaelcgaaGreatDoorDAd
/- What the evaluator answers at cases of SlowDeep. Conditions: none of its own. -/
namespace Go.Proofs.YtkngccfjaelcgaaGreatDoor.slowDeep
open Go Ev
theorem ans1f_0 : isT (run (@tabR (TA 1) (res1 0)) 1000 noY 4 (args false) .leaf 0) = true := by kernel_rfl
theorem ans1f_1 : isT (run (@tabR (TA 2) (res1 1)) 1000 noY 4 (args false) .leaf 0) = true := by kernel_rfl
theorem ans1f_2 : isT (run (@tabR (TA 3) (res1 2)) 1000 noY 4 (args false) .leaf 0) = true := by kernel_rfl
theorem ans1f_3 : isT (run (@tabR (TA 4) (res1 3)) 1000 noY 4 (args false) .leaf 0) = true := by kernel_rfl
theorem ans1f_4 : isT (run (@tabR (TA 5) (res1 4)) 1000 noY 4 (args false) .leaf 0) = true := by kernel_rfl
theorem ans1f_5 : isT (run (@tabR (TA 6) (res1 5)) 1000 noY 4 (args false) .leaf 0) = true := by kernel_rfl
theorem ans1f_6 : isT (run (@tabR (TA 7) (res1 6)) 1000 noY 4 (args false) .leaf 0) = true := by kernel_rfl
end Go.Proofs.YtkngccfjaelcgaaGreatDoor.slowDeep
