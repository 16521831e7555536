import Derived.Test.YtkngccfjaelcgaaGreatDoorDAd
/- What the evaluator answers at cases of SlowDeep. Conditions: none of its own. -/
namespace Go.Proofs.YtkngccfjaelcgaaGreatDoor.slowDeep
open Go Ev
theorem ans1f_28 : isT (run (@tabR (TA 29) (res1 28)) 1000 noY 4 (args false) .leaf 0) = true := by kernel_rfl
theorem ans1f_29 : isT (run (@tabR (TA 30) (res1 29)) 1000 noY 4 (args false) .leaf 0) = true := by kernel_rfl
theorem ans1f_30 : isT (run (@tabR (TA 31) (res1 30)) 1000 noY 4 (args false) .leaf 0) = true := by kernel_rfl
theorem ans1f_31 : isT (run (@tabR (TA 32) (res1 31)) 1000 noY 4 (args false) .leaf 0) = true := by kernel_rfl
theorem ans1f_32 : isT (run (@tabR (TA 33) (res1 32)) 1000 noY 4 (args false) .leaf 0) = true := by kernel_rfl
theorem ans1f_33 : isT (run (@tabR (TA 34) (res1 33)) 1000 noY 4 (args false) .leaf 0) = true := by kernel_rfl
theorem ans1f_34 : isT (run (@tabR (TA 35) (res1 34)) 1000 noY 4 (args false) .leaf 0) = true := by kernel_rfl
end Go.Proofs.YtkngccfjaelcgaaGreatDoor.slowDeep
