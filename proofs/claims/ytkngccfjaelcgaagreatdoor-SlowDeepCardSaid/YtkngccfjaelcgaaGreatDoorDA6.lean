import Derived.Test.YtkngccfjaelcgaaGreatDoorDAd
/- What the evaluator answers at cases of SlowDeep. Conditions: none of its own. -/
namespace Go.Proofs.YtkngccfjaelcgaaGreatDoor.slowDeep
open Go Ev
theorem ans1f_42 : isT (run (@tabR (TA 43) (res1 42)) 1000 noY 4 (args false) .leaf 0) = true := by kernel_rfl
theorem ans1f_43 : isT (run (@tabR (TA 44) (res1 43)) 1000 noY 4 (args false) .leaf 0) = true := by kernel_rfl
theorem ans1f_44 : isT (run (@tabR (TA 45) (res1 44)) 1000 noY 4 (args false) .leaf 0) = true := by kernel_rfl
theorem ans1f_45 : isT (run (@tabR (TA 46) (res1 45)) 1000 noY 4 (args false) .leaf 0) = true := by kernel_rfl
theorem ans1f_46 : isT (run (@tabR (TA 47) (res1 46)) 1000 noY 4 (args false) .leaf 0) = true := by kernel_rfl
theorem ans1f_47 : isT (run (@tabR (TA 48) (res1 47)) 1000 noY 4 (args false) .leaf 0) = true := by kernel_rfl
theorem ans1f_48 : isT (run (@tabR (TA 49) (res1 48)) 1000 noY 4 (args false) .leaf 0) = true := by kernel_rfl
end Go.Proofs.YtkngccfjaelcgaaGreatDoor.slowDeep
