import Derived.Test.YtkngccfjaelcgaaGreatDoorDAd
/- What the evaluator answers at cases of SlowDeep. Conditions: none of its own. -/
namespace Go.Proofs.YtkngccfjaelcgaaGreatDoor.slowDeep
open Go Ev
theorem ans2f_50 : isT (run (@tabR (TB 50 1 50) (res2 50)) 1000 noY 4 (args false) .leaf 0) = true := by kernel_rfl
theorem ans2f_51 : isT (run (@tabR (TB 51 1 51) (res2 51)) 1000 noY 4 (args false) .leaf 0) = true := by kernel_rfl
theorem ans2f_52 : isT (run (@tabR (TB 52 1 52) (res2 52)) 1000 noY 4 (args false) .leaf 0) = true := by kernel_rfl
theorem ans2f_53 : isT (run (@tabR (TB 53 1 53) (res2 53)) 1000 noY 4 (args false) .leaf 0) = true := by kernel_rfl
theorem ans2f_54 : isT (run (@tabR (TB 54 1 54) (res2 54)) 1000 noY 4 (args false) .leaf 0) = true := by kernel_rfl
theorem ans2f_55 : isT (run (@tabR (TB 55 1 55) (res2 55)) 1000 noY 4 (args false) .leaf 0) = true := by kernel_rfl
theorem ans2f_56 : isT (run (@tabR (TB 56 1 56) (res2 56)) 1000 noY 4 (args false) .leaf 0) = true := by kernel_rfl
end Go.Proofs.YtkngccfjaelcgaaGreatDoor.slowDeep
