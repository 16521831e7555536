import Derived.Test.YtkngccfjaelcgaaGreatDoorDAd
/- What the evaluator answers at cases of SlowDeep. Conditions: none of its own. -/
namespace Go.Proofs.YtkngccfjaelcgaaGreatDoor.slowDeep
open Go Ev
theorem ans2f_8 : isT (run (@tabR (TB 8 1 8) (res2 8)) 1000 noY 4 (args false) .leaf 0) = true := by kernel_rfl
theorem ans2f_9 : isT (run (@tabR (TB 9 1 9) (res2 9)) 1000 noY 4 (args false) .leaf 0) = true := by kernel_rfl
theorem ans2f_10 : isT (run (@tabR (TB 10 1 10) (res2 10)) 1000 noY 4 (args false) .leaf 0) = true := by kernel_rfl
theorem ans2f_11 : isT (run (@tabR (TB 11 1 11) (res2 11)) 1000 noY 4 (args false) .leaf 0) = true := by kernel_rfl
theorem ans2f_12 : isT (run (@tabR (TB 12 1 12) (res2 12)) 1000 noY 4 (args false) .leaf 0) = true := by kernel_rfl
theorem ans2f_13 : isT (run (@tabR (TB 13 1 13) (res2 13)) 1000 noY 4 (args false) .leaf 0) = true := by kernel_rfl
theorem ans2f_14 : isT (run (@tabR (TB 14 1 14) (res2 14)) 1000 noY 4 (args false) .leaf 0) = true := by kernel_rfl
end Go.Proofs.YtkngccfjaelcgaaGreatDoor.slowDeep
