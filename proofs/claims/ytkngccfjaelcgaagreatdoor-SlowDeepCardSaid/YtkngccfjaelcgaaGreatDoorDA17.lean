import Derived.Test.YtkngccfjaelcgaaGreatDoorDAd
/- What the evaluator answers at cases of SlowDeep. Conditions: none of its own. -/
namespace Go.Proofs.YtkngccfjaelcgaaGreatDoor.slowDeep
open Go Ev
theorem ans2f_1 : isT (run (@tabR (TB 1 1 1) (res2 1)) 1000 noY 4 (args false) .leaf 0) = true := by kernel_rfl
theorem ans2f_2 : isT (run (@tabR (TB 2 1 2) (res2 2)) 1000 noY 4 (args false) .leaf 0) = true := by kernel_rfl
theorem ans2f_3 : isT (run (@tabR (TB 3 1 3) (res2 3)) 1000 noY 4 (args false) .leaf 0) = true := by kernel_rfl
theorem ans2f_4 : isT (run (@tabR (TB 4 1 4) (res2 4)) 1000 noY 4 (args false) .leaf 0) = true := by kernel_rfl
theorem ans2f_5 : isT (run (@tabR (TB 5 1 5) (res2 5)) 1000 noY 4 (args false) .leaf 0) = true := by kernel_rfl
theorem ans2f_6 : isT (run (@tabR (TB 6 1 6) (res2 6)) 1000 noY 4 (args false) .leaf 0) = true := by kernel_rfl
theorem ans2f_7 : isT (run (@tabR (TB 7 1 7) (res2 7)) 1000 noY 4 (args false) .leaf 0) = true := by kernel_rfl
end Go.Proofs.YtkngccfjaelcgaaGreatDoor.slowDeep
