import Derived.Test.YtkngccfjaelcgaaGreatDoorDAd
/- What the evaluator answers at cases of SlowDeep. Conditions: none of its own. -/
namespace Go.Proofs.YtkngccfjaelcgaaGreatDoor.slowDeep
open Go Ev
theorem ans2f_57 : isT (run (@tabR (TB 57 1 57) (res2 57)) 1000 noY 4 (args false) .leaf 0) = true := by kernel_rfl
theorem ans2f_58 : isT (run (@tabR (TB 58 1 58) (res2 58)) 1000 noY 4 (args false) .leaf 0) = true := by kernel_rfl
theorem ans2f_59 : isT (run (@tabR (TB 59 1 59) (res2 59)) 1000 noY 4 (args false) .leaf 0) = true := by kernel_rfl
theorem ans2f_60 : isT (run (@tabR (TB 60 1 60) (res2 60)) 1000 noY 4 (args false) .leaf 0) = true := by kernel_rfl
theorem ans2t_1 : isT (run (@tabR (TB 1 2 0) (res2 1)) 1000 noY 4 (args true) .leaf 0) = true := by kernel_rfl
theorem ans2t_2 : isT (run (@tabR (TB 2 2 1) (res2 2)) 1000 noY 4 (args true) .leaf 0) = true := by kernel_rfl
theorem ans2t_3 : isT (run (@tabR (TB 3 2 2) (res2 3)) 1000 noY 4 (args true) .leaf 0) = true := by kernel_rfl
end Go.Proofs.YtkngccfjaelcgaaGreatDoor.slowDeep
