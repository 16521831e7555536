import Derived.Test.YtkngccfjaelcgaaGreatDoorDAd
/- What the evaluator answers at cases of SlowDeep. Conditions: none of its own. -/
namespace Go.Proofs.YtkngccfjaelcgaaGreatDoor.slowDeep
open Go Ev
theorem ans2t_53 : isT (run (@tabR (TB 53 2 52) (res2 53)) 1000 noY 4 (args true) .leaf 0) = true := by kernel_rfl
theorem ans2t_54 : isT (run (@tabR (TB 54 2 53) (res2 54)) 1000 noY 4 (args true) .leaf 0) = true := by kernel_rfl
theorem ans2t_55 : isT (run (@tabR (TB 55 2 54) (res2 55)) 1000 noY 4 (args true) .leaf 0) = true := by kernel_rfl
theorem ans2t_56 : isT (run (@tabR (TB 56 2 55) (res2 56)) 1000 noY 4 (args true) .leaf 0) = true := by kernel_rfl
theorem ans2t_57 : isT (run (@tabR (TB 57 2 56) (res2 57)) 1000 noY 4 (args true) .leaf 0) = true := by kernel_rfl
theorem ans2t_58 : isT (run (@tabR (TB 58 2 57) (res2 58)) 1000 noY 4 (args true) .leaf 0) = true := by kernel_rfl
theorem ans2t_59 : isT (run (@tabR (TB 59 2 58) (res2 59)) 1000 noY 4 (args true) .leaf 0) = true := by kernel_rfl
end Go.Proofs.YtkngccfjaelcgaaGreatDoor.slowDeep
