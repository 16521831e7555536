import Derived.Test.YtkngccfjaelcgaaGreatDoorDAd
/- What the evaluator answers at cases of SlowDeep. Conditions: none of its own. -/
namespace Go.Proofs.YtkngccfjaelcgaaGreatDoor.slowDeep
open Go Ev
theorem ans2t_39 : isT (run (@tabR (TB 39 2 38) (res2 39)) 1000 noY 4 (args true) .leaf 0) = true := by kernel_rfl
theorem ans2t_40 : isT (run (@tabR (TB 40 2 39) (res2 40)) 1000 noY 4 (args true) .leaf 0) = true := by kernel_rfl
theorem ans2t_41 : isT (run (@tabR (TB 41 2 40) (res2 41)) 1000 noY 4 (args true) .leaf 0) = true := by kernel_rfl
theorem ans2t_42 : isT (run (@tabR (TB 42 2 41) (res2 42)) 1000 noY 4 (args true) .leaf 0) = true := by kernel_rfl
theorem ans2t_43 : isT (run (@tabR (TB 43 2 42) (res2 43)) 1000 noY 4 (args true) .leaf 0) = true := by kernel_rfl
theorem ans2t_44 : isT (run (@tabR (TB 44 2 43) (res2 44)) 1000 noY 4 (args true) .leaf 0) = true := by kernel_rfl
theorem ans2t_45 : isT (run (@tabR (TB 45 2 44) (res2 45)) 1000 noY 4 (args true) .leaf 0) = true := by kernel_rfl
end Go.Proofs.YtkngccfjaelcgaaGreatDoor.slowDeep
