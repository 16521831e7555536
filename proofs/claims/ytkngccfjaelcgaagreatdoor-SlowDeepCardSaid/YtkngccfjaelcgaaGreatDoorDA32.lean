import Derived.Test.YtkngccfjaelcgaaGreatDoorDAd
/- What the evaluator answers at cases of SlowDeep. Conditions: none of its own. -/
namespace Go.Proofs.YtkngccfjaelcgaaGreatDoor.slowDeep
open Go Ev
theorem ans2t_46 : isT (run (@tabR (TB 46 2 45) (res2 46)) 1000 noY 4 (args true) .leaf 0) = true := by kernel_rfl
theorem ans2t_47 : isT (run (@tabR (TB 47 2 46) (res2 47)) 1000 noY 4 (args true) .leaf 0) = true := by kernel_rfl
theorem ans2t_48 : isT (run (@tabR (TB 48 2 47) (res2 48)) 1000 noY 4 (args true) .leaf 0) = true := by kernel_rfl
theorem ans2t_49 : isT (run (@tabR (TB 49 2 48) (res2 49)) 1000 noY 4 (args true) .leaf 0) = true := by kernel_rfl
theorem ans2t_50 : isT (run (@tabR (TB 50 2 49) (res2 50)) 1000 noY 4 (args true) .leaf 0) = true := by kernel_rfl
theorem ans2t_51 : isT (run (@tabR (TB 51 2 50) (res2 51)) 1000 noY 4 (args true) .leaf 0) = true := by kernel_rfl
theorem ans2t_52 : isT (run (@tabR (TB 52 2 51) (res2 52)) 1000 noY 4 (args true) .leaf 0) = true := by kernel_rfl
end Go.Proofs.YtkngccfjaelcgaaGreatDoor.slowDeep
