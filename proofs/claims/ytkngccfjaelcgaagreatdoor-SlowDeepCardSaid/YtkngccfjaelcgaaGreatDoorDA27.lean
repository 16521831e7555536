import Derived.Test.YtkngccfjaelcgaaGreatDoorDAd
/- What the evaluator answers at cases of SlowDeep. Conditions: none of its own. -/
namespace Go.Proofs.YtkngccfjaelcgaaGreatDoor.slowDeep
open Go Ev
theorem ans2t_11 : isT (run (@tabR (TB 11 2 10) (res2 11)) 1000 noY 4 (args true) .leaf 0) = true := by kernel_rfl
theorem ans2t_12 : isT (run (@tabR (TB 12 2 11) (res2 12)) 1000 noY 4 (args true) .leaf 0) = true := by kernel_rfl
theorem ans2t_13 : isT (run (@tabR (TB 13 2 12) (res2 13)) 1000 noY 4 (args true) .leaf 0) = true := by kernel_rfl
theorem ans2t_14 : isT (run (@tabR (TB 14 2 13) (res2 14)) 1000 noY 4 (args true) .leaf 0) = true := by kernel_rfl
theorem ans2t_15 : isT (run (@tabR (TB 15 2 14) (res2 15)) 1000 noY 4 (args true) .leaf 0) = true := by kernel_rfl
theorem ans2t_16 : isT (run (@tabR (TB 16 2 15) (res2 16)) 1000 noY 4 (args true) .leaf 0) = true := by kernel_rfl
theorem ans2t_17 : isT (run (@tabR (TB 17 2 16) (res2 17)) 1000 noY 4 (args true) .leaf 0) = true := by kernel_rfl
end Go.Proofs.YtkngccfjaelcgaaGreatDoor.slowDeep
