import Derived.Test.YtkngccfjaelcgaaGreatDoorDAd
/- What the evaluator answers at cases of SlowDeep. Conditions: none of its own. -/
namespace Go.Proofs.YtkngccfjaelcgaaGreatDoor.slowDeep
open Go Ev
theorem ans2t_4 : isT (run (@tabR (TB 4 2 3) (res2 4)) 1000 noY 4 (args true) .leaf 0) = true := by kernel_rfl
theorem ans2t_5 : isT (run (@tabR (TB 5 2 4) (res2 5)) 1000 noY 4 (args true) .leaf 0) = true := by kernel_rfl
theorem ans2t_6 : isT (run (@tabR (TB 6 2 5) (res2 6)) 1000 noY 4 (args true) .leaf 0) = true := by kernel_rfl
theorem ans2t_7 : isT (run (@tabR (TB 7 2 6) (res2 7)) 1000 noY 4 (args true) .leaf 0) = true := by kernel_rfl
theorem ans2t_8 : isT (run (@tabR (TB 8 2 7) (res2 8)) 1000 noY 4 (args true) .leaf 0) = true := by kernel_rfl
theorem ans2t_9 : isT (run (@tabR (TB 9 2 8) (res2 9)) 1000 noY 4 (args true) .leaf 0) = true := by kernel_rfl
theorem ans2t_10 : isT (run (@tabR (TB 10 2 9) (res2 10)) 1000 noY 4 (args true) .leaf 0) = true := by kernel_rfl
end Go.Proofs.YtkngccfjaelcgaaGreatDoor.slowDeep
