import Derived.Test.YtkngccfjaelcgaaGreatDoorDAd
/- What the evaluator answers at cases of SlowDeep. Conditions: none of its own. -/
namespace Go.Proofs.YtkngccfjaelcgaaGreatDoor.slowDeep
open Go Ev
theorem ans2t_25 : isT (run (@tabR (TB 25 2 24) (res2 25)) 1000 noY 4 (args true) .leaf 0) = true := by kernel_rfl
theorem ans2t_26 : isT (run (@tabR (TB 26 2 25) (res2 26)) 1000 noY 4 (args true) .leaf 0) = true := by kernel_rfl
theorem ans2t_27 : isT (run (@tabR (TB 27 2 26) (res2 27)) 1000 noY 4 (args true) .leaf 0) = true := by kernel_rfl
theorem ans2t_28 : isT (run (@tabR (TB 28 2 27) (res2 28)) 1000 noY 4 (args true) .leaf 0) = true := by kernel_rfl
theorem ans2t_29 : isT (run (@tabR (TB 29 2 28) (res2 29)) 1000 noY 4 (args true) .leaf 0) = true := by kernel_rfl
theorem ans2t_30 : isT (run (@tabR (TB 30 2 29) (res2 30)) 1000 noY 4 (args true) .leaf 0) = true := by kernel_rfl
theorem ans2t_31 : isT (run (@tabR (TB 31 2 30) (res2 31)) 1000 noY 4 (args true) .leaf 0) = true := by kernel_rfl
end Go.Proofs.YtkngccfjaelcgaaGreatDoor.slowDeep
