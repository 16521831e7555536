import Derived.Test.YtkngccfjaelcgaaGreatDoorDAd
/- What the evaluator answers at cases of SlowDeep. Conditions: none of its own. -/
namespace Go.Proofs.YtkngccfjaelcgaaGreatDoor.slowDeep
open Go Ev
theorem ans2t_18 : isT (run (@tabR (TB 18 2 17) (res2 18)) 1000 noY 4 (args true) .leaf 0) = true := by kernel_rfl
theorem ans2t_19 : isT (run (@tabR (TB 19 2 18) (res2 19)) 1000 noY 4 (args true) .leaf 0) = true := by kernel_rfl
theorem ans2t_20 : isT (run (@tabR (TB 20 2 19) (res2 20)) 1000 noY 4 (args true) .leaf 0) = true := by kernel_rfl
theorem ans2t_21 : isT (run (@tabR (TB 21 2 20) (res2 21)) 1000 noY 4 (args true) .leaf 0) = true := by kernel_rfl
theorem ans2t_22 : isT (run (@tabR (TB 22 2 21) (res2 22)) 1000 noY 4 (args true) .leaf 0) = true := by kernel_rfl
theorem ans2t_23 : isT (run (@tabR (TB 23 2 22) (res2 23)) 1000 noY 4 (args true) .leaf 0) = true := by kernel_rfl
theorem ans2t_24 : isT (run (@tabR (TB 24 2 23) (res2 24)) 1000 noY 4 (args true) .leaf 0) = true := by kernel_rfl
end Go.Proofs.YtkngccfjaelcgaaGreatDoor.slowDeep
