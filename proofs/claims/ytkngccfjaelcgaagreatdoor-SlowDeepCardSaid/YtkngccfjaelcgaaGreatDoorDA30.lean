import Derived.Test.YtkngccfjaelcgaaGreatDoorDAd
/- What the evaluator answers at cases of SlowDeep. Conditions: none of its own. -/
namespace Go.Proofs.YtkngccfjaelcgaaGreatDoor.slowDeep
open Go Ev
theorem ans2t_32 : isT (run (@tabR (TB 32 2 31) (res2 32)) 1000 noY 4 (args true) .leaf 0) = true := by kernel_rfl
theorem ans2t_33 : isT (run (@tabR (TB 33 2 32) (res2 33)) 1000 noY 4 (args true) .leaf 0) = true := by kernel_rfl
theorem ans2t_34 : isT (run (@tabR (TB 34 2 33) (res2 34)) 1000 noY 4 (args true) .leaf 0) = true := by kernel_rfl
theorem ans2t_35 : isT (run (@tabR (TB 35 2 34) (res2 35)) 1000 noY 4 (args true) .leaf 0) = true := by kernel_rfl
theorem ans2t_36 : isT (run (@tabR (TB 36 2 35) (res2 36)) 1000 noY 4 (args true) .leaf 0) = true := by kernel_rfl
theorem ans2t_37 : isT (run (@tabR (TB 37 2 36) (res2 37)) 1000 noY 4 (args true) .leaf 0) = true := by kernel_rfl
theorem ans2t_38 : isT (run (@tabR (TB 38 2 37) (res2 38)) 1000 noY 4 (args true) .leaf 0) = true := by kernel_rfl
end Go.Proofs.YtkngccfjaelcgaaGreatDoor.slowDeep
