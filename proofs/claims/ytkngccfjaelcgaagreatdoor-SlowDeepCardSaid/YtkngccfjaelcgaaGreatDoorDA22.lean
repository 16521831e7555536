import Derived.Test.YtkngccfjaelcgaaGreatDoorDAd
/- What the evaluator answers at cases of SlowDeep. Conditions: none of its own. -/
namespace Go.Proofs.YtkngccfjaelcgaaGreatDoor.slowDeep
open Go Ev
theorem ans2f_36 : isT (run (@tabR (TB 36 1 36) (res2 36)) 1000 noY 4 (args false) .leaf 0) = true := by kernel_rfl
theorem ans2f_37 : isT (run (@tabR (TB 37 1 37) (res2 37)) 1000 noY 4 (args false) .leaf 0) = true := by kernel_rfl
theorem ans2f_38 : isT (run (@tabR (TB 38 1 38) (res2 38)) 1000 noY 4 (args false) .leaf 0) = true := by kernel_rfl
theorem ans2f_39 : isT (run (@tabR (TB 39 1 39) (res2 39)) 1000 noY 4 (args false) .leaf 0) = true := by kernel_rfl
theorem ans2f_40 : isT (run (@tabR (TB 40 1 40) (res2 40)) 1000 noY 4 (args false) .leaf 0) = true := by kernel_rfl
theorem ans2f_41 : isT (run (@tabR (TB 41 1 41) (res2 41)) 1000 noY 4 (args false) .leaf 0) = true := by kernel_rfl
theorem ans2f_42 : isT (run (@tabR (TB 42 1 42) (res2 42)) 1000 noY 4 (args false) .leaf 0) = true := by kernel_rfl
end Go.Proofs.YtkngccfjaelcgaaGreatDoor.slowDeep
