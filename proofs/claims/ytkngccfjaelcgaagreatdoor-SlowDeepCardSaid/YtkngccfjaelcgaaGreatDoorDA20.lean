import Derived.Test.YtkngccfjaelcgaaGreatDoorDAd
/- What the evaluator answers at cases of SlowDeep. Conditions: none of its own. -/
namespace Go.Proofs.YtkngccfjaelcgaaGreatDoor.slowDeep
open Go Ev
theorem ans2f_22 : isT (run (@tabR (TB 22 1 22) (res2 22)) 1000 noY 4 (args false) .leaf 0) = true := by kernel_rfl
theorem ans2f_23 : isT (run (@tabR (TB 23 1 23) (res2 23)) 1000 noY 4 (args false) .leaf 0) = true := by kernel_rfl
theorem ans2f_24 : isT (run (@tabR (TB 24 1 24) (res2 24)) 1000 noY 4 (args false) .leaf 0) = true := by kernel_rfl
theorem ans2f_25 : isT (run (@tabR (TB 25 1 25) (res2 25)) 1000 noY 4 (args false) .leaf 0) = true := by kernel_rfl
theorem ans2f_26 : isT (run (@tabR (TB 26 1 26) (res2 26)) 1000 noY 4 (args false) .leaf 0) = true := by kernel_rfl
theorem ans2f_27 : isT (run (@tabR (TB 27 1 27) (res2 27)) 1000 noY 4 (args false) .leaf 0) = true := by kernel_rfl
theorem ans2f_28 : isT (run (@tabR (TB 28 1 28) (res2 28)) 1000 noY 4 (args false) .leaf 0) = true := by kernel_rfl
end Go.Proofs.YtkngccfjaelcgaaGreatDoor.slowDeep
