import Derived.Test.YtkngccfjaelcgaaGreatDoorDAd
/- What the evaluator answers at cases of SlowDeep. Conditions: none of its own. -/
namespace Go.Proofs.YtkngccfjaelcgaaGreatDoor.slowDeep
open Go Ev
theorem ans2f_15 : isT (run (@tabR (TB 15 1 15) (res2 15)) 1000 noY 4 (args false) .leaf 0) = true := by kernel_rfl
theorem ans2f_16 : isT (run (@tabR (TB 16 1 16) (res2 16)) 1000 noY 4 (args false) .leaf 0) = true := by kernel_rfl
theorem ans2f_17 : isT (run (@tabR (TB 17 1 17) (res2 17)) 1000 noY 4 (args false) .leaf 0) = true := by kernel_rfl
theorem ans2f_18 : isT (run (@tabR (TB 18 1 18) (res2 18)) 1000 noY 4 (args false) .leaf 0) = true := by kernel_rfl
theorem ans2f_19 : isT (run (@tabR (TB 19 1 19) (res2 19)) 1000 noY 4 (args false) .leaf 0) = true := by kernel_rfl
theorem ans2f_20 : isT (run (@tabR (TB 20 1 20) (res2 20)) 1000 noY 4 (args false) .leaf 0) = true := by kernel_rfl
theorem ans2f_21 : isT (run (@tabR (TB 21 1 21) (res2 21)) 1000 noY 4 (args false) .leaf 0) = true := by kernel_rfl
end Go.Proofs.YtkngccfjaelcgaaGreatDoor.slowDeep
