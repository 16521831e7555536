import Derived.Test.YtkngccfjaelcgaaGreatDoorDAd
/- What the evaluator answers at cases of SlowDeep. Conditions: none of its own. -/
namespace Go.Proofs.YtkngccfjaelcgaaGreatDoor.slowDeep
open Go Ev
theorem ans1f_14 : isT (run (@tabR (TA 15) (res1 14)) 1000 noY 4 (args false) .leaf 0) = true := by kernel_rfl
theorem ans1f_15 : isT (run (@tabR (TA 16) (res1 15)) 1000 noY 4 (args false) .leaf 0) = true := by kernel_rfl
theorem ans1f_16 : isT (run (@tabR (TA 17) (res1 16)) 1000 noY 4 (args false) .leaf 0) = true := by kernel_rfl
theorem ans1f_17 : isT (run (@tabR (TA 18) (res1 17)) 1000 noY 4 (args false) .leaf 0) = true := by kernel_rfl
theorem ans1f_18 : isT (run (@tabR (TA 19) (res1 18)) 1000 noY 4 (args false) .leaf 0) = true := by kernel_rfl
theorem ans1f_19 : isT (run (@tabR (TA 20) (res1 19)) 1000 noY 4 (args false) .leaf 0) = true := by kernel_rfl
theorem ans1f_20 : isT (run (@tabR (TA 21) (res1 20)) 1000 noY 4 (args false) .leaf 0) = true := by kernel_rfl
end Go.Proofs.YtkngccfjaelcgaaGreatDoor.slowDeep
