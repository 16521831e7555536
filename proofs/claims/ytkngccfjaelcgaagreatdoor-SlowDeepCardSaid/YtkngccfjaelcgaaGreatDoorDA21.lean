import Derived.Test.YtkngccfjaelcgaaGreatDoorDAd
/- What the evaluator answers at cases of SlowDeep. Conditions: none of its own. -/
namespace Go.Proofs.YtkngccfjaelcgaaGreatDoor.slowDeep
open Go Ev
theorem ans2f_29 : isT (run (@tabR (TB 29 1 29) (res2 29)) 1000 noY 4 (args false) .leaf 0) = true := by kernel_rfl
theorem ans2f_30 : isT (run (@tabR (TB 30 1 30) (res2 30)) 1000 noY 4 (args false) .leaf 0) = true := by kernel_rfl
theorem ans2f_31 : isT (run (@tabR (TB 31 1 31) (res2 31)) 1000 noY 4 (args false) .leaf 0) = true := by kernel_rfl
theorem ans2f_32 : isT (run (@tabR (TB 32 1 32) (res2 32)) 1000 noY 4 (args false) .leaf 0) = true := by kernel_rfl
theorem ans2f_33 : isT (run (@tabR (TB 33 1 33) (res2 33)) 1000 noY 4 (args false) .leaf 0) = true := by kernel_rfl
theorem ans2f_34 : isT (run (@tabR (TB 34 1 34) (res2 34)) 1000 noY 4 (args false) .leaf 0) = true := by kernel_rfl
theorem ans2f_35 : isT (run (@tabR (TB 35 1 35) (res2 35)) 1000 noY 4 (args false) .leaf 0) = true := by kernel_rfl
end Go.Proofs.YtkngccfjaelcgaaGreatDoor.slowDeep
