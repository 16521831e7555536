import Derived.Test.YtkngccfjaelcgaaGreatDoorDAd
/- What the evaluator answers at cases of SlowDeep. Conditions: none of its own. -/
namespace Go.Proofs.YtkngccfjaelcgaaGreatDoor.slowDeep
open Go Ev
theorem ans2f_43 : isT (run (@tabR (TB 43 1 43) (res2 43)) 1000 noY 4 (args false) .leaf 0) = true := by kernel_rfl
theorem ans2f_44 : isT (run (@tabR (TB 44 1 44) (res2 44)) 1000 noY 4 (args false) .leaf 0) = true := by kernel_rfl
theorem ans2f_45 : isT (run (@tabR (TB 45 1 45) (res2 45)) 1000 noY 4 (args false) .leaf 0) = true := by kernel_rfl
theorem ans2f_46 : isT (run (@tabR (TB 46 1 46) (res2 46)) 1000 noY 4 (args false) .leaf 0) = true := by kernel_rfl
theorem ans2f_47 : isT (run (@tabR (TB 47 1 47) (res2 47)) 1000 noY 4 (args false) .leaf 0) = true := by kernel_rfl
theorem ans2f_48 : isT (run (@tabR (TB 48 1 48) (res2 48)) 1000 noY 4 (args false) .leaf 0) = true := by kernel_rfl
theorem ans2f_49 : isT (run (@tabR (TB 49 1 49) (res2 49)) 1000 noY 4 (args false) .leaf 0) = true := by kernel_rfl
end Go.Proofs.YtkngccfjaelcgaaGreatDoor.slowDeep
