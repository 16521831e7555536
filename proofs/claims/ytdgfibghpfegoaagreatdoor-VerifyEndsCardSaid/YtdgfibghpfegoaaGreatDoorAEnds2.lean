import Derived.Test.YtdgfibghpfegoaaGreatDoorAEnds0
/- What the evaluator answers at each case of VerifyEnds. Conditions: none of its own. -/
namespace Go.Proofs.YtdgfibghpfegoaaGreatDoor.verifyEnds
open Go Ev
theorem ans_12f : isT (run (tab9 (told 12)) 1000 noY 6 (.cons (.ref 12 0 0 0 0 0) (.cons (.num 8 (.ofNat 0)) .nil)) .leaf 0) = true := by kernel_rfl
theorem ans_12t : isT (run (tab9 (told 12)) 1000 noY 6 (.cons (.ref 12 0 0 0 0 0) (.cons (.num 8 (.ofNat 1)) .nil)) .leaf 0) = true := by kernel_rfl
theorem ans_13f : isT (run (tab9 (told 13)) 1000 noY 6 (.cons (.ref 12 0 0 0 0 0) (.cons (.num 8 (.ofNat 0)) .nil)) .leaf 0) = true := by kernel_rfl
theorem ans_13t : isT (run (tab9 (told 13)) 1000 noY 6 (.cons (.ref 12 0 0 0 0 0) (.cons (.num 8 (.ofNat 1)) .nil)) .leaf 0) = true := by kernel_rfl
theorem ans_14f : isT (run (tab9 (told 14)) 1000 noY 6 (.cons (.ref 12 0 0 0 0 0) (.cons (.num 8 (.ofNat 0)) .nil)) .leaf 0) = true := by kernel_rfl
theorem ans_14t : isT (run (tab9 (told 14)) 1000 noY 6 (.cons (.ref 12 0 0 0 0 0) (.cons (.num 8 (.ofNat 1)) .nil)) .leaf 0) = true := by kernel_rfl
theorem ans_15f : isT (run (tab9 (told 15)) 1000 noY 6 (.cons (.ref 12 0 0 0 0 0) (.cons (.num 8 (.ofNat 0)) .nil)) .leaf 0) = true := by kernel_rfl
theorem ans_15t : isT (run (tab9 (told 15)) 1000 noY 6 (.cons (.ref 12 0 0 0 0 0) (.cons (.num 8 (.ofNat 1)) .nil)) .leaf 0) = true := by kernel_rfl
theorem ans_16f : isT (run (tab9 (told 16)) 1000 noY 6 (.cons (.ref 12 0 0 0 0 0) (.cons (.num 8 (.ofNat 0)) .nil)) .leaf 0) = true := by kernel_rfl
theorem ans_16t : isT (run (tab9 (told 16)) 1000 noY 6 (.cons (.ref 12 0 0 0 0 0) (.cons (.num 8 (.ofNat 1)) .nil)) .leaf 0) = true := by kernel_rfl
theorem ans_17f : isT (run (tab9 (told 17)) 1000 noY 6 (.cons (.ref 12 0 0 0 0 0) (.cons (.num 8 (.ofNat 0)) .nil)) .leaf 0) = true := by kernel_rfl
theorem ans_17t : isT (run (tab9 (told 17)) 1000 noY 6 (.cons (.ref 12 0 0 0 0 0) (.cons (.num 8 (.ofNat 1)) .nil)) .leaf 0) = true := by kernel_rfl
end Go.Proofs.YtdgfibghpfegoaaGreatDoor.verifyEnds
