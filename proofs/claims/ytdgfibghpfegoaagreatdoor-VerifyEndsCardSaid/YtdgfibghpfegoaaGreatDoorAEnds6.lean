import Derived.Test.YtdgfibghpfegoaaGreatDoorAEnds0
/- What the evaluator answers at each case of VerifyEnds. Conditions: none of its own. -/
namespace Go.Proofs.YtdgfibghpfegoaaGreatDoor.verifyEnds
open Go Ev
theorem ans_36f : isT (run (tab9 (told 36)) 1000 noY 6 (.cons (.ref 12 0 0 0 0 0) (.cons (.num 8 (.ofNat 0)) .nil)) .leaf 0) = true := by kernel_rfl
theorem ans_36t : isT (run (tab9 (told 36)) 1000 noY 6 (.cons (.ref 12 0 0 0 0 0) (.cons (.num 8 (.ofNat 1)) .nil)) .leaf 0) = true := by kernel_rfl
theorem ans_37f : isT (run (tab9 (told 37)) 1000 noY 6 (.cons (.ref 12 0 0 0 0 0) (.cons (.num 8 (.ofNat 0)) .nil)) .leaf 0) = true := by kernel_rfl
theorem ans_37t : isT (run (tab9 (told 37)) 1000 noY 6 (.cons (.ref 12 0 0 0 0 0) (.cons (.num 8 (.ofNat 1)) .nil)) .leaf 0) = true := by kernel_rfl
theorem ans_38f : isT (run (tab9 (told 38)) 1000 noY 6 (.cons (.ref 12 0 0 0 0 0) (.cons (.num 8 (.ofNat 0)) .nil)) .leaf 0) = true := by kernel_rfl
theorem ans_38t : isT (run (tab9 (told 38)) 1000 noY 6 (.cons (.ref 12 0 0 0 0 0) (.cons (.num 8 (.ofNat 1)) .nil)) .leaf 0) = true := by kernel_rfl
theorem ans_39f : isT (run (tab9 (told 39)) 1000 noY 6 (.cons (.ref 12 0 0 0 0 0) (.cons (.num 8 (.ofNat 0)) .nil)) .leaf 0) = true := by kernel_rfl
theorem ans_39t : isT (run (tab9 (told 39)) 1000 noY 6 (.cons (.ref 12 0 0 0 0 0) (.cons (.num 8 (.ofNat 1)) .nil)) .leaf 0) = true := by kernel_rfl
theorem ans_40f : isT (run (tab9 (told 40)) 1000 noY 6 (.cons (.ref 12 0 0 0 0 0) (.cons (.num 8 (.ofNat 0)) .nil)) .leaf 0) = true := by kernel_rfl
theorem ans_40t : isT (run (tab9 (told 40)) 1000 noY 6 (.cons (.ref 12 0 0 0 0 0) (.cons (.num 8 (.ofNat 1)) .nil)) .leaf 0) = true := by kernel_rfl
theorem ans_41f : isT (run (tab9 (told 41)) 1000 noY 6 (.cons (.ref 12 0 0 0 0 0) (.cons (.num 8 (.ofNat 0)) .nil)) .leaf 0) = true := by kernel_rfl
theorem ans_41t : isT (run (tab9 (told 41)) 1000 noY 6 (.cons (.ref 12 0 0 0 0 0) (.cons (.num 8 (.ofNat 1)) .nil)) .leaf 0) = true := by kernel_rfl
end Go.Proofs.YtdgfibghpfegoaaGreatDoor.verifyEnds
